/- The document's disk: Crash. -/
import Derived.Test.YthgcdoahoechhaaRdD
import Derived.Test.YthgcdoahoechhaaML
set_option linter.unusedVariables false
set_option linter.unusedSimpArgs false
namespace Go.Proofs.Ythgcdoahoechhaa
namespace Am
open Go.RowKit
set_option maxRecDepth 100000
def b_refCrash : BF := ⟨82, [0, 1, 4, 5, 6, 13, 36], (.seq (.seq (.reg [.mk none (.slot 2) (.mov (.mv (.const (.int .i64 0))))]) (.block 0 (.loop (.seq (.seq (.reg [.mk none (.env 7) (.mov (.mv (.slot 2))), .mk none (.env 8) (.mov (.mv (.slot 0))), .mk none (.env 9) (.mov (.nilc (.env 8))), .mk none (.env 10) (.mov (.faddr 0 (.env 9))), .mk none (.env 11) (.mov (.ld1 (.env 10))), .mk none (.env 12) (.mov (.lenv (.env 11))), .mk none (.slot 5) (.mov (.bin .lss .no (.env 7) (.env 12)))]) (.cond (.slot 5) .skip (.exit 0))) (.seq (.block 1 (.seq (.dreg [(.mk none (.env 16) (.mov (.mv (.slot 0))), []), (.mk none (.env 17) (.mov (.nilc (.env 16))), []), (.mk none (.env 18) (.mov (.faddr 0 (.env 17))), []), (.mk none (.env 19) (.mov (.ld1 (.env 18))), []), (.mk none (.env 20) (.mov (.mv (.slot 2))), []), (.mk none (.env 21) (.mov (.iaddr 3 (.env 19) (.env 20))), []), (.mk none (.env 22) (.mov (.faddr 1 (.env 21))), []), (.mk none (.env 23) (.mov (.ld1 (.env 22))), []), (.mk none (.env 24) (.mov (.lenv (.env 23))), []), (.mk none (.env 25) (.mov (.mv (.slot 0))), []), (.mk none (.env 26) (.mov (.nilc (.env 25))), []), (.mk none (.env 27) (.mov (.faddr 0 (.env 26))), []), (.mk none (.env 28) (.mov (.ld1 (.env 27))), []), (.mk none (.env 29) (.mov (.mv (.slot 2))), []), (.mk none (.env 30) (.mov (.iaddr 3 (.env 28) (.env 29))), []), (.mk none (.env 31) (.mov (.faddr 2 (.env 30))), []), (.mk none (.env 32) (.mov (.ld1 (.env 31))), []), (.mk none (.env 33) (.mov (.bin .sub .no (.env 24) (.env 32))), []), (.mk none (.slot 3) (.mov (.mv (.env 33))), [])]) (.seq (.seq (.reg [.mk none (.env 34) (.mov (.mv (.slot 1))), .mk none (.env 35) (.mov (.mv (.slot 3))), .mk none (.slot 6) (.mov (.bin .lss .no (.env 34) (.env 35)))]) (.cond (.slot 6) (.reg [.mk none (.env 37) (.mov (.mv (.slot 1))), .mk none (.env 38) (.mov (.maxv (.env 37) (.const (.int .i64 0)))), .mk none (.slot 3) (.mov (.mv (.env 38)))]) .skip)) (.seq (.reg [.mk none (.env 39) (.mov (.mv (.slot 0))), .mk none (.env 40) (.mov (.nilc (.env 39))), .mk none (.env 41) (.mov (.faddr 0 (.env 40))), .mk none (.env 42) (.mov (.ld1 (.env 41))), .mk none (.env 43) (.mov (.mv (.slot 2))), .mk none (.env 44) (.mov (.iaddr 3 (.env 42) (.env 43))), .mk none (.env 45) (.mov (.faddr 2 (.env 44))), .mk none (.env 46) (.mov (.ld1 (.env 45))), .mk none (.env 47) (.mov (.mv (.slot 3))), .mk none (.env 48) (.mov (.bin .add .no (.env 46) (.env 47))), .mk none (.slot 4) (.mov (.mv (.env 48)))]) (.seq (.dreg [(.mk none (.env 49) (.mov (.mv (.slot 0))), []), (.mk none (.env 50) (.mov (.nilc (.env 49))), []), (.mk none (.env 51) (.mov (.faddr 0 (.env 50))), []), (.mk none (.env 52) (.mov (.ld1 (.env 51))), []), (.mk none (.env 53) (.mov (.mv (.slot 2))), []), (.mk none (.env 55) (.mov (.mv (.slot 0))), []), (.mk none (.env 56) (.mov (.nilc (.env 55))), []), (.mk none (.env 57) (.mov (.faddr 0 (.env 56))), []), (.mk none (.env 58) (.mov (.ld1 (.env 57))), []), (.mk none (.env 59) (.mov (.mv (.slot 2))), []), (.mk none (.env 60) (.mov (.iaddr 3 (.env 58) (.env 59))), []), (.mk none (.env 61) (.mov (.faddr 1 (.env 60))), []), (.mk none (.env 62) (.mov (.ld1 (.env 61))), []), (.mk none (.env 63) (.mov (.mv (.slot 4))), []), (.mk none (.env 64) (.mov (.sl 1 (.env 62) none (some (.env 63)) none)), []), (.mk none (.env 54) (.eff (.bslice 1 0 [(.int .u8 0)] [])), [0, 1, 2, 3, 4, 5, 6, 7, 8, 9, 10, 11, 12, 13, 14]), (.mk none (.env 65) (.eff (.append 1 1 (.env 54) (.env 64))), [0, 1, 2, 3, 4]), (.mk none (.env 66) (.mov (.iaddr 3 (.env 52) (.env 53))), []), (.mk none (.env 67) (.mov (.faddr 1 (.env 66))), []), (.mk none .none (.eff (.store 1 (.env 67) (.env 65))), [])]) (.reg [.mk none (.env 68) (.mov (.mv (.slot 0))), .mk none (.env 69) (.mov (.nilc (.env 68))), .mk none (.env 70) (.mov (.faddr 0 (.env 69))), .mk none (.env 71) (.mov (.ld1 (.env 70))), .mk none (.env 72) (.mov (.mv (.slot 2))), .mk none (.env 73) (.mov (.mv (.slot 4))), .mk none (.env 74) (.mov (.iaddr 3 (.env 71) (.env 72))), .mk none (.env 75) (.mov (.faddr 2 (.env 74))), .mk none .none (.eff (.store 1 (.env 75) (.env 73)))])))))) (.reg [.mk none (.env 14) (.mov (.mv (.slot 2))), .mk none (.env 15) (.mov (.bin .add .no (.env 14) (.const (.int .i64 1)))), .mk none (.slot 2) (.mov (.mv (.env 15)))])))))) (.reg [.mk none (.env 76) (.mov (.mv (.slot 0))), .mk none (.env 77) (.mov (.mv (.slot 0))), .mk none (.env 78) (.mov (.nilc (.env 76))), .mk none (.env 79) (.mov (.faddr 3 (.env 78))), .mk none .none (.eff (.store 1 (.env 79) (.const (.bool false)))), .mk none (.env 80) (.mov (.nilc (.env 77))), .mk none (.env 81) (.mov (.faddr 2 (.env 80))), .mk none .none (.eff (.store 1 (.env 81) (.const (.int .i64 0))))])), []⟩
theorem v_subi {X : Type} {e : En} {t : List AV} {h : Hp X} {q : Eq} {x y : Od} {a b : Int} (hx : x.ev e t = .int .i64 a) (hy : y.ev e t = .int .i64 b) (hc : -9223372036854775808 ≤ a - b ∧ a - b < 9223372036854775808) : (Mv.bin .sub q x y).ev e t h = some (.int .i64 (a - b)) := by simp [Mv.ev, hx, hy, Am.bin, AV.onInt, intOp, isShift, wr64 hc]
def crF (keep : Int) (f : MF) : MF := { f with b := f.b.take (MD.kept keep f), synced := MD.kept keep f }
theorem mid_set {α : Type} (C : α → α) {l : List α} {i : Nat} (hi : i < l.length) : ((l.take i).map C ++ l.drop i).set i (C l[i]) = (l.take (i + 1)).map C ++ l.drop (i + 1) := by
  rw [List.set_append_right _ _ (by rw [List.length_map, List.length_take]; omega), List.length_map, List.length_take, Nat.min_eq_left (by omega), Nat.sub_self, List.drop_eq_getElem_cons hi, List.set_cons_zero, List.take_add_one, List.getElem?_eq_getElem hi, List.map_append]
  simp
section
variable {E : Nat → Option (Ent MD)}
set_option maxHeartbeats 4000000 in
theorem rcrash_ok (hE : ∀ f e, E f = some e → e.plain) (hf : E 64 = some (.bc b_refCrash)) {h : Hp MD} {r : Nat} {m : MD} (a : RD h r m) (hn : m.fs.length ≤ 999) {keep : Int} (hk1 : -9223372036854775808 ≤ keep) (hk2 : keep ≤ 9223372036854775807) :
    WF (lim E) 64 [.ptr r 0, .int .i64 keep] h fun x h' => RD h' r (m.crash keep) ∧ Keep (FromB r) h h' := by
  obtain ⟨v, qs, hb, hl, hp⟩ := a.out
  have hlen := q_len hp
  have hro := a.ok.room
  have hl1 := a.ok.lim1
  have hmx : (maxLen : Nat) = 9223372036854775807 := rfl
  have hrn := hb.lt
  have qsy : ∀ q ∈ qs, q.sy ≤ q.b.length ∧ q.b.length ≤ 16777216 := fun q hq => by
    have h1 := hp.mem_iff.1 (List.mem_map_of_mem hq)
    have h2 := a.ok.synced _ h1
    have h3 := len_used (a.ok.rising.get_of_mem h1)
    exact ⟨h2, by have : q.b.length ≤ m.used := h3; omega⟩
  refine wf_bc hE hf rfl ?_
  simp only [b_refCrash, List.map, getS]
  have okC := a.ok.crash keep
  repeat first|(refine BG ?_;first|(refine BH ?_;first|(refine BI ?_;refine BM ?_)|(refine BJ ?_;first|refine BN ?_|refine BO ?_)|refine BP ?_)|(refine BK ?_;first|refine BS rfl rfl ?_|refine BT rfl rfl ?_|refine BU rfl ?_)|(refine BL ?_;first|refine BQ ?_)|(refine BR ?_;try simp only [setS]))|refine AA ?_|refine AC ?_|refine AD ?_|refine AE ?_|refine AF rfl rfl ?_|refine AG rfl rfl ?_|refine AH ?_|refine AI ?_|refine AJ ?_|refine AK ?_|refine AL ?_|refine AM ?_|refine AN ?_|refine AO ?_|refine AP ?_|refine AQ rfl ?_|refine AR ?_|refine AS ?_|refine AT rfl ?_|refine AU rfl ?_
  refine wb_loop (fun n t hh => ∃ (i : Nat) (ws : List QF) (s3 s4 s5 s6 : AV), i ≤ qs.length ∧ n = qs.length - i ∧ ws.length = qs.length ∧ ws.map QF.mf = ((qs.map QF.mf).take i).map (crF keep) ++ (qs.map QF.mf).drop i ∧ (∀ j : Nat, i ≤ j → ws[j]? = qs[j]?) ∧ Keep (FromB r) h hh ∧ Bx hh r (diskC m v) ∧ LF hh v ws r ∧ t = [.ptr r 0, .int .i64 keep, .int .i64 i, s3, s4, s5, s6]) ?_ qs.length _ _ ⟨0, qs, _, _, _, _, by omega, by omega, rfl, by simp, by intros; rfl, Keep.refl _ _, hb, hl, rfl⟩
  rintro n t hh ⟨i, ws, s3, s4, s5, s6, hi, hm, hwl, hmf, hsame, K, b1, l1, rfl⟩
  by_cases hlt : i < qs.length
  · obtain ⟨q, hq0⟩ : ∃ q, qs[i]? = some q := ⟨_, List.getElem?_eq_getElem hlt⟩
    have hq : ws[i]? = some q := by rw [hsame i (Nat.le_refl _), hq0]
    obtain ⟨hsy, hqb⟩ := qsy q (List.mem_of_getElem? hq0)
    obtain ⟨g, o, ca, c0, c1, c2, _, cs⟩ := l1.atk hq
    have hrow := l1.row q (List.mem_of_getElem? hq)
    have kr := fun hh => Keep.refl (NoB) (hh : Hp MD)
    have nK := K.n
    obtain ⟨d, hd⟩ : ∃ d, d = min keep.toNat (q.b.length - q.sy) := ⟨_, rfl⟩
    have hkd : MD.kept keep q.mf = q.sy + d := by subst hd; rfl
    repeat first|(refine BG ?_;first|(refine BH ?_;first|(refine BI ?_;refine BM ?_)|(refine BJ ?_;first|refine BN ?_|refine BO ?_)|refine BV (v_bx b1 rfl rfl) ?_|refine BV (l1.arr.rs.lenv (by rfl)) ?_|refine BP ?_)|(refine BK ?_;first|refine BS rfl rfl ?_|refine BT rfl rfl ?_|refine BU rfl ?_)|(refine BL ?_;first|refine BQ ?_)|(refine BR ?_;try simp only [setS]))|refine AA ?_|refine AC ?_|refine AD ?_|refine AF rfl rfl ?_|refine AG rfl rfl ?_|refine AH ?_|refine AI ?_|refine AJ ?_|refine AK ?_|refine AL ?_|refine AM ?_|refine AN ?_|refine AO ?_|refine AP ?_|refine AQ rfl ?_|refine AR ?_|refine AS ?_|refine AT rfl ?_|refine AU rfl ?_
    repeat first|(refine BG ?_;first|(refine BH ?_;first|(refine BI ?_;refine BM ?_)|(refine BJ ?_;first|refine BN ?_|refine BO ?_)|refine BV (v_bx b1 rfl rfl) ?_|refine BV (ca rfl rfl) ?_|refine BV (c1 (kr _) rfl) ?_|refine BV (c2 (kr _) rfl) ?_|refine BV (hrow.1.lenv (by rfl)) ?_|refine BV (v_subi rfl rfl (by omega)) ?_|refine BV (v_cmp rfl rfl rfl) ?_|refine BP ?_)|(refine BK ?_;first|refine BS rfl rfl ?_|refine BT rfl rfl ?_|refine BU rfl ?_)|(refine BL ?_;first|refine BQ ?_)|(refine BR ?_;try simp only [setS]))|(refine BX ?_;first|refine BY rfl ?_|(refine BZ ?_;refine CA ?_)|refine CB (v_bx b1 rfl rfl) ?_|refine CB (ca rfl rfl) ?_|refine CB (c1 (kr _) rfl) ?_|refine CB (c2 (kr _) rfl) ?_|refine CB (hrow.1.lenv (by rfl)) ?_|refine CB (v_subi rfl rfl (by omega)) ?_|refine CB (v_cmp rfl rfl rfl) ?_|refine CC ?_|(refine CD ?_;try simp only [setS]))|refine AA ?_|refine AC ?_|refine AD ?_|refine AE ?_|refine AF rfl rfl ?_|refine AG rfl rfl ?_|refine AH ?_|refine AI ?_|refine AJ ?_|refine AK ?_|refine AL ?_|refine AM ?_|refine AN ?_|refine AO ?_|refine AP ?_|refine AQ rfl ?_|refine AR ?_|refine AS ?_|refine AT rfl ?_|refine AU rfl ?_
    refine wb_mid (fun t' h' => h' = hh ∧ ∃ s6', t' = [.ptr r 0, .int .i64 keep, .int .i64 i, .int .i64 (d : Nat), s4, .bool true, s6']) ?_ ?_
    · by_cases hlk : keep < (q.b.length : Int) - q.sy
      · rw [decide_eq_true hlk]
        have ed : max keep 0 = (d : Nat) := by omega
        repeat first|(refine BG ?_;first|(refine BH ?_;first|(refine BI ?_;refine BM ?_)|(refine BJ ?_;first|refine BN ?_|refine BO ?_)|refine BV (v_max rfl rfl) ?_|refine BP ?_)|(refine BK ?_;first|refine BS rfl rfl ?_|refine BT rfl rfl ?_|refine BU rfl ?_)|(refine BL ?_;first|refine BQ ?_)|(refine BR ?_;try simp only [setS]))|refine AA ?_|refine AC ?_|refine AD ?_|refine AE ?_|refine AF rfl rfl ?_|refine AG rfl rfl ?_|refine AH ?_|refine AI ?_|refine AJ ?_|refine AK ?_|refine AL ?_|refine AM ?_|refine AN ?_|refine AO ?_|refine AP ?_|refine AQ rfl ?_|refine AR ?_|refine AS ?_|refine AT rfl ?_|refine AU rfl ?_
        rw [ed]
        exact mid_norm ⟨rfl, _, rfl⟩
      · rw [decide_eq_false hlk]
        have ed : (q.b.length : Int) - q.sy = (d : Nat) := by omega
        repeat first|(refine BG ?_;first|(refine BH ?_;first|(refine BI ?_;refine BM ?_)|(refine BJ ?_;first|refine BN ?_|refine BO ?_)|refine BP ?_)|(refine BK ?_;first|refine BS rfl rfl ?_|refine BT rfl rfl ?_|refine BU rfl ?_)|(refine BL ?_;first|refine BQ ?_)|(refine BR ?_;try simp only [setS]))|refine AA ?_|refine AC ?_|refine AD ?_|refine AE ?_|refine AF rfl rfl ?_|refine AG rfl rfl ?_|refine AH ?_|refine AI ?_|refine AJ ?_|refine AK ?_|refine AL ?_|refine AM ?_|refine AN ?_|refine AO ?_|refine AP ?_|refine AQ rfl ?_|refine AR ?_|refine AS ?_|refine AT rfl ?_|refine AU rfl ?_
        rw [ed]
        exact mid_norm ⟨rfl, _, rfl⟩
    rintro t' h' ⟨eh, s6', rfl⟩
    have eh := eh.symm
    subst eh
    have ek : (q.sy : Int) + (d : Nat) = ((q.sy + d : Nat) : Int) := by omega
    obtain ⟨vs, z1, z2, z3, z4⟩ := hrow.1.bytes (lo := 0) (hi := q.sy + d) (Nat.zero_le _) (by omega)
    rw [List.drop_zero, Nat.sub_zero] at z1
    repeat first|(refine BG ?_;first|(refine BH ?_;first|(refine BI ?_;refine BM ?_)|(refine BJ ?_;first|refine BN ?_|refine BO ?_)|refine BV (v_bx b1 rfl rfl) ?_|refine BV (ca rfl rfl) ?_|refine BV (c2 (kr _) rfl) ?_|refine BP ?_)|(refine BK ?_;first|refine BS rfl rfl ?_|refine BT rfl rfl ?_|refine BU rfl ?_)|(refine BL ?_;first|refine BQ ?_)|(refine BR ?_;try simp only [setS]))|refine AA ?_|refine AC ?_|refine AD ?_|refine AF rfl rfl ?_|refine AG rfl rfl ?_|refine AH ?_|refine AI ?_|refine AJ ?_|refine AK ?_|refine AL ?_|refine AM ?_|refine AN ?_|refine AO ?_|refine AP ?_|refine AQ rfl ?_|refine AR ?_|refine AS ?_|refine AT rfl ?_|refine AU rfl ?_
    rw [ek]
    generalize hK : q.sy + d = k at *
    repeat first|(refine BG ?_;first|(refine BH ?_;first|(refine BI ?_;refine BM ?_)|(refine BJ ?_;first|refine BN ?_|refine BO ?_)|refine BV (v_bx b1 rfl rfl) ?_|refine BV (ca rfl rfl) ?_|refine BV (c1 (kr _) rfl) ?_|refine BV (z4 (by rfl) (.inl ⟨rfl, rfl⟩) (.inr ⟨_, _, rfl, rfl⟩)) ?_|refine BP ?_)|(refine BK ?_;first|refine BS rfl rfl ?_|refine BT rfl rfl ?_|refine BU rfl ?_)|(refine BL ?_;first|refine BQ ?_)|(refine BR ?_;try simp only [setS]))|(refine BX ?_;first|refine BY rfl ?_|(refine BZ ?_;refine CA ?_)|refine CB (v_bx b1 rfl rfl) ?_|refine CB (ca rfl rfl) ?_|refine CB (c1 (kr _) rfl) ?_|refine CB (z4 (by rfl) (.inl ⟨rfl, rfl⟩) (.inr ⟨_, _, rfl, rfl⟩)) ?_|refine CC ?_|(refine CD ?_;try simp only [setS]))|refine AA ?_|refine AC ?_|refine AD ?_|refine AE ?_|refine AF rfl rfl ?_|refine AG rfl rfl ?_|refine AH ?_|refine AI ?_|refine AJ ?_|refine AK ?_|refine AL ?_|refine AM ?_|refine AN ?_|refine AO ?_|refine AP ?_|refine AQ rfl ?_|refine AR ?_|refine AS ?_|refine AT rfl ?_|refine AU rfl ?_
    have kp : Keep NoB hh (hh.push (.rw [])) := Keep.push _ _ _
    have oz : OS (hh.push (.rw [])) 1 (.slice 1 hh.n 0 0 (some 0)) 0 [] := ⟨rfl, rfl, Nat.zero_lt_one, Nat.lt_succ_self _, [], Hp.push_self _ _, by simp, by simp, by simp⟩
    have bp := b1.up kp
    refine wd_alc (cs := []) ef_bs0 (by (try simp only [List.nil_append, List.cons_append]);repeat first|exact chk_nil|(apply chk_at;(focus exact rfl);first|exact pa_skp|(refine pa_mov ?_;first|exact (v_bx bp rfl rfl)|exact (ca rfl rfl)|exact (c1 kp rfl)|exact (z4 (by rfl) (.inl ⟨rfl, rfl⟩) (.inr ⟨_, _, rfl, rfl⟩))|exact rfl))) ?_
    repeat first|(refine BG ?_;first|(refine BH ?_;first|(refine BI ?_;refine BM ?_)|(refine BJ ?_;first|refine BN ?_|refine BO ?_)|refine BP ?_)|(refine BK ?_;first|refine BS rfl rfl ?_|refine BT rfl rfl ?_|refine BU rfl ?_)|(refine BL ?_;first|refine BQ ?_)|(refine BR ?_;try simp only [setS]))|(refine BX ?_;first|refine BY rfl ?_|(refine BZ ?_;refine CA ?_)|refine CC ?_|(refine CD ?_;try simp only [setS]))|refine AA ?_|refine AC ?_|refine AD ?_|refine AE ?_|refine AF rfl rfl ?_|refine AG rfl rfl ?_|refine AH ?_|refine AI ?_|refine AJ ?_|refine AK ?_|refine AL ?_|refine AM ?_|refine AN ?_|refine AO ?_|refine AP ?_|refine AQ rfl ?_|refine AR ?_|refine AS ?_|refine AT rfl ?_|refine AU rfl ?_
    have hkl : (q.b.take k).length ≤ k := List.length_take_le ..
    refine wd_app rfl rfl oz Nat.zero_lt_one (z1.up kp) (by omega) (by omega) fun y h3 a1 a2 a3 => ?_
    rw [Nat.zero_add, List.nil_append] at a1
    have k3 : Keep NoB hh h3 := kp.own a2 (fun k q => by have q : k = hh.n := q; omega)
    have lo3 : ∀ k, blk y k → hh.n ≤ k := fun k q => by
      rcases a3 k q with q | q
      · have q : k = hh.n := q; omega
      · simp only [push_n] at q; omega
    have b3 := b1.up k3
    refine ⟨(by (try simp only [List.nil_append, List.cons_append]);repeat first|exact chk_nil|(apply chk_at;(focus exact rfl);first|exact pa_skp|(refine pa_mov ?_;first|exact (v_bx b3 rfl rfl)|exact (ca rfl rfl)|exact (c1 k3 rfl)|exact rfl))), ?_⟩
    have hrl := b1.lt
    have hyy : ∀ k, blk y k → r < k ∧ ¬ blk v k := fun k hk => ⟨by have := lo3 k hk; omega, fun q2 => by have := lo3 k hk; have := l1.arr.lt k q2; omega⟩
    obtain ⟨lc, bx', hlt', l4, hbg, hlo⟩ := cs (q' := ⟨q.name, y, q.b.take k, q.sy⟩) k3 (j := 1) (by decide) rfl a1.rs hyy
    repeat first|(refine BG ?_;first|(refine BH ?_;first|(refine BI ?_;refine BM ?_)|(refine BJ ?_;first|refine BN ?_|refine BO ?_)|refine BV (ca rfl rfl) ?_|refine BP ?_)|(refine BK ?_;first|refine BS rfl rfl ?_|refine BT rfl rfl ?_|refine BU rfl ?_)|(refine BL ?_;first|refine BQ ?_)|(refine BR ?_;try simp only [setS]))|(refine BX ?_;first|refine BY rfl ?_|(refine BZ ?_;refine CA ?_)|refine CB (ca rfl rfl) ?_|refine CC ?_|(refine CD ?_;try simp only [setS]))|refine AA ?_|refine AC ?_|refine AD ?_|refine AE ?_|refine AF rfl rfl ?_|refine AG rfl rfl ?_|refine AH ?_|refine AI ?_|refine AJ ?_|refine AK ?_|refine AL ?_|refine AM ?_|refine AN ?_|refine AO ?_|refine AP ?_|refine AQ rfl ?_|refine AR ?_|refine AS ?_|refine AT rfl ?_|refine AU rfl ?_
    refine wd_ef (ef_bx bx' rfl rfl a1.rs.one hlt') chk_nil ?_
    refine wd_heap (h' := h3.put g (.rw (spl (o + 1) [y] lc))) rfl ?_
    have k5 : Keep (OneB g) h3 (h3.put g (.rw (spl (o + 1) [y] lc))) := Keep.put _ _ _ rfl
    have b5 := b3.keep k5 (fun q => by have q : r = g := q; omega)
    have a5 := a1.rs.keep k5 (fun k q1 q2 => by have q2 : k = g := q2; subst q2; exact (hyy _ q1).2 hbg)
    generalize h3.put g (.rw (spl (o + 1) [y] lc)) = h5 at *
    have hil := (List.getElem?_eq_some_iff.1 hq).1
    have hq5 : (ws.set i ⟨q.name, y, q.b.take k, q.sy⟩)[i]? = some ⟨q.name, y, q.b.take k, q.sy⟩ := by rw [List.getElem?_set_self hil]
    obtain ⟨g6, o6, ca6, _, _, _, _, cs6⟩ := l4.atk hq5
    obtain ⟨lc6, bx6, hlt6, l6, hbg6, hlo6⟩ := cs6 (q' := ⟨q.name, y, q.b.take k, k⟩) (Keep.refl _ _) (j := 2) (u := .int .i64 k) (by decide) rfl a5 hyy
    repeat first|(refine BG ?_;first|(refine BH ?_;first|(refine BI ?_;refine BM ?_)|(refine BJ ?_;first|refine BN ?_|refine BO ?_)|refine BV (v_bx b5 rfl rfl) ?_|refine BV (ca6 rfl rfl) ?_|refine BP ?_)|(refine BK ?_;first|refine BS rfl rfl ?_|refine BT rfl rfl ?_|refine BU rfl ?_)|(refine BL ?_;first|refine BW (ef_bx bx6 rfl rfl ⟨rfl, rfl⟩ hlt6) ?_|refine BQ ?_)|(refine BR ?_;try simp only [setS]))|(refine BX ?_;first|refine BY rfl ?_|(refine BZ ?_;refine CA ?_)|refine CB (v_bx b5 rfl rfl) ?_|refine CB (ca6 rfl rfl) ?_|refine CC ?_|(refine CD ?_;try simp only [setS]))|refine AA ?_|refine AC ?_|refine AD ?_|refine AE ?_|refine AF rfl rfl ?_|refine AG rfl rfl ?_|refine AH ?_|refine AI ?_|refine AJ ?_|refine AK ?_|refine AL ?_|refine AM ?_|refine AN ?_|refine AO ?_|refine AP ?_|refine AQ rfl ?_|refine AR ?_|refine AS ?_|refine AT rfl ?_|refine AU rfl ?_
    have k6 : Keep (OneB g6) h5 (h5.put g6 (.rw (spl (o6 + 2) [.int .i64 k] lc6))) := Keep.put _ _ _ rfl
    have K5 : Keep (FromB r) h h5 := (K.trans k3 (fun _ _ q => q.elim)).trans (k5.mono (fun j _ q => (by have q : j = g := q; show r ≤ j; omega : FromB r j))) (fun _ _ q => q)
    rw [List.set_set] at l6
    rw [show ((i : Int) + 1) = ((i + 1 : Nat) : Int) by omega]
    refine round_norm (n - 1) (by omega) ⟨i + 1, _, _, _, _, _, by omega, by omega, by rw [List.length_set]; exact hwl, ?_, fun j hj => ?_, K5.trans (k6.mono (fun j _ q => (by have q : j = g6 := q; show r ≤ j; omega : FromB r j))) (fun _ _ q => q), b5.keep k6 (fun q => by have q : r = g6 := q; omega), l6, rfl⟩
    · have hil0 : i < (qs.map QF.mf).length := by rw [List.length_map]; exact hlt
      have eq0 : (qs.map QF.mf)[i] = q.mf := by rw [List.getElem_map]; congr 1; exact (List.getElem?_eq_some_iff.1 hq0).2
      rw [List.map_set, hmf, ← mid_set (crF keep) hil0, eq0]
      congr 1
      show (⟨q.name, q.b.take k, k⟩ : MF) = _
      unfold crF
      rw [hkd]
      rfl
    · rw [List.getElem?_set_ne (by omega)]
      exact hsame j (by omega)
  · have e1 : (qs.map QF.mf).take i = qs.map QF.mf := List.take_of_length_le (by rw [List.length_map]; omega)
    have e2 : (qs.map QF.mf).drop i = [] := List.drop_eq_nil_of_le (by rw [List.length_map]; omega)
    rw [e1, e2, List.append_nil] at hmf
    repeat first|(refine BG ?_;first|(refine BH ?_;first|(refine BI ?_;refine BM ?_)|(refine BJ ?_;first|refine BN ?_|refine BO ?_)|refine BV (v_bx b1 rfl rfl) ?_|refine BV (l1.arr.rs.lenv (by rfl)) ?_|refine BP ?_)|(refine BK ?_;first|refine BS rfl rfl ?_|refine BT rfl rfl ?_|refine BU rfl ?_)|(refine BL ?_;first|refine BW (ef_bx b1 rfl rfl ⟨rfl, rfl⟩ (by exact Nat.le_of_ble_eq_true rfl)) ?_|refine BQ ?_)|(refine BR ?_;try simp only [setS]))|refine AA ?_|refine AC ?_|refine AD ?_|refine AE ?_|refine AF rfl rfl ?_|refine AG rfl rfl ?_|refine AH ?_|refine AI ?_|refine AJ ?_|refine AK ?_|refine AL ?_|refine AM ?_|refine AN ?_|refine AO ?_|refine AP ?_|refine AQ rfl ?_|refine AR ?_|refine AS ?_|refine AT rfl ?_|refine AU rfl ?_
    refine wr_heap (h' := hh.put r (.rw [v, .int .i64 m.limit, .int .i64 m.armed, .bool false])) rfl ?_
    have k2 : Keep (OneB r) hh (hh.put r (.rw [v, .int .i64 m.limit, .int .i64 m.armed, .bool false])) := Keep.put _ _ _ rfl
    have b2 : Bx (hh.put r (.rw [v, .int .i64 m.limit, .int .i64 m.armed, .bool false])) r [v, .int .i64 m.limit, .int .i64 m.armed, .bool false] := b1.put
    have l2 := l1.keep k2 (fun k q _ => Nat.le_of_eq q)
    generalize hh.put r (.rw [v, .int .i64 m.limit, .int .i64 m.armed, .bool false]) = h2 at *
    repeat first|(refine BG ?_;first|(refine BH ?_;first|(refine BI ?_;refine BM ?_)|(refine BJ ?_;first|refine BN ?_|refine BO ?_)|refine BP ?_)|(refine BK ?_;first|refine BS rfl rfl ?_|refine BT rfl rfl ?_|refine BU rfl ?_)|(refine BL ?_;first|refine BW (ef_bx b2 rfl rfl ⟨rfl, rfl⟩ (by exact Nat.le_of_ble_eq_true rfl)) ?_|refine BQ ?_)|(refine BR ?_;try simp only [setS]))|refine AA ?_|refine AC ?_|refine AD ?_|refine AE ?_|refine AF rfl rfl ?_|refine AG rfl rfl ?_|refine AH ?_|refine AI ?_|refine AJ ?_|refine AK ?_|refine AL ?_|refine AM ?_|refine AN ?_|refine AO ?_|refine AP ?_|refine AQ rfl ?_|refine AR ?_|refine AS ?_|refine AT rfl ?_|refine AU rfl ?_
    have k3 : Keep (OneB r) h2 (h2.put r (.rw (diskC (m.crash keep) v))) := Keep.put _ _ _ rfl
    refine ⟨⟨⟨v, ws, b2.put, l2.keep k3 (fun k q _ => Nat.le_of_eq q), ?_⟩, okC⟩, (K.trans (one_fromB k2) (fun _ _ q => q)).trans (one_fromB k3) (fun _ _ q => q)⟩
    rw [hmf]
    exact hp.map _
end
end Am
end Go.Proofs.Ythgcdoahoechhaa
