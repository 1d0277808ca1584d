/- The document's disk: Names. -/
import Derived.Test.YthgcdoahoechhaaRdE
set_option linter.unusedVariables false
set_option linter.unusedSimpArgs false
namespace Go.Proofs.Ythgcdoahoechhaa
namespace Am
open Go.RowKit
set_option maxRecDepth 100000
def b_refNames : BF := ⟨57, [0, 2, 3, 4, 5, 12, 34], (.seq (.reg [.mk none (.slot 1) (.mov (.mv (.const .snil)))]) (.seq (.reg [.mk none (.slot 2) (.mov (.mv (.const .snil)))]) (.seq (.seq (.reg [.mk none (.slot 3) (.mov (.mv (.const (.int .i64 0))))]) (.block 0 (.loop (.seq (.seq (.reg [.mk none (.env 6) (.mov (.mv (.slot 3))), .mk none (.env 7) (.mov (.mv (.slot 0))), .mk none (.env 8) (.mov (.nilc (.env 7))), .mk none (.env 9) (.mov (.faddr 0 (.env 8))), .mk none (.env 10) (.mov (.ld1 (.env 9))), .mk none (.env 11) (.mov (.lenv (.env 10))), .mk none (.slot 5) (.mov (.bin .lss .no (.env 6) (.env 11)))]) (.cond (.slot 5) .skip (.exit 0))) (.seq (.block 1 (.seq (.reg [.mk none (.env 15) (.mov (.mv (.slot 2))), .mk none (.env 16) (.mov (.lenv (.env 15))), .mk none (.slot 4) (.mov (.mv (.env 16)))]) (.seq (.block 2 (.loop (.seq (.seq (.dreg [(.mk none (.env 17) (.mov (.mv (.slot 4))), []), (.mk none (.env 18) (.mov (.bin .gtr .no (.env 17) (.const (.int .i64 0)))), []), (.mk none (.env 19) (.mov (.mv (.env 18))), []), (.mk (some ((.env 19), true)) (.env 20) (.mov (.mv (.slot 2))), []), (.mk (some ((.env 19), true)) (.env 21) (.mov (.mv (.slot 4))), []), (.mk (some ((.env 19), true)) (.env 22) (.mov (.bin .sub .no (.env 21) (.const (.int .i64 1)))), []), (.mk (some ((.env 19), true)) (.env 23) (.mov (.iaddr 1 (.env 20) (.env 22))), []), (.mk (some ((.env 19), true)) (.env 24) (.mov (.ld1 (.env 23))), []), (.mk (some ((.env 19), true)) (.env 25) (.mov (.mv (.slot 0))), []), (.mk (some ((.env 19), true)) (.env 26) (.mov (.nilc (.env 25))), []), (.mk (some ((.env 19), true)) (.env 27) (.mov (.faddr 0 (.env 26))), []), (.mk (some ((.env 19), true)) (.env 28) (.mov (.ld1 (.env 27))), []), (.mk (some ((.env 19), true)) (.env 29) (.mov (.mv (.slot 3))), []), (.mk (some ((.env 19), true)) (.env 30) (.mov (.iaddr 3 (.env 28) (.env 29))), []), (.mk (some ((.env 19), true)) (.env 31) (.mov (.faddr 0 (.env 30))), []), (.mk (some ((.env 19), true)) (.env 32) (.mov (.ld1 (.env 31))), []), (.mk (some ((.env 19), true)) (.env 33) (.mov (.bin .gtr .no (.env 24) (.env 32))), []), (.mk none (.slot 6) (.mov (.pick (.env 19) (.env 33) (.const (.bool false)))), [])]) (.cond (.slot 6) .skip (.exit 2))) (.block 3 (.reg [.mk none (.env 35) (.mov (.mv (.slot 4))), .mk none (.env 36) (.mov (.bin .sub .no (.env 35) (.const (.int .i64 1)))), .mk none (.slot 4) (.mov (.mv (.env 36)))]))))) (.dreg [(.mk none (.env 38) (.mov (.mv (.slot 2))), []), (.mk none (.env 39) (.mov (.mv (.slot 4))), []), (.mk none (.env 40) (.mov (.sl 1 (.env 38) none (some (.env 39)) none)), []), (.mk none (.env 42) (.mov (.mv (.slot 0))), []), (.mk none (.env 43) (.mov (.nilc (.env 42))), []), (.mk none (.env 44) (.mov (.faddr 0 (.env 43))), []), (.mk none (.env 45) (.mov (.ld1 (.env 44))), []), (.mk none (.env 46) (.mov (.mv (.slot 3))), []), (.mk none (.env 47) (.mov (.iaddr 3 (.env 45) (.env 46))), []), (.mk none (.env 48) (.mov (.faddr 0 (.env 47))), []), (.mk none (.env 49) (.mov (.ld1 (.env 48))), []), (.mk none (.env 52) (.mov (.mv (.slot 2))), []), (.mk none (.env 53) (.mov (.mv (.slot 4))), []), (.mk none (.env 54) (.mov (.sl 1 (.env 52) (some (.env 53)) none none)), []), (.mk none (.env 37) (.eff (.bslice 1 0 [(.str [])] [])), [0, 1, 2, 3, 4, 5, 6, 7, 8, 9, 10, 11, 12, 13]), (.mk none (.env 50) (.eff (.bslice 1 1 [(.str [])] [(0, 1, (.env 49))])), [0, 1, 2, 3, 4, 5, 6, 7, 8, 9, 10, 11, 12, 13, 14]), (.mk none (.env 41) (.eff (.append 1 16 (.env 37) (.env 40))), [3, 4, 5, 6, 7, 8, 9, 10, 11, 12, 13, 15]), (.mk none (.env 51) (.eff (.append 1 16 (.env 41) (.env 50))), [11, 12, 13]), (.mk none (.env 55) (.eff (.append 1 16 (.env 51) (.env 54))), []), (.mk none (.slot 2) (.mov (.mv (.env 55))), [])])))) (.reg [.mk none (.env 13) (.mov (.mv (.slot 3))), .mk none (.env 14) (.mov (.bin .add .no (.env 13) (.const (.int .i64 1)))), .mk none (.slot 3) (.mov (.mv (.env 14)))])))))) (.seq (.reg [.mk none (.env 56) (.mov (.mv (.slot 2))), .mk none (.slot 1) (.mov (.mv (.env 56)))]) .ret)))), [.slot (.slot 1)]⟩
theorem bytesLess_bl : ∀ a b : List UInt8, Op.bytesLess a b = bl a b
  | [], [] => rfl
  | [], _ :: _ => rfl
  | _ :: _, [] => rfl
  | x :: a, y :: b => by
    have ih := bytesLess_bl a b
    simp only [Op.bytesLess, bl, cmpB, Lib.compareBytes] at ih ⊢
    by_cases h1 : x < y
    · simp [h1]
    · by_cases h2 : y < x
      · have h3 : (x == y) = false := by
          simp only [beq_eq_false_iff_ne]
          rintro rfl
          exact h1 h2
        simp [h1, h2, h3]
      · have h3 : x = y := UInt8.le_antisymm (UInt8.not_lt.1 h2) (UInt8.not_lt.1 h1)
        subst h3
        simp [ih]
theorem sgtr_bl (a b : List UInt8) : (!(Op.bytesLess a b || a == b)) = bl b a := by
  rw [bytesLess_bl]
  by_cases h : a = b
  · subst h
    simp [bl_irrefl]
  · rw [beq_false_of_ne h]
    cases h1 : bl a b with
    | true => simp [bl_asymm h1]
    | false => simp [bl_of_not h1 h]
theorem v_sgtr {X : Type} {e : En} {t : List AV} {h : Hp X} {q : Eq} {x y : Od} {a b : List UInt8} {c : Bool} (hx : x.ev e t = .str a) (hy : y.ev e t = .str b) (hc : bl b a = c) : (Mv.bin .gtr q x y).ev e t h = some (.bool c) := by
  simp only [Mv.ev, hx, hy, Am.bin, AV.onStr, strOp, sgtr_bl, hc]
theorem rising_perm : ∀ {l l' : List Bs}, (l.Pairwise fun a b => bl a b = true) → (l'.Pairwise fun a b => bl a b = true) → l.Perm l' → l = l'
  | [], l', _, _, hp => (List.nil_perm.1 hp).symm
  | a :: l, [], _, _, hp => by have := hp.length_eq; simp at this
  | a :: l, b :: l', h1, h2, hp => by
    obtain ⟨g1, g2⟩ := List.pairwise_cons.1 h1
    obtain ⟨g3, g4⟩ := List.pairwise_cons.1 h2
    have hab : a = b := by
      rcases List.mem_cons.1 (hp.mem_iff.1 (List.mem_cons_self ..)) with h | h
      · exact h
      · rcases List.mem_cons.1 (hp.mem_iff.2 (List.mem_cons_self ..)) with h' | h'
        · exact h'.symm
        · exact absurd (g3 a h) (by rw [bl_asymm (g1 b h')]; decide)
    subst hab
    rw [rising_perm g2 g4 ((List.perm_cons a).1 hp)]
theorem ins_rising {l : List Bs} {x : Bs} {k : Nat} (hl : l.Pairwise fun a b => bl a b = true) (hk : k ≤ l.length) (hx : x ∉ l) (h1 : ∀ (j : Nat) y, k ≤ j → l[j]? = some y → bl x y = true) (h2 : ∀ y, 0 < k → l[k - 1]? = some y → bl x y = false) :
    ((l.take k ++ [x]) ++ l.drop k).Pairwise fun a b => bl a b = true := by
  have e1 : ∀ y ∈ l.take k, bl y x = true := fun y hy => by
    obtain ⟨j, hj⟩ := List.mem_iff_getElem?.1 hy
    have hjl := (List.getElem?_eq_some_iff.1 hj).1
    rw [List.length_take] at hjl
    rw [List.getElem?_take_of_lt (by omega)] at hj
    obtain ⟨z, hz⟩ : ∃ z, l[k - 1]? = some z := ⟨_, List.getElem?_eq_getElem (by omega)⟩
    have hzx : bl z x = true := bl_of_not (h2 z (by omega) hz) (fun e => hx (e ▸ List.mem_of_getElem? hz))
    by_cases hjk : j = k - 1
    · subst hjk
      rw [hz] at hj; cases hj; exact hzx
    · obtain ⟨q1, rfl⟩ := List.getElem?_eq_some_iff.1 hj
      obtain ⟨q2, rfl⟩ := List.getElem?_eq_some_iff.1 hz
      exact bl_trans (List.pairwise_iff_getElem.1 hl j (k - 1) q1 q2 (by omega)) hzx
  have e2 : ∀ y ∈ l.drop k, bl x y = true := fun y hy => by
    obtain ⟨j, hj⟩ := List.mem_iff_getElem?.1 hy
    rw [List.getElem?_drop] at hj
    exact h1 _ y (by omega) hj
  rw [List.append_assoc, List.pairwise_append]
  refine ⟨hl.sublist (List.take_sublist ..), List.pairwise_cons.2 ⟨e2, hl.sublist (List.drop_sublist ..)⟩, fun a ha b hb => ?_⟩
  rcases List.mem_cons.1 hb with rfl | hb
  · exact e1 a ha
  · exact bl_trans (e1 a ha) (e2 b hb)
theorem v_pred {X : Type} {e : En} {t : List AV} {h : Hp X} {q : Eq} {x y : Od} {j : Nat} (hx : x.ev e t = .int .i64 ((j + 1 : Nat) : Int)) (hy : y.ev e t = .int .i64 1) (hc : j < 4611686018427387904) : (Mv.bin .sub q x y).ev e t h = some (.int .i64 (j : Nat)) := by
  rw [v_subi hx hy (by omega), show ((j + 1 : Nat) : Int) - 1 = (j : Nat) by omega]
def strs (l : List Bs) : List AV := l.map .str
section
variable {E : Nat → Option (Ent MD)}
set_option maxHeartbeats 4000000 in
theorem rnames_ok (hE : ∀ f e, E f = some e → e.plain) (hf : E 67 = some (.bc b_refNames)) {h : Hp MD} {r : Nat} {m : MD} (a : RD h r m) (hn : m.fs.length ≤ 999) :
    WF (lim E) 67 [.ptr r 0] h fun x h' => Keep NoB h h' ∧ RS h' 1 x m.fs.length (strs (m.fs.map MF.name)) ∧ ∀ k, blk x k → h.n ≤ k := by
  obtain ⟨v, qs, hb, hl, hp⟩ := a.out
  have hlen := q_len hp
  have hmx : (maxLen : Nat) = 9223372036854775807 := rfl
  have hrn := hb.lt
  have hnd := q_nodup hp a.ok
  refine wf_bc hE hf rfl ?_
  simp only [b_refNames, List.map, getS]
  repeat first|(refine BG ?_;first|(refine BH ?_;first|(refine BI ?_;refine BM ?_)|(refine BJ ?_;first|refine BN ?_|refine BO ?_)|refine BP ?_)|(refine BK ?_;first|refine BS rfl rfl ?_|refine BT rfl rfl ?_|refine BU rfl ?_)|(refine BL ?_;first|refine BQ ?_)|(refine BR ?_;try simp only [setS]))|refine AA ?_|refine AC ?_|refine AD ?_|refine AE ?_|refine AF rfl rfl ?_|refine AG rfl rfl ?_|refine AH ?_|refine AI ?_|refine AJ ?_|refine AK ?_|refine AL ?_|refine AM ?_|refine AN ?_|refine AO ?_|refine AP ?_|refine AQ rfl ?_|refine AR ?_|refine AS ?_|refine AT rfl ?_|refine AU rfl ?_
  refine wb_loop (fun n t hh => ∃ (i : Nat) (ns : List Bs) (vo s4 s5 s6 : AV), i ≤ qs.length ∧ n = qs.length - i ∧ (ns.Pairwise fun a b => bl a b = true) ∧ ns.Perm ((qs.take i).map QF.name) ∧ Keep NoB h hh ∧ OS hh 1 vo i (strs ns) ∧ (∀ k, blk vo k → h.n ≤ k) ∧ t = [.ptr r 0, .snil, vo, .int .i64 i, s4, s5, s6]) ?_ qs.length _ _ ⟨0, [], .snil, _, _, _, by omega, by omega, .nil, .nil, Keep.refl _ _, ⟨rfl, rfl⟩, fun k q => q.elim, rfl⟩
  rintro n t hh ⟨i, ns, vo, s4, s5, s6, hi, hm, hns, hnp, K, ho, hlo, rfl⟩
  have b1 := hb.up K
  have l1 := hl.up K
  have nK := K.n
  by_cases hlt : i < qs.length
  · obtain ⟨q, hq⟩ : ∃ q, qs[i]? = some q := ⟨_, List.getElem?_eq_getElem hlt⟩
    obtain ⟨g, o, ca, c0, c1, c2, _, _⟩ := l1.atk hq
    have kr := fun hh => Keep.refl (NoB) (hh : Hp MD)
    have hnl : ns.length = i := by rw [hnp.length_eq, List.length_map, List.length_take]; omega
    have hqn : q.name ∉ ns := fun hx => by
      have h1 := hnp.mem_iff.1 hx
      obtain ⟨j, hj⟩ := List.mem_iff_getElem?.1 h1
      rw [List.getElem?_map] at hj
      have hjl : j < i := by
        rcases Nat.lt_or_ge j i with h | h
        · exact h
        · rw [List.getElem?_eq_none (by rw [List.length_take]; omega)] at hj; cases hj
      rw [List.getElem?_take_of_lt hjl] at hj
      have h2 := List.pairwise_iff_getElem.1 hnd j i (by rw [List.length_map]; omega) (by rw [List.length_map]; omega) hjl
      apply h2
      rw [List.getElem_map, List.getElem_map]
      obtain ⟨q1, q2⟩ := List.getElem?_eq_some_iff.1 hq
      rw [List.getElem?_eq_getElem (by omega)] at hj
      rw [q2]
      simpa using hj
    repeat first|(refine BG ?_;first|(refine BH ?_;first|(refine BI ?_;refine BM ?_)|(refine BJ ?_;first|refine BN ?_|refine BO ?_)|refine BV (v_bx b1 rfl rfl) ?_|refine BV (l1.arr.rs.lenv (by rfl)) ?_|refine BP ?_)|(refine BK ?_;first|refine BS rfl rfl ?_|refine BT rfl rfl ?_|refine BU rfl ?_)|(refine BL ?_;first|refine BQ ?_)|(refine BR ?_;try simp only [setS]))|refine AA ?_|refine AC ?_|refine AD ?_|refine AE ?_|refine AF rfl rfl ?_|refine AG rfl rfl ?_|refine AH ?_|refine AI ?_|refine AJ ?_|refine AK ?_|refine AL ?_|refine AM ?_|refine AN ?_|refine AO ?_|refine AP ?_|refine AQ rfl ?_|refine AR ?_|refine AS ?_|refine AT rfl ?_|refine AU rfl ?_
    repeat first|(refine BG ?_;first|(refine BH ?_;first|(refine BI ?_;refine BM ?_)|(refine BJ ?_;first|refine BN ?_|refine BO ?_)|refine BV (ho.rs.lenv (by rfl)) ?_|refine BP ?_)|(refine BK ?_;first|refine BS rfl rfl ?_|refine BT rfl rfl ?_|refine BU rfl ?_)|(refine BL ?_;first|refine BQ ?_)|(refine BR ?_;try simp only [setS]))|refine AA ?_|refine AC ?_|refine AD ?_|refine AE ?_|refine AF rfl rfl ?_|refine AG rfl rfl ?_|refine AI ?_|refine AJ ?_|refine AK ?_|refine AL ?_|refine AM ?_|refine AN ?_|refine AO ?_|refine AP ?_|refine AQ rfl ?_|refine AR ?_|refine AS ?_|refine AT rfl ?_|refine AU rfl ?_
    refine wb_mid (fun t' h' => h' = hh ∧ ∃ (k : Nat) (s6 : AV), k ≤ i ∧ (∀ (j : Nat) y, k ≤ j → ns[j]? = some y → bl q.name y = true) ∧ (∀ y, 0 < k → ns[k - 1]? = some y → bl q.name y = false) ∧ t' = [.ptr r 0, .snil, vo, .int .i64 i, .int .i64 k, .bool true, s6]) ?_ ?_
    · repeat first|(refine BG ?_;first|(refine BH ?_;first|(refine BI ?_;refine BM ?_)|(refine BJ ?_;first|refine BN ?_|refine BO ?_)|refine BP ?_)|(refine BK ?_;first|refine BS rfl rfl ?_|refine BT rfl rfl ?_|refine BU rfl ?_)|(refine BL ?_;first|refine BQ ?_)|(refine BR ?_;try simp only [setS]))|refine AA ?_|refine AC ?_|refine AD ?_|refine AE ?_|refine AF rfl rfl ?_|refine AG rfl rfl ?_|refine AH ?_|refine AI ?_|refine AJ ?_|refine AK ?_|refine AL ?_|refine AM ?_|refine AN ?_|refine AO ?_|refine AP ?_|refine AQ rfl ?_|refine AR ?_|refine AS ?_|refine AT rfl ?_|refine AU rfl ?_
      refine wb_loop (fun n2 t h2 => ∃ (k : Nat) (s6 : AV), k ≤ i ∧ n2 = k ∧ h2 = hh ∧ (∀ (j : Nat) y, k ≤ j → ns[j]? = some y → bl q.name y = true) ∧ t = [.ptr r 0, .snil, vo, .int .i64 i, .int .i64 k, .bool true, s6]) ?_ i _ _ ⟨i, _, by omega, rfl, rfl, fun j y h1 h2 => by have := (List.getElem?_eq_some_iff.1 h2).1; omega, rfl⟩
      rintro n2 t h2 ⟨k, s6, hk, hm2, eh, hgt, rfl⟩
      have eh := eh.symm
      subst eh
      rcases Nat.eq_zero_or_pos k with hk0 | hk0
      · subst hk0
        repeat first|(refine BG ?_;first|(refine BH ?_;first|(refine BI ?_;refine BM ?_)|(refine BJ ?_;first|refine BN ?_|refine BO ?_)|refine BP ?_)|(refine BK ?_;first|refine BS rfl rfl ?_|refine BT rfl rfl ?_|refine BU rfl ?_)|(refine BL ?_;first|refine BQ ?_)|(refine BR ?_;try simp only [setS]))|refine AA ?_|refine AC ?_|refine AD ?_|refine AE ?_|refine AF rfl rfl ?_|refine AG rfl rfl ?_|refine AH ?_|refine AI ?_|refine AJ ?_|refine AK ?_|refine AL ?_|refine AM ?_|refine AN ?_|refine AO ?_|refine AP ?_|refine AQ rfl ?_|refine AR ?_|refine AS ?_|refine AT rfl ?_|refine AU rfl ?_
        repeat first|(refine BG ?_;first|(refine BH ?_;first|(refine BI ?_;refine BM ?_)|(refine BJ ?_;first|refine BN ?_|refine BO ?_)|refine BP ?_)|(refine BK ?_;first|refine BS rfl rfl ?_|refine BT rfl rfl ?_|refine BU rfl ?_)|(refine BL ?_;first|refine BQ ?_)|(refine BR ?_;try simp only [setS]))|(refine BX ?_;first|refine BY rfl ?_|refine (wd_gq rfl) ?_|(refine BZ ?_;refine CA ?_)|refine CC ?_|(refine CD ?_;try simp only [setS]))|refine AA ?_|refine AC ?_|refine AD ?_|refine AE ?_|refine AF rfl rfl ?_|refine AG rfl rfl ?_|refine AH ?_|refine AI ?_|refine AJ ?_|refine AK ?_|refine AL ?_|refine AM ?_|refine AN ?_|refine AO ?_|refine AP ?_|refine AQ rfl ?_|refine AR ?_|refine AS ?_|refine AT rfl ?_|refine AU rfl ?_
        exact mid_norm ⟨rfl, 0, _, hk, hgt, fun y q1 => by omega, rfl⟩
      · obtain ⟨j, rfl⟩ : ∃ j, k = j + 1 := ⟨k - 1, by omega⟩
        obtain ⟨y, hy⟩ : ∃ y, ns[j]? = some y := ⟨_, List.getElem?_eq_getElem (by omega)⟩
        obtain ⟨ga, oa, aa, la⟩ := ho.rs.at2 (i := j) (by omega)
        have la1 : ∀ {e : En} {t : List AV} {x : Od}, x.ev e t = .ptr ga oa → (Mv.ld1 x).ev e t hh = some (.str y) := fun hx => by
          rw [la (Keep.refl NoB hh) (fun _ _ q => q) hx]
          unfold strs
          rw [List.getElem?_map, hy]
          rfl
        cases hc : bl q.name y with
        | true =>
          repeat first|(refine BG ?_;first|(refine BH ?_;first|(refine BI ?_;refine BM ?_)|(refine BJ ?_;first|refine BN ?_|refine BO ?_)|refine BP ?_)|(refine BK ?_;first|refine BS rfl rfl ?_|refine BT rfl rfl ?_|refine BU rfl ?_)|(refine BL ?_;first|refine BQ ?_)|(refine BR ?_;try simp only [setS]))|refine AA ?_|refine AC ?_|refine AD ?_|refine AE ?_|refine AF rfl rfl ?_|refine AG rfl rfl ?_|refine AH ?_|refine AI ?_|refine AJ ?_|refine AK ?_|refine AL ?_|refine AM ?_|refine AN ?_|refine AO ?_|refine AP ?_|refine AQ rfl ?_|refine AR ?_|refine AS ?_|refine AT rfl ?_|refine AU rfl ?_
          repeat first|(refine BG ?_;first|(refine BH ?_;first|(refine BI ?_;refine BM ?_)|(refine BJ ?_;first|refine BN ?_|refine BO ?_)|refine BV (v_pred rfl rfl (by omega)) ?_|refine BV (aa rfl rfl) ?_|refine BV (la1 rfl) ?_|refine BV (v_bx b1 rfl rfl) ?_|refine BV (ca rfl rfl) ?_|refine BV (c0 (kr _) rfl) ?_|refine BV (v_sgtr rfl rfl hc) ?_|refine BP ?_)|(refine BK ?_;first|refine BS rfl rfl ?_|refine BT rfl rfl ?_|refine BU rfl ?_)|(refine BL ?_;first|refine BQ ?_)|(refine BR ?_;try simp only [setS]))|(refine BX ?_;first|refine BY rfl ?_|(refine BZ ?_;refine CA ?_)|refine CB (v_pred rfl rfl (by omega)) ?_|refine CB (aa rfl rfl) ?_|refine CB (la1 rfl) ?_|refine CB (v_bx b1 rfl rfl) ?_|refine CB (ca rfl rfl) ?_|refine CB (c0 (kr _) rfl) ?_|refine CB (v_sgtr rfl rfl hc) ?_|refine CC ?_|(refine CD ?_;try simp only [setS]))|refine AA ?_|refine AC ?_|refine AD ?_|refine AE ?_|refine AF rfl rfl ?_|refine AG rfl rfl ?_|refine AH ?_|refine AI ?_|refine AJ ?_|refine AK ?_|refine AL ?_|refine AM ?_|refine AN ?_|refine AO ?_|refine AP ?_|refine AQ rfl ?_|refine AR ?_|refine AS ?_|refine AT rfl ?_|refine AU rfl ?_
          rw [show ((j + 1 : Nat) : Int) - 1 = (j : Nat) by omega]
          refine round_norm j (by omega) ⟨j, _, by omega, rfl, rfl, fun l z h1 h2 => ?_, rfl⟩
          by_cases hl : l = j
          · subst hl
            rw [hy] at h2; cases h2; exact hc
          · exact hgt l z (by omega) h2
        | false =>
          repeat first|(refine BG ?_;first|(refine BH ?_;first|(refine BI ?_;refine BM ?_)|(refine BJ ?_;first|refine BN ?_|refine BO ?_)|refine BP ?_)|(refine BK ?_;first|refine BS rfl rfl ?_|refine BT rfl rfl ?_|refine BU rfl ?_)|(refine BL ?_;first|refine BQ ?_)|(refine BR ?_;try simp only [setS]))|refine AA ?_|refine AC ?_|refine AD ?_|refine AE ?_|refine AF rfl rfl ?_|refine AG rfl rfl ?_|refine AH ?_|refine AI ?_|refine AJ ?_|refine AK ?_|refine AL ?_|refine AM ?_|refine AN ?_|refine AO ?_|refine AP ?_|refine AQ rfl ?_|refine AR ?_|refine AS ?_|refine AT rfl ?_|refine AU rfl ?_
          repeat first|(refine BG ?_;first|(refine BH ?_;first|(refine BI ?_;refine BM ?_)|(refine BJ ?_;first|refine BN ?_|refine BO ?_)|refine BV (v_pred rfl rfl (by omega)) ?_|refine BV (aa rfl rfl) ?_|refine BV (la1 rfl) ?_|refine BV (v_bx b1 rfl rfl) ?_|refine BV (ca rfl rfl) ?_|refine BV (c0 (kr _) rfl) ?_|refine BV (v_sgtr rfl rfl hc) ?_|refine BP ?_)|(refine BK ?_;first|refine BS rfl rfl ?_|refine BT rfl rfl ?_|refine BU rfl ?_)|(refine BL ?_;first|refine BQ ?_)|(refine BR ?_;try simp only [setS]))|(refine BX ?_;first|refine BY rfl ?_|(refine BZ ?_;refine CA ?_)|refine CB (v_pred rfl rfl (by omega)) ?_|refine CB (aa rfl rfl) ?_|refine CB (la1 rfl) ?_|refine CB (v_bx b1 rfl rfl) ?_|refine CB (ca rfl rfl) ?_|refine CB (c0 (kr _) rfl) ?_|refine CB (v_sgtr rfl rfl hc) ?_|refine CC ?_|(refine CD ?_;try simp only [setS]))|refine AA ?_|refine AC ?_|refine AD ?_|refine AE ?_|refine AF rfl rfl ?_|refine AG rfl rfl ?_|refine AH ?_|refine AI ?_|refine AJ ?_|refine AK ?_|refine AL ?_|refine AM ?_|refine AN ?_|refine AO ?_|refine AP ?_|refine AQ rfl ?_|refine AR ?_|refine AS ?_|refine AT rfl ?_|refine AU rfl ?_
          exact mid_norm ⟨rfl, j + 1, _, hk, hgt, fun z _ q1 => by rw [Nat.add_sub_cancel, hy] at q1; cases q1; exact hc, rfl⟩
    rintro t' h' ⟨eh, k, s6', hk, hgt, hle, rfl⟩
    have eh := eh.symm
    subst eh
    have hr2 := ho.rs
    obtain ⟨va, w1, w2, w3, w4⟩ := hr2.sl (lo := 0) (hi := k) (Nat.zero_le _) (by omega)
    obtain ⟨vb, x1, x2, x3, x4⟩ := hr2.sl (lo := k) (hi := i) (by omega) (Nat.le_refl _)
    have ew : ((strs ns).drop (0 * 1)).take ((k - 0) * 1) = strs (ns.take k) := by unfold strs; simp
    have ex : ((strs ns).drop (k * 1)).take ((i - k) * 1) = strs (ns.drop k) := by unfold strs; rw [Nat.mul_one, Nat.mul_one, ← List.map_drop, List.take_of_length_le (by rw [List.length_map, List.length_drop]; omega)]
    rw [ew, Nat.sub_zero] at w1
    rw [ex] at x1
    repeat first|(refine BG ?_;first|(refine BH ?_;first|(refine BI ?_;refine BM ?_)|(refine BJ ?_;first|refine BN ?_|refine BO ?_)|refine BV (v_bx b1 rfl rfl) ?_|refine BV (ca rfl rfl) ?_|refine BV (c0 (kr _) rfl) ?_|refine BV (w4 (by rfl) (.inl ⟨rfl, rfl⟩) (.inr ⟨_, _, rfl, rfl⟩)) ?_|refine BV (x4 (by rfl) (.inr ⟨_, _, rfl, rfl⟩) (.inl ⟨rfl, rfl⟩)) ?_|refine BP ?_)|(refine BK ?_;first|refine BS rfl rfl ?_|refine BT rfl rfl ?_|refine BU rfl ?_)|(refine BL ?_;first|refine BQ ?_)|(refine BR ?_;try simp only [setS]))|(refine BX ?_;first|refine BY rfl ?_|(refine BZ ?_;refine CA ?_)|refine CB (v_bx b1 rfl rfl) ?_|refine CB (ca rfl rfl) ?_|refine CB (c0 (kr _) rfl) ?_|refine CB (w4 (by rfl) (.inl ⟨rfl, rfl⟩) (.inr ⟨_, _, rfl, rfl⟩)) ?_|refine CB (x4 (by rfl) (.inr ⟨_, _, rfl, rfl⟩) (.inl ⟨rfl, rfl⟩)) ?_|refine CC ?_|(refine CD ?_;try simp only [setS]))|refine AA ?_|refine AC ?_|refine AD ?_|refine AE ?_|refine AF rfl rfl ?_|refine AG rfl rfl ?_|refine AH ?_|refine AI ?_|refine AJ ?_|refine AK ?_|refine AL ?_|refine AM ?_|refine AN ?_|refine AO ?_|refine AP ?_|refine AQ rfl ?_|refine AR ?_|refine AS ?_|refine AT rfl ?_|refine AU rfl ?_
    have kp : Keep NoB hh (hh.push (.rw [])) := Keep.push _ _ _
    have oz : OS (hh.push (.rw [])) 1 (.slice 1 hh.n 0 0 (some 0)) 0 [] := ⟨rfl, rfl, Nat.zero_lt_one, Nat.lt_succ_self _, [], Hp.push_self _ _, by simp, by simp, by simp⟩
    have bz : Bx (hh.push (.rw [])) hh.n [] := bx_push
    have bp := b1.up kp
    refine wd_alc (cs := []) ef_bs0 (by (try simp only [List.nil_append, List.cons_append]);repeat first|exact chk_nil|(apply chk_at;(focus exact rfl);first|exact pa_skp|(refine pa_mov ?_;first|exact (v_bx bp rfl rfl)|exact (ca rfl rfl)|exact (c0 kp rfl)|exact (w4 (by rfl) (.inl ⟨rfl, rfl⟩) (.inr ⟨_, _, rfl, rfl⟩))|exact (x4 (by rfl) (.inr ⟨_, _, rfl, rfl⟩) (.inl ⟨rfl, rfl⟩))|exact rfl))) ?_
    have w1p := w1.up kp
    have x1p := x1.up kp
    have hpn : (hh.push (.rw [])).n = hh.n + 1 := rfl
    generalize hh.push (.rw []) = hp1 at *
    repeat first|(refine BG ?_;first|(refine BH ?_;first|(refine BI ?_;refine BM ?_)|(refine BJ ?_;first|refine BN ?_|refine BO ?_)|refine BP ?_)|(refine BK ?_;first|refine BS rfl rfl ?_|refine BT rfl rfl ?_|refine BU rfl ?_)|(refine BL ?_;first|refine BQ ?_)|(refine BR ?_;try simp only [setS]))|(refine BX ?_;first|refine BY rfl ?_|(refine BZ ?_;refine CA ?_)|refine CC ?_|(refine CD ?_;try simp only [setS]))|refine AA ?_|refine AC ?_|refine AD ?_|refine AE ?_|refine AF rfl rfl ?_|refine AG rfl rfl ?_|refine AH ?_|refine AI ?_|refine AJ ?_|refine AK ?_|refine AL ?_|refine AM ?_|refine AN ?_|refine AO ?_|refine AP ?_|refine AQ rfl ?_|refine AR ?_|refine AS ?_|refine AT rfl ?_|refine AU rfl ?_
    have kq : Keep NoB hp1 (hp1.push (.rw [.str q.name])) := Keep.push _ _ _
    have ky : RS (hp1.push (.rw [.str q.name])) 1 (.slice 1 hp1.n 0 1 (some 1)) 1 [.str q.name] := rs_push (n := 1) (z := 1) rfl
    have by_ : Bx (hp1.push (.rw [.str q.name])) hp1.n [.str q.name] := bx_push
    have bq := bp.up kq
    have K2 := kp.and kq
    have bzq := bz.up kq
    refine wd_alc (cs := [.str q.name]) (ef_bs1' rfl rfl rfl) (by (try simp only [List.nil_append, List.cons_append]);repeat first|exact chk_nil|(apply chk_at;(focus exact rfl);first|exact pa_skp|exact (pa_alc bzq.get)|(refine pa_mov ?_;first|exact (v_bx bq rfl rfl)|exact (ca rfl rfl)|exact (c0 K2 rfl)|exact (w4 (by rfl) (.inl ⟨rfl, rfl⟩) (.inr ⟨_, _, rfl, rfl⟩))|exact (x4 (by rfl) (.inr ⟨_, _, rfl, rfl⟩) (.inl ⟨rfl, rfl⟩))|exact rfl))) ?_
    have w1q := w1p.up kq
    have x1q := x1p.up kq
    have ozq := oz.up kq
    have hqn2 : (hp1.push (.rw [.str q.name])).n = hh.n + 2 := by rw [push_n, hpn]
    generalize hp1.push (.rw [.str q.name]) = hp2 at *
    have htl : (strs (ns.take k)).length = k := by unfold strs; rw [List.length_map, List.length_take]; omega
    have hdl : (strs (ns.drop k)).length = i - k := by unfold strs; rw [List.length_map, List.length_drop]; omega
    repeat first|(refine BG ?_;first|(refine BH ?_;first|(refine BI ?_;refine BM ?_)|(refine BJ ?_;first|refine BN ?_|refine BO ?_)|refine BP ?_)|(refine BK ?_;first|refine BS rfl rfl ?_|refine BT rfl rfl ?_|refine BU rfl ?_)|(refine BL ?_;first|refine BQ ?_)|(refine BR ?_;try simp only [setS]))|(refine BX ?_;first|refine BY rfl ?_|(refine BZ ?_;refine CA ?_)|refine CC ?_|(refine CD ?_;try simp only [setS]))|refine AA ?_|refine AC ?_|refine AD ?_|refine AE ?_|refine AF rfl rfl ?_|refine AG rfl rfl ?_|refine AH ?_|refine AI ?_|refine AJ ?_|refine AK ?_|refine AL ?_|refine AM ?_|refine AN ?_|refine AO ?_|refine AP ?_|refine AQ rfl ?_|refine AR ?_|refine AS ?_|refine AT rfl ?_|refine AU rfl ?_
    refine wd_app rfl rfl ozq Nat.zero_lt_one w1q (by omega) (by omega) fun y h3 a1 a2 a3 => ?_
    rw [Nat.zero_add, List.nil_append] at a1
    have a2' : Keep (OneB hh.n) hp2 h3 := a2
    have K3 : Keep NoB hh h3 := K2.own a2' (fun k q => by have q : k = hh.n := q; omega)
    have lo3 : ∀ k, blk y k → k = hh.n ∨ hh.n + 2 ≤ k := fun k q => by
      rcases a3 k q with q | q
      · exact .inl q
      · right; omega
    have b3 := b1.up K3
    have by3 := by_.keep a2' (fun q => by have q : hp1.n = hh.n := q; omega)
    have ky3 := ky.keep a2' (fun k q1 q2 => by have q1 : k = hp1.n := q1; have q2 : k = hh.n := q2; omega)
    have x13 := x1.up K3
    refine ⟨(by (try simp only [List.nil_append, List.cons_append]);repeat first|exact chk_nil|(apply chk_at;(focus exact rfl);first|exact pa_skp|exact (pa_alc by3.get)|(refine pa_mov ?_;first|exact (v_bx b3 rfl rfl)|exact (ca rfl rfl)|exact (c0 K3 rfl)|exact (w4 (by rfl) (.inl ⟨rfl, rfl⟩) (.inr ⟨_, _, rfl, rfl⟩))|exact (x4 (by rfl) (.inr ⟨_, _, rfl, rfl⟩) (.inl ⟨rfl, rfl⟩))|exact rfl))), ?_⟩
    repeat first|(refine BG ?_;first|(refine BH ?_;first|(refine BI ?_;refine BM ?_)|(refine BJ ?_;first|refine BN ?_|refine BO ?_)|refine BP ?_)|(refine BK ?_;first|refine BS rfl rfl ?_|refine BT rfl rfl ?_|refine BU rfl ?_)|(refine BL ?_;first|refine BQ ?_)|(refine BR ?_;try simp only [setS]))|(refine BX ?_;first|refine BY rfl ?_|(refine BZ ?_;refine CA ?_)|refine CC ?_|(refine CD ?_;try simp only [setS]))|refine AA ?_|refine AC ?_|refine AD ?_|refine AE ?_|refine AF rfl rfl ?_|refine AG rfl rfl ?_|refine AH ?_|refine AI ?_|refine AJ ?_|refine AK ?_|refine AL ?_|refine AM ?_|refine AN ?_|refine AO ?_|refine AP ?_|refine AQ rfl ?_|refine AR ?_|refine AS ?_|refine AT rfl ?_|refine AU rfl ?_
    refine wd_app rfl rfl a1 Nat.zero_lt_one ky3 (by omega) (by omega) fun z h4 a4 a5 a6 => ?_
    have K4 : Keep NoB hh h4 := K3.own a5 (fun k q => by have := lo3 k q; omega)
    have lo4 : ∀ k, blk z k → hh.n ≤ k := fun k q => by
      rcases a6 k q with q | q
      · have := lo3 k q; omega
      · have := K3.n; omega
    have x14 := x1.up K4
    refine ⟨(by (try simp only [List.nil_append, List.cons_append]);repeat first|exact chk_nil|(apply chk_at;(focus exact rfl);first|exact pa_skp|(refine pa_mov ?_;first|exact (x4 (by rfl) (.inr ⟨_, _, rfl, rfl⟩) (.inl ⟨rfl, rfl⟩))|exact rfl))), ?_⟩
    repeat first|(refine BG ?_;first|(refine BH ?_;first|(refine BI ?_;refine BM ?_)|(refine BJ ?_;first|refine BN ?_|refine BO ?_)|refine BP ?_)|(refine BK ?_;first|refine BS rfl rfl ?_|refine BT rfl rfl ?_|refine BU rfl ?_)|(refine BL ?_;first|refine BQ ?_)|(refine BR ?_;try simp only [setS]))|(refine BX ?_;first|refine BY rfl ?_|(refine BZ ?_;refine CA ?_)|refine CC ?_|(refine CD ?_;try simp only [setS]))|refine AA ?_|refine AC ?_|refine AD ?_|refine AE ?_|refine AF rfl rfl ?_|refine AG rfl rfl ?_|refine AH ?_|refine AI ?_|refine AJ ?_|refine AK ?_|refine AL ?_|refine AM ?_|refine AN ?_|refine AO ?_|refine AP ?_|refine AQ rfl ?_|refine AR ?_|refine AS ?_|refine AT rfl ?_|refine AU rfl ?_
    refine wd_app rfl rfl a4 Nat.zero_lt_one x14 (by omega) (by omega) fun u h5 a7 a8 a9 => ?_
    have K5 : Keep NoB hh h5 := K4.own a8 lo4
    have lo5 : ∀ k, blk u k → hh.n ≤ k := fun k q => by
      rcases a9 k q with q | q
      · exact lo4 k q
      · have := K4.n; omega
    have eall : strs (ns.take k) ++ [AV.str q.name] ++ strs (ns.drop k) = strs ((ns.take k ++ [q.name]) ++ ns.drop k) := by unfold strs; simp
    rw [eall, show k + 1 + (i - k) = i + 1 by omega] at a7
    refine ⟨chk_nil, ?_⟩
    repeat first|(refine BG ?_;first|(refine BH ?_;first|(refine BI ?_;refine BM ?_)|(refine BJ ?_;first|refine BN ?_|refine BO ?_)|refine BP ?_)|(refine BK ?_;first|refine BS rfl rfl ?_|refine BT rfl rfl ?_|refine BU rfl ?_)|(refine BL ?_;first|refine BQ ?_)|(refine BR ?_;try simp only [setS]))|(refine BX ?_;first|refine BY rfl ?_|(refine BZ ?_;refine CA ?_)|refine CC ?_|(refine CD ?_;try simp only [setS]))|refine AA ?_|refine AC ?_|refine AD ?_|refine AE ?_|refine AF rfl rfl ?_|refine AG rfl rfl ?_|refine AH ?_|refine AI ?_|refine AJ ?_|refine AK ?_|refine AL ?_|refine AM ?_|refine AN ?_|refine AO ?_|refine AP ?_|refine AQ rfl ?_|refine AR ?_|refine AS ?_|refine AT rfl ?_|refine AU rfl ?_
    rw [show ((i : Int) + 1) = ((i + 1 : Nat) : Int) by omega]
    refine round_norm (n - 1) (by omega) ⟨i + 1, _, _, _, _, _, by omega, by omega, ins_rising hns (by omega) hqn hgt hle, ?_, K.and K5, a7, fun k q => by have := lo5 k q; omega, rfl⟩
    rw [List.take_add_one, hq, List.map_append]
    refine List.Perm.trans ?_ (hnp.append_right _)
    have e2 : (ns.take k ++ [q.name] ++ ns.drop k).Perm (ns.take k ++ ns.drop k ++ [q.name]) := by
      rw [List.append_assoc, List.append_assoc]
      exact List.perm_append_comm.append_left _
    rw [List.take_append_drop] at e2
    exact e2
  · rw [List.take_of_length_le (by omega)] at hnp
    have e : ns = m.fs.map MF.name := by
      refine rising_perm hns (List.pairwise_map.2 a.ok.rising) (hnp.trans ?_)
      have h2 := hp.map MF.name
      rw [List.map_map] at h2
      exact h2
    have hnl : i = m.fs.length := by omega
    subst hnl
    rw [e] at ho
    repeat first|(refine BG ?_;first|(refine BH ?_;first|(refine BI ?_;refine BM ?_)|(refine BJ ?_;first|refine BN ?_|refine BO ?_)|refine BV (v_bx b1 rfl rfl) ?_|refine BV (l1.arr.rs.lenv (by rfl)) ?_|refine BP ?_)|(refine BK ?_;first|refine BS rfl rfl ?_|refine BT rfl rfl ?_|refine BU rfl ?_)|(refine BL ?_;first|refine BQ ?_)|(refine BR ?_;try simp only [setS]))|refine AA ?_|refine AC ?_|refine AD ?_|refine AE ?_|refine AF rfl rfl ?_|refine AG rfl rfl ?_|refine AH ?_|refine AI ?_|refine AJ ?_|refine AK ?_|refine AL ?_|refine AM ?_|refine AN ?_|refine AO ?_|refine AP ?_|refine AQ rfl ?_|refine AR ?_|refine AS ?_|refine AT rfl ?_|refine AU rfl ?_
    exact ⟨K, ho.rs, hlo⟩
end
end Am
end Go.Proofs.Ythgcdoahoechhaa
