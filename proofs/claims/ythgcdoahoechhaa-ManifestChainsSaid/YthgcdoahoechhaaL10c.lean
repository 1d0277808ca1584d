/- ManifestChains: the law, walked. -/
import Derived.Test.YthgcdoahoechhaaMJ
import Derived.Test.YthgcdoahoechhaaMfQ
set_option linter.unusedVariables false
set_option linter.unusedSimpArgs false
namespace Go.Proofs.Ythgcdoahoechhaa
namespace Am
open Go.RowKit
set_option maxRecDepth 100000
def b_ManifestChains : BF := ⟨72, [0, 1, 4, 5, 6, 7, 8, 9, 10, 11, 14, 22, 46, 70], (.seq (.reg [.mk none (.slot 2) (.mov (.mv (.const (.bool false))))]) (.seq (.reg [.mk none (.env 12) (.call 48 []), .mk none (.slot 3) (.mov (.mv (.env 12)))]) (.seq (.seq (.reg [.mk none (.env 13) (.mov (.mv (.slot 3))), .mk none (.slot 10) (.mov (.bin .eql .ptr (.env 13) (.const .nilp)))]) (.cond (.slot 10) (.seq (.reg [.mk none (.slot 2) (.mov (.mv (.const (.bool false))))]) .ret) .skip)) (.seq (.seq (.reg [.mk none (.slot 4) (.mov (.mv (.const (.int .i64 0))))]) (.block 0 (.loop (.seq (.seq (.reg [.mk none (.env 15) (.mov (.mv (.slot 4))), .mk none (.env 16) (.mov (.mv (.slot 0))), .mk none (.env 17) (.mov (.lenv (.env 16))), .mk none (.env 18) (.mov (.bin .lss .no (.env 15) (.env 17))), .mk none (.env 19) (.mov (.mv (.env 18))), .mk (some ((.env 19), true)) (.env 20) (.mov (.mv (.slot 4))), .mk (some ((.env 19), true)) (.env 21) (.mov (.bin .lss .no (.env 20) (.const (.int .i64 8)))), .mk none (.slot 11) (.mov (.pick (.env 19) (.env 21) (.const (.bool false))))]) (.cond (.slot 11) .skip (.exit 0))) (.seq (.block 1 (.seq (.reg [.mk none (.env 25) (.mov (.mv (.slot 0))), .mk none (.env 26) (.mov (.mv (.slot 4))), .mk none (.env 27) (.mov (.iaddr 1 (.env 25) (.env 26))), .mk none (.env 28) (.mov (.ld1 (.env 27))), .mk none (.env 29) (.mov (.mv (.slot 1))), .mk none (.env 30) (.mov (.mv (.slot 4))), .mk none (.env 31) (.mov (.bin .add .no (.const (.int .i64 1)) (.env 30))), .mk none (.env 32) (.call 34 [(.env 28), (.env 29), (.env 31)]), .mk none (.slot 5) (.eff (.alloc [.snil, (.int .i64 0), (.int .i64 0)])), .mk none .none (.eff (.store 3 (.slot 5) (.env 32)))]) (.seq (.reg [.mk none (.env 33) (.mov (.ldn 3 (.slot 5))), .mk none (.slot 6) (.eff (.alloc [.snil, (.int .i64 0), (.int .i64 0)])), .mk none .none (.eff (.store 3 (.slot 6) (.env 33)))]) (.seq (.reg [.mk none (.env 34) (.mov (.faddr 1 (.slot 5))), .mk none (.env 35) (.mov (.ld1 (.env 34))), .mk none (.env 36) (.mov (.faddr 2 (.slot 6))), .mk none .none (.eff (.store 1 (.env 36) (.env 35)))]) (.seq (.seq (.reg [.mk none (.env 37) (.mov (.mv (.slot 3))), .mk none (.env 38) (.mov (.ldn 3 (.slot 5))), .mk none (.env 39) (.call 49 [(.env 37), (.env 38)]), .mk none (.env 40) (.mov (.bin .neq .no (.env 39) (.const (.int .i64 0)))), .mk none (.env 41) (.mov (.mv (.env 40))), .mk (some ((.env 41), false)) (.env 42) (.mov (.mv (.slot 3))), .mk (some ((.env 41), false)) (.env 43) (.mov (.ldn 3 (.slot 6))), .mk (some ((.env 41), false)) (.env 44) (.call 49 [(.env 42), (.env 43)]), .mk (some ((.env 41), false)) (.env 45) (.mov (.bin .neq .no (.env 44) (.const (.int .i64 1)))), .mk none (.slot 12) (.mov (.pick (.env 41) (.const (.bool true)) (.env 45)))]) (.cond (.slot 12) (.seq (.reg [.mk none (.slot 2) (.mov (.mv (.const (.bool false))))]) .ret) .skip)) (.seq (.reg [.mk none (.env 48) (.mov (.mv (.slot 3))), .mk none (.env 49) (.call 44 [(.env 48)]), .mk none (.env 47) (.mov (.mv (.env 49))), .mk none (.env 50) (.mov (.ext 0 (.env 47))), .mk none (.env 51) (.mov (.ext 1 (.env 47))), .mk none (.env 52) (.mov (.ext 2 (.env 47))), .mk none (.slot 7) (.eff (.alloc [.snil, (.int .i64 0), (.int .i64 0)])), .mk none .none (.eff (.store 3 (.slot 7) (.env 50))), .mk none (.slot 8) (.mov (.mv (.env 51))), .mk none (.slot 9) (.mov (.mv (.env 52)))]) (.seq (.reg [.mk none (.env 53) (.mov (.mv (.slot 8))), .mk none (.env 54) (.mov (.notb (.env 53))), .mk none (.env 55) (.mov (.mv (.env 54))), .mk (some ((.env 55), false)) (.env 56) (.mov (.mv (.slot 9))), .mk (some ((.env 55), false)) (.env 57) (.mov (.bin .neq .no (.env 56) (.const (.int .i64 0)))), .mk none (.env 58) (.mov (.pick (.env 55) (.const (.bool true)) (.env 57))), .mk none (.env 59) (.mov (.mv (.env 58))), .mk (some ((.env 59), false)) (.env 60) (.mov (.ldn 3 (.slot 7))), .mk (some ((.env 59), false)) (.env 61) (.mov (.ldn 3 (.slot 5))), .mk (some ((.env 59), false)) (.env 62) (.call 47 [(.env 60), (.env 61)]), .mk (some ((.env 59), false)) (.env 63) (.mov (.notb (.env 62))), .mk none (.env 64) (.mov (.pick (.env 59) (.const (.bool true)) (.env 63))), .mk none (.env 65) (.mov (.mv (.env 64))), .mk (some ((.env 65), false)) (.env 66) (.mov (.mv (.slot 3))), .mk (some ((.env 65), false)) (.env 67) (.call 33 [(.env 66)]), .mk (some ((.env 65), false)) (.env 68) (.mov (.lenv (.env 67))), .mk (some ((.env 65), false)) (.env 69) (.mov (.bin .neq .no (.env 68) (.const (.int .i64 1)))), .mk none (.slot 13) (.mov (.pick (.env 65) (.const (.bool true)) (.env 69)))]) (.cond (.slot 13) (.seq (.reg [.mk none (.slot 2) (.mov (.mv (.const (.bool false))))]) .ret) .skip)))))))) (.reg [.mk none (.env 23) (.mov (.mv (.slot 4))), .mk none (.env 24) (.mov (.bin .add .no (.env 23) (.const (.int .i64 1)))), .mk none (.slot 4) (.mov (.mv (.env 24)))])))))) (.seq (.reg [.mk none (.env 71) (.call 41 []), .mk none (.slot 2) (.mov (.mv (.env 71)))]) .ret))))), [.slot (.slot 2)]⟩
section
variable {E : Nat → Option (Ent MD)}
theorem may_bad {l : List Int} {w : Int} : mayF l w w = false := by
  cases h : mayF l w w with
  | false => rfl
  | true => have := (mayF_iff.1 h).wn; omega
theorem writeF_bad {x : MD} {l : List Int} {w n : Int} (h : mayF l w n = false) : writeF x l w n = (1, x) := by
  unfold writeF
  rw [if_pos h]
theorem one_fl (b : Bs) (s : Nat) : (FL (some (b, s)) none).length = 1 := rfl
set_option maxHeartbeats 4000000 in
theorem chains_ok (hE : ∀ f e, E f = some e → e.plain) (T : MfV E) (hlaw : E 10 = some (.bc b_ManifestChains)) {h : Hp MD} {v : AV} {ls : List (List Int)} {cells : List AV} {wal : Int}
    (hv : RS h 1 v ls.length cells) (hq : ∀ (i : Nat) x l, cells[i]? = some x → ls[i]? = some l → IntsQ h x l) (hlen : ls.length ≤ maxLen) (hw : I64 wal) :
    WF (lim E) 10 [v, .int .i64 wal] h fun r _ => r = .bool true := by
  refine wf_bc hE hlaw rfl ?_
  simp only [b_ManifestChains, List.map, getS]
  have hmx : (maxLen : Nat) = 9223372036854775807 := rfl
  repeat first|(refine BG ?_;first|(refine BH ?_;first|(refine BI ?_;refine BM ?_)|(refine BJ ?_;first|refine BN ?_|refine BO ?_)|refine BP ?_)|(refine BK ?_;first|refine BS rfl rfl ?_|refine BT rfl rfl ?_|refine BU rfl ?_)|(refine BL ?_;first|refine BQ ?_)|(refine BR ?_;try simp only [setS]))|refine AA ?_|refine AC ?_|refine AD ?_|refine AE ?_|refine AF rfl rfl ?_|refine AG rfl rfl ?_|refine AH ?_|refine AI ?_|refine AJ ?_|refine AK ?_|refine AL ?_|refine AM ?_|refine AN ?_|refine AO ?_|refine AP ?_|refine AQ rfl ?_|refine AR ?_|refine AS ?_|refine AT rfl ?_|refine AU rfl ?_
  refine wr_call_e rfl ((fresh_ok hE T).mono fun r h1 ⟨e1, d1, k1⟩ => ?_)
  subst e1
  repeat first|(refine BG ?_;first|(refine BH ?_;first|(refine BI ?_;refine BM ?_)|(refine BJ ?_;first|refine BN ?_|refine BO ?_)|refine BV (v_pnil rfl) ?_|refine BP ?_)|(refine BK ?_;first|refine BS rfl rfl ?_|refine BT rfl rfl ?_|refine BU rfl ?_)|(refine BL ?_;first|refine BQ ?_)|(refine BR ?_;try simp only [setS]))|refine AA ?_|refine AC ?_|refine AD ?_|refine AE ?_|refine AF rfl rfl ?_|refine AG rfl rfl ?_|refine AH ?_|refine AI ?_|refine AJ ?_|refine AK ?_|refine AL ?_|refine AM ?_|refine AN ?_|refine AO ?_|refine AP ?_|refine AQ rfl ?_|refine AR ?_|refine AS ?_|refine AT rfl ?_|refine AU rfl ?_
  have hcl := hv.len
  refine wb_loop (fun n t h' => ∃ (i : Nat) (x : MD) (o : Option (Bs × Nat)) (s5 s6 s7 s8 s9 s10 s11 s12 s13 : AV), i ≤ 8 ∧ n = 8 - i ∧ i ≤ ls.length ∧ Keep NoB h h' ∧ Ob h' h.n x ∧ Ready x ∧ x.fs = FL o none ∧ sz o ≤ 10000 ∧
    t = [v, .int .i64 wal, .bool false, .ptr h.n 0, .int .i64 i, s5, s6, s7, s8, s9, s10, s11, s12, s13]) ?_ 8 _ _ ⟨0, MD.new 16777216, none, _, _, _, _, _, _, _, _, _, by omega, by omega, by omega, k1, d1, ⟨rfl, rfl, rfl⟩, rfl, by decide, rfl⟩
  rintro n t h' ⟨i, x, o, s5, s6, s7, s8, s9, s10, s11, s12, s13, hi8, hn, hil, K, d, hR, hfs, hsz, rfl⟩
  have hv' := hv.up K
  have hfl : x.fs.length ≤ 1000000 := by rw [hfs]; exact len_fl' (by omega)
  by_cases hlt : i < ls.length
  · by_cases h8 : i < 8
    · obtain ⟨gg, oo, ca, cl⟩ := hv'.at2 (i := i) hlt
      obtain ⟨c, hc⟩ : ∃ c, cells[i]? = some c := ⟨_, List.getElem?_eq_getElem (by omega)⟩
      obtain ⟨l, hl⟩ : ∃ l, ls[i]? = some l := ⟨_, List.getElem?_eq_getElem hlt⟩
      obtain ⟨q1, q2, q3⟩ := hq i c l hc hl
      rw [hc] at cl
      have cl := @cl NoB _ (Keep.refl _ _) (fun _ _ q => q)
      repeat first|(refine BG ?_;first|(refine BH ?_;first|(refine BI ?_;refine BM ?_)|(refine BJ ?_;first|refine BN ?_|refine BO ?_)|refine BV (hv'.lenv (by rfl)) ?_|refine BV (ca rfl rfl) ?_|refine BV (cl rfl) ?_|refine BP ?_)|(refine BK ?_;first|refine BS rfl rfl ?_|refine BT rfl rfl ?_|refine BU rfl ?_)|(refine BL ?_;first|refine BQ ?_)|(refine BR ?_;try simp only [setS]))|refine AA ?_|refine AC ?_|refine AD ?_|refine AE ?_|refine AF rfl rfl ?_|refine AG rfl rfl ?_|refine AH ?_|refine AI ?_|refine AJ ?_|refine AK ?_|refine AL ?_|refine AM ?_|refine AN ?_|refine AO ?_|refine AP ?_|refine AQ rfl ?_|refine AR ?_|refine AS ?_|refine AT rfl ?_|refine AU rfl ?_
      refine wr_call_e rfl ((made_ok hE T.made T.within (q1.up K) q2 q3 hw (by unfold I64; omega)).mono fun r h2 ⟨xv, e2, k2, o2, l2⟩ => ?_)
      subst e2
      have hM := madeF_may l wal (1 + (i : Int))
      generalize madeF l wal (1 + (i : Int)) = q at *
      obtain ⟨xs, xw, xn⟩ := q
      simp only at o2 hM ⊢
      have hxl : xs.length ≤ 1000000 := by have := hM.len; omega
      have K2 := K.and k2
      have d2 := d.up k2
      have n2 := d2.lt
      have kp : Keep NoB h2 (h2.push (.rw [.snil, .int .i64 0, .int .i64 0])) := Keep.push _ _ _
      have b5 : Bx (h2.push (.rw [.snil, .int .i64 0, .int .i64 0])) h2.n _ := bx_push
      repeat first|(refine BG ?_;first|(refine BH ?_;first|(refine BI ?_;refine BM ?_)|(refine BJ ?_;first|refine BN ?_|refine BO ?_)|refine BP ?_)|(refine BK ?_;first|refine BS rfl rfl ?_|refine BT rfl rfl ?_|refine BU rfl ?_)|(refine BL ?_;first|refine BW (ef_bxn b5 rfl rfl (all3 o2.one.2) rfl (Nat.le_refl _)) ?_|refine BQ ?_)|(refine BR ?_;try simp only [setS]))|refine AA ?_|refine AC ?_|refine AD ?_|refine AE ?_|refine AF rfl rfl ?_|refine AG rfl rfl ?_|refine AH ?_|refine AI ?_|refine AJ ?_|refine AK ?_|refine AL ?_|refine AM ?_|refine AN ?_|refine AO ?_|refine AP ?_|refine AQ rfl ?_|refine AR ?_|refine AS ?_|refine AT rfl ?_|refine AU rfl ?_
      have kq : Keep (OneB h2.n) (h2.push (.rw [.snil, .int .i64 0, .int .i64 0])) ((h2.push (.rw [.snil, .int .i64 0, .int .i64 0])).put h2.n (.rw [xv, .int .i64 xw, .int .i64 xn])) := Keep.put _ _ _ rfl
      have b5 : Bx ((h2.push (.rw [.snil, .int .i64 0, .int .i64 0])).put h2.n (.rw [xv, .int .i64 xw, .int .i64 xn])) h2.n [xv, .int .i64 xw, .int .i64 xn] := b5.put
      have o3 := (o2.up kp).keep kq (fun k q1 q2 => by have := o2.lt k q1; have q2 : k = h2.n := q2; omega)
      have d3 := (d2.up kp).keep kq (fun q => by have q : h.n = h2.n := q; omega)
      have n20 := K2.n
      have K3 := (K2.and kp).own kq (fun k q => by have q : k = h2.n := q; omega)
      have n3 : ((h2.push (.rw [.snil, .int .i64 0, .int .i64 0])).put h2.n (.rw [xv, .int .i64 xw, .int .i64 xn])).n = h2.n + 1 := rfl
      obtain ⟨h3, hh3⟩ : ∃ h3 : Hp MD, h3 = (h2.push (.rw [.snil, .int .i64 0, .int .i64 0])).put h2.n (.rw [xv, .int .i64 xw, .int .i64 xn]) := ⟨_, rfl⟩
      refine wr_heap (h' := h3) (by rw [hh3]; rfl) ?_
      rw [← hh3] at b5 o3 d3 K3 n3
      clear kp kq hh3
      have kp : Keep NoB h3 (h3.push (.rw [.snil, .int .i64 0, .int .i64 0])) := Keep.push _ _ _
      have b6 : Bx (h3.push (.rw [.snil, .int .i64 0, .int .i64 0])) h3.n _ := bx_push
      have b5' := b5.up kp
      have b6' : Bx ((h3.push (.rw [.snil, .int .i64 0, .int .i64 0])).put h3.n (.rw [xv, .int .i64 xw, .int .i64 xn])) h3.n [xv, .int .i64 xw, .int .i64 xn] := b6.put
      have b5'' := b5'.put_ne (c := .rw [xv, .int .i64 xw, .int .i64 xn]) (j := h3.n) (by omega)
      repeat first|(refine BG ?_;first|(refine BH ?_;first|(refine BI ?_;refine BM ?_)|(refine BJ ?_;first|refine BN ?_|refine BO ?_)|refine BV (v_bxn b5 rfl (Nat.le_refl _)) ?_|refine BV (v_bx b5'' rfl rfl) ?_|refine BP ?_)|(refine BK ?_;first|refine BS rfl rfl ?_|refine BT rfl rfl ?_|refine BU rfl ?_)|(refine BL ?_;first|refine BW (ef_bxn b6 rfl rfl (all3 o3.one.2) rfl (Nat.le_refl _)) ?_|refine BW (ef_bx b6' rfl rfl ⟨rfl, rfl⟩ (Nat.lt_succ_self 2)) ?_|refine BQ ?_)|(refine BR ?_;try simp only [setS]))|refine AA ?_|refine AC ?_|refine AD ?_|refine AE ?_|refine AF rfl rfl ?_|refine AG rfl rfl ?_|refine AH ?_|refine AI ?_|refine AJ ?_|refine AK ?_|refine AL ?_|refine AM ?_|refine AN ?_|refine AO ?_|refine AP ?_|refine AQ rfl ?_|refine AR ?_|refine AS ?_|refine AT rfl ?_|refine AU rfl ?_
      have kA : Keep (OneB h3.n) (h3.push (.rw [.snil, .int .i64 0, .int .i64 0])) ((h3.push (.rw [.snil, .int .i64 0, .int .i64 0])).put h3.n (.rw [xv, .int .i64 xw, .int .i64 xn])) := Keep.put _ _ _ rfl
      have kB : Keep (OneB h3.n) ((h3.push (.rw [.snil, .int .i64 0, .int .i64 0])).put h3.n (.rw [xv, .int .i64 xw, .int .i64 xn])) (((h3.push (.rw [.snil, .int .i64 0, .int .i64 0])).put h3.n (.rw [xv, .int .i64 xw, .int .i64 xn])).put h3.n (.rw [xv, .int .i64 xw, .int .i64 xw])) := Keep.put _ _ _ rfl
      have kC := kA.trans kB (fun _ _ q => q)
      have ho3 := o3.lt
      have b5 := b5'.keep kC (fun q => by have q : h2.n = h3.n := q; omega)
      have b6 : Bx (((h3.push (.rw [.snil, .int .i64 0, .int .i64 0])).put h3.n (.rw [xv, .int .i64 xw, .int .i64 xn])).put h3.n (.rw [xv, .int .i64 xw, .int .i64 xw])) h3.n [xv, .int .i64 xw, .int .i64 xw] := b6'.put
      have o4 := (o3.up kp).keep kC (fun k q1 q2 => by have := ho3 k q1; have q2 : k = h3.n := q2; omega)
      have hd3 := d3.lt
      have d4 := (d3.up kp).keep kC (fun q => by have q : h.n = h3.n := q; omega)
      have K4 := (K3.and kp).own kC (fun k q => by have q : k = h3.n := q; omega)
      obtain ⟨h4, hh4⟩ : ∃ h4 : Hp MD, h4 = ((h3.push (.rw [.snil, .int .i64 0, .int .i64 0])).put h3.n (.rw [xv, .int .i64 xw, .int .i64 xn])).put h3.n (.rw [xv, .int .i64 xw, .int .i64 xw]) := ⟨_, rfl⟩
      refine wr_heap (h' := h4) (by rw [hh4]; rfl) ?_
      rw [← hh4] at b5 b6 o4 d4 K4
      have n4 : h4.n = h3.n + 1 := by rw [hh4]; rfl
      clear kA kB kC kp hh4 b5' b5'' b6'
      repeat first|(refine BG ?_;first|(refine BH ?_;first|(refine BI ?_;refine BM ?_)|(refine BJ ?_;first|refine BN ?_|refine BO ?_)|refine BV (v_bxn b5 rfl (Nat.le_refl _)) ?_|refine BP ?_)|(refine BK ?_;first|refine BS rfl rfl ?_|refine BT rfl rfl ?_|refine BU rfl ?_)|(refine BL ?_;first|refine BQ ?_)|(refine BR ?_;try simp only [setS]))|refine AA ?_|refine AC ?_|refine AD ?_|refine AE ?_|refine AF rfl rfl ?_|refine AG rfl rfl ?_|refine AH ?_|refine AI ?_|refine AJ ?_|refine AK ?_|refine AL ?_|refine AM ?_|refine AN ?_|refine AO ?_|refine AP ?_|refine AQ rfl ?_|refine AR ?_|refine AS ?_|refine AT rfl ?_|refine AU rfl ?_
      have w1 := write_ready hR hfs hM (by omega)
      refine wr_call_e rfl ((write_ok hE T.toMfIO d4 hfl o4.rs hxl).mono fun r h5 ⟨e5, d5, k5⟩ => ?_)
      rw [w1] at e5 d5
      replace e5 : r = .int .i64 0 := e5
      replace d5 : Ob h5 h.n { x with fs := FL (some (recB (encM xs xw xn), (recB (encM xs xw xn)).length)) none } := d5
      subst e5
      have f5 : ∀ k, OneB h.n k → k = h.n := fun k q => q
      have b5 := b5.keep k5 (fun q => by have q : h2.n = h.n := q; omega)
      have b6 := b6.keep k5 (fun q => by have q : h3.n = h.n := q; omega)
      have o5 := o4.keep k5 (fun k q1 q2 => by have := l2 k q1; have q2 : k = h.n := q2; have := K.n; have := d.lt; omega)
      have K5 := K4.own k5 (fun k q => by have q : k = h.n := q; omega)
      have hR2 : Ready { x with fs := FL (some (recB (encM xs xw xn), (recB (encM xs xw xn)).length)) none } := ⟨hR.limit, hR.armed, hR.down⟩
      have hRl : (recB (encM xs xw xn)).length ≤ 2000 := by rw [recB_len]; have := encM_le hM; omega
      have hgt := get_fl (x := { x with fs := FL (some (recB (encM xs xw xn), (recB (encM xs xw xn)).length)) none }) (B := recB (encM xs xw xn)) (p := none) rfl
      have hfs2 : ({ x with fs := FL (some (recB (encM xs xw xn), (recB (encM xs xw xn)).length)) none } : MD).fs = FL (some (recB (encM xs xw xn), (recB (encM xs xw xn)).length)) none := rfl
      generalize ({ x with fs := FL (some (recB (encM xs xw xn), (recB (encM xs xw xn)).length)) none } : MD) = x2 at *
      have hfl2 : x2.fs.length ≤ 1000000 := by rw [hfs2]; exact len_fl' (by omega)
      repeat first|(refine BG ?_;first|(refine BH ?_;first|(refine BI ?_;refine BM ?_)|(refine BJ ?_;first|refine BN ?_|refine BO ?_)|refine BV (v_bxn b6 rfl (Nat.le_refl _)) ?_|refine BP ?_)|(refine BK ?_;first|refine BS rfl rfl ?_|refine BT rfl rfl ?_|refine BU rfl ?_)|(refine BL ?_;first|refine BQ ?_)|(refine BR ?_;try simp only [setS]))|refine AA ?_|refine AC ?_|refine AD ?_|refine AE ?_|refine AF rfl rfl ?_|refine AG rfl rfl ?_|refine AH ?_|refine AI ?_|refine AJ ?_|refine AK ?_|refine AL ?_|refine AM ?_|refine AN ?_|refine AO ?_|refine AP ?_|refine AQ rfl ?_|refine AR ?_|refine AS ?_|refine AT rfl ?_|refine AU rfl ?_
      refine wr_call_e rfl ((write_ok hE T.toMfIO d5 hfl2 o5.rs hxl).mono fun r h6 ⟨e6, d6, k6⟩ => ?_)
      rw [writeF_bad may_bad] at e6 d6
      replace e6 : r = .int .i64 1 := e6
      replace d6 : Ob h6 h.n x2 := d6
      subst e6
      have b5 := b5.keep k6 (fun q => by have q : h2.n = h.n := q; omega)
      have o6 := o5.keep k6 (fun k q1 q2 => by have := l2 k q1; have q2 : k = h.n := q2; have := K.n; have := d.lt; omega)
      have K6 := K5.own k6 (fun k q => by have q : k = h.n := q; omega)
      repeat first|(refine BG ?_;first|(refine BH ?_;first|(refine BI ?_;refine BM ?_)|(refine BJ ?_;first|refine BN ?_|refine BO ?_)|refine BP ?_)|(refine BK ?_;first|refine BS rfl rfl ?_|refine BT rfl rfl ?_|refine BU rfl ?_)|(refine BL ?_;first|refine BQ ?_)|(refine BR ?_;try simp only [setS]))|refine AA ?_|refine AC ?_|refine AD ?_|refine AE ?_|refine AF rfl rfl ?_|refine AG rfl rfl ?_|refine AH ?_|refine AI ?_|refine AJ ?_|refine AK ?_|refine AL ?_|refine AM ?_|refine AN ?_|refine AO ?_|refine AP ?_|refine AQ rfl ?_|refine AR ?_|refine AS ?_|refine AT rfl ?_|refine AU rfl ?_
      refine wr_call_e rfl ((read_ok hE T.toMfIO d6 hfl2 (fun m hm => by rw [hgt] at hm; cases hm; simp only; omega)).mono fun r h7 ⟨k7, p7⟩ => ?_)
      rw [hgt] at p7
      simp only [Option.map_some, readF_rec hM] at p7
      obtain ⟨tv, e7, o7, l7⟩ := p7
      subst e7
      have b5 := b5.up k7
      have o8 := o6.up k7
      have d7 := d6.up k7
      have K7 := K6.and k7
      have hd7 := d7.lt
      have hb7 := b5.lt
      have kp : Keep NoB h7 (h7.push (.rw [.snil, .int .i64 0, .int .i64 0])) := Keep.push _ _ _
      have bz : Bx (h7.push (.rw [.snil, .int .i64 0, .int .i64 0])) h7.n _ := bx_push
      have kq : Keep (OneB h7.n) (h7.push (.rw [.snil, .int .i64 0, .int .i64 0])) ((h7.push (.rw [.snil, .int .i64 0, .int .i64 0])).put h7.n (.rw [tv, .int .i64 xw, .int .i64 xn])) := Keep.put _ _ _ rfl
      have bz1 : Bx ((h7.push (.rw [.snil, .int .i64 0, .int .i64 0])).put h7.n (.rw [tv, .int .i64 xw, .int .i64 xn])) h7.n [tv, .int .i64 xw, .int .i64 xn] := bz.put
      have b5 := (b5.up kp).keep kq (fun q => by have q : h2.n = h7.n := q; omega)
      have o9 := (o8.up kp).keep kq (fun j q1 q2 => by have := o8.lt j q1; have q2 : j = h7.n := q2; omega)
      have o10 := (o7.up kp).keep kq (fun j q1 q2 => by have := o7.lt j q1; have q2 : j = h7.n := q2; omega)
      have d8 := (d7.up kp).keep kq (fun q => by have q : h.n = h7.n := q; omega)
      have hK7 := K7.n
      have K8 := (K7.and kp).own kq (fun k q => by have q : k = h7.n := q; omega)
      repeat first|(refine BG ?_;first|(refine BH ?_;first|(refine BI ?_;refine BM ?_)|(refine BJ ?_;first|refine BN ?_|refine BO ?_)|refine BV (v_bxn bz1 rfl (Nat.le_refl _)) ?_|refine BV (v_bxn b5 rfl (Nat.le_refl _)) ?_|refine BP ?_)|(refine BK ?_;first|refine BS rfl rfl ?_|refine BT rfl rfl ?_|refine BU rfl ?_)|(refine BL ?_;first|refine BW (ef_bxn bz rfl rfl (all3 o7.one.2) rfl (Nat.le_refl _)) ?_|refine BQ ?_)|(refine BR ?_;try simp only [setS]))|refine AA ?_|refine AC ?_|refine AD ?_|refine AE ?_|refine AF rfl rfl ?_|refine AG rfl rfl ?_|refine AH ?_|refine AI ?_|refine AJ ?_|refine AK ?_|refine AL ?_|refine AM ?_|refine AN ?_|refine AO ?_|refine AP ?_|refine AQ rfl ?_|refine AR ?_|refine AS ?_|refine AT rfl ?_|refine AU rfl ?_
      refine wr_call_e rfl ((same_ok hE T.same T.sameI o10.rs o9.rs hxl hxl).mono fun r h9 ⟨k9, e9⟩ => ?_)
      subst e9
      rw [decide_eq_true (⟨rfl, rfl, rfl⟩ : xs = xs ∧ xw = xw ∧ xn = xn)]
      have d9 := d8.up k9
      have K9 := K8.and k9
      repeat first|(refine BG ?_;first|(refine BH ?_;first|(refine BI ?_;refine BM ?_)|(refine BJ ?_;first|refine BN ?_|refine BO ?_)|refine BP ?_)|(refine BK ?_;first|refine BS rfl rfl ?_|refine BT rfl rfl ?_|refine BU rfl ?_)|(refine BL ?_;first|refine BQ ?_)|(refine BR ?_;try simp only [setS]))|refine AA ?_|refine AC ?_|refine AD ?_|refine AE ?_|refine AF rfl rfl ?_|refine AG rfl rfl ?_|refine AH ?_|refine AI ?_|refine AJ ?_|refine AK ?_|refine AL ?_|refine AM ?_|refine AN ?_|refine AO ?_|refine AP ?_|refine AQ rfl ?_|refine AR ?_|refine AS ?_|refine AT rfl ?_|refine AU rfl ?_
      refine wr_call_e rfl ((w_names hE T.names d9 (by omega)).mono fun r h10 ⟨k10, r10, _⟩ => ?_)
      rw [hfs2, one_fl] at r10
      repeat first|(refine BG ?_;first|(refine BH ?_;first|(refine BI ?_;refine BM ?_)|(refine BJ ?_;first|refine BN ?_|refine BO ?_)|refine BV (r10.lenv (by rfl)) ?_|refine BP ?_)|(refine BK ?_;first|refine BS rfl rfl ?_|refine BT rfl rfl ?_|refine BU rfl ?_)|(refine BL ?_;first|refine BQ ?_)|(refine BR ?_;try simp only [setS]))|refine AA ?_|refine AC ?_|refine AD ?_|refine AE ?_|refine AF rfl rfl ?_|refine AG rfl rfl ?_|refine AH ?_|refine AI ?_|refine AJ ?_|refine AK ?_|refine AL ?_|refine AM ?_|refine AN ?_|refine AO ?_|refine AP ?_|refine AQ rfl ?_|refine AR ?_|refine AS ?_|refine AT rfl ?_|refine AU rfl ?_
      rw [show ((i : Int) + 1) = ((i + 1 : Nat) : Int) by omega]
      exact round_norm (n - 1) (by omega) ⟨i + 1, x2, _, _, _, _, _, _, _, _, _, _, by omega, by omega, by omega, K9.and k10, d9.up k10, hR2, hfs2, by show (recB (encM xs xw xn)).length ≤ 10000; omega, rfl⟩
    · have h8' : i = 8 := by omega
      subst h8'
      have hlt' : (8 : Int) < ls.length := by omega
      repeat first|(refine BG ?_;first|(refine BH ?_;first|(refine BI ?_;refine BM ?_)|(refine BJ ?_;first|refine BN ?_|refine BO ?_)|refine BV (hv'.lenv (by rfl)) ?_|refine BP ?_)|(refine BK ?_;first|refine BS rfl rfl ?_|refine BT rfl rfl ?_|refine BU rfl ?_)|(refine BL ?_;first|refine BQ ?_)|(refine BR ?_;try simp only [setS]))|refine AA ?_|refine AC ?_|refine AD ?_|refine AE ?_|refine AF rfl rfl ?_|refine AG rfl rfl ?_|refine AH ?_|refine AI ?_|refine AJ ?_|refine AK ?_|refine AL ?_|refine AM ?_|refine AN ?_|refine AO ?_|refine AP ?_|refine AQ rfl ?_|refine AR ?_|refine AS ?_|refine AT rfl ?_|refine AU rfl ?_
      refine wr_call_e rfl ((wf_true hE T.known).mono fun r h14 ⟨e14, e15⟩ => ?_)
      subst e14 e15
      repeat first|(refine BG ?_;first|(refine BH ?_;first|(refine BI ?_;refine BM ?_)|(refine BJ ?_;first|refine BN ?_|refine BO ?_)|refine BP ?_)|(refine BK ?_;first|refine BS rfl rfl ?_|refine BT rfl rfl ?_|refine BU rfl ?_)|(refine BL ?_;first|refine BQ ?_)|(refine BR ?_;try simp only [setS]))|refine AA ?_|refine AC ?_|refine AD ?_|refine AE ?_|refine AF rfl rfl ?_|refine AG rfl rfl ?_|refine AH ?_|refine AI ?_|refine AJ ?_|refine AK ?_|refine AL ?_|refine AM ?_|refine AN ?_|refine AO ?_|refine AP ?_|refine AQ rfl ?_|refine AR ?_|refine AS ?_|refine AT rfl ?_|refine AU rfl ?_
      rfl
  · repeat first|(refine BG ?_;first|(refine BH ?_;first|(refine BI ?_;refine BM ?_)|(refine BJ ?_;first|refine BN ?_|refine BO ?_)|refine BV (hv'.lenv (by rfl)) ?_|refine BP ?_)|(refine BK ?_;first|refine BS rfl rfl ?_|refine BT rfl rfl ?_|refine BU rfl ?_)|(refine BL ?_;first|refine BQ ?_)|(refine BR ?_;try simp only [setS]))|refine AA ?_|refine AC ?_|refine AD ?_|refine AE ?_|refine AF rfl rfl ?_|refine AG rfl rfl ?_|refine AH ?_|refine AI ?_|refine AJ ?_|refine AK ?_|refine AL ?_|refine AM ?_|refine AN ?_|refine AO ?_|refine AP ?_|refine AQ rfl ?_|refine AR ?_|refine AS ?_|refine AT rfl ?_|refine AU rfl ?_
    refine wr_call_e rfl ((wf_true hE T.known).mono fun r h14 ⟨e14, e15⟩ => ?_)
    subst e14 e15
    repeat first|(refine BG ?_;first|(refine BH ?_;first|(refine BI ?_;refine BM ?_)|(refine BJ ?_;first|refine BN ?_|refine BO ?_)|refine BP ?_)|(refine BK ?_;first|refine BS rfl rfl ?_|refine BT rfl rfl ?_|refine BU rfl ?_)|(refine BL ?_;first|refine BQ ?_)|(refine BR ?_;try simp only [setS]))|refine AA ?_|refine AC ?_|refine AD ?_|refine AE ?_|refine AF rfl rfl ?_|refine AG rfl rfl ?_|refine AH ?_|refine AI ?_|refine AJ ?_|refine AK ?_|refine AL ?_|refine AM ?_|refine AN ?_|refine AO ?_|refine AP ?_|refine AQ rfl ?_|refine AR ?_|refine AS ?_|refine AT rfl ?_|refine AU rfl ?_
    rfl
end
end Am
end Go.Proofs.Ythgcdoahoechhaa
