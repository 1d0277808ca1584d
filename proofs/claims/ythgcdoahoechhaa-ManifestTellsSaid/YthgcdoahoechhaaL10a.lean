/- ManifestTells: the law, walked. -/
import Derived.Test.YthgcdoahoechhaaMJ
namespace Go.Proofs.Ythgcdoahoechhaa
set_option linter.unusedVariables false
set_option linter.unusedSimpArgs false
namespace Am
set_option linter.unusedVariables false
set_option linter.unusedSimpArgs false
open Go.RowKit
set_option maxRecDepth 100000

def b_ManifestTells : BF := ⟨86, [0, 1, 2, 3, 4, 5, 6, 7, 11, 16, 17, 18, 19, 45], (.seq (.reg [.mk none (.slot 8) (.eff (.box (.slot 3))), .mk none (.slot 9) (.mov (.mv (.const (.bool false))))]) (.seq (.reg [.mk none (.env 20) (.mov (.mv (.slot 0))), .mk none (.env 21) (.mov (.mv (.slot 1))), .mk none (.env 22) (.mov (.mv (.slot 2))), .mk none (.env 23) (.call 34 [(.env 20), (.env 21), (.env 22)]), .mk none (.slot 10) (.eff (.alloc [.snil, (.int .i64 0), (.int .i64 0)])), .mk none .none (.eff (.store 3 (.slot 10) (.env 23)))]) (.seq (.reg [.mk none (.env 24) (.mov (.faddr 0 (.slot 10))), .mk none (.env 25) (.mov (.ld1 (.env 24))), .mk none (.env 26) (.mov (.faddr 1 (.slot 10))), .mk none (.env 27) (.mov (.ld1 (.env 26))), .mk none (.env 28) (.mov (.faddr 2 (.slot 10))), .mk none (.env 29) (.mov (.ld1 (.env 28))), .mk none (.env 30) (.call 35 [(.env 25), (.env 27), (.env 29)]), .mk none (.slot 11) (.mov (.mv (.env 30)))]) (.seq (.reg [.mk none (.env 31) (.mov (.mv (.slot 11))), .mk none (.env 32) (.mov (.mv (.slot 5))), .mk none (.env 33) (.mov (.mv (.slot 11))), .mk none (.env 34) (.mov (.lenv (.env 33))), .mk none (.env 35) (.mov (.bin .sub .no (.env 34) (.const (.int .i64 1)))), .mk none (.env 36) (.call 12 [(.env 32), (.const (.int .i64 0)), (.env 35)]), .mk none (.env 37) (.mov (.iaddr 1 (.env 31) (.env 36))), .mk none (.env 38) (.mov (.ld1 (.env 37))), .mk none (.env 39) (.mov (.mv (.slot 6))), .mk none (.env 40) (.mov (.bin .xor .no (.env 38) (.env 39))), .mk none (.env 41) (.mov (.iaddr 1 (.env 31) (.env 36))), .mk none .none (.eff (.store 1 (.env 41) (.env 40)))]) (.seq (.seq (.reg [.mk none (.env 42) (.mov (.faddr 0 (.slot 8))), .mk none (.env 43) (.mov (.ld1 (.env 42))), .mk none (.env 44) (.mov (.lenv (.env 43))), .mk none (.slot 13) (.mov (.bin .gtr .no (.env 44) (.const (.int .i64 20))))]) (.cond (.slot 13) (.reg [.mk none (.env 46) (.mov (.faddr 0 (.slot 8))), .mk none (.env 47) (.mov (.ld1 (.env 46))), .mk none (.env 48) (.mov (.sl 1 (.env 47) none (some (.const (.int .i64 20))) none)), .mk none (.env 49) (.mov (.faddr 0 (.slot 8))), .mk none .none (.eff (.store 1 (.env 49) (.env 48)))]) .skip)) (.seq (.reg [.mk none (.env 50) (.mov (.mv (.slot 7))), .mk none (.env 51) (.call 12 [(.env 50), (.const (.int .i64 0)), (.const (.int .i64 16777216))]), .mk none (.slot 12) (.mov (.mv (.env 51)))]) (.seq (.reg [.mk none (.env 52) (.mov (.ldn 3 (.slot 10))), .mk none (.env 53) (.call 36 [(.env 52)]), .mk none (.env 54) (.mov (.mv (.env 53))), .mk (some ((.env 54), true)) (.env 55) (.mov (.ldn 3 (.slot 8))), .mk (some ((.env 54), true)) (.env 56) (.call 36 [(.env 55)]), .mk none (.env 57) (.mov (.pick (.env 54) (.env 56) (.const (.bool false)))), .mk none (.env 58) (.mov (.mv (.env 57))), .mk (some ((.env 58), true)) (.env 59) (.mov (.mv (.slot 11))), .mk (some ((.env 58), true)) (.env 60) (.call 37 [(.env 59)]), .mk none (.env 61) (.mov (.pick (.env 58) (.env 60) (.const (.bool false)))), .mk none (.env 62) (.mov (.mv (.env 61))), .mk (some ((.env 62), true)) (.env 63) (.mov (.mv (.slot 4))), .mk (some ((.env 62), true)) (.env 64) (.call 27 [(.env 63), (.const (.int .i64 40))]), .mk (some ((.env 62), true)) (.env 65) (.call 37 [(.env 64)]), .mk none (.env 66) (.mov (.pick (.env 62) (.env 65) (.const (.bool false)))), .mk none (.env 67) (.mov (.mv (.env 66))), .mk (some ((.env 67), true)) (.env 68) (.mov (.mv (.slot 12))), .mk (some ((.env 67), true)) (.env 69) (.call 38 [(.env 68)]), .mk (some ((.env 67), true)) (.env 70) (.mov (.mv (.slot 12))), .mk (some ((.env 67), true)) (.env 71) (.call 39 [(.env 70)]), .mk (some ((.env 67), true)) (.env 72) (.mov (.bin .add .no (.const (.str [116])) (.env 71))), .mk (some ((.env 67), true)) (.env 73) (.mov (.bin .eql .no (.env 69) (.env 72))), .mk none (.env 74) (.mov (.pick (.env 67) (.env 73) (.const (.bool false)))), .mk none (.env 75) (.mov (.mv (.env 74))), .mk (some ((.env 75), true)) (.env 76) (.mov (.mv (.slot 12))), .mk (some ((.env 75), true)) (.env 77) (.call 40 [(.env 76)]), .mk (some ((.env 75), true)) (.env 78) (.mov (.mv (.slot 12))), .mk (some ((.env 75), true)) (.env 79) (.call 39 [(.env 78)]), .mk (some ((.env 75), true)) (.env 80) (.mov (.bin .add .no (.const (.str [119])) (.env 79))), .mk (some ((.env 75), true)) (.env 81) (.mov (.bin .eql .no (.env 77) (.env 80))), .mk none (.env 82) (.mov (.pick (.env 75) (.env 81) (.const (.bool false)))), .mk none (.env 83) (.mov (.mv (.env 82))), .mk (some ((.env 83), true)) (.env 84) (.call 41 []), .mk none (.env 85) (.mov (.pick (.env 83) (.env 84) (.const (.bool false)))), .mk none (.slot 9) (.mov (.mv (.env 85)))]) .ret))))))), [.slot (.slot 9)]⟩
theorem spl_one {o : Nat} {c : AV} {l : List AV} (ho : o < l.length) : spl o [c] l = l.set o c := by
  unfold spl
  rw [List.set_eq_take_append_cons_drop, if_pos ho]
  simp
section
variable {X : Type} {h : Hp X}
/-- what stands at an index becomes another -/
theorem OS.set {n k : Nat} {v c : AV} {cells : List AV} (a : OS h 1 v n cells) (hk : k < n) : ∃ g o l, (∀ {hh : Hp X} {e : En} {t : List AV} {x y : Od} {kk : IntKind}, x.ev e t = v → y.ev e t = .int kk (k : Int) → (Mv.iaddr 1 x y).ev e t hh = some (.ptr g o)) ∧
    Bx h g l ∧ o < l.length ∧ l[o]? = cells[k]? ∧ OS (h.put g (.rw (spl o [c] l))) 1 v n (cells.set k c) ∧ blk v g := by
  cases v <;> first | exact a.elim | skip
  · rename_i z g o m cap
    obtain ⟨rfl, rfl, hz, hg, l, hl, hle, rfl, hcap⟩ := a
    refine ⟨g, o + k * 1, l, fun {hh e t x y kk} hx hy => ?_, ⟨hg, hl⟩, by omega, ?_, ⟨rfl, rfl, hz, hg, _, Hp.put_self _ _ _, ?_, ?_, ?_⟩, rfl⟩
    · simp only [Mv.ev, hx, hy, nOf]
      rw [show Nat.blt k m = true by rw [Nat.blt_eq]; exact hk]
      rfl
    · rw [List.getElem?_take_of_lt (by omega), List.getElem?_drop, Nat.mul_one]
    · rw [spl_one (by omega), List.length_set]; exact hle
    · rw [spl_one (by omega), Nat.mul_one, List.drop_set, if_neg (by omega), List.take_set, Nat.add_sub_cancel_left, Nat.mul_one]
    · rw [spl_one (by omega), List.length_set]; exact hcap
  · obtain ⟨rfl, _⟩ := a; omega
theorem v_xor8 {e : En} {t : List AV} {q : Eq} {x y : Od} {a b : Int} (hx : x.ev e t = .int .u8 a) (hy : y.ev e t = .int .u8 b) : ∃ z : UInt8, ∀ {hh : Hp X}, (Mv.bin .xor q x y).ev e t hh = some (ub z) := by
  refine ⟨UInt8.ofNat (BitVec.ofInt 8 a ^^^ BitVec.ofInt 8 b).toNat, fun {hh} => ?_⟩
  simp only [Mv.ev, hx, hy, Am.bin, AV.onInt, isShift, Bool.false_or, decide_true, cond_true, intOp]
  exact congrArg some (int_eq (wr_u8 _))
theorem v_seq_t {e : En} {t : List AV} {q : Eq} {x y : Od} {a b : List UInt8} (hx : x.ev e t = .str a) (hy : y.ev e t = .str b) (hab : a = b) : (Mv.bin .eql q x y).ev e t h = some (.bool true) := by
  rw [v_seql hx hy, hab]
  simp
theorem bset {bs : List UInt8} {k : Nat} {z : UInt8} : (bs.map ub).set k (ub z) = (bs.set k z).map ub := by rw [List.map_set]
end
section
variable {E : Nat → Option (Ent MD)}
set_option maxHeartbeats 4000000 in
theorem tells_ok (hE : ∀ f e, E f = some e → e.plain) (T : MfV E) (hlaw : E 8 = some (.bc b_ManifestTells)) {h : Hp MD} {v rv bv : AV} {l rl : List Int} {b : List UInt8} {wal more rw' rn at' turn n : Int}
    (hv : RS h 1 v l.length (l.map iv)) (hl : ∀ x ∈ l, I64 x) (hlen : l.length ≤ maxLen) (h1 : I64 wal) (h2 : I64 more) (hrv : RS h 1 rv rl.length (rl.map iv)) (hb : RS h 1 bv b.length (b.map ub)) (h3 : I64 at') (h4 : I64 n) :
    WF (lim E) 8 [v, .int .i64 wal, .int .i64 more, LsV rv rw' rn, bv, .int .i64 at', .int .u8 turn, .int .i64 n] h fun r _ => r = .bool true := by
  refine wf_bc hE hlaw rfl ?_
  simp only [b_ManifestTells, List.map, getS]
  have K1 : Keep NoB h (h.push (.rw [rv, .int .i64 rw', .int .i64 rn])) := Keep.push _ _ _
  have b8 : Bx (h.push (.rw [rv, .int .i64 rw', .int .i64 rn])) h.n _ := bx_push
  repeat first|(refine BG ?_;first|(refine BH ?_;first|(refine BI ?_;refine BM ?_)|(refine BJ ?_;first|refine BN ?_|refine BO ?_)|refine BP ?_)|(refine BK ?_;first|refine BS rfl rfl ?_|refine BT rfl rfl ?_|refine BU rfl ?_)|(refine BL ?_;first|refine BW (ef_box rfl (all3 hrv.one.2)) ?_|refine BQ ?_)|(refine BR ?_;try simp only [setS]))|refine AA ?_|refine AC ?_|refine AD ?_|refine AE ?_|refine AF rfl rfl ?_|refine AG rfl rfl ?_|refine AH ?_|refine AI ?_|refine AJ ?_|refine AK ?_|refine AL ?_|refine AM ?_|refine AN ?_|refine AO ?_|refine AP ?_|refine AQ rfl ?_|refine AR ?_|refine AS ?_|refine AT rfl ?_|refine AU rfl ?_
  refine wr_call_e rfl ((made_ok hE T.made T.within (hv.up K1) hl hlen h1 h2).mono fun r h2' ⟨tv, e2, k2, o2, l2⟩ => ?_)
  subst e2
  have hM := madeF_may l wal more
  generalize madeF l wal more = q at *
  obtain ⟨ts, w, nx⟩ := q
  simp only at o2 hM ⊢
  have b8 := b8.up k2
  have K2 := K1.and k2
  have kp : Keep NoB h2' (h2'.push (.rw [.snil, .int .i64 0, .int .i64 0])) := Keep.push _ _ _
  have b10 : Bx (h2'.push (.rw [.snil, .int .i64 0, .int .i64 0])) h2'.n _ := bx_push
  have n2 := K2.n
  repeat first|(refine BG ?_;first|(refine BH ?_;first|(refine BI ?_;refine BM ?_)|(refine BJ ?_;first|refine BN ?_|refine BO ?_)|refine BP ?_)|(refine BK ?_;first|refine BS rfl rfl ?_|refine BT rfl rfl ?_|refine BU rfl ?_)|(refine BL ?_;first|refine BW (ef_bxn b10 rfl rfl (all3 o2.one.2) rfl (Nat.le_refl _)) ?_|refine BQ ?_)|(refine BR ?_;try simp only [setS]))|refine AA ?_|refine AC ?_|refine AD ?_|refine AE ?_|refine AF rfl rfl ?_|refine AG rfl rfl ?_|refine AH ?_|refine AI ?_|refine AJ ?_|refine AK ?_|refine AL ?_|refine AM ?_|refine AN ?_|refine AO ?_|refine AP ?_|refine AQ rfl ?_|refine AR ?_|refine AS ?_|refine AT rfl ?_|refine AU rfl ?_
  have kq : Keep (OneB h2'.n) (h2'.push (.rw [.snil, .int .i64 0, .int .i64 0])) ((h2'.push (.rw [.snil, .int .i64 0, .int .i64 0])).put h2'.n (.rw [tv, .int .i64 w, .int .i64 nx])) := Keep.put _ _ _ rfl
  have b10 : Bx ((h2'.push (.rw [.snil, .int .i64 0, .int .i64 0])).put h2'.n (.rw [tv, .int .i64 w, .int .i64 nx])) h2'.n [tv, .int .i64 w, .int .i64 nx] := b10.put
  have hb8 := b8.lt
  have b8 := (b8.up kp).keep kq (fun q => by have q : h.n = h2'.n := q; omega)
  have o3 := (o2.up kp).keep kq (fun k q1 q2 => by have := o2.lt k q1; have q2 : k = h2'.n := q2; omega)
  have K3 := (K2.and kp).own kq (fun k q => by have q : k = h2'.n := q; omega)
  obtain ⟨ha, hha⟩ : ∃ ha : Hp MD, ha = (h2'.push (.rw [.snil, .int .i64 0, .int .i64 0])).put h2'.n (.rw [tv, .int .i64 w, .int .i64 nx]) := ⟨_, rfl⟩
  refine wr_heap hha.symm ?_
  rw [← hha] at b10 b8 o3 K3
  clear kq kp hha
  repeat first|(refine BG ?_;first|(refine BH ?_;first|(refine BI ?_;refine BM ?_)|(refine BJ ?_;first|refine BN ?_|refine BO ?_)|refine BV (v_bx b10 rfl rfl) ?_|refine BP ?_)|(refine BK ?_;first|refine BS rfl rfl ?_|refine BT rfl rfl ?_|refine BU rfl ?_)|(refine BL ?_;first|refine BQ ?_)|(refine BR ?_;try simp only [setS]))|refine AA ?_|refine AC ?_|refine AD ?_|refine AE ?_|refine AF rfl rfl ?_|refine AG rfl rfl ?_|refine AH ?_|refine AI ?_|refine AJ ?_|refine AK ?_|refine AL ?_|refine AM ?_|refine AN ?_|refine AO ?_|refine AP ?_|refine AQ rfl ?_|refine AR ?_|refine AS ?_|refine AT rfl ?_|refine AU rfl ?_
  refine wr_call_e rfl ((renc_ok hE T.toMfT o3.rs hM).mono fun o h4' ⟨⟨k4, l4⟩, o4⟩ => ?_)
  have K4 := K3.and k4
  have hb8a := b8.lt
  have hb10a := b10.lt
  have ho3a := o3.lt
  have b8 := b8.up k4
  have b10 := b10.up k4
  have o3 := o3.up k4
  have hel := encM_len ts w nx
  have hml := hM.len
  generalize encM ts w nx = bs at *
  repeat first|(refine BG ?_;first|(refine BH ?_;first|(refine BI ?_;refine BM ?_)|(refine BJ ?_;first|refine BN ?_|refine BO ?_)|refine BV (o4.rs.lenv (by rfl)) ?_|refine BP ?_)|(refine BK ?_;first|refine BS rfl rfl ?_|refine BT rfl rfl ?_|refine BU rfl ?_)|(refine BL ?_;first|refine BQ ?_)|(refine BR ?_;try simp only [setS]))|refine AA ?_|refine AC ?_|refine AD ?_|refine AE ?_|refine AF rfl rfl ?_|refine AG rfl rfl ?_|refine AH ?_|refine AI ?_|refine AJ ?_|refine AK ?_|refine AL ?_|refine AM ?_|refine AN ?_|refine AO ?_|refine AP ?_|refine AQ rfl ?_|refine AR ?_|refine AS ?_|refine AT rfl ?_|refine AU rfl ?_
  refine wr_call_e rfl ((within_ok hE T.within h3 (lo := 0) (hi := (bs.length : Int) - 1) (by omega) (by omega) (by omega)).mono fun r h5 ⟨e5, e6⟩ => ?_)
  subst e5 e6
  have hw := withinF_in (n := at') (lo := 0) (hi := (bs.length : Int) - 1) (by omega)
  generalize withinF at' 0 ((bs.length : Int) - 1) = j at *
  obtain ⟨k, rfl⟩ := Int.eq_ofNat_of_zero_le hw.1
  have hub := ub_at (l := bs) (i := (k : Int)) (by omega) (by omega)
  rw [Int.toNat_natCast] at hub
  obtain ⟨g, oo, lc, ca, cb, cl, ce, _⟩ := o4.set (k := k) (c := .bot) (by omega)
  rw [hub] at ce
  obtain ⟨z, hz⟩ := v_xor8 (X := MD) (e := [(39, .int .u8 turn), (38, .int .u8 ((bs.getD k 0).toNat : Int))]) (t := []) (q := .no) (x := .env 38) (y := .env 39) rfl rfl
  obtain ⟨g', oo', lc', ca', cb', cl', ce', o6, hbg⟩ := o4.set (k := k) (c := ub z) (by omega)
  rw [hub] at ce'
  rw [bset] at o6
  have hbl : (bs.set k z).length = bs.length := List.length_set
  rw [← hbl] at o6
  repeat first|(refine BG ?_;first|(refine BH ?_;first|(refine BI ?_;refine BM ?_)|(refine BJ ?_;first|refine BN ?_|refine BO ?_)|refine BV (o4.rs.lenv (by rfl)) ?_|refine BV (ca' rfl rfl) ?_|refine BV (v_bx cb' rfl ce') ?_|refine BV (hz (hh := h5)) ?_|refine BP ?_)|(refine BK ?_;first|refine BS rfl rfl ?_|refine BT rfl rfl ?_|refine BU rfl ?_)|(refine BL ?_;first|refine BQ ?_)|(refine BR ?_;try simp only [setS]))|refine AA ?_|refine AC ?_|refine AD ?_|refine AE ?_|refine AF rfl rfl ?_|refine AG rfl rfl ?_|refine AH ?_|refine AI ?_|refine AJ ?_|refine AK ?_|refine AL ?_|refine AM ?_|refine AN ?_|refine AO ?_|refine AP ?_|refine AQ rfl ?_|refine AR ?_|refine AS ?_|refine AT rfl ?_|refine AU rfl ?_
  have hgl := l4 g' hbg
  repeat first|(refine BG ?_;first|(refine BH ?_;first|(refine BI ?_;refine BM ?_)|(refine BJ ?_;first|refine BN ?_|refine BO ?_)|refine BP ?_)|(refine BK ?_;first|refine BS rfl rfl ?_|refine BT rfl rfl ?_|refine BU rfl ?_)|(refine BL ?_;first|refine BW (ef_bx cb' rfl rfl ⟨rfl, rfl⟩ cl') ?_|refine BQ ?_)|(refine BR ?_;try simp only [setS]))|refine AA ?_|refine AC ?_|refine AD ?_|refine AE ?_|refine AF rfl rfl ?_|refine AG rfl rfl ?_|refine AH ?_|refine AI ?_|refine AJ ?_|refine AK ?_|refine AL ?_|refine AM ?_|refine AN ?_|refine AO ?_|refine AP ?_|refine AQ rfl ?_|refine AR ?_|refine AS ?_|refine AT rfl ?_|refine AU rfl ?_
  have k6 : Keep (OneB g') h5 (h5.put g' (.rw (spl oo' [ub z] lc'))) := Keep.put _ _ _ rfl
  have hn3 := K3.n
  have K6 := K4.own k6 (fun k q => by have q : k = g' := q; omega)
  have b8 := b8.keep k6 (fun q => by have q : h.n = g' := q; omega)
  have b10 := b10.keep k6 (fun q => by have q : h2'.n = g' := q; omega)
  have o3 := o3.keep k6 (fun k q1 q2 => by have := ho3a k q1; have q2 : k = g' := q2; omega)
  obtain ⟨h6, hh6⟩ : ∃ h6 : Hp MD, h6 = h5.put g' (.rw (spl oo' [ub z] lc')) := ⟨_, rfl⟩
  refine wr_heap (h' := h6) (by rw [hh6]; rfl) ?_
  rw [← hh6] at k6 K6 b8 b10 o3 o6
  have hlen2 : (bs.set k z).length ≤ 1000000 := by omega
  clear hub ca cb cl ce ca' cb' cl' ce' hh6 hz
  generalize bs.set k z = ys at *
  have hrv6 := hrv.up K6
  have hb6 := hb.up K6
  have hw2 := withinF_in (n := n) (lo := 0) (hi := 16777216) (by omega)
  have hoo : ∀ k, blk tv k → k ≠ h.n := fun k q e => by have := l2 k q; have := K1.n; simp only [push_n] at *; omega
  by_cases h20 : (20 : Int) < rl.length
  case' pos =>
    obtain ⟨rx, q1, q2, q3, q4⟩ := hrv6.cut (lo := 0) (hi := 20) (by omega) (by omega)
    rw [List.drop_zero, Nat.sub_zero] at q1
    repeat first|(refine BG ?_;first|(refine BH ?_;first|(refine BI ?_;refine BM ?_)|(refine BJ ?_;first|refine BN ?_|refine BO ?_)|refine BV (v_bx b8 rfl rfl) ?_|refine BV (hrv6.lenv (by rfl)) ?_|refine BV (q4 (by rfl) (.inl ⟨rfl, rfl⟩) (.inr ⟨_, _, rfl, rfl⟩)) ?_|refine BP ?_)|(refine BK ?_;first|refine BS rfl rfl ?_|refine BT rfl rfl ?_|refine BU rfl ?_)|(refine BL ?_;first|refine BW (ef_bx b8 rfl rfl q1.one (Nat.zero_lt_succ _)) ?_|refine BQ ?_)|(refine BR ?_;try simp only [setS]))|refine AA ?_|refine AC ?_|refine AD ?_|refine AE ?_|refine AF rfl rfl ?_|refine AG rfl rfl ?_|refine AH ?_|refine AI ?_|refine AJ ?_|refine AK ?_|refine AL ?_|refine AM ?_|refine AN ?_|refine AO ?_|refine AP ?_|refine AQ rfl ?_|refine AR ?_|refine AS ?_|refine AT rfl ?_|refine AU rfl ?_
    refine wr_heap (h' := h6.put h.n (.rw [rx, .int .i64 rw', .int .i64 rn])) rfl ?_
    have k7 : Keep (OneB h.n) h6 (h6.put h.n (.rw [rx, .int .i64 rw', .int .i64 rn])) := Keep.put _ _ _ rfl
    have K7 := K6.own k7 (fun k q => by have q : k = h.n := q; omega)
    have b8 : Bx (h6.put h.n (.rw [rx, .int .i64 rw', .int .i64 rn])) h.n [rx, .int .i64 rw', .int .i64 rn] := b8.put
    have b10 := b10.keep k7 (fun q => by have q : h2'.n = h.n := q; omega)
    have o3 := o3.keep k7 (fun k q1 q2 => hoo k q1 q2)
    have o6 := o6.keep k7 (fun k q1 q2 => by have := l4 k q1; have q2 : k = h.n := q2; omega)
    have hrx := q1.keep k7 (fun k z1 z2 => by have := hrv.lt k (q2 k z1); have z2 : k = h.n := z2; omega)
    have hb7 := hb.up K7
    have hrl : (rl.take 20).length ≤ 1000000 := by rw [List.length_take]; omega
    generalize rl.take 20 = rl' at *
    generalize h6.put h.n (.rw [rx, .int .i64 rw', .int .i64 rn]) = h7 at *
  case' neg =>
    repeat first|(refine BG ?_;first|(refine BH ?_;first|(refine BI ?_;refine BM ?_)|(refine BJ ?_;first|refine BN ?_|refine BO ?_)|refine BV (v_bx b8 rfl rfl) ?_|refine BV (hrv6.lenv (by rfl)) ?_|refine BP ?_)|(refine BK ?_;first|refine BS rfl rfl ?_|refine BT rfl rfl ?_|refine BU rfl ?_)|(refine BL ?_;first|refine BQ ?_)|(refine BR ?_;try simp only [setS]))|refine AA ?_|refine AC ?_|refine AD ?_|refine AE ?_|refine AF rfl rfl ?_|refine AG rfl rfl ?_|refine AH ?_|refine AI ?_|refine AJ ?_|refine AK ?_|refine AL ?_|refine AM ?_|refine AN ?_|refine AO ?_|refine AP ?_|refine AQ rfl ?_|refine AR ?_|refine AS ?_|refine AT rfl ?_|refine AU rfl ?_
    have hrx := hrv6
    have K7 := K6
    have hb7 := hb6
    have hrl : rl.length ≤ 1000000 := by omega
  all_goals
    refine wr_call_e rfl ((within_ok hE T.within h4 (lo := 0) (hi := 16777216) (by omega) (by omega) (by omega)).mono fun r h8 ⟨e8, e9⟩ => ?_)
    subst e8 e9
    generalize withinF n 0 16777216 = y at *
    obtain ⟨y, rfl⟩ := Int.eq_ofNat_of_zero_le hw2.1
    repeat first|(refine BG ?_;first|(refine BH ?_;first|(refine BI ?_;refine BM ?_)|(refine BJ ?_;first|refine BN ?_|refine BO ?_)|refine BV (v_bxn b10 rfl (Nat.le_refl _)) ?_|refine BP ?_)|(refine BK ?_;first|refine BS rfl rfl ?_|refine BT rfl rfl ?_|refine BU rfl ?_)|(refine BL ?_;first|refine BQ ?_)|(refine BR ?_;try simp only [setS]))|refine AA ?_|refine AC ?_|refine AD ?_|refine AE ?_|refine AF rfl rfl ?_|refine AG rfl rfl ?_|refine AH ?_|refine AI ?_|refine AJ ?_|refine AK ?_|refine AL ?_|refine AM ?_|refine AN ?_|refine AO ?_|refine AP ?_|refine AQ rfl ?_|refine AR ?_|refine AS ?_|refine AT rfl ?_|refine AU rfl ?_
    refine wr_call_e rfl ((encodes_ok hE T o3.rs (by omega)).mono fun r h9 ⟨k9, e9⟩ => ?_)
    subst e9
    have b8 := b8.up k9
    repeat first|(refine BG ?_;first|(refine BH ?_;first|(refine BI ?_;refine BM ?_)|(refine BJ ?_;first|refine BN ?_|refine BO ?_)|refine BV (v_bxn b8 rfl (Nat.le_refl _)) ?_|refine BP ?_)|(refine BK ?_;first|refine BS rfl rfl ?_|refine BT rfl rfl ?_|refine BU rfl ?_)|(refine BL ?_;first|refine BQ ?_)|(refine BR ?_;try simp only [setS]))|refine AA ?_|refine AC ?_|refine AD ?_|refine AE ?_|refine AF rfl rfl ?_|refine AG rfl rfl ?_|refine AH ?_|refine AI ?_|refine AJ ?_|refine AK ?_|refine AL ?_|refine AM ?_|refine AN ?_|refine AO ?_|refine AP ?_|refine AQ rfl ?_|refine AR ?_|refine AS ?_|refine AT rfl ?_|refine AU rfl ?_
    refine wr_call_e rfl ((encodes_ok hE T (hrx.up k9) hrl).mono fun r h10 ⟨k10, e10⟩ => ?_)
    subst e10
    have k10 := k9.and k10
    repeat first|(refine BG ?_;first|(refine BH ?_;first|(refine BI ?_;refine BM ?_)|(refine BJ ?_;first|refine BN ?_|refine BO ?_)|refine BP ?_)|(refine BK ?_;first|refine BS rfl rfl ?_|refine BT rfl rfl ?_|refine BU rfl ?_)|(refine BL ?_;first|refine BQ ?_)|(refine BR ?_;try simp only [setS]))|refine AA ?_|refine AC ?_|refine AD ?_|refine AE ?_|refine AF rfl rfl ?_|refine AG rfl rfl ?_|refine AH ?_|refine AI ?_|refine AJ ?_|refine AK ?_|refine AL ?_|refine AM ?_|refine AN ?_|refine AO ?_|refine AP ?_|refine AQ rfl ?_|refine AR ?_|refine AS ?_|refine AT rfl ?_|refine AU rfl ?_
    refine wr_call_e rfl ((decodes_ok hE T (o6.up k10).rs hlen2).mono fun r h11 ⟨k11, e11⟩ => ?_)
    subst e11
    have k11 := k10.and k11
    repeat first|(refine BG ?_;first|(refine BH ?_;first|(refine BI ?_;refine BM ?_)|(refine BJ ?_;first|refine BN ?_|refine BO ?_)|refine BP ?_)|(refine BK ?_;first|refine BS rfl rfl ?_|refine BT rfl rfl ?_|refine BU rfl ?_)|(refine BL ?_;first|refine BQ ?_)|(refine BR ?_;try simp only [setS]))|refine AA ?_|refine AC ?_|refine AD ?_|refine AE ?_|refine AF rfl rfl ?_|refine AG rfl rfl ?_|refine AH ?_|refine AI ?_|refine AJ ?_|refine AK ?_|refine AL ?_|refine AM ?_|refine AN ?_|refine AO ?_|refine AP ?_|refine AQ rfl ?_|refine AR ?_|refine AS ?_|refine AT rfl ?_|refine AU rfl ?_
    refine wr_call_e rfl ((cut_ok hE T.cut (hb7.up k11) (n := 40) (by omega)).mono fun r h12 ⟨e12, r12, _, _⟩ => ?_)
    subst e12
    repeat first|(refine BG ?_;first|(refine BH ?_;first|(refine BI ?_;refine BM ?_)|(refine BJ ?_;first|refine BN ?_|refine BO ?_)|refine BP ?_)|(refine BK ?_;first|refine BS rfl rfl ?_|refine BT rfl rfl ?_|refine BU rfl ?_)|(refine BL ?_;first|refine BQ ?_)|(refine BR ?_;try simp only [setS]))|refine AA ?_|refine AC ?_|refine AD ?_|refine AE ?_|refine AF rfl rfl ?_|refine AG rfl rfl ?_|refine AH ?_|refine AI ?_|refine AJ ?_|refine AK ?_|refine AL ?_|refine AM ?_|refine AN ?_|refine AO ?_|refine AP ?_|refine AQ rfl ?_|refine AR ?_|refine AS ?_|refine AT rfl ?_|refine AU rfl ?_
    refine wr_call_e rfl ((decodes_ok hE T r12 (by rw [List.length_take]; omega)).mono fun r h13 ⟨k13, e13⟩ => ?_)
    subst e13
    repeat first|(refine BG ?_;first|(refine BH ?_;first|(refine BI ?_;refine BM ?_)|(refine BJ ?_;first|refine BN ?_|refine BO ?_)|refine BP ?_)|(refine BK ?_;first|refine BS rfl rfl ?_|refine BT rfl rfl ?_|refine BU rfl ?_)|(refine BL ?_;first|refine BQ ?_)|(refine BR ?_;try simp only [setS]))|refine AA ?_|refine AC ?_|refine AD ?_|refine AE ?_|refine AF rfl rfl ?_|refine AG rfl rfl ?_|refine AH ?_|refine AI ?_|refine AJ ?_|refine AK ?_|refine AL ?_|refine AM ?_|refine AN ?_|refine AO ?_|refine AP ?_|refine AQ rfl ?_|refine AR ?_|refine AS ?_|refine AT rfl ?_|refine AU rfl ?_
    refine wr_call_e rfl ((table_ok hE T.table T.digits (n := y) (by omega)).mono fun r h14 ⟨e14, e15⟩ => ?_)
    subst e14 e15
    repeat first|(refine BG ?_;first|(refine BH ?_;first|(refine BI ?_;refine BM ?_)|(refine BJ ?_;first|refine BN ?_|refine BO ?_)|refine BP ?_)|(refine BK ?_;first|refine BS rfl rfl ?_|refine BT rfl rfl ?_|refine BU rfl ?_)|(refine BL ?_;first|refine BQ ?_)|(refine BR ?_;try simp only [setS]))|refine AA ?_|refine AC ?_|refine AD ?_|refine AE ?_|refine AF rfl rfl ?_|refine AG rfl rfl ?_|refine AH ?_|refine AI ?_|refine AJ ?_|refine AK ?_|refine AL ?_|refine AM ?_|refine AN ?_|refine AO ?_|refine AP ?_|refine AQ rfl ?_|refine AR ?_|refine AS ?_|refine AT rfl ?_|refine AU rfl ?_
    refine wr_call_e rfl ((whole_ok hE T.whole T.parts (n := y) (by omega)).mono fun r h15 ⟨e14, e15⟩ => ?_)
    subst e14 e15
    have hdl := digF_len y
    repeat first|(refine BG ?_;first|(refine BH ?_;first|(refine BI ?_;refine BM ?_)|(refine BJ ?_;first|refine BN ?_|refine BO ?_)|refine BV (v_sadd rfl rfl (by simp; omega)) ?_|refine BV (v_seq_t rfl rfl rfl) ?_|refine BP ?_)|(refine BK ?_;first|refine BS rfl rfl ?_|refine BT rfl rfl ?_|refine BU rfl ?_)|(refine BL ?_;first|refine BQ ?_)|(refine BR ?_;try simp only [setS]))|refine AA ?_|refine AC ?_|refine AD ?_|refine AE ?_|refine AF rfl rfl ?_|refine AG rfl rfl ?_|refine AH ?_|refine AI ?_|refine AJ ?_|refine AK ?_|refine AL ?_|refine AM ?_|refine AN ?_|refine AO ?_|refine AP ?_|refine AQ rfl ?_|refine AR ?_|refine AS ?_|refine AT rfl ?_|refine AU rfl ?_
    refine wr_call_e rfl ((mwal_ok hE T.mwal T.digits (n := y) (by omega)).mono fun r h16 ⟨e14, e15⟩ => ?_)
    subst e14 e15
    repeat first|(refine BG ?_;first|(refine BH ?_;first|(refine BI ?_;refine BM ?_)|(refine BJ ?_;first|refine BN ?_|refine BO ?_)|refine BP ?_)|(refine BK ?_;first|refine BS rfl rfl ?_|refine BT rfl rfl ?_|refine BU rfl ?_)|(refine BL ?_;first|refine BQ ?_)|(refine BR ?_;try simp only [setS]))|refine AA ?_|refine AC ?_|refine AD ?_|refine AE ?_|refine AF rfl rfl ?_|refine AG rfl rfl ?_|refine AH ?_|refine AI ?_|refine AJ ?_|refine AK ?_|refine AL ?_|refine AM ?_|refine AN ?_|refine AO ?_|refine AP ?_|refine AQ rfl ?_|refine AR ?_|refine AS ?_|refine AT rfl ?_|refine AU rfl ?_
    refine wr_call_e rfl ((whole_ok hE T.whole T.parts (n := y) (by omega)).mono fun r h17 ⟨e14, e15⟩ => ?_)
    subst e14 e15
    repeat first|(refine BG ?_;first|(refine BH ?_;first|(refine BI ?_;refine BM ?_)|(refine BJ ?_;first|refine BN ?_|refine BO ?_)|refine BV (v_sadd rfl rfl (by simp; omega)) ?_|refine BV (v_seq_t rfl rfl rfl) ?_|refine BP ?_)|(refine BK ?_;first|refine BS rfl rfl ?_|refine BT rfl rfl ?_|refine BU rfl ?_)|(refine BL ?_;first|refine BQ ?_)|(refine BR ?_;try simp only [setS]))|refine AA ?_|refine AC ?_|refine AD ?_|refine AE ?_|refine AF rfl rfl ?_|refine AG rfl rfl ?_|refine AH ?_|refine AI ?_|refine AJ ?_|refine AK ?_|refine AL ?_|refine AM ?_|refine AN ?_|refine AO ?_|refine AP ?_|refine AQ rfl ?_|refine AR ?_|refine AS ?_|refine AT rfl ?_|refine AU rfl ?_
    refine wr_call_e rfl ((wf_true hE T.known).mono fun r h18 ⟨e14, e15⟩ => ?_)
    subst e14 e15
    repeat first|(refine BG ?_;first|(refine BH ?_;first|(refine BI ?_;refine BM ?_)|(refine BJ ?_;first|refine BN ?_|refine BO ?_)|refine BP ?_)|(refine BK ?_;first|refine BS rfl rfl ?_|refine BT rfl rfl ?_|refine BU rfl ?_)|(refine BL ?_;first|refine BQ ?_)|(refine BR ?_;try simp only [setS]))|refine AA ?_|refine AC ?_|refine AD ?_|refine AE ?_|refine AF rfl rfl ?_|refine AG rfl rfl ?_|refine AH ?_|refine AI ?_|refine AJ ?_|refine AK ?_|refine AL ?_|refine AM ?_|refine AN ?_|refine AO ?_|refine AP ?_|refine AQ rfl ?_|refine AR ?_|refine AS ?_|refine AT rfl ?_|refine AU rfl ?_
    rfl
end
end Am
end Go.Proofs.Ythgcdoahoechhaa
