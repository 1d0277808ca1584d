/- Package manifest: may a list be? Package manifest: a list as bytes. Package manifest: Encode told. Package manifest: Decode told. Chapter 10's own Decode, Encode; chapter 4's reader of numbers. -/
import Derived.Test.YthgcdoahoechhaaMN
import Derived.Test.YthgcdoahoechhaaMH
set_option linter.unusedVariables false
set_option linter.unusedSimpArgs false
namespace Go.Proofs.Ythgcdoahoechhaa
namespace Am
open Go.RowKit
set_option maxRecDepth 100000
section
variable {e : En} {t : List AV} {X : Type} {h : Hp X}
theorem ef_box {x : Od} {l : List AV} (hx : x.ev e t = .agg l) (hall : allOne l = true) : (Ef.box x).ev e t h = some (.ptr h.n 0, h.push (.rw l)) := by
  simp only [Ef.ev, hx]
  show (bif allOne l then some (AV.ptr h.n 0, h.push (.rw l)) else none) = _
  rw [hall]
  rfl
end
section
variable {X : Type} {E : Nat → Option (Ent X)}
theorem RS.cut {α : Type} {f : α → AV} {h : Hp X} {v : AV} {bs : List α} (a : RS h 1 v bs.length (bs.map f)) {lo hi : Nat} (h1 : lo ≤ hi) (h2 : hi ≤ bs.length) : ∃ v', RS h 1 v' ((bs.drop lo).take (hi - lo)).length (((bs.drop lo).take (hi - lo)).map f) ∧ (∀ g, blk v' g → blk v g) ∧ (v ≠ .semp → v' ≠ .semp) ∧
    ∀ {hh : Hp X} {e : En} {t : List AV} {x : Od} {ol oh : Option Od}, x.ev e t = v → Bnd ol e t lo 0 → Bnd oh e t hi bs.length → (Mv.sl 1 x ol oh none).ev e t hh = some v' := by
  obtain ⟨v', k1, k2, k3, k4⟩ := a.sl h1 h2
  refine ⟨v', ?_, k2, k3, k4⟩
  have e1 : ((bs.map f).drop (lo * 1)).take ((hi - lo) * 1) = ((bs.drop lo).take (hi - lo)).map f := by rw [Nat.mul_one, Nat.mul_one, ← List.map_drop, ← List.map_take]
  have e2 : hi - lo = ((bs.drop lo).take (hi - lo)).length := by rw [List.length_take, List.length_drop]; omega
  rw [e1] at k1
  rw [← e2]
  exact k1
end
end Am
end Go.Proofs.Ythgcdoahoechhaa
namespace Go.Proofs.Ythgcdoahoechhaa
namespace Am
open Go.RowKit
set_option maxRecDepth 100000
section
variable {e : En} {t : List AV} {X : Type} {h : Hp X}
theorem ef_bs2 {x y : Od} {a b zero : AV} (hx : x.ev e t = a) (hy : y.ev e t = b) (ha : cellsOf a = some [a] ∧ a.one = true) (hb : cellsOf b = some [b] ∧ b.one = true) : (Ef.bslice 1 2 [zero] [(0, 1, x), (1, 1, y)]).ev e t h = some (.slice 1 h.n 0 2 (some 2), h.push (.rw [a, b])) := by
  have ho : allOne [a, b] = true := by
    have ha := ha.2
    have hb := hb.2
    unfold allOne
    cases a <;> first | (cases ha; done) | (cases b <;> first | (cases hb; done) | rfl)
  have hf : fillA (rep [zero] 2) [(0, 1, a), (1, 1, b)] = some [a, b] := by
    simp only [fillA, rep, ha.1, hb.1]
    rfl
  simp only [Ef.ev, List.map, hx, hy]
  rw [hf]
  show (bif allOne [a, b] && Nat.beq 2 (2 * 1) && Nat.ble 2 maxLen then some (AV.slice 1 h.n 0 2 (some 2), h.push (.rw [a, b])) else none) = _
  rw [ho]
  rfl
end
section
variable {X : Type} {E : Nat → Option (Ent X)}
end
end Am
end Go.Proofs.Ythgcdoahoechhaa
namespace Go.Proofs.Ythgcdoahoechhaa
namespace Am
open Go.RowKit
set_option maxRecDepth 100000
def encB (m : Nat) : Nat → List UInt8
  | 0 => []
  | k + 1 => UInt8.ofNat (m / 2 ^ (8 * k)) :: encB m k
theorem encB_len (m : Nat) : ∀ k, (encB m k).length = k
  | 0 => rfl
  | k + 1 => by simp [encB, encB_len m k]
theorem wr_u8 (n : Nat) : wr .u8 (n : Int) = ((UInt8.ofNat n).toNat : Int) := by
  have e : ((UInt8.ofNat n).toNat : Int) = ((n % 256 : Nat) : Int) := by rw [UInt8.toNat_ofNat']
  rw [e]
  simp only [wr, IntKind.wrap, IntKind.signed, IntKind.bits]
  simp
  try omega
theorem encK_map (m : Nat) : ∀ k, encK m k = (encB m k).map ub
  | 0 => rfl
  | k + 1 => by
    rw [encK_succ, encK_map m k, wr_u8]
    rfl
section
variable {e : En} {t : List AV} {X : Type} {h : Hp X}
theorem v_conv_u8 {x : Od} {k : IntKind} {a : Nat} (hx : x.ev e t = .int k (a : Int)) : (Mv.conv .u8 x).ev e t h = some (ub (UInt8.ofNat a)) := by
  simp only [Mv.ev, hx]
  show some (AV.int .u8 (wr .u8 (a : Int))) = _
  rw [wr_u8]
  rfl
end
end Am
end Go.Proofs.Ythgcdoahoechhaa
namespace Go.Proofs.Ythgcdoahoechhaa
namespace Am
open Go.RowKit
set_option maxRecDepth 100000
mutual
theorem eqA_refl : ∀ a : AV, eqA a a = true
  | .int .. => by simp [eqA]
  | .bool .. => by simp [eqA]
  | .str .. => by simp [eqA]
  | .ptr .. => by simp [eqA]
  | .nilp => rfl
  | .slice .. => by simp [eqA]
  | .snil => rfl
  | .semp => rfl
  | .meth _ fs => by simp [eqA, eqAs_refl fs]
  | .func _ cs => by simp [eqA, eqAs_refl cs]
  | .nilf => rfl
  | .iface _ v => by simp [eqA, eqA_refl v]
  | .inil => rfl
  | .agg l => by simp [eqA, eqAs_refl l]
  | .tup l => by simp [eqA, eqAs_refl l]
  | .bot => rfl
theorem eqAs_refl : ∀ l : List AV, eqAs l l = true
  | [] => rfl
  | a :: l => by simp [eqAs, eqA_refl a, eqAs_refl l]
end
section
variable {X : Type} {D : Dp X} {h : Hp X} {past : List (Pa X)} {r : List Nat} {q : Nat}
structure Chk (h : Hp X) (past : List (Pa X)) (r : List Nat) : Prop where
  out : chkAll h past r = true
theorem chk_nil : Chk h past [] := ⟨rfl⟩
theorem chk_mov {m : Mv} {e : En} {t : List AV} {v : AV} (hp : past[q]? = some (.mov m e t v)) (hm : m.ev e t h = some v) (H : Chk h past r) : Chk h past (q :: r) := ⟨by
  simp only [chkAll, hp, Pa.ok, hm, eqA_refl, H.out, Bool.and_self]⟩
theorem chk_skip (hp : past[q]? = some .skip) (H : Chk h past r) : Chk h past (q :: r) := ⟨by simp only [chkAll, hp, Pa.ok, H.out, Bool.and_self]⟩
theorem chk_alc {g : Nat} {l : List AV} (hp : past[q]? = some (.alc g l)) (hg : h.get g = some (.rw l)) (H : Chk h past r) : Chk h past (q :: r) := ⟨by simp only [chkAll, hp, Pa.ok, hg, eqAs_refl, H.out, Bool.and_self]⟩
section
variable {l : Dr} {e : En} {t : List AV} {Q : R X → Prop} {chk : List Nat}
theorem wd_alloc_s {k : Nat} {cs : List AV} (hc : Chk (h.push (.rw cs)) past chk) (H : WD D l (past ++ [.alc h.n cs]) e (setS t k (.ptr h.n 0)) (h.push (.rw cs)) Q) : WD D ((.mk none (.slot k) (.eff (.alloc cs)), chk) :: l) past e t h Q := by
  obtain ⟨t', h', h1, h2⟩ := H.out
  refine ⟨⟨t', h', ?_, h2⟩⟩
  have hp : paOf (.eff (.alloc cs)) e t h (.ptr h.n 0) (h.push (.rw cs)) = some (.alc h.n cs) := by
    show (match (h.push (.rw cs)).get h.n, some ((fun g => AV.ptr g 0), cs) with | some (.rw l), some (_, l') => bif eqAs l l' then some (Pa.alc h.n l) else none | _, _ => none) = _
    rw [Hp.push_self]
    simp [eqAs_refl]
  have ho : (Op1.eff (.alloc cs)).run D e t h = .ret (.ptr h.n 0) (h.push (.rw cs)) := rfl
  simp only [drGo, gdv, St1.g, St1.o, St1.d, ho, hp, hc.out, cond_true]
  exact h1
theorem wd_heap {h' : Hp X} (he : h = h') (H : WD D l past e t h' Q) : WD D l past e t h Q := by rw [he]; exact H
theorem wd_calls_e {k f : Nat} {xs : List Od} {args : List AV} (ha : (xs.map fun x => x.ev e t) = args) (H : WF D f args h fun v h' => Chk h' past chk ∧ WD D l (past ++ [.skip]) ((k, v) :: e) t h' Q) : WD D ((.mk none (.env k) (.call f xs), chk) :: l) past e t h Q :=
  wd_call_e ha (H.mono fun v h' ⟨q1, q2⟩ => ⟨q1.out, q2⟩)
end
theorem RS.at2 {n : Nat} {v : AV} {cells : List AV} (a : RS h 1 v n cells) {i : Nat} (hi : i < n) : ∃ g o, (∀ {hh : Hp X} {e : En} {t : List AV} {x y : Od} {k : IntKind}, x.ev e t = v → y.ev e t = .int k (i : Int) → (Mv.iaddr 1 x y).ev e t hh = some (.ptr g o)) ∧
    ∀ {S : Nat → Prop} {hh : Hp X}, Keep S h hh → (∀ k, blk v k → ¬ S k) → ∀ {e : En} {t : List AV} {x : Od}, x.ev e t = .ptr g o → (Mv.ld1 x).ev e t hh = cells[i]? := by
  cases v <;> first | exact a.elim | skip
  · rename_i z g o m cap
    obtain ⟨rfl, rfl, hg, l, hl, hle, rfl⟩ := a
    refine ⟨g, o + i * 1, fun {hh e t x y k} hx hy => ?_, fun {S hh} hk hs {e t x} hx => ?_⟩
    · simp only [Mv.ev, hx, hy, nOf]
      rw [show Nat.blt i m = true by rw [Nat.blt_eq]; exact hi]
      rfl
    · simp only [Mv.ev, hx, AV.onPtr]
      rw [rowOf_get (hk.get g hg (hs g rfl)), hl]
      simp only
      rw [getN_ge]
      rw [List.getElem?_take_of_lt (by omega), List.getElem?_drop, Nat.mul_one]
  · obtain ⟨rfl, _⟩ := a; omega
  · obtain ⟨rfl, _⟩ := a; omega
end
def nums : Nat → List UInt8 → List Int
  | 0, _ => []
  | k + 1, bs => (be (bs.take 3) : Int) :: nums k (bs.drop 3)
end Am
end Go.Proofs.Ythgcdoahoechhaa
namespace Go.Proofs.Ythgcdoahoechhaa
namespace Am
open Go.RowKit
set_option maxRecDepth 100000
def b_ref4Num : BF := ⟨35, [0, 1, 4, 5, 6, 17], (.seq (.reg [.mk none (.slot 2) (.mov (.mv (.const (.int .i64 0))))]) (.seq (.reg [.mk none (.env 8) (.mov (.mv (.slot 0))), .mk none (.env 9) (.mov (.nilc (.env 8))), .mk none (.env 10) (.mov (.faddr 0 (.env 9))), .mk none (.env 11) (.mov (.ld1 (.env 10))), .mk none (.env 12) (.mov (.mv (.slot 1))), .mk none (.env 13) (.call 92 [(.env 11), (.env 12)]), .mk none (.env 7) (.mov (.mv (.env 13))), .mk none (.env 14) (.mov (.ext 0 (.env 7))), .mk none (.env 15) (.mov (.ext 1 (.env 7))), .mk none (.slot 3) (.mov (.mv (.env 14))), .mk none (.slot 4) (.mov (.mv (.env 15)))]) (.seq (.seq (.reg [.mk none (.env 16) (.mov (.mv (.slot 4))), .mk none (.slot 5) (.mov (.notb (.env 16)))]) (.cond (.slot 5) (.seq (.reg [.mk none (.env 18) (.mov (.mv (.slot 0))), .mk none (.env 19) (.mov (.mv (.slot 0))), .mk none (.env 20) (.mov (.nilc (.env 18))), .mk none (.env 21) (.mov (.faddr 1 (.env 20))), .mk none .none (.eff (.store 1 (.env 21) (.const (.bool true)))), .mk none (.env 22) (.mov (.nilc (.env 19))), .mk none (.env 23) (.mov (.faddr 0 (.env 22))), .mk none .none (.eff (.store 1 (.env 23) (.const .snil)))]) (.seq (.reg [.mk none (.slot 2) (.mov (.mv (.const (.int .i64 0))))]) .ret)) .skip)) (.seq (.reg [.mk none (.env 24) (.mov (.mv (.slot 0))), .mk none (.env 25) (.mov (.mv (.slot 0))), .mk none (.env 26) (.mov (.nilc (.env 25))), .mk none (.env 27) (.mov (.faddr 0 (.env 26))), .mk none (.env 28) (.mov (.ld1 (.env 27))), .mk none (.env 29) (.mov (.mv (.slot 1))), .mk none (.env 30) (.mov (.sl 1 (.env 28) (some (.env 29)) none none)), .mk none (.env 31) (.mov (.nilc (.env 24))), .mk none (.env 32) (.mov (.faddr 0 (.env 31))), .mk none .none (.eff (.store 1 (.env 32) (.env 30)))]) (.seq (.reg [.mk none (.env 33) (.mov (.mv (.slot 3))), .mk none (.env 34) (.mov (.conv .i64 (.env 33))), .mk none (.slot 2) (.mov (.mv (.env 34)))]) .ret))))), [.slot (.slot 2)]⟩
def numF (bs : List UInt8) (bad : Bool) (n : Nat) : Int × List UInt8 × Bool := if n ≤ bs.length then ((be (bs.take n) : Int), bs.drop n, bad) else (0, [], true)
theorem numF_le (bs : List UInt8) (bad : Bool) (n : Nat) : (numF bs bad n).2.1.length ≤ bs.length := by unfold numF; split <;> simp
section
variable {X : Type} {E : Nat → Option (Ent X)}
structure RdB (h : Hp X) (g m : Nat) (bs : List UInt8) (bad : Bool) : Prop where
  mg : m ≤ g
  ok : ∃ bv, Bx h g [bv, .bool bad] ∧ RS h 1 bv bs.length (bs.map ub) ∧ ∀ k, blk bv k → k < m
theorem RdB.up {h h' : Hp X} {g m : Nat} {bs : List UInt8} {bad : Bool} (a : RdB h g m bs bad) (k : Keep NoB h h') : RdB h' g m bs bad := by
  obtain ⟨bv, h1, h2, h3⟩ := a.ok
  exact ⟨a.mg, bv, h1.up k, h2.up k, h3⟩
theorem RdB.keep {S : Nat → Prop} {h h' : Hp X} {g m : Nat} {bs : List UInt8} {bad : Bool} (a : RdB h g m bs bad) (k : Keep S h h') (hs : ∀ j, S j → g < j) : RdB h' g m bs bad := by
  obtain ⟨bv, h1, h2, h3⟩ := a.ok
  have := a.mg
  exact ⟨a.mg, bv, h1.keep k (fun q => by have := hs _ q; omega), h2.keep k (fun j hj q => by have := h3 j hj; have := hs j q; omega), h3⟩
theorem RdB.lt {h : Hp X} {g m : Nat} {bs : List UInt8} {bad : Bool} (a : RdB h g m bs bad) : g < h.n := by
  obtain ⟨bv, h1, _⟩ := a.ok
  exact h1.lt
theorem num_ok (hE : ∀ f e, E f = some e → e.plain) (hf : E 93 = some (.bc b_ref4Num)) (hg : E 92 = some (.bc b_ref2Get)) {h : Hp X} {g m n : Nat} {bs : List UInt8} {bad : Bool} (hr : RdB h g m bs bad) (h7 : n ≤ 7) (hb : bs.length ≤ 1099511627776) :
    WF (lim E) 93 [.ptr g 0, .int .i64 n] h fun r h' => r = .int .i64 (numF bs bad n).1 ∧ RdB h' g m (numF bs bad n).2.1 (numF bs bad n).2.2 ∧ Keep (OneB g) h h' := by
  obtain ⟨bv, h1, h2, h3⟩ := hr.ok
  have hmg := hr.mg
  refine wf_bc hE hf rfl ?_
  simp only [b_ref4Num, List.map, getS]
  repeat first|(refine BG ?_;first|(refine BH ?_;first|(refine BI ?_;refine BM ?_)|(refine BJ ?_;first|refine BN ?_|refine BO ?_)|refine BV (v_nilc rfl) ?_|refine BV (v_bx h1 rfl rfl) ?_|refine BP ?_)|(refine BK ?_;first|refine BS rfl rfl ?_|refine BT rfl rfl ?_|refine BU rfl ?_)|(refine BL ?_;first|refine BQ ?_)|(refine BR ?_;try simp only [setS]))|refine AA ?_|refine AC ?_|refine AD ?_|refine AE ?_|refine AF rfl rfl ?_|refine AG rfl rfl ?_|refine AH ?_|refine AI ?_|refine AJ ?_|refine AK ?_|refine AL ?_|refine AM ?_|refine AN ?_|refine AO ?_|refine AP ?_|refine AQ rfl ?_|refine AR ?_|refine AS ?_|refine AT rfl ?_|refine AU rfl ?_
  unfold numF
  by_cases hn : n ≤ bs.length
  · rw [if_pos hn]
    refine wr_call_e rfl ((rget_ok hE hg h2 (n := n) (by omega) hn).mono fun r h4 ⟨e1, e2⟩ => ?_)
    subst e1 e2
    obtain ⟨v2, s1, s2, s3, s4⟩ := h2.bytes (lo := n) (hi := bs.length) hn (Nat.le_refl _)
    have e1 : (bs.drop n).take (bs.length - n) = bs.drop n := List.take_of_length_le (by rw [List.length_drop]; exact Nat.le_refl _)
    rw [e1] at s1
    have hlt := be_lt (bs.take n)
    have hl0 : (bs.take n).length = n := by rw [List.length_take]; omega
    rw [hl0] at hlt
    have h56 : be (bs.take n) < 72057594037927936 := Nat.lt_of_lt_of_le hlt (Nat.le_trans (Nat.pow_le_pow_right (by omega) h7) (by decide))
    repeat first|(refine BG ?_;first|(refine BH ?_;first|(refine BI ?_;refine BM ?_)|(refine BJ ?_;first|refine BN ?_|refine BO ?_)|refine BV (v_nilc rfl) ?_|refine BV (v_bx h1 rfl rfl) ?_|refine BV (s4 (by rfl) (.inr ⟨_, _, rfl, rfl⟩) (.inl ⟨rfl, rfl⟩)) ?_|refine BV (v_conv_i64 rfl (by omega)) ?_|refine BP ?_)|(refine BK ?_;first|refine BS rfl rfl ?_|refine BT rfl rfl ?_|refine BU rfl ?_)|(refine BL ?_;first|refine BW (ef_bx h1 rfl rfl s1.one (Nat.zero_lt_succ _)) ?_|refine BQ ?_)|(refine BR ?_;try simp only [setS]))|refine AA ?_|refine AC ?_|refine AD ?_|refine AE ?_|refine AF rfl rfl ?_|refine AG rfl rfl ?_|refine AH ?_|refine AI ?_|refine AJ ?_|refine AK ?_|refine AL ?_|refine AM ?_|refine AN ?_|refine AO ?_|refine AP ?_|refine AQ rfl ?_|refine AR ?_|refine AS ?_|refine AT rfl ?_|refine AU rfl ?_
    have kp : Keep (OneB g) h4 (h4.put g (.rw (spl 0 [v2] [bv, .bool bad]))) := Keep.put _ _ _ rfl
    exact ⟨rfl, ⟨hmg, v2, h1.put, s1.keep kp (fun k hk q => by have := h3 k (s2 k hk); have q : k = g := q; omega), fun k hk => h3 k (s2 k hk)⟩, kp⟩
  · rw [if_neg hn]
    refine wr_call_e rfl ((rget_no hE hg h2 (n := n) (by omega)).mono fun r h4 ⟨e1, e2⟩ => ?_)
    subst e1 e2
    have h5 : Bx (h4.put g (.rw [bv, .bool true])) g [bv, .bool true] := h1.put
    repeat first|(refine BG ?_;first|(refine BH ?_;first|(refine BI ?_;refine BM ?_)|(refine BJ ?_;first|refine BN ?_|refine BO ?_)|refine BV (v_nilc rfl) ?_|refine BV (v_bx h1 rfl rfl) ?_|refine BP ?_)|(refine BK ?_;first|refine BS rfl rfl ?_|refine BT rfl rfl ?_|refine BU rfl ?_)|(refine BL ?_;first|refine BW (ef_bx h1 rfl rfl ⟨rfl, rfl⟩ (Nat.lt_succ_self 1)) ?_|refine BW (ef_bx h5 rfl rfl ⟨rfl, rfl⟩ (Nat.zero_lt_succ _)) ?_|refine BQ ?_)|(refine BR ?_;try simp only [setS]))|refine AA ?_|refine AC ?_|refine AD ?_|refine AE ?_|refine AF rfl rfl ?_|refine AG rfl rfl ?_|refine AH ?_|refine AI ?_|refine AJ ?_|refine AK ?_|refine AL ?_|refine AM ?_|refine AN ?_|refine AO ?_|refine AP ?_|refine AQ rfl ?_|refine AR ?_|refine AS ?_|refine AT rfl ?_|refine AU rfl ?_
    have k1 : Keep (OneB g) h4 (h4.put g (.rw [bv, .bool true])) := Keep.put _ _ _ rfl
    have k2 : Keep (OneB g) (h4.put g (.rw [bv, .bool true])) ((h4.put g (.rw [bv, .bool true])).put g (.rw [.snil, .bool true])) := Keep.put _ _ _ rfl
    exact ⟨rfl, ⟨hmg, .snil, h5.put, ⟨rfl, rfl⟩, fun k q => q.elim⟩, k1.trans k2 (fun _ _ q => q)⟩
theorem ef_box2 {e : En} {t : List AV} {h : Hp X} {x : Od} {a : AV} {c : Bool} (hx : x.ev e t = .agg [a, .bool c]) (ha : a.one = true) : (Ef.box x).ev e t h = some (.ptr h.n 0, h.push (.rw [a, .bool c])) :=
  ef_box hx (by unfold allOne; cases a <;> first | (cases ha; done) | rfl)
theorem v_bld2 {e : En} {t : List AV} {h : Hp X} {z0 z1 : AV} {x : Od} {a : AV} (hx : x.ev e t = a) (ha : cellsOf a = some [a]) : (Mv.bld [z0, z1] [(0, 1, x)]).ev e t h = some (.agg [a, z1]) := by
  simp only [Mv.ev, List.map, hx, fillA, ha]
  rfl
end
end Am
end Go.Proofs.Ythgcdoahoechhaa
