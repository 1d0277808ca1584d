/- Package manifest: may a list be? Package manifest: a list as bytes. Package manifest: Encode told. Package manifest: Decode told. Chapter 10's own Decode, Encode; chapter 4's reader of numbers. -/
import Derived.Test.YthgcdoahoechhaaMN
import Derived.Test.YthgcdoahoechhaaMH
set_option linter.unusedVariables false
set_option linter.unusedSimpArgs false
namespace Go.Proofs.Ythgcdoahoechhaa
namespace Am
open Go.RowKit
set_option maxRecDepth 100000
section
variable {e : En} {t : List AV} {X : Type} {h : Hp X}
theorem ef_box {x : Od} {l : List AV} (hx : x.ev e t = .agg l) (hall : allOne l = true) : (Ef.box x).ev e t h = some (.ptr h.n 0, h.push (.rw l)) := by
  simp only [Ef.ev, hx]
  show (bif allOne l then some (AV.ptr h.n 0, h.push (.rw l)) else none) = _
  rw [hall]
  rfl
end
section
variable {X : Type} {E : Nat → Option (Ent X)}
theorem RS.cut {α : Type} {f : α → AV} {h : Hp X} {v : AV} {bs : List α} (a : RS h 1 v bs.length (bs.map f)) {lo hi : Nat} (h1 : lo ≤ hi) (h2 : hi ≤ bs.length) : ∃ v', RS h 1 v' ((bs.drop lo).take (hi - lo)).length (((bs.drop lo).take (hi - lo)).map f) ∧ (∀ g, blk v' g → blk v g) ∧ (v ≠ .semp → v' ≠ .semp) ∧
    ∀ {hh : Hp X} {e : En} {t : List AV} {x : Od} {ol oh : Option Od}, x.ev e t = v → Bnd ol e t lo 0 → Bnd oh e t hi bs.length → (Mv.sl 1 x ol oh none).ev e t hh = some v' := by
  obtain ⟨v', k1, k2, k3, k4⟩ := a.sl h1 h2
  refine ⟨v', ?_, k2, k3, k4⟩
  have e1 : ((bs.map f).drop (lo * 1)).take ((hi - lo) * 1) = ((bs.drop lo).take (hi - lo)).map f := by rw [Nat.mul_one, Nat.mul_one, ← List.map_drop, ← List.map_take]
  have e2 : hi - lo = ((bs.drop lo).take (hi - lo)).length := by rw [List.length_take, List.length_drop]; omega
  rw [e1] at k1
  rw [← e2]
  exact k1
end
end Am
end Go.Proofs.Ythgcdoahoechhaa
namespace Go.Proofs.Ythgcdoahoechhaa
namespace Am
open Go.RowKit
set_option maxRecDepth 100000
section
variable {e : En} {t : List AV} {X : Type} {h : Hp X}
theorem ef_bs2 {x y : Od} {a b zero : AV} (hx : x.ev e t = a) (hy : y.ev e t = b) (ha : cellsOf a = some [a] ∧ a.one = true) (hb : cellsOf b = some [b] ∧ b.one = true) : (Ef.bslice 1 2 [zero] [(0, 1, x), (1, 1, y)]).ev e t h = some (.slice 1 h.n 0 2 (some 2), h.push (.rw [a, b])) := by
  have ho : allOne [a, b] = true := by
    have ha := ha.2
    have hb := hb.2
    unfold allOne
    cases a <;> first | (cases ha; done) | (cases b <;> first | (cases hb; done) | rfl)
  have hf : fillA (rep [zero] 2) [(0, 1, a), (1, 1, b)] = some [a, b] := by
    simp only [fillA, rep, ha.1, hb.1]
    rfl
  simp only [Ef.ev, List.map, hx, hy]
  rw [hf]
  show (bif allOne [a, b] && Nat.beq 2 (2 * 1) && Nat.ble 2 maxLen then some (AV.slice 1 h.n 0 2 (some 2), h.push (.rw [a, b])) else none) = _
  rw [ho]
  rfl
end
section
variable {X : Type} {E : Nat → Option (Ent X)}
end
end Am
end Go.Proofs.Ythgcdoahoechhaa
namespace Go.Proofs.Ythgcdoahoechhaa
namespace Am
open Go.RowKit
set_option maxRecDepth 100000
end Am
end Go.Proofs.Ythgcdoahoechhaa
namespace Go.Proofs.Ythgcdoahoechhaa
namespace Am
open Go.RowKit
set_option maxRecDepth 100000
mutual
theorem eqA_refl : ∀ a : AV, eqA a a = true
  | .int .. => by simp [eqA]
  | .bool .. => by simp [eqA]
  | .str .. => by simp [eqA]
  | .ptr .. => by simp [eqA]
  | .nilp => rfl
  | .slice .. => by simp [eqA]
  | .snil => rfl
  | .semp => rfl
  | .meth _ fs => by simp [eqA, eqAs_refl fs]
  | .func _ cs => by simp [eqA, eqAs_refl cs]
  | .nilf => rfl
  | .iface _ v => by simp [eqA, eqA_refl v]
  | .inil => rfl
  | .agg l => by simp [eqA, eqAs_refl l]
  | .tup l => by simp [eqA, eqAs_refl l]
  | .bot => rfl
theorem eqAs_refl : ∀ l : List AV, eqAs l l = true
  | [] => rfl
  | a :: l => by simp [eqAs, eqA_refl a, eqAs_refl l]
end
section
variable {X : Type} {D : Dp X} {h : Hp X} {past : List (Pa X)} {r : List Nat} {q : Nat}
structure Chk (h : Hp X) (past : List (Pa X)) (r : List Nat) : Prop where
  out : chkAll h past r = true
theorem chk_nil : Chk h past [] := ⟨rfl⟩
section
variable {l : Dr} {e : En} {t : List AV} {Q : R X → Prop} {chk : List Nat}
theorem wd_alloc_s {k : Nat} {cs : List AV} (hc : Chk (h.push (.rw cs)) past chk) (H : WD D l (past ++ [.alc h.n cs]) e (setS t k (.ptr h.n 0)) (h.push (.rw cs)) Q) : WD D ((.mk none (.slot k) (.eff (.alloc cs)), chk) :: l) past e t h Q := by
  obtain ⟨t', h', h1, h2⟩ := H.out
  refine ⟨⟨t', h', ?_, h2⟩⟩
  have hp : paOf (.eff (.alloc cs)) e t h (.ptr h.n 0) (h.push (.rw cs)) = some (.alc h.n cs) := by
    show (match (h.push (.rw cs)).get h.n, some ((fun g => AV.ptr g 0), cs) with | some (.rw l), some (_, l') => bif eqAs l l' then some (Pa.alc h.n l) else none | _, _ => none) = _
    rw [Hp.push_self]
    simp [eqAs_refl]
  have ho : (Op1.eff (.alloc cs)).run D e t h = .ret (.ptr h.n 0) (h.push (.rw cs)) := rfl
  simp only [drGo, gdv, St1.g, St1.o, St1.d, ho, hp, hc.out, cond_true]
  exact h1
theorem wd_heap {h' : Hp X} (he : h = h') (H : WD D l past e t h' Q) : WD D l past e t h Q := by rw [he]; exact H
theorem wd_calls_e {k f : Nat} {xs : List Od} {args : List AV} (ha : (xs.map fun x => x.ev e t) = args) (H : WF D f args h fun v h' => Chk h' past chk ∧ WD D l (past ++ [.skip]) ((k, v) :: e) t h' Q) : WD D ((.mk none (.env k) (.call f xs), chk) :: l) past e t h Q :=
  wd_call_e ha (H.mono fun v h' ⟨q1, q2⟩ => ⟨q1.out, q2⟩)
end
theorem RS.at2 {n : Nat} {v : AV} {cells : List AV} (a : RS h 1 v n cells) {i : Nat} (hi : i < n) : ∃ g o, (∀ {hh : Hp X} {e : En} {t : List AV} {x y : Od} {k : IntKind}, x.ev e t = v → y.ev e t = .int k (i : Int) → (Mv.iaddr 1 x y).ev e t hh = some (.ptr g o)) ∧
    ∀ {S : Nat → Prop} {hh : Hp X}, Keep S h hh → (∀ k, blk v k → ¬ S k) → ∀ {e : En} {t : List AV} {x : Od}, x.ev e t = .ptr g o → (Mv.ld1 x).ev e t hh = cells[i]? := by
  cases v <;> first | exact a.elim | skip
  · rename_i z g o m cap
    obtain ⟨rfl, rfl, hg, l, hl, hle, rfl⟩ := a
    refine ⟨g, o + i * 1, fun {hh e t x y k} hx hy => ?_, fun {S hh} hk hs {e t x} hx => ?_⟩
    · simp only [Mv.ev, hx, hy, nOf]
      rw [show Nat.blt i m = true by rw [Nat.blt_eq]; exact hi]
      rfl
    · simp only [Mv.ev, hx, AV.onPtr]
      rw [rowOf_get (hk.get g hg (hs g rfl)), hl]
      simp only
      rw [getN_ge]
      rw [List.getElem?_take_of_lt (by omega), List.getElem?_drop, Nat.mul_one]
  · obtain ⟨rfl, _⟩ := a; omega
  · obtain ⟨rfl, _⟩ := a; omega
end
def nums : Nat → List UInt8 → List Int
  | 0, _ => []
  | k + 1, bs => (be (bs.take 3) : Int) :: nums k (bs.drop 3)
end Am
end Go.Proofs.Ythgcdoahoechhaa
namespace Go.Proofs.Ythgcdoahoechhaa
namespace Am
open Go.RowKit
set_option maxRecDepth 100000
section
variable {X : Type} {E : Nat → Option (Ent X)}
structure RdB (h : Hp X) (g m : Nat) (bs : List UInt8) (bad : Bool) : Prop where
  mg : m ≤ g
  ok : ∃ bv, Bx h g [bv, .bool bad] ∧ RS h 1 bv bs.length (bs.map ub) ∧ ∀ k, blk bv k → k < m
theorem RdB.up {h h' : Hp X} {g m : Nat} {bs : List UInt8} {bad : Bool} (a : RdB h g m bs bad) (k : Keep NoB h h') : RdB h' g m bs bad := by
  obtain ⟨bv, h1, h2, h3⟩ := a.ok
  exact ⟨a.mg, bv, h1.up k, h2.up k, h3⟩
theorem RdB.keep {S : Nat → Prop} {h h' : Hp X} {g m : Nat} {bs : List UInt8} {bad : Bool} (a : RdB h g m bs bad) (k : Keep S h h') (hs : ∀ j, S j → g < j) : RdB h' g m bs bad := by
  obtain ⟨bv, h1, h2, h3⟩ := a.ok
  have := a.mg
  exact ⟨a.mg, bv, h1.keep k (fun q => by have := hs _ q; omega), h2.keep k (fun j hj q => by have := h3 j hj; have := hs j q; omega), h3⟩
theorem RdB.lt {h : Hp X} {g m : Nat} {bs : List UInt8} {bad : Bool} (a : RdB h g m bs bad) : g < h.n := by
  obtain ⟨bv, h1, _⟩ := a.ok
  exact h1.lt
end
end Am
end Go.Proofs.Ythgcdoahoechhaa
