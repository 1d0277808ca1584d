/- slices.Index of ints, and chapter 10's own question whether a list may be, told by plain functions. slices.Index of ints and chapter 10's question as functions of the table. The plain machine: a function that lays one new row and changes nothing else, as a function of the table; numbers put behind bytes. Numbers put behind bytes: octet.Put, chapter 2's Put, slices.Clone of bytes. -/
import Derived.Test.YthgcdoahoechhaaMC
import Derived.Test.YthgcdoahoechhaaMF
import Derived.Test.YthgcdoahoechhaaRows
import Derived.KernelRfl
set_option linter.unusedVariables false
set_option linter.unusedSimpArgs false
namespace Go.Proofs.Ythgcdoahoechhaa
namespace Am
open Go.RowKit
set_option maxRecDepth 100000
section
variable {X : Type} {E : Nat → Option (Ent X)}
def iv (n : Int) : AV := .int .i64 n
theorem int_eq {k : IntKind} {a b : Int} (h : a = b) : AV.int k a = AV.int k b := by rw [h]
end
end Am
end Go.Proofs.Ythgcdoahoechhaa
namespace Go.Proofs.Ythgcdoahoechhaa
namespace Am
open Go.RowKit
set_option maxRecDepth 100000
variable {P : Program}
def inB {X : Type} (v : AV) (h : Hp X) : Bool := match v with | .slice _ g _ _ _ => Nat.blt g h.n | _ => true
theorem elems_rs {X : Type} {h : Hp X} {z n : Nat} {v : AV} {cells : List AV} (he : elems h z v = some (n, cells)) (hi : inB v h = true) : RS h z v n cells := by
  unfold elems at he
  split at he
  · cases he; exact ⟨rfl, rfl⟩
  · cases he; exact ⟨rfl, rfl⟩
  · rename_i z' g o len cap
    cases hz : Nat.beq z' z with
    | false => rw [hz] at he; cases he
    | true =>
      rw [hz] at he
      simp only [cond_true] at he
      split at he
      · rename_i l hl
        unfold takeN at he
        cases hb : Nat.ble (o + len * z) l.length with
        | false => rw [hb] at he; cases he
        | true =>
          rw [hb] at he
          simp only [cond_true] at he
          cases he
          exact ⟨Nat.eq_of_beq_eq_true hz, rfl, by simpa [inB, Nat.blt_eq] using hi, l, hl, Nat.le_of_ble_eq_true hb, rfl⟩
      · cases he
  · cases he
end Am
end Go.Proofs.Ythgcdoahoechhaa
namespace Go.Proofs.Ythgcdoahoechhaa
namespace Am
open Go.RowKit
set_option maxRecDepth 100000
variable {P : Program}
mutual
theorem VR.three {m m' m'' : Mu} (h : ∀ g p, m g = some p → m'' g = m' g) : ∀ (a : AV) (v0 v : Value), VR m a v0 → VR m' a v → VR m'' a v
  | .int .., _, _, _, hv => by simpa [VR] using hv
  | .bool .., _, _, _, hv => by simpa [VR] using hv
  | .str .., _, _, _, hv => by simpa [VR] using hv
  | .ptr .., _, _, h0, hv => by
    simp only [VR] at h0 hv ⊢
    obtain ⟨p0, hp0, _⟩ := h0
    obtain ⟨p, hp, r⟩ := hv
    exact ⟨p, by rw [h _ _ hp0]; exact hp, r⟩
  | .nilp, _, _, _, hv => by simpa [VR] using hv
  | .slice .., _, _, h0, hv => by
    simp only [VR] at h0 hv ⊢
    obtain ⟨p0, _, _, hp0, _⟩ := h0
    obtain ⟨p, ad, c, hp, r⟩ := hv
    exact ⟨p, ad, c, by rw [h _ _ hp0]; exact hp, r⟩
  | .snil, _, _, _, hv => by simpa [VR] using hv
  | .func _ cs, _, _, h0, hv => by
    simp only [VR] at h0 hv ⊢
    obtain ⟨l0, _, hl0⟩ := h0
    obtain ⟨l, r, hl⟩ := hv
    exact ⟨l, r, VRs.three h cs l0 l hl0 hl⟩
  | .nilf, _, _, _, hv => by simpa [VR] using hv
  | .iface _ x, _, _, h0, hv => by
    simp only [VR] at h0 hv ⊢
    obtain ⟨l0, _, hl0⟩ := h0
    obtain ⟨l, r, hl⟩ := hv
    exact ⟨l, r, VR.three h x l0 l hl0 hl⟩
  | .inil, _, _, _, hv => by simpa [VR] using hv
  | .agg cs, _, _, h0, hv => by
    simp only [VR] at h0 hv ⊢
    obtain ⟨l0, _, hl0⟩ := h0
    obtain ⟨l, r, hl⟩ := hv
    exact ⟨l, r, VRs.three h cs l0 l hl0 hl⟩
  | .tup cs, _, _, h0, hv => by
    simp only [VR] at h0 hv ⊢
    obtain ⟨l0, _, hl0⟩ := h0
    obtain ⟨l, r, hl⟩ := hv
    exact ⟨l, r, VRs.three h cs l0 l hl0 hl⟩
  | .bot, _, _, _, _ => by simp [VR]
  | .semp, _, _, _, hv => by simpa [VR] using hv
  | .meth _ fs, _, _, h0, hv => by
    simp only [VR] at h0 hv ⊢
    obtain ⟨l0, _, hl0⟩ := h0
    obtain ⟨l, r, hl⟩ := hv
    exact ⟨l, r, VRs.three h fs l0 l hl0 hl⟩
theorem VRs.three {m m' m'' : Mu} (h : ∀ g p, m g = some p → m'' g = m' g) : ∀ (xs : List AV) (l0 l : List Value), VRs m xs l0 → VRs m' xs l → VRs m'' xs l
  | [], _, _, _, hv => by simpa [VRs] using hv
  | a :: xs, _, _, h0, hv => by
    simp only [VRs] at h0 hv ⊢
    obtain ⟨v0, vs0, _, h1, h2⟩ := h0
    obtain ⟨v, vs, e, h3, h4⟩ := hv
    exact ⟨v, vs, e, VR.three h a v0 v h1 h3, VRs.three h xs vs0 vs h2 h4⟩
end
theorem RowR.three {m m' m'' : Mu} (h : ∀ g p, m g = some p → m'' g = m' g) {l : List AV} {f0 f : Nat → Option Value} (h0 : RowR m l f0) (h1 : RowR m' l f) : RowR m'' l f := fun i v hi => by
  obtain ⟨v0, _, k1, _⟩ := h0 i v hi
  obtain ⟨v', k2, k3, k4⟩ := h1 i v hi
  exact ⟨v', k2, VR.three h v v0 v' k1 k3, k4⟩
def flat (a : AV) : Bool := match a with | .int .. => true | .bool _ => true | .str _ => true | _ => false
theorem VR.flat {m m' : Mu} {a : AV} {v : Value} (h : flat a = true) (hv : VR m a v) : VR m' a v := by
  cases a <;> first | (cases h; done) | simpa [VR] using hv
theorem fpost_fresh {O : Objs} {w0 w w' : World} {m m' : Mu} {φ φ' : Ph} {h h' : Hp O.X} (H0 : SR O w0 w m φ h) (H : SR O w0 w' m' φ' h') (hm : ∀ g, g < h.n → m' g = m g) (hk : Keep NoB h h') {z g o n : Nat} {cap : Option Nat} {cells : List AV} {v' : Value}
    (hg : h.n ≤ g) (ho : OS h' z (.slice z g o n cap) n cells) (hfl : ∀ a ∈ cells, flat a = true) (hv : VR m' (.slice z g o n cap) v') :
    FPost O w0 m h (.ret (.slice z h.n 0 n none) (h.push (.rw cells))) (.returned v') w' := by
  obtain ⟨_, _, hz, hgn, l, hl, hle, hc, hcap⟩ := ho
  simp only [VR] at hv
  obtain ⟨p, ad, c, hp, rfl, hnc, hcm, had, ⟨hz0, hz1⟩, hcc⟩ := hv
  obtain ⟨cs, ty, fz, b1, b2, b3, b4, b5, b6, b7⟩ := H.blk g _ hl p hp
  have hce : p.s + o + c * p.z ≤ p.e ∧ n * z ≤ c * p.z := by
    rw [hz1]
    refine ⟨?_, Nat.mul_le_mul_right _ hnc⟩
    cases cap with
    | none => simp only at hcc; rw [hz1] at hcc; omega
    | some k => simp only at hcc hcap; subst hcc; omega
  let p2 : Pl := ⟨p.b, p.s + o, p.s + o + c * p.z, p.z⟩
  let m2 : Mu := fun k => if k < h.n then m' k else if k = h.n then some p2 else none
  let φ2 : Ph := fun k => if k = h.n then φ' g else φ' k
  have e1 : ∀ k, k < h.n → m2 k = m' k := fun k hk => if_pos hk
  have e2 : m2 h.n = some p2 := by show (if h.n < h.n then _ else _) = _; rw [if_neg (Nat.lt_irrefl _), if_pos rfl]
  have hdom : ∀ k q, m k = some q → k < h.n := fun k q hq => H0.dom k q hq
  have h3 : ∀ k q, m k = some q → m2 k = m' k := fun k q hq => e1 k (hdom k q hq)
  have old : ∀ k c, (h.push (.rw cells)).get k = some c → k ≠ h.n → (m2 k).isSome = true → k < h.n ∧ h.get k = some c ∧ h'.get k = some c := fun k c hc hne hi => by
    have hlt : k < h.n := by
      by_cases hlt : k < h.n
      · exact hlt
      · simp only [m2, if_neg hlt, if_neg hne] at hi; cases hi
    rw [Hp.push_ne _ _ hne] at hc
    exact ⟨hlt, hc, by rw [hk.get k hlt (fun q => q)]; exact hc⟩
  refine ⟨m2, φ2, .slice (some ad) n c, fun k hk => by rw [e1 k hk, hm k hk], Nat.le_succ _, ⟨H.below, fun k c hc q hq => ?_, fun k k' c c' hc hc' hne o1 o2 i1 i2 x hx => ?_, fun k c hc o1 i1 x hx => ?_, fun k q hq => ?_⟩, ?_, rfl⟩
  · by_cases e : k = h.n
    · subst e
      rw [e2] at hq; cases hq
      rw [Hp.push_self] at hc; cases hc
      have hcl : cells.length = n * z := by rw [hc, List.length_take, List.length_drop]; omega
      show BlkOK O w0 w' m2 p2 (φ2 h.n) _
      have hφ : φ2 h.n = φ' g := if_pos rfl
      rw [hφ]
      refine ⟨cs, ty, fz, b1, b2, by show p.s + o + c * p.z ≤ cs.size; omega, by show p.s + o + cells.length ≤ p.s + o + c * p.z; omega, fun i v hi => ?_, b6, b7⟩
      have hil : i < cells.length := (List.getElem?_eq_some_iff.1 hi).1
      have hi' : l[o + i]? = some v := by
        rw [hc, List.getElem?_take_of_lt (by omega), List.getElem?_drop] at hi
        exact hi
      obtain ⟨v', k1, k2, k3⟩ := b5 (o + i) v hi'
      refine ⟨v', ?_, k2.flat (hfl v (List.mem_of_getElem? hi)), k3⟩
      show cs[p.s + o + i]? = some v'
      rw [Nat.add_assoc]; exact k1
    · obtain ⟨hlt, g1, g2⟩ := old k c hc e (by rw [hq]; rfl)
      rw [e1 k hlt] at hq
      have hq0 : m k = some q := by rw [← hm k hlt]; exact hq
      have A := H0.blk k c g1 q hq0
      have B := H.blk k c g2 q hq
      have hφ : φ2 k = φ' k := if_neg e
      rw [hφ]
      cases c with
      | rw r =>
        obtain ⟨_, _, _, _, _, _, _, a5, _⟩ := A
        obtain ⟨cs, ty, fz, c1, c2, c3, c4, c5, c6, c7⟩ := B
        exact ⟨cs, ty, fz, c1, c2, c3, c4, a5.three h3 c5, c6, c7⟩
      | ro r =>
        obtain ⟨_, _, a5⟩ := A
        obtain ⟨c1, c2, c5⟩ := B
        exact ⟨c1, c2, a5.three h3 c5⟩
      | obj x => exact B
  · by_cases x1 : k = h.n
    · subst x1
      have hk'n : k' ≠ h.n := fun e => hne e.symm
      obtain ⟨hlt, _, g2⟩ := old k' c' hc' hk'n i2
      rw [show φ2 h.n = φ' g from if_pos rfl] at hx
      rw [show φ2 k' = φ' k' from if_neg hk'n]
      exact H.dis g k' _ _ hl g2 (by omega) rfl o2 (by rw [hp]; rfl) (by rw [← e1 k' hlt]; exact i2) x hx
    · obtain ⟨hlt, _, g1⟩ := old k c hc x1 i1
      rw [show φ2 k = φ' k from if_neg x1] at hx
      by_cases x2 : k' = h.n
      · subst x2
        rw [show φ2 h.n = φ' g from if_pos rfl]
        exact H.dis k g _ _ g1 hl (by omega) o1 rfl (by rw [← e1 k hlt]; exact i1) (by rw [hp]; rfl) x hx
      · obtain ⟨hlt', _, g2⟩ := old k' c' hc' x2 i2
        rw [show φ2 k' = φ' k' from if_neg x2]
        exact H.dis k k' _ _ g1 g2 hne o1 o2 (by rw [← e1 k hlt]; exact i1) (by rw [← e1 k' hlt']; exact i2) x hx
  · by_cases x1 : k = h.n
    · subst x1
      rw [show φ2 h.n = φ' g from if_pos rfl] at hx
      exact H.fresh g _ hl rfl (by rw [hp]; rfl) x hx
    · obtain ⟨hlt, _, g1⟩ := old k c hc x1 i1
      rw [show φ2 k = φ' k from if_neg x1] at hx
      exact H.fresh k _ g1 o1 (by rw [← e1 k hlt]; exact i1) x hx
  · show k < h.n + 1
    by_cases hlt : k < h.n
    · omega
    · by_cases e : k = h.n
      · omega
      · simp only [m2, if_neg hlt, if_neg e] at hq; cases hq
  · simp only [VR]
    refine ⟨p2, ad, c, e2, rfl, hnc, hcm, fun hc0 => ?_, ⟨hz0, hz1⟩, ?_⟩
    · rw [had hc0]; rfl
    · show p.s + o + 0 + c * p.z = p.s + o + c * p.z
      omega
theorem fnok_fresh {O : Objs} {L : Dp O.X} (hD : DS P O L) {f : Nat} {F : List AV → Hp O.X → Option (Nat × List AV)} {z : Nat} (hc : callable P f = true)
    (hF : ∀ args h n cells, F args h = some (n, cells) → WF L f args h fun r h' => Keep NoB h h' ∧ (∀ a ∈ cells, flat a = true) ∧ ∃ g o cap, r = .slice z g o n cap ∧ h.n ≤ g ∧ OS h' z r n cells) :
    FnOK P O f (fun _ args h => match F args h with | some (n, cells) => .ret (.slice z h.n 0 n none) (h.push (.rw cells)) | none => .bad) := by
  refine ⟨hc, fun {D} _ args hp hb {w0 w m φ args'} hs hv => ?_⟩
  cases hf : F args hp with
  | none => simp only [hf] at hb; exact absurd rfl hb
  | some q =>
    obtain ⟨n, cells⟩ := q
    obtain ⟨r, h', e, hk, hfl, g, o, cap, rfl, hg, ho⟩ := (hF args hp n cells hf).out
    have hc := (hD f args hp (by rw [e]; intro x; cases x)).2 hs hv
    rw [e] at hc
    refine hc.mono fun en w' hq => ?_
    obtain ⟨m', φ', v', k1, k2, k3, k4, rfl⟩ := hq
    simp only [hf]
    exact fpost_fresh hs k3 k1 hk hg ho hfl k4
end Am
end Go.Proofs.Ythgcdoahoechhaa
namespace Go.Proofs.Ythgcdoahoechhaa
namespace Am
open Go.RowKit
set_option maxRecDepth 100000
def b_clone : BF := ⟨8, [0, 2, 4], (.seq (.reg [.mk none (.slot 1) (.mov (.mv (.const .snil)))]) (.seq (.seq (.reg [.mk none (.env 3) (.mov (.mv (.slot 0))), .mk none (.slot 2) (.mov (.bin .eql .slice (.env 3) (.const .snil)))]) (.cond (.slot 2) (.seq (.reg [.mk none (.slot 1) (.mov (.mv (.const .snil)))]) .ret) .skip)) (.seq (.reg [.mk none (.env 5) (.eff (.bslice 1 0 [(.int .u8 0)] [])), .mk none (.env 6) (.mov (.mv (.slot 0))), .mk none (.env 7) (.eff (.append 1 1 (.env 5) (.env 6))), .mk none (.slot 1) (.mov (.mv (.env 7)))]) .ret))), [.slot (.slot 1)]⟩
def b_octPut : BF := ⟨28, [0, 1, 2, 6, 7, 8, 16], (.seq (.reg [.mk none (.slot 3) (.mov (.mv (.const .snil)))]) (.seq (.reg [.mk none (.env 9) (.mov (.mv (.slot 0))), .mk none (.env 10) (.call 85 [(.env 9)]), .mk none (.slot 4) (.mov (.mv (.env 10)))]) (.seq (.seq (.reg [.mk none (.env 11) (.mov (.mv (.slot 2))), .mk none (.env 12) (.mov (.minv (.env 11) (.const (.int .i64 8)))), .mk none (.env 13) (.mov (.maxv (.env 12) (.const (.int .i64 0)))), .mk none (.env 14) (.mov (.bin .sub .no (.env 13) (.const (.int .i64 1)))), .mk none (.slot 5) (.mov (.mv (.env 14)))]) (.block 0 (.loop (.seq (.seq (.reg [.mk none (.env 15) (.mov (.mv (.slot 5))), .mk none (.slot 6) (.mov (.bin .geq .no (.env 15) (.const (.int .i64 0))))]) (.cond (.slot 6) .skip (.exit 0))) (.seq (.block 1 (.reg [.mk none (.env 19) (.mov (.mv (.slot 4))), .mk none (.env 20) (.mov (.mv (.slot 1))), .mk none (.env 21) (.mov (.mv (.slot 5))), .mk none (.env 22) (.mov (.bin .mul .no (.const (.int .i64 8)) (.env 21))), .mk none (.env 23) (.mov (.bin .shr .no (.env 20) (.env 22))), .mk none (.env 24) (.mov (.conv .u8 (.env 23))), .mk none (.env 25) (.eff (.bslice 1 1 [(.int .u8 0)] [(0, 1, (.env 24))])), .mk none (.env 26) (.eff (.append 1 1 (.env 19) (.env 25))), .mk none (.slot 4) (.mov (.mv (.env 26)))])) (.reg [.mk none (.env 17) (.mov (.mv (.slot 5))), .mk none (.env 18) (.mov (.bin .sub .no (.env 17) (.const (.int .i64 1)))), .mk none (.slot 5) (.mov (.mv (.env 18)))])))))) (.seq (.reg [.mk none (.env 27) (.mov (.mv (.slot 4))), .mk none (.slot 3) (.mov (.mv (.env 27)))]) .ret)))), [.slot (.slot 3)]⟩
def b_ref2Put : BF := ⟨31, [0, 1, 2, 6, 7, 8, 18], (.seq (.reg [.mk none (.slot 3) (.mov (.mv (.const .snil)))]) (.seq (.reg [.mk none (.env 9) (.eff (.bslice 1 0 [(.int .u8 0)] [])), .mk none (.env 10) (.mov (.mv (.slot 0))), .mk none (.env 11) (.eff (.append 1 1 (.env 9) (.env 10))), .mk none (.slot 4) (.mov (.mv (.env 11)))]) (.seq (.reg [.mk none (.env 12) (.mov (.mv (.slot 2))), .mk none (.env 13) (.mov (.minv (.env 12) (.const (.int .i64 8)))), .mk none (.env 14) (.mov (.maxv (.env 13) (.const (.int .i64 0)))), .mk none (.slot 2) (.mov (.mv (.env 14)))]) (.seq (.seq (.reg [.mk none (.env 15) (.mov (.mv (.slot 2))), .mk none (.env 16) (.mov (.bin .sub .no (.env 15) (.const (.int .i64 1)))), .mk none (.slot 5) (.mov (.mv (.env 16)))]) (.block 0 (.loop (.seq (.seq (.reg [.mk none (.env 17) (.mov (.mv (.slot 5))), .mk none (.slot 6) (.mov (.bin .geq .no (.env 17) (.const (.int .i64 0))))]) (.cond (.slot 6) .skip (.exit 0))) (.seq (.block 1 (.reg [.mk none (.env 21) (.mov (.mv (.slot 4))), .mk none (.env 22) (.mov (.mv (.slot 1))), .mk none (.env 23) (.mov (.mv (.slot 5))), .mk none (.env 24) (.mov (.bin .mul .no (.const (.int .i64 8)) (.env 23))), .mk none (.env 25) (.mov (.conv .u64 (.env 24))), .mk none (.env 26) (.mov (.bin .shr .no (.env 22) (.env 25))), .mk none (.env 27) (.mov (.conv .u8 (.env 26))), .mk none (.env 28) (.eff (.bslice 1 1 [(.int .u8 0)] [(0, 1, (.env 27))])), .mk none (.env 29) (.eff (.append 1 1 (.env 21) (.env 28))), .mk none (.slot 4) (.mov (.mv (.env 29)))])) (.reg [.mk none (.env 19) (.mov (.mv (.slot 5))), .mk none (.env 20) (.mov (.bin .sub .no (.env 19) (.const (.int .i64 1)))), .mk none (.slot 5) (.mov (.mv (.env 20)))])))))) (.seq (.reg [.mk none (.env 30) (.mov (.mv (.slot 4))), .mk none (.slot 3) (.mov (.mv (.env 30)))]) .ret))))), [.slot (.slot 3)]⟩
section
variable {X : Type} {E : Nat → Option (Ent X)}
theorem cnil {v : AV} (hv : v ≠ .semp) {h : Hp X} {n z : Nat} {cells : List AV} (hr : RS h z v n cells) : (v = .snil ∧ n = 0 ∧ cells = [] ∧ (∀ {e : En} {t : List AV} {x : Od}, x.ev e t = v → (Mv.bin .eql .slice x (.const .snil)).ev e t h = some (.bool true))) ∨ (v ≠ .snil ∧ (∀ {e : En} {t : List AV} {x : Od}, x.ev e t = v → (Mv.bin .eql .slice x (.const .snil)).ev e t h = some (.bool false))) := by
  cases v <;> first | exact hr.elim | exact absurd rfl hv | skip
  · exact .inr ⟨(fun e => by cases e), fun {e t x} hx => by show bin .eql .slice (x.ev e t) .snil = _; rw [hx]; rfl⟩
  · exact .inl ⟨rfl, hr.1, hr.2, fun {e t x} hx => by show bin .eql .slice (x.ev e t) .snil = _; rw [hx]; rfl⟩
def Own1 (h : Hp X) (h' : Hp X) (v : AV) : Prop := Keep NoB h h' ∧ ∀ g, blk v g → h.n ≤ g
theorem ef_bs0 {e : En} {t : List AV} {h : Hp X} {z : Nat} {zero : List AV} : (Ef.bslice z 0 zero []).ev e t h = some (.slice z h.n 0 0 (some 0), h.push (.rw [])) := by
  simp only [Ef.ev, List.map, rep, fillA, allOne, List.length_nil, Nat.zero_mul, Nat.beq_refl, Bool.true_and]
  rfl
theorem os_push0 {h : Hp X} {z : Nat} (hz : 0 < z) : OS (h.push (.rw [])) z (.slice z h.n 0 0 (some 0)) 0 [] :=
  ⟨rfl, rfl, hz, Nat.lt_succ_self _, [], Hp.push_self _ _, by simp, by simp, by simp⟩
theorem clone_ok (hE : ∀ f e, E f = some e → e.plain) (hf : E 85 = some (.bc b_clone)) {h : Hp X} {v : AV} {n : Nat} {cells : List AV} (hr : RS h 1 v n cells) (hv : v ≠ .semp) (hn : n ≤ 140737488355328) :
    WF (lim E) 85 [v] h fun r h' => Own1 h h' r ∧ OS h' 1 r n cells := by
  refine wf_bc hE hf rfl ?_
  simp only [b_clone, List.map, getS]
  rcases cnil hv hr with ⟨rfl, rfl, rfl, hc⟩ | ⟨hne, hc⟩
  · repeat first|(refine BG ?_;first|(refine BH ?_;first|(refine BI ?_;refine BM ?_)|(refine BJ ?_;first|refine BN ?_|refine BO ?_)|refine BV (hc (by rfl)) ?_|refine BP ?_)|(refine BK ?_;first|refine BS rfl rfl ?_|refine BT rfl rfl ?_|refine BU rfl ?_)|(refine BL ?_;first|refine BQ ?_)|(refine BR ?_;try simp only [setS]))|refine AA ?_|refine AC ?_|refine AD ?_|refine AE ?_|refine AF rfl rfl ?_|refine AG rfl rfl ?_|refine AH ?_|refine AI ?_|refine AJ ?_|refine AK ?_|refine AL ?_|refine AM ?_|refine AN ?_|refine AO ?_|refine AP ?_|refine AQ rfl ?_|refine AR ?_|refine AS ?_|refine AT rfl ?_|refine AU rfl ?_
    exact ⟨⟨Keep.refl _ _, fun g hg => hg.elim⟩, rfl, rfl⟩
  · repeat first|(refine BG ?_;first|(refine BH ?_;first|(refine BI ?_;refine BM ?_)|(refine BJ ?_;first|refine BN ?_|refine BO ?_)|refine BV (hc (by rfl)) ?_|refine BP ?_)|(refine BK ?_;first|refine BS rfl rfl ?_|refine BT rfl rfl ?_|refine BU rfl ?_)|(refine BL ?_;first|refine BW ef_bs0 ?_|refine BQ ?_)|(refine BR ?_;try simp only [setS]))|refine AA ?_|refine AC ?_|refine AD ?_|refine AE ?_|refine AF rfl rfl ?_|refine AG rfl rfl ?_|refine AH ?_|refine AI ?_|refine AJ ?_|refine AK ?_|refine AL ?_|refine AM ?_|refine AN ?_|refine AO ?_|refine AP ?_|refine AQ rfl ?_|refine AR ?_|refine AS ?_|refine AT rfl ?_|refine AU rfl ?_
    have hm : (maxLen : Nat) = 9223372036854775807 := rfl
    refine wr_app_e (n := 0) (m := n) (cells := []) rfl rfl (os_push0 Nat.zero_lt_one) Nat.zero_lt_one (hr.keep (Keep.push NoB _ _) (fun _ _ q => q)) (by omega) (by omega) fun v' h' h1 h2 h3 => ?_
    repeat first|(refine BG ?_;first|(refine BH ?_;first|(refine BI ?_;refine BM ?_)|(refine BJ ?_;first|refine BN ?_|refine BO ?_)|refine BP ?_)|(refine BK ?_;first|refine BS rfl rfl ?_|refine BT rfl rfl ?_|refine BU rfl ?_)|(refine BL ?_;first|refine BQ ?_)|(refine BR ?_;try simp only [setS]))|refine AA ?_|refine AC ?_|refine AD ?_|refine AE ?_|refine AF rfl rfl ?_|refine AG rfl rfl ?_|refine AH ?_|refine AI ?_|refine AJ ?_|refine AK ?_|refine AL ?_|refine AM ?_|refine AN ?_|refine AO ?_|refine AP ?_|refine AQ rfl ?_|refine AR ?_|refine AS ?_|refine AT rfl ?_|refine AU rfl ?_
    refine ⟨⟨(Keep.push NoB _ _).trans h2 (fun g hg hb => ?_), fun g hg => ?_⟩, by rw [Nat.zero_add] at h1; exact h1⟩
    · cases hb; omega
    · rcases h3 g hg with hb | hb
      · cases hb; exact Nat.le_refl _
      · exact Nat.le_trans (Nat.le_succ _) hb
noncomputable def encK (m : Nat) (k : Nat) : List AV := Nat.rec (motive := fun _ => List AV) [] (fun k ih => k_ilit (k_wr .u8 (.ofNat (Nat.div m (Nat.pow 2 (Nat.mul 8 k))))) fun b => .int .u8 b :: ih) k
theorem encK_succ (m k : Nat) : encK m (k + 1) = .int .u8 (wr .u8 ((m / 2 ^ (8 * k) : Nat) : Int)) :: encK m k := by
  show k_ilit (k_wr .u8 (.ofNat (Nat.div m (Nat.pow 2 (Nat.mul 8 k))))) (fun b => AV.int .u8 b :: encK m k) = _
  rw [k_ilit_eq, k_wr_eq]
  rfl
theorem shr_nat {m j : Nat} (hj : j < 8) : (Int.ofNat m).fdiv (2 ^ (min (8 * (j : Int)).toNat 64)) = ((m / 2 ^ (8 * j) : Nat) : Int) := by
  have e1 : min (8 * (j : Int)).toNat 64 = 8 * j := by omega
  rw [e1]
  have e2 : (2 : Int) ^ (8 * j) = ((2 ^ (8 * j) : Nat) : Int) := by norm_cast
  rw [e2, Int.fdiv_eq_ediv_of_nonneg _ (Int.natCast_nonneg _)]
  rfl
theorem oput_ok (hE : ∀ f e, E f = some e → e.plain) (hf : E 106 = some (.bc b_octPut)) (hf2 : E 85 = some (.bc b_clone)) {h : Hp X} {v : AV} {n : Nat} {cells : List AV} (hr : RS h 1 v n cells) (hv : v ≠ .semp) (hn : n + 8 ≤ 140737488355328) {m : Nat} {size : Int} {k : Nat} (hk : max (min size 8) 0 = k) :
    WF (lim E) 106 [v, .int .u64 m, .int .i64 size] h fun r h' => Own1 h h' r ∧ OS h' 1 r (n + k) (cells ++ encK m k) := by
  refine wf_bc hE hf rfl ?_
  simp only [b_octPut, List.map, getS]
  have hk8 : k ≤ 8 := by omega
  have hm : (maxLen : Nat) = 9223372036854775807 := rfl
  repeat first|(refine BG ?_;first|(refine BH ?_;first|(refine BI ?_;refine BM ?_)|(refine BJ ?_;first|refine BN ?_|refine BO ?_)|refine BP ?_)|(refine BK ?_;first|refine BS rfl rfl ?_|refine BT rfl rfl ?_|refine BU rfl ?_)|(refine BL ?_;first|refine BQ ?_)|(refine BR ?_;try simp only [setS]))|refine AA ?_|refine AC ?_|refine AD ?_|refine AE ?_|refine AF rfl rfl ?_|refine AG rfl rfl ?_|refine AH ?_|refine AI ?_|refine AJ ?_|refine AK ?_|refine AL ?_|refine AM ?_|refine AN ?_|refine AO ?_|refine AP ?_|refine AQ rfl ?_|refine AR ?_|refine AS ?_|refine AT rfl ?_|refine AU rfl ?_
  refine wr_call_e rfl ((clone_ok hE hf2 hr hv (by omega)).mono fun r h1 ⟨k1, k2⟩ => ?_)
  repeat first|(refine BG ?_;first|(refine BH ?_;first|(refine BI ?_;refine BM ?_)|(refine BJ ?_;first|refine BN ?_|refine BO ?_)|refine BV (v_min rfl rfl) ?_|refine BV (v_max rfl rfl) ?_|refine BP ?_)|(refine BK ?_;first|refine BS rfl rfl ?_|refine BT rfl rfl ?_|refine BU rfl ?_)|(refine BL ?_;first|refine BQ ?_)|(refine BR ?_;try simp only [setS]))|refine AA ?_|refine AC ?_|refine AD ?_|refine AE ?_|refine AF rfl rfl ?_|refine AG rfl rfl ?_|refine AH ?_|refine AI ?_|refine AJ ?_|refine AK ?_|refine AL ?_|refine AM ?_|refine AN ?_|refine AO ?_|refine AP ?_|refine AQ rfl ?_|refine AR ?_|refine AS ?_|refine AT rfl ?_|refine AU rfl ?_
  rw [hk]
  refine wb_loop (fun j t h' => ∃ (r : AV) (i : Int) (s6 : AV), Own1 h h' r ∧ i + 1 = j ∧ j ≤ k ∧ (∃ pre, OS h' 1 r (n + (k - j)) (cells ++ pre) ∧ pre ++ encK m j = encK m k) ∧ t = [v, .int .u64 m, .int .i64 size, .snil, r, .int .i64 i, s6]) ?_ k _ _ ⟨r, _, _, k1, by omega, Nat.le_refl _, ⟨[], by simpa using k2, rfl⟩, rfl⟩
  rintro j t h' ⟨r, i, s6, g1, hij, hjk, ⟨pre, g2, g3⟩, rfl⟩
  by_cases hi : 0 ≤ i
  · obtain ⟨j, rfl⟩ : ∃ j', j = j' + 1 := ⟨j - 1, by omega⟩
    have hij' : i = j := by omega
    subst hij'
    repeat first|(refine BG ?_;first|(refine BH ?_;first|(refine BI ?_;refine BM ?_)|(refine BJ ?_;first|refine BN ?_|refine BO ?_)|refine BV (v_shr rfl rfl (by omega)) ?_|refine BP ?_)|(refine BK ?_;first|refine BS rfl rfl ?_|refine BT rfl rfl ?_|refine BU rfl ?_)|(refine BL ?_;first|refine BW (ef_bs1 rfl) ?_|refine BQ ?_)|(refine BR ?_;try simp only [setS]))|refine AA ?_|refine AC ?_|refine AD ?_|refine AE ?_|refine AF rfl rfl ?_|refine AG rfl rfl ?_|refine AH ?_|refine AI ?_|refine AJ ?_|refine AK ?_|refine AL ?_|refine AM ?_|refine AN ?_|refine AO ?_|refine AP ?_|refine AQ rfl ?_|refine AR ?_|refine AS ?_|refine AT rfl ?_|refine AU rfl ?_
    refine wr_app_e rfl rfl (g2.keep (Keep.push NoB _ _) (fun _ _ q => q)) Nat.zero_lt_one (rs_push rfl) (by omega) (by omega) fun v' h2 a1 a2 a3 => ?_
    repeat first|(refine BG ?_;first|(refine BH ?_;first|(refine BI ?_;refine BM ?_)|(refine BJ ?_;first|refine BN ?_|refine BO ?_)|refine BP ?_)|(refine BK ?_;first|refine BS rfl rfl ?_|refine BT rfl rfl ?_|refine BU rfl ?_)|(refine BL ?_;first|refine BQ ?_)|(refine BR ?_;try simp only [setS]))|refine AA ?_|refine AC ?_|refine AD ?_|refine AE ?_|refine AF rfl rfl ?_|refine AG rfl rfl ?_|refine AH ?_|refine AI ?_|refine AJ ?_|refine AK ?_|refine AL ?_|refine AM ?_|refine AN ?_|refine AO ?_|refine AP ?_|refine AQ rfl ?_|refine AR ?_|refine AS ?_|refine AT rfl ?_|refine AU rfl ?_
    have a1 : OS h2 1 v' (n + (k - (j + 1)) + 1) (cells ++ pre ++ [.int .u8 (wr .u8 ((m / 2 ^ (8 * j) : Nat) : Int))]) := by
      rw [← shr_nat (by omega)]
      exact a1
    refine round_norm j (Nat.lt_succ_self _) ⟨v', _, _, ⟨(g1.1.trans (Keep.push NoB _ _) (fun _ _ q => q)).trans a2 (fun g hg hb => ?_), fun g hg => ?_⟩, by omega, by omega, ⟨pre ++ [.int .u8 (wr .u8 ((m / 2 ^ (8 * j) : Nat) : Int))], ?_, ?_⟩, rfl⟩
    · have := g1.2 g hb; omega
    · rcases a3 g hg with hb | hb
      · exact g1.2 g hb
      · exact Nat.le_trans g1.1.n (Nat.le_trans (Nat.le_succ _) hb)
    · rw [← List.append_assoc, show n + (k - j) = n + (k - (j + 1)) + 1 by omega]
      exact a1
    · rw [← g3, encK_succ, List.append_assoc, List.singleton_append]
  · have hj : j = 0 := by omega
    subst hj
    repeat first|(refine BG ?_;first|(refine BH ?_;first|(refine BI ?_;refine BM ?_)|(refine BJ ?_;first|refine BN ?_|refine BO ?_)|refine BP ?_)|(refine BK ?_;first|refine BS rfl rfl ?_|refine BT rfl rfl ?_|refine BU rfl ?_)|(refine BL ?_;first|refine BQ ?_)|(refine BR ?_;try simp only [setS]))|refine AA ?_|refine AC ?_|refine AD ?_|refine AE ?_|refine AF rfl rfl ?_|refine AG rfl rfl ?_|refine AH ?_|refine AI ?_|refine AJ ?_|refine AK ?_|refine AL ?_|refine AM ?_|refine AN ?_|refine AO ?_|refine AP ?_|refine AQ rfl ?_|refine AR ?_|refine AS ?_|refine AT rfl ?_|refine AU rfl ?_
    have e : pre = encK m k := by rw [← g3]; exact (List.append_nil pre).symm
    refine ⟨g1, ?_⟩
    rw [← e]
    exact g2
theorem rput_ok (hE : ∀ f e, E f = some e → e.plain) (hf : E 86 = some (.bc b_ref2Put)) {h : Hp X} {v : AV} {n : Nat} {cells : List AV} (hr : RS h 1 v n cells) (hn : n + 8 ≤ 140737488355328) {m : Nat} {size : Int} {k : Nat} (hk : max (min size 8) 0 = k) :
    WF (lim E) 86 [v, .int .u64 m, .int .i64 size] h fun r h' => Own1 h h' r ∧ OS h' 1 r (n + k) (cells ++ encK m k) := by
  refine wf_bc hE hf rfl ?_
  simp only [b_ref2Put, List.map, getS]
  have hk8 : k ≤ 8 := by omega
  have hm : (maxLen : Nat) = 9223372036854775807 := rfl
  repeat first|(refine BG ?_;first|(refine BH ?_;first|(refine BI ?_;refine BM ?_)|(refine BJ ?_;first|refine BN ?_|refine BO ?_)|refine BP ?_)|(refine BK ?_;first|refine BS rfl rfl ?_|refine BT rfl rfl ?_|refine BU rfl ?_)|(refine BL ?_;first|refine BW ef_bs0 ?_|refine BQ ?_)|(refine BR ?_;try simp only [setS]))|refine AA ?_|refine AC ?_|refine AD ?_|refine AE ?_|refine AF rfl rfl ?_|refine AG rfl rfl ?_|refine AH ?_|refine AI ?_|refine AJ ?_|refine AK ?_|refine AL ?_|refine AM ?_|refine AN ?_|refine AO ?_|refine AP ?_|refine AQ rfl ?_|refine AR ?_|refine AS ?_|refine AT rfl ?_|refine AU rfl ?_
  refine wr_app_e (n := 0) (m := n) (cells := []) rfl rfl (os_push0 Nat.zero_lt_one) Nat.zero_lt_one (hr.keep (Keep.push NoB _ _) (fun _ _ q => q)) (by omega) (by omega) fun r h1 b1 b2 b3 => ?_
  rw [Nat.zero_add, List.nil_append] at b1
  have k1 : Own1 h h1 r := by
    refine ⟨(Keep.push NoB _ _).trans b2 (fun g hg hb => ?_), fun g hg => ?_⟩
    · cases hb; omega
    · rcases b3 g hg with hb | hb
      · cases hb; exact Nat.le_refl _
      · exact Nat.le_trans (Nat.le_succ _) hb
  repeat first|(refine BG ?_;first|(refine BH ?_;first|(refine BI ?_;refine BM ?_)|(refine BJ ?_;first|refine BN ?_|refine BO ?_)|refine BV (v_min rfl rfl) ?_|refine BV (v_max rfl rfl) ?_|refine BP ?_)|(refine BK ?_;first|refine BS rfl rfl ?_|refine BT rfl rfl ?_|refine BU rfl ?_)|(refine BL ?_;first|refine BQ ?_)|(refine BR ?_;try simp only [setS]))|refine AA ?_|refine AC ?_|refine AD ?_|refine AE ?_|refine AF rfl rfl ?_|refine AG rfl rfl ?_|refine AH ?_|refine AI ?_|refine AJ ?_|refine AK ?_|refine AL ?_|refine AM ?_|refine AN ?_|refine AO ?_|refine AP ?_|refine AQ rfl ?_|refine AR ?_|refine AS ?_|refine AT rfl ?_|refine AU rfl ?_
  rw [hk]
  refine wb_loop (fun j t h' => ∃ (r : AV) (i : Int) (s6 : AV), Own1 h h' r ∧ i + 1 = j ∧ j ≤ k ∧ (∃ pre, OS h' 1 r (n + (k - j)) (cells ++ pre) ∧ pre ++ encK m j = encK m k) ∧ t = [v, .int .u64 m, .int .i64 k, .snil, r, .int .i64 i, s6]) ?_ k _ _ ⟨r, _, _, k1, by omega, Nat.le_refl _, ⟨[], by simpa using b1, rfl⟩, rfl⟩
  rintro j t h' ⟨r, i, s6, g1, hij, hjk, ⟨pre, g2, g3⟩, rfl⟩
  by_cases hi : 0 ≤ i
  · obtain ⟨j, rfl⟩ : ∃ j', j = j' + 1 := ⟨j - 1, by omega⟩
    have hij' : i = j := by omega
    subst hij'
    repeat first|(refine BG ?_;first|(refine BH ?_;first|(refine BI ?_;refine BM ?_)|(refine BJ ?_;first|refine BN ?_|refine BO ?_)|refine BV (v_conv_u64 rfl (by omega)) ?_|refine BV (v_shr rfl rfl (by omega)) ?_|refine BP ?_)|(refine BK ?_;first|refine BS rfl rfl ?_|refine BT rfl rfl ?_|refine BU rfl ?_)|(refine BL ?_;first|refine BW (ef_bs1 rfl) ?_|refine BQ ?_)|(refine BR ?_;try simp only [setS]))|refine AA ?_|refine AC ?_|refine AD ?_|refine AE ?_|refine AF rfl rfl ?_|refine AG rfl rfl ?_|refine AH ?_|refine AI ?_|refine AJ ?_|refine AK ?_|refine AL ?_|refine AM ?_|refine AN ?_|refine AO ?_|refine AP ?_|refine AQ rfl ?_|refine AR ?_|refine AS ?_|refine AT rfl ?_|refine AU rfl ?_
    refine wr_app_e rfl rfl (g2.keep (Keep.push NoB _ _) (fun _ _ q => q)) Nat.zero_lt_one (rs_push rfl) (by omega) (by omega) fun v' h2 a1 a2 a3 => ?_
    repeat first|(refine BG ?_;first|(refine BH ?_;first|(refine BI ?_;refine BM ?_)|(refine BJ ?_;first|refine BN ?_|refine BO ?_)|refine BP ?_)|(refine BK ?_;first|refine BS rfl rfl ?_|refine BT rfl rfl ?_|refine BU rfl ?_)|(refine BL ?_;first|refine BQ ?_)|(refine BR ?_;try simp only [setS]))|refine AA ?_|refine AC ?_|refine AD ?_|refine AE ?_|refine AF rfl rfl ?_|refine AG rfl rfl ?_|refine AH ?_|refine AI ?_|refine AJ ?_|refine AK ?_|refine AL ?_|refine AM ?_|refine AN ?_|refine AO ?_|refine AP ?_|refine AQ rfl ?_|refine AR ?_|refine AS ?_|refine AT rfl ?_|refine AU rfl ?_
    have a1 : OS h2 1 v' (n + (k - (j + 1)) + 1) (cells ++ pre ++ [.int .u8 (wr .u8 ((m / 2 ^ (8 * j) : Nat) : Int))]) := by
      rw [← shr_nat (by omega)]
      exact a1
    refine round_norm j (Nat.lt_succ_self _) ⟨v', _, _, ⟨(g1.1.trans (Keep.push NoB _ _) (fun _ _ q => q)).trans a2 (fun g hg hb => ?_), fun g hg => ?_⟩, by omega, by omega, ⟨pre ++ [.int .u8 (wr .u8 ((m / 2 ^ (8 * j) : Nat) : Int))], ?_, ?_⟩, rfl⟩
    · have := g1.2 g hb; omega
    · rcases a3 g hg with hb | hb
      · exact g1.2 g hb
      · exact Nat.le_trans g1.1.n (Nat.le_trans (Nat.le_succ _) hb)
    · rw [← List.append_assoc, show n + (k - j) = n + (k - (j + 1)) + 1 by omega]
      exact a1
    · rw [← g3, encK_succ, List.append_assoc, List.singleton_append]
  · have hj : j = 0 := by omega
    subst hj
    repeat first|(refine BG ?_;first|(refine BH ?_;first|(refine BI ?_;refine BM ?_)|(refine BJ ?_;first|refine BN ?_|refine BO ?_)|refine BP ?_)|(refine BK ?_;first|refine BS rfl rfl ?_|refine BT rfl rfl ?_|refine BU rfl ?_)|(refine BL ?_;first|refine BQ ?_)|(refine BR ?_;try simp only [setS]))|refine AA ?_|refine AC ?_|refine AD ?_|refine AE ?_|refine AF rfl rfl ?_|refine AG rfl rfl ?_|refine AH ?_|refine AI ?_|refine AJ ?_|refine AK ?_|refine AL ?_|refine AM ?_|refine AN ?_|refine AO ?_|refine AP ?_|refine AQ rfl ?_|refine AR ?_|refine AS ?_|refine AT rfl ?_|refine AU rfl ?_
    have e : pre = encK m k := by rw [← g3]; exact (List.append_nil pre).symm
    refine ⟨g1, ?_⟩
    rw [← e]
    exact g2
end
noncomputable def flats (l : List AV) : Bool := List.rec (motive := fun _ => Bool) true (fun a _ ih => Bool.rec (motive := fun _ => Bool) false ih (flat a)) l
theorem flats_ok : ∀ {l : List AV}, flats l = true → ∀ a ∈ l, flat a = true
  | [], _, a, ha => by cases ha
  | x :: l, h, a, ha => by
    have e : flats (x :: l) = (Bool.rec false (flats l) (flat x) : Bool) := rfl
    rw [e] at h
    cases hx : flat x with
    | false => rw [hx] at h; cases h
    | true =>
      rw [hx] at h
      rcases List.mem_cons.1 ha with rfl | ha
      · exact hx
      · exact flats_ok h a ha
theorem encK_flat (m : Nat) : ∀ k, ∀ a ∈ encK m k, flat a = true
  | 0, a, ha => by cases ha
  | k + 1, a, ha => by
    rw [encK_succ] at ha
    rcases List.mem_cons.1 ha with rfl | ha
    · rfl
    · exact encK_flat m k a ha
noncomputable def n_putK {X : Type} (args : List AV) (h : Hp X) : Option (Nat × List AV) := match args with
  | [v, .int .u64 (.ofNat m), .int .i64 (.ofNat k)] => (match elems h 1 v with
    | some (n, cells) => bif inB v h && (k_semp v false true && (Nat.ble 1 k && (Nat.ble k 8 && (Nat.ble n 140737488355320 && flats cells)))) then some (Nat.add n k, k_appS cells (encK m k) fun l => l) else none
    | none => none)
  | _ => none
theorem putK_some {X : Type} {args : List AV} {h : Hp X} {n : Nat} {cells : List AV} (he : n_putK args h = some (n, cells)) : ∃ v m k n0 c0, args = [v, .int .u64 ((m : Nat) : Int), .int .i64 ((k : Nat) : Int)] ∧ RS h 1 v n0 c0 ∧ v ≠ .semp ∧ 1 ≤ k ∧ k ≤ 8 ∧ n0 + 8 ≤ 140737488355328 ∧ n = n0 + k ∧ cells = c0 ++ encK m k ∧ ∀ a ∈ cells, flat a = true := by
  unfold n_putK at he
  split at he
  · rename_i v m k
    split at he
    · rename_i n0 c0 hel
      cases hb : (inB v h && (k_semp v false true && (Nat.ble 1 k && (Nat.ble k 8 && (Nat.ble n0 140737488355320 && flats c0))))) with
      | false => rw [hb] at he; cases he
      | true =>
        rw [hb] at he
        simp only [cond_true, k_appS_eq, Option.some.injEq, Prod.mk.injEq] at he
        obtain ⟨rfl, rfl⟩ := he
        simp only [Bool.and_eq_true] at hb
        obtain ⟨h1, h2, h3, h4, h5, h6⟩ := hb
        have h5 := Nat.le_of_ble_eq_true h5
        refine ⟨v, m, k, n0, c0, rfl, elems_rs hel h1, ?_, Nat.le_of_ble_eq_true h3, Nat.le_of_ble_eq_true h4, by omega, rfl, rfl, fun a ha => ?_⟩
        · rintro rfl; rw [k_semp_eq] at h2; cases h2
        · rcases List.mem_append.1 ha with ha | ha
          · exact flats_ok h6 a ha
          · exact encK_flat m k a ha
    · cases he
  · cases he
theorem os_slice {X : Type} {h h0 : Hp X} {z n : Nat} {v : AV} {cells : List AV} (ho : OS h z v n cells) (hn : 0 < n) (hw : ∀ g, blk v g → h0.n ≤ g) : ∃ g o cap, v = .slice z g o n cap ∧ h0.n ≤ g ∧ OS h z v n cells := by
  cases v <;> first | exact ho.elim | skip
  · rename_i z' g o n' cap
    have h1 := ho
    obtain ⟨rfl, rfl, _⟩ := h1
    exact ⟨g, o, cap, rfl, hw g rfl, ho⟩
  · obtain ⟨rfl, _⟩ := ho; omega
noncomputable def putE' {X : Type} (f : Nat) : Option (Ent X) := if f = 106 then some (.bc b_octPut) else if f = 85 then some (.bc b_clone) else if f = 86 then some (.bc b_ref2Put) else none
theorem putE_plain {X : Type} : ∀ f (e : Ent X), putE' f = some e → e.plain := by
  intro f e he
  unfold putE' at he
  split at he
  · cases he; trivial
  · split at he
    · cases he; trivial
    · split at he
      · cases he; trivial
      · cases he
theorem octPut_f : bfOf Try.prog (drOf Try.prog) 106 b_octPut.keep = some b_octPut := by kernel_rfl
theorem clone_f : bfOf Try.prog (drOf Try.prog) 85 b_clone.keep = some b_clone := by kernel_rfl
theorem ref2Put_f : bfOf Try.prog (drOf Try.prog) 86 b_ref2Put.keep = some b_ref2Put := by kernel_rfl
theorem putE_ok {O : Objs} : DS Try.prog O (lim putE') := by
  refine lim_ds fun f e he N => ?_
  unfold putE' at he
  split at he
  · rename_i hf; subst hf; cases he; exact ent_bc N octPut_f
  · split at he
    · rename_i hf; subst hf; cases he; exact ent_bc N clone_f
    · split at he
      · rename_i hf; subst hf; cases he; exact ent_bc N ref2Put_f
      · cases he
noncomputable def n_put {X : Type} (args : List AV) (h : Hp X) : FRes X := match n_putK args h with | some (n, cells) => .ret (.slice 1 h.n 0 n none) (h.push (.rw cells)) | none => .bad
theorem oput_n {O : Objs} : FnOK Try.prog O 106 (fun _ => n_put) := by
  refine fnok_fresh (z := 1) (F := n_putK) (L := lim putE') putE_ok (by kernel_rfl) fun args h n cells he => ?_
  obtain ⟨v, m, k, n0, c0, rfl, hr, hv, k1, k8, hn, rfl, rfl, hfl⟩ := putK_some he
  refine (oput_ok putE_plain rfl rfl hr hv hn (m := m) (k := k) (by omega)).mono fun r h' ⟨⟨q1, q2⟩, q3⟩ => ⟨q1, hfl, os_slice q3 (by omega) q2⟩
end Am
end Go.Proofs.Ythgcdoahoechhaa
