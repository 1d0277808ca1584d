/- The plain machine: values whose places are named by numbers of their own, a heap of them, and how they stand for the model. -/
import Derived.Test.YtmfobcejnkakpaaLaws
namespace Go.Proofs.Ytmfobcejnkakpaa
set_option linter.unusedVariables false
set_option linter.unusedSimpArgs false
namespace Am
open Go.RowKit

/-- A value. 'bot': nothing is known of it. A slice: z: how many cells an element takes; cap: none: to its block's end. -/
inductive AV where
  | int (k : IntKind) (n : Int)
  | bool (b : Bool)
  | str (s : List UInt8)
  | ptr (g off : Nat)
  | nilp
  | slice (z g off len : Nat) (cap : Option Nat)
  | snil
  | func (f : Nat) (cs : List AV)
  | nilf
  | iface (t : Nat) (v : AV)
  | inil
  | agg (l : List AV)
  | tup (l : List AV)
  | bot
  | semp
  deriving Inhabited

/-- one cell takes it -/
def AV.one : AV → Bool
  | .agg _ | .tup _ | .bot => false
  | _ => true

/-- where a block of the plain machine lies: the model's block, how far behind its beginning, where the array ends (in cells), how many cells an element takes (0: it is no array) -/
structure Pl where
  b : Nat
  s : Nat
  e : Nat
  z : Nat
abbrev Mu := Nat → Option Pl

mutual
def VR (m : Mu) : AV → Value → Prop
  | .int k n, v => v = .int k n
  | .bool b, v => v = .bool b
  | .str s, v => v = .string ⟨s.toArray⟩
  | .ptr g off, v => ∃ p, m g = some p ∧ v = .pointer (some ⟨p.b, p.s + off, none⟩)
  | .nilp, v => v = .pointer none
  | .slice z g off len cap, v => ∃ p ad c, m g = some p ∧ v = .slice (some ad) len c ∧ len ≤ c ∧ c ≤ maxLen ∧ (c ≠ 0 → ad = ⟨p.b, p.s + off, none⟩) ∧ (0 < p.z ∧ p.z = z) ∧
      (match cap with | none => p.s + off + c * p.z = p.e | some k => c = k)
  | .snil, v => v = .slice none 0 0
  | .func f cs, v => ∃ l, v = .func (.func f) #[] l.toArray ∧ VRs m cs l
  | .nilf, v => v = .nilFunc
  | .iface t x, v => ∃ x', v = .iface t x' ∧ VR m x x'
  | .inil, v => v = .nilIface
  | .agg cs, v => ∃ l, v = .agg l.toArray ∧ VRs m cs l
  | .tup cs, v => ∃ l, v = .tuple l.toArray ∧ VRs m cs l
  | .bot, _ => True
  | .semp, v => ∃ a c, v = .slice a 0 c ∧ c ≤ maxLen ∧ (a = none → c = 0)
def VRs (m : Mu) : List AV → List Value → Prop
  | [], l => l = []
  | a :: xs, l => ∃ v vs, l = v :: vs ∧ VR m a v ∧ VRs m xs vs
end

def Ext (m m' : Mu) : Prop := ∀ g p, m g = some p → m' g = some p
theorem Ext.refl (m : Mu) : Ext m m := fun _ _ h => h
theorem Ext.trans {a b c : Mu} (h : Ext a b) (k : Ext b c) : Ext a c := fun g p hp => k g p (h g p hp)

mutual
theorem VR.ext {m m' : Mu} (h : Ext m m') : ∀ (a : AV) (v : Value), VR m a v → VR m' a v
  | .int .., _, hv => by simpa [VR] using hv
  | .bool .., _, hv => by simpa [VR] using hv
  | .str .., _, hv => by simpa [VR] using hv
  | .ptr .., _, hv => by
    simp only [VR] at hv ⊢
    obtain ⟨p, hp, r⟩ := hv
    exact ⟨p, h _ _ hp, r⟩
  | .nilp, _, hv => by simpa [VR] using hv
  | .slice .., _, hv => by
    simp only [VR] at hv ⊢
    obtain ⟨p, ad, c, hp, r⟩ := hv
    exact ⟨p, ad, c, h _ _ hp, r⟩
  | .snil, _, hv => by simpa [VR] using hv
  | .func _ cs, _, hv => by
    simp only [VR] at hv ⊢
    obtain ⟨l, r, hl⟩ := hv
    exact ⟨l, r, VRs.ext h cs l hl⟩
  | .nilf, _, hv => by simpa [VR] using hv
  | .iface _ x, _, hv => by
    simp only [VR] at hv ⊢
    obtain ⟨l, r, hl⟩ := hv
    exact ⟨l, r, VR.ext h x l hl⟩
  | .inil, _, hv => by simpa [VR] using hv
  | .agg cs, _, hv => by
    simp only [VR] at hv ⊢
    obtain ⟨l, r, hl⟩ := hv
    exact ⟨l, r, VRs.ext h cs l hl⟩
  | .tup cs, _, hv => by
    simp only [VR] at hv ⊢
    obtain ⟨l, r, hl⟩ := hv
    exact ⟨l, r, VRs.ext h cs l hl⟩
  | .bot, _, _ => by simp [VR]
  | .semp, _, hv => by simpa [VR] using hv
theorem VRs.ext {m m' : Mu} (h : Ext m m') : ∀ (xs : List AV) (l : List Value), VRs m xs l → VRs m' xs l
  | [], _, hv => by simpa [VRs] using hv
  | a :: xs, _, hv => by
    simp only [VRs] at hv ⊢
    obtain ⟨v, vs, e, h1, h2⟩ := hv
    exact ⟨v, vs, e, VR.ext h a v h1, VRs.ext h xs vs h2⟩
end

theorem VRs.len {m : Mu} : ∀ {xs : List AV} {l : List Value}, VRs m xs l → l.length = xs.length
  | [], _, h => by simp only [VRs] at h; subst h; rfl
  | a :: xs, _, h => by
    simp only [VRs] at h
    obtain ⟨v, vs, rfl, _, h2⟩ := h
    simp [VRs.len h2]
theorem VRs.get {m : Mu} : ∀ {xs : List AV} {l : List Value}, VRs m xs l → ∀ {i : Nat} {a : AV}, xs[i]? = some a → ∃ v, l[i]? = some v ∧ VR m a v
  | [], _, _, i, a, hi => by simp at hi
  | x :: xs, _, h, i, a, hi => by
    simp only [VRs] at h
    obtain ⟨v, vs, rfl, h1, h2⟩ := h
    cases i with
    | zero => simp at hi; subst hi; exact ⟨v, by simp, h1⟩
    | succ i => simp at hi ⊢; exact VRs.get h2 hi
theorem VRs.mk {m : Mu} : ∀ {xs : List AV} {l : List Value}, l.length = xs.length → (∀ (i : Nat) a v, xs[i]? = some a → l[i]? = some v → VR m a v) → VRs m xs l
  | [], l, hl, _ => by simp only [VRs]; exact List.eq_nil_of_length_eq_zero hl
  | x :: xs, [], hl, _ => by simp at hl
  | x :: xs, v :: vs, hl, h => by
    simp only [VRs]
    exact ⟨v, vs, rfl, h 0 x v (by simp) (by simp), VRs.mk (by simpa using hl) (fun i a w ha hw => h (i + 1) a w (by simpa using ha) (by simpa using hw))⟩
theorem VRs.append {m : Mu} : ∀ {xs bs : List AV} {l k : List Value}, VRs m xs l → VRs m bs k → VRs m (xs ++ bs) (l ++ k)
  | [], _, _, _, h, h' => by simp only [VRs] at h; subst h; simpa using h'
  | a :: xs, bs, _, k, h, h' => by
    simp only [VRs] at h
    obtain ⟨v, vs, rfl, h1, h2⟩ := h
    simp only [List.cons_append, VRs]
    exact ⟨v, vs ++ k, rfl, h1, VRs.append h2 h'⟩
theorem VRs.take {m : Mu} : ∀ {xs : List AV} {l : List Value}, VRs m xs l → ∀ n, VRs m (xs.take n) (l.take n)
  | [], _, h, n => by simp only [VRs] at h; subst h; simp [VRs]
  | a :: xs, _, h, 0 => by simp [VRs]
  | a :: xs, _, h, n + 1 => by
    simp only [VRs] at h
    obtain ⟨v, vs, rfl, h1, h2⟩ := h
    simp only [List.take_succ_cons, VRs]
    exact ⟨v, _, rfl, h1, VRs.take h2 n⟩
theorem VRs.drop {m : Mu} : ∀ {xs : List AV} {l : List Value}, VRs m xs l → ∀ n, VRs m (xs.drop n) (l.drop n)
  | [], _, h, n => by simp only [VRs] at h; subst h; simp [VRs]
  | a :: xs, _, h, 0 => by simpa using h
  | a :: xs, _, h, n + 1 => by
    simp only [VRs] at h
    obtain ⟨v, vs, rfl, h1, h2⟩ := h
    simpa using VRs.drop h2 n

theorem VR.one {m : Mu} {a : AV} {v : Value} (h : VR m a v) (h1 : a.one = true) : v.oneCell' = true := by
  cases a <;> simp only [VR] at h <;> first
    | (cases h1; done)
    | (subst h; rfl)
    | (obtain ⟨p, _, rfl⟩ := h; rfl)
    | (obtain ⟨p, _, _, _, rfl, _⟩ := h; rfl)
    | (obtain ⟨l, rfl, _⟩ := h; rfl)
    | (obtain ⟨a, c, rfl, _⟩ := h; rfl)
end Am
end Go.Proofs.Ytmfobcejnkakpaa
