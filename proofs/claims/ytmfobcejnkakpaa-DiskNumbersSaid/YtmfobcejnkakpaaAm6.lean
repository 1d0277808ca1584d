/- The plain machine: slices of slices and of texts; structs that are built. -/
import Derived.Test.YtmfobcejnkakpaaAm5
namespace Go.Proofs.Ytmfobcejnkakpaa
set_option linter.unusedVariables false
set_option linter.unusedSimpArgs false
namespace Am
open Go.RowKit
set_option maxRecDepth 10000
variable {P : Program}
section
variable {keep : List Nat} {o : Oper}
theorem run_sb {w : World} {k : IntKind} {n y : Nat} {code : BoundsCode} (h : n ≤ y) : (Instr.sliceBound (.int k n) y code).run P w = .ok n w := by
  have hb : (0 : Int) ≤ (n : Int) ∧ (n : Int) ≤ (y : Int) := by omega
  unfold Instr.sliceBound
  simp only [asIntOf, Sem.run_bind, Sem.run_pure, Result.andThen_ok, if_pos hb]
  simp
/-- what the bounds come to -/
theorem run_sbs {w : World} {sl : Bool} {len cap : Nat} {lo hi mx : Option Value} {l h m : Nat}
    (hm : (mx = none ∧ m = cap) ∨ ∃ k, mx = some (.int k m) ∧ m ≤ cap) (hh : (hi = none ∧ mx = none ∧ h = len) ∨ ∃ k, hi = some (.int k h) ∧ h ≤ m) (hl : (lo = none ∧ l = 0) ∨ ∃ k, lo = some (.int k l) ∧ l ≤ h) :
    (Instr.sliceBounds sl len cap lo hi mx).run P w = .ok (l, h, m) w := by
  unfold Instr.sliceBounds
  rcases hm with ⟨rfl, rfl⟩ | ⟨k1, rfl, hm⟩
  · rcases hh with ⟨rfl, _, rfl⟩ | ⟨k2, rfl, hh⟩
    · rcases hl with ⟨rfl, rfl⟩ | ⟨k3, rfl, hl⟩
      · simp
      · simp [run_sb hl]
    · rcases hl with ⟨rfl, rfl⟩ | ⟨k3, rfl, hl⟩
      · simp [run_sb hh]
      · simp [run_sb hh, run_sb hl]
  · rcases hh with ⟨_, h0, _⟩ | ⟨k2, rfl, hh⟩
    · cases h0
    · rcases hl with ⟨rfl, rfl⟩ | ⟨k3, rfl, hl⟩
      · simp [run_sb hm, run_sb hh]
      · simp [run_sb hm, run_sb hh, run_sb hl]
theorem capB_ok {O : Objs} {w0 w : World} {m : Mu} {φ : Ph} {h : Hp O.X} (hs : SR O w0 w m φ h) {z g off len c n : Nat} {cap : Option Nat} {p : Pl} (hp : m g = some p) (hlc : len ≤ c) (hz : 0 < p.z) (hzz : z = p.z)
    (hc : match cap with | none => p.s + off + c * p.z = p.e | some k => c = k) (hb : capB h z g off len cap n = true) : n ≤ c := by
  unfold capB at hb
  rw [Bool.or_eq_true] at hb
  rcases hb with hb | hb
  · have := Nat.le_of_ble_eq_true hb; omega
  · cases cap with
    | some k => simp only at hb hc; have := Nat.le_of_ble_eq_true hb; omega
    | none =>
      simp only at hb hc
      split at hb
      · rename_i l hl
        have h1 := Nat.le_of_ble_eq_true hb
        have h2 := (hs.row hp (rowOf_some hl)).2
        subst hzz
        have h3 : n * p.z ≤ c * p.z := by omega
        exact Nat.le_of_mul_le_mul_right h3 hz
      · cases hb
theorem obnd {α : Type} {x : Option AV} {e : Option α} {k : Nat → Option α} {r : α} (h : (match x with | none => e | some v => match nOf v with | some n => k n | none => none : Option α) = some r) : (x = none ∧ e = some r) ∨ ∃ n v, x = some v ∧ nOf v = some n ∧ k n = some r := by
  cases x with
  | none => exact .inl ⟨rfl, h⟩
  | some v =>
    simp only at h
    cases hn : nOf v with
    | none => rw [hn] at h; cases h
    | some n => rw [hn] at h; exact .inr ⟨n, v, rfl, hn, h⟩
theorem bif_some {α : Type} {b : Bool} {x r : α} (h : (bif b then some x else none) = some r) : b = true ∧ x = r := by
  cases b with
  | false => cases h
  | true => cases h; exact ⟨rfl, rfl⟩
def oodOf (keep : List Nat) (x : Option Operand) : Option (Option Od) := match x with | none => some none | some x => (match odOf keep x with | some a => some (some a) | none => none)
/-- an operand that may lack -/
theorem ood {m : Mu} {nt : Nat} {e : En} {t : List AV} {a : Act} (f : FR m keep nt e t a) {x : Option Operand} {x' : Option Od} (h : oodOf keep x = some x') :
    (x = none ∧ oev x' e t = none) ∨ ∃ y v, x = some y ∧ oev x' e t = some v ∧ VR m v (a.eval y) := by
  unfold oodOf at h
  cases x with
  | none => cases h; exact .inl ⟨rfl, rfl⟩
  | some y =>
    simp only at h
    cases h1 : odOf keep y with
    | none => rw [h1] at h; cases h
    | some b => rw [h1] at h; cases h; exact .inr ⟨y, _, rfl, rfl, f.od h1⟩
theorem ood_val {m : Mu} {nt : Nat} {e : En} {t : List AV} {a : Act} (f : FR m keep nt e t a) {x : Option Operand} {x' : Option Od} (h : oodOf keep x = some x') {n : Nat} {v : AV} (hv : oev x' e t = some v) (hn : nOf v = some n) :
    ∃ k, x.map a.eval = some (.int k n) := by
  rcases ood f h with ⟨_, h2⟩ | ⟨y, v', rfl, h2, h3⟩
  · rw [hv] at h2; cases h2
  · rw [hv] at h2; cases h2
    obtain ⟨k, rfl⟩ := nOf_some hn
    simp only [VR] at h3
    exact ⟨k, by simp [h3]⟩
theorem ood_none {m : Mu} {nt : Nat} {e : En} {t : List AV} {a : Act} (f : FR m keep nt e t a) {x : Option Operand} {x' : Option Od} (h : oodOf keep x = some x') (hv : oev x' e t = none) : x.map a.eval = none := by
  rcases ood f h with ⟨rfl, _⟩ | ⟨y, v', rfl, h2, h3⟩
  · rfl
  · rw [hv] at h2; cases h2
theorem ok_sl {ty el : TypeId} {x : Operand} {lo hi mx : Option Operand} {x' : Od} {lo' hi' mx' : Option Od} {i : TypeInfo} (ho : o.op = .slice ty x lo hi mx) (hu : P.underlying ty = some (.slice el)) (hinf : P.info? el = some i)
    (hx : odOf keep x = some x') (hlo : oodOf keep lo = some lo') (hhi : oodOf keep hi = some hi') (hmx : oodOf keep mx = some mx') : MvOK P keep o (.sl i.size x' lo' hi' mx') := by
  intro O w0 w m φ h nt e t ac hs hf v hv
  have h1 := hf.od hx
  simp only [Mv.ev, slB] at hv
  have fin : ∀ y r, ac.eval x = y → (Instr.slice ty y (lo.map ac.eval) (hi.map ac.eval) (mx.map ac.eval)).run P w = .ok r w → (execOp ac.eval o).run P w = .ok (.value r) w := fun y r h1 h2 => by
    have : (Instr.sliceAt ty y (lo.map ac.eval) (hi.map ac.eval) (mx.map ac.eval)).run P w = .ok r w := by
      unfold Instr.sliceAt
      simp only [Sem.run_bind, run_underlying hu, Result.andThen_ok]
      exact h2
    simp [execOp, ho, h1, this]
  have run : ∀ a len cap l hh mm, (Instr.sliceBounds true len cap (lo.map ac.eval) (hi.map ac.eval) (mx.map ac.eval)).run P w = .ok (l, hh, mm) w →
      (Instr.slice ty (.slice a len cap) (lo.map ac.eval) (hi.map ac.eval) (mx.map ac.eval)).run P w = .ok (.slice (if mm = l then a else a.map (·.add (l * i.size))) (hh - l) (mm - l)) w := fun a len cap l hh mm hb => by
    unfold Instr.slice
    simp [run_underlying hu, hb, sizeOf, typeInfo, hinf]
  generalize x'.ev e t = xa at *
  cases xa <;> first | (cases hv; done) | skip
  · rename_i z g off len cap
    simp only at hv
    cases hzz : Nat.beq z i.size with
    | false => rw [hzz] at hv; cases hv
    | true =>
      rw [hzz] at hv
      simp only [Bool.not_true, cond_false] at hv
      have hzz := Nat.eq_of_beq_eq_true hzz
      split at hv
      · cases hv
      · rename_i mm hmm
        split at hv
        · cases hv
        · rename_i hh hhh
          split at hv
          · cases hv
          · rename_i l hl
            cases hv
            simp only [VR] at h1
            obtain ⟨p, ad, c, hp, hval, hlc, hcm, had, ⟨hz, hpz⟩, hc⟩ := h1
            have hub : ∀ n, capB h i.size g off len cap n = true → n ≤ c := fun n hb => capB_ok hs hp hlc hz (by omega) hc hb
            -- the greatest bound
            have M : (mm = none ∧ mx.map ac.eval = none) ∨ ∃ n k, mm = some n ∧ mx.map ac.eval = some (.int k n) ∧ n ≤ c := by
              rcases obnd hmm with ⟨e1, e2⟩ | ⟨n, v, e1, e2, e3⟩
              · cases e2; exact .inl ⟨rfl, ood_none hf hmx e1⟩
              · obtain ⟨e4, rfl⟩ := bif_some e3
                obtain ⟨k, e5⟩ := ood_val hf hmx e1 e2
                exact .inr ⟨n, k, rfl, e5, hub n e4⟩
            have Hh : (hi.map ac.eval = none ∧ mx.map ac.eval = none ∧ hh = len) ∨ ∃ k, hi.map ac.eval = some (.int k hh) ∧ (match mm with | none => hh ≤ c | some n => hh ≤ n) := by
              rcases obnd hhh with ⟨e1, e2⟩ | ⟨n, v, e1, e2, e3⟩
              · cases mm with
                | none =>
                  cases e2
                  refine .inl ⟨ood_none hf hhi e1, ?_, rfl⟩
                  rcases M with ⟨_, M⟩ | ⟨_, _, M, _⟩
                  · exact M
                  · cases M
                | some _ => cases e2
              · obtain ⟨e4, rfl⟩ := bif_some e3
                obtain ⟨k, e5⟩ := ood_val hf hhi e1 e2
                refine .inr ⟨k, e5, ?_⟩
                cases mm with
                | none => exact hub n e4
                | some q => exact Nat.le_of_ble_eq_true e4
            have L : (lo.map ac.eval = none ∧ l = 0) ∨ ∃ k, lo.map ac.eval = some (.int k l) ∧ l ≤ hh := by
              rcases obnd hl with ⟨e1, e2⟩ | ⟨n, v, e1, e2, e3⟩
              · cases e2; exact .inl ⟨ood_none hf hlo e1, rfl⟩
              · obtain ⟨e4, rfl⟩ := bif_some e3
                obtain ⟨k, e5⟩ := ood_val hf hlo e1 e2
                exact .inr ⟨k, e5, Nat.le_of_ble_eq_true e4⟩
            obtain ⟨M', hM'⟩ : ∃ M', M' = (match mm with | none => c | some n => n) := ⟨_, rfl⟩
            have hhM : hh ≤ M' := by
              rw [hM']
              rcases Hh with ⟨_, e2, rfl⟩ | ⟨_, _, e2⟩
              · rcases M with ⟨rfl, _⟩ | ⟨_, _, _, e3, _⟩
                · exact hlc
                · rw [e2] at e3; cases e3
              · cases mm <;> exact e2
            have hMc : M' ≤ c := by
              rw [hM']
              rcases M with ⟨rfl, _⟩ | ⟨_, _, rfl, _, e⟩
              · exact Nat.le_refl _
              · exact e
            have hlh : l ≤ hh := by rcases L with ⟨_, rfl⟩ | ⟨_, _, e⟩; exact Nat.zero_le _; exact e
            have hb : (Instr.sliceBounds true len c (lo.map ac.eval) (hi.map ac.eval) (mx.map ac.eval)).run P w = .ok (l, hh, M') w := by
              refine run_sbs ?_ ?_ L
              · rcases M with ⟨rfl, e⟩ | ⟨n, k, rfl, e, e2⟩
                · exact .inl ⟨e, hM'⟩
                · exact .inr ⟨k, by rw [e, hM'], hMc⟩
              · rcases Hh with ⟨e1, e2, e3⟩ | ⟨k, e1, e2⟩
                · exact .inl ⟨e1, e2, e3⟩
                · exact .inr ⟨k, e1, hhM⟩
            refine ⟨_, ?_, fin _ _ hval (run _ _ _ _ _ _ hb)⟩
            simp only [VR]
            refine ⟨p, if M' = l then ad else ad.add (l * i.size), M' - l, hp, ?_, by omega, by omega, fun h0 => ?_, ⟨hz, hpz.trans hzz⟩, ?_⟩
            · congr 1
              split <;> rfl
            · rw [if_neg (by omega), had (by omega), add_lit', Nat.add_assoc]
            · rcases M with ⟨rfl, _⟩ | ⟨n, k, rfl, _, _⟩
              · simp only at hM' ⊢
                subst hM'
                cases cap with
                | none =>
                  simp only at hc ⊢
                  have : M' * p.z = l * p.z + (M' - l) * p.z := by rw [← Nat.add_mul]; congr 1; omega
                  have e2 : l * i.size = l * p.z := by rw [hpz, hzz]
                  omega
                | some k => simp only at hc ⊢; omega
              · simp only at hM' ⊢
                omega
  · simp only at hv
    obtain ⟨hb, rfl⟩ := bif_some hv
    rw [Bool.and_eq_true, Bool.and_eq_true] at hb
    obtain ⟨⟨b1, b2⟩, b3⟩ := hb
    simp only [VR] at h1
    have zero : ∀ {x : Option Operand} {x' : Option Od}, oodOf keep x = some x' → ∀ v, oev x' e t = some v → (match nOf v with | some 0 => true | _ => false) = true → ∃ k, x.map ac.eval = some (.int k ((0 : Nat) : Int)) := fun hx v h1 h2 => by
      split at h2
      · rename_i h3; exact ood_val hf hx h1 h3
      · cases h2
    have L : (lo.map ac.eval = none ∧ 0 = 0) ∨ ∃ k, lo.map ac.eval = some (.int k ((0 : Nat) : Int)) ∧ 0 ≤ 0 := by
      cases hh : oev lo' e t with
      | none => exact .inl ⟨ood_none hf hlo hh, rfl⟩
      | some v => rw [hh] at b1; obtain ⟨k, hk⟩ := zero hlo v hh b1; exact .inr ⟨k, hk, Nat.le_refl _⟩
    have M : (mx.map ac.eval = none ∧ 0 = 0) ∨ ∃ k, mx.map ac.eval = some (.int k ((0 : Nat) : Int)) ∧ 0 ≤ 0 := by
      cases hh : oev mx' e t with
      | none => exact .inl ⟨ood_none hf hmx hh, rfl⟩
      | some v => rw [hh] at b3; obtain ⟨k, hk⟩ := zero hmx v hh b3; exact .inr ⟨k, hk, Nat.le_refl _⟩
    have Hh : (hi.map ac.eval = none ∧ mx.map ac.eval = none ∧ 0 = 0) ∨ ∃ k, hi.map ac.eval = some (.int k ((0 : Nat) : Int)) ∧ 0 ≤ 0 := by
      cases hh : oev hi' e t with
      | none =>
        rw [hh] at b2
        simp only at b2
        cases hh2 : oev mx' e t with
        | none => exact .inl ⟨ood_none hf hhi hh, ood_none hf hmx hh2, rfl⟩
        | some v => rw [hh2] at b2; cases b2
      | some v => rw [hh] at b2; obtain ⟨k, hk⟩ := zero hhi v hh b2; exact .inr ⟨k, hk, Nat.le_refl _⟩
    have hb : (Instr.sliceBounds true 0 0 (lo.map ac.eval) (hi.map ac.eval) (mx.map ac.eval)).run P w = .ok (0, 0, 0) w := run_sbs M Hh L
    exact ⟨.slice none 0 0, rfl, fin _ _ h1 (run _ _ _ _ _ _ hb)⟩
theorem ok_sls {ty : TypeId} {x : Operand} {lo hi : Option Operand} {x' : Od} {lo' hi' : Option Od} (ho : o.op = .slice ty x lo hi none) (hu : P.underlying ty = some .string)
    (hx : odOf keep x = some x') (hlo : oodOf keep lo = some lo') (hhi : oodOf keep hi = some hi') : MvOK P keep o (.sls x' lo' hi') := by
  intro O w0 w m φ h nt e t ac hs hf v hv
  have h1 := hf.od hx
  obtain ⟨s, hb, hv⟩ := AV.onStr_some hv
  rw [hb] at h1
  simp only [VR] at h1
  simp only [slS] at hv
  have hsz : (⟨s.toArray⟩ : ByteArray).size = s.length := by show s.toArray.size = _; simp
  split at hv
  · cases hv
  · rename_i hh hhh
    split at hv
    · cases hv
    · rename_i l hl
      cases hv
      have Hh : (hi.map ac.eval = none ∧ (none : Option Value) = none ∧ hh = s.length) ∨ ∃ k, hi.map ac.eval = some (.int k hh) ∧ hh ≤ s.length := by
        rcases obnd hhh with ⟨e1, e2⟩ | ⟨n, v, e1, e2, e3⟩
        · cases e2; exact .inl ⟨ood_none hf hhi e1, rfl, rfl⟩
        · obtain ⟨e4, rfl⟩ := bif_some e3
          obtain ⟨k, e5⟩ := ood_val hf hhi e1 e2
          exact .inr ⟨k, e5, Nat.le_of_ble_eq_true e4⟩
      have L : (lo.map ac.eval = none ∧ l = 0) ∨ ∃ k, lo.map ac.eval = some (.int k l) ∧ l ≤ hh := by
        rcases obnd hl with ⟨e1, e2⟩ | ⟨n, v, e1, e2, e3⟩
        · cases e2; exact .inl ⟨ood_none hf hlo e1, rfl⟩
        · obtain ⟨e4, rfl⟩ := bif_some e3
          obtain ⟨k, e5⟩ := ood_val hf hlo e1 e2
          exact .inr ⟨k, e5, Nat.le_of_ble_eq_true e4⟩
      have hbd : (Instr.sliceBounds false s.length s.length (lo.map ac.eval) (hi.map ac.eval) none).run P w = .ok (l, hh, s.length) w := run_sbs (.inl ⟨rfl, rfl⟩) Hh L
      refine ⟨_, rfl, ?_⟩
      have hrun : (Instr.sliceAt ty (.string ⟨s.toArray⟩) (lo.map ac.eval) (hi.map ac.eval) none).run P w = .ok (.string ⟨((s.take hh).drop l).toArray⟩) w := by
        unfold Instr.sliceAt Instr.slice
        simp only [Sem.run_bind, run_underlying hu, Result.andThen_ok, Option.isSome_none, Bool.false_eq_true, if_false, hsz, hbd, Sem.run_pure]
        congr 2
        apply ByteArray.ext
        simp [ByteArray.data_extract, List.extract_eq_take_drop]
        rw [List.drop_take]
      simp only [execOp, ho, h1, Option.map_none, Sem.run_bind, hrun, Result.andThen_ok, Sem.run_pure]
end
end Am
end Go.Proofs.Ytmfobcejnkakpaa
