/- The plain machine: code and functions brought into its form. -/
import Derived.Test.YtmfobcejnkakpaaAm13
import Derived.Orders
namespace Go.Proofs.Ytmfobcejnkakpaa
set_option linter.unusedVariables false
set_option linter.unusedSimpArgs false
namespace Am
open Go.RowKit
set_option maxRecDepth 10000
variable {P : Program}

def dstOk (nt : Nat) (d : Option Nat) : Bool := match d with | none => true | some n => Nat.blt n nt
def gdOf (keep : List Nat) (ops : Array Oper) (g : Option (Nat × Bool)) : Option (Option (Od × Bool)) :=
  match g with
  | none => some none
  | some (j, want) => match (ops[j]?).bind (·.dst) with
    | some d => match odOf keep (.tmp d) with | some od => some (some (od, want)) | none => none
    | none => none
def stOf (P : Program) (keep : List Nat) (nt : Nat) (ops : Array Oper) (o : Oper) : Option St1 :=
  match opOf P keep o, gdOf keep ops o.guard with
  | some p, some g => if dstOk nt o.dst then some (.mk g (dsOf keep o.dst) p) else none
  | _, _ => none
def rgOf (P : Program) (keep : List Nat) (nt : Nat) (ops : Array Oper) : List Oper → Option (List St1)
  | [] => some []
  | o :: l => match stOf P keep nt ops o, rgOf P keep nt ops l with
    | some s, some r => some (s :: r)
    | _, _ => none
/-- dg: how a region that draws is brought -/
def bcOf (P : Program) (keep : List Nat) (nt : Nat) (dg : Array Oper → Option Dr) : Code → Option BC
  | .skip => some .skip
  | .region _ ops false => match rgOf P keep nt ops ops.toList with | some r => some (.reg r) | none => none
  | .region _ ops true => match dg ops with | some r => some (.dreg r) | none => none
  | .seq a b => match bcOf P keep nt dg a, bcOf P keep nt dg b with | some x, some y => some (.seq x y) | _, _ => none
  | .cond c a b => match odOf keep c, bcOf P keep nt dg a, bcOf P keep nt dg b with | some z, some x, some y => some (.cond z x y) | _, _, _ => none
  | .block id a => match bcOf P keep nt dg a with | some x => some (.block id x) | none => none
  | .loop a => match bcOf P keep nt dg a with | some x => some (.loop x) | none => none
  | .exit id => some (.exit id)
  | .ret => some .ret
  | _ => none
def rsOf (P : Program) (keep : List Nat) : ResultVar → Option Rs
  | .tmp n => match odOf keep (.tmp n) with | some x => some (.slot x) | none => none
  | .cell n ty => match odOf keep (.tmp n), P.underlying ty, P.info? ty with
    | some x, some u, some i => if isAggD u then some (.celln i.size x) else some (.cell1 x)
    | _, _, _ => none
def rssOf (P : Program) (keep : List Nat) : List ResultVar → Option (List Rs)
  | [] => some []
  | r :: l => match rsOf P keep r, rssOf P keep l with | some a, some b => some (a :: b) | _, _ => none
def nodupB : List Nat → Bool
  | [] => true
  | x :: l => !(l.any (Nat.beq x)) && nodupB l
def bfOf (P : Program) (dg : List Nat → Nat → Array Oper → Option Dr) (f : Nat) (keep : List Nat) : Option BF :=
  match P.funcs[f]? with
  | some fn => match fn.body with
    | some c => match bcOf P keep fn.ntmps (dg keep fn.ntmps) c, rssOf P keep fn.results.toList with
      | some b, some rs => if callable P f && nodupB keep && keep.all (Nat.blt · fn.ntmps) then some ⟨fn.ntmps, keep, b, rs⟩ else none
      | _, _ => none
    | none => none
  | none => none

theorem gd_ok {keep : List Nat} {ops : Array Oper} {o : Oper} {g : Option (Od × Bool)} (h : gdOf keep ops o.guard = some g) :
    (o.guard = none ∧ g = none) ∨ ∃ j want d od, o.guard = some (j, want) ∧ g = some (od, want) ∧ (ops[j]?).bind (·.dst) = some d ∧ odOf keep (.tmp d) = some od := by
  unfold gdOf at h
  cases hg : o.guard with
  | none => rw [hg] at h; cases h; exact .inl ⟨rfl, rfl⟩
  | some jw =>
    obtain ⟨j, want⟩ := jw
    rw [hg] at h
    simp only at h
    cases hd : (ops[j]?).bind (·.dst) with
    | none => rw [hd] at h; cases h
    | some d =>
      rw [hd] at h
      simp only at h
      cases ho : odOf keep (.tmp d) with
      | none => rw [ho] at h; cases h
      | some od => rw [ho] at h; cases h; exact .inr ⟨j, want, d, od, rfl, rfl, hd, ho⟩
theorem st_ok {keep : List Nat} {nt : Nat} {ops : Array Oper} {o : Oper} {s : St1} (h : stOf P keep nt ops o = some s) : StOK P keep nt ops o s := by
  unfold stOf at h
  split at h
  · rename_i p g hp hg
    split at h
    · rename_i hd
      cases h
      refine ⟨⟨g, p, rfl, op_ok hp, fun n hn => ?_, gd_ok hg⟩⟩
      rw [hn] at hd
      simpa [dstOk, Nat.blt_eq] using hd
    · cases h
  · cases h
theorem rg_comp {keep : List Nat} {nt : Nat} {ops : Array Oper} : ∀ {l : List Oper} {r : List St1}, rgOf P keep nt ops l = some r → RgOK P keep nt ops l r
  | [], r, h => by cases h; exact .nil
  | o :: l, r, h => by
    simp only [rgOf] at h
    split at h
    · rename_i h1 h2
      cases h
      exact .cons (st_ok h1) (rg_comp h2)
    · cases h
variable {dr : ∀ {X : Type}, Dp X → Dr → List AV → Hp X → R X}
theorem bc_ok {keep : List Nat} {nt : Nat} {dg : Array Oper → Option Dr} (hdg : ∀ id ops r, dg ops = some r → DrOK P keep nt dr (.region id ops true) r) : ∀ {c : Code} {b : BC}, bcOf P keep nt dg c = some b → CS P keep nt dr c b
  | .skip, b, h => by cases h; exact cs_skip
  | .region id ops false, b, h => by
    simp only [bcOf] at h
    split at h
    · rename_i h1; cases h; exact cs_reg (rg_comp h1)
    · cases h
  | .region id ops true, b, h => by
    simp only [bcOf] at h
    split at h
    · rename_i h1; cases h; exact cs_dreg (hdg id ops _ h1)
    · cases h
  | .seq x y, b, h => by
    simp only [bcOf] at h
    split at h
    · rename_i h1 h2; cases h; exact cs_seq (bc_ok hdg h1) (bc_ok hdg h2)
    · cases h
  | .cond z x y, b, h => by
    simp only [bcOf] at h
    split at h
    · rename_i h0 h1 h2; cases h; exact cs_cond h0 (bc_ok hdg h1) (bc_ok hdg h2)
    · cases h
  | .block id x, b, h => by
    simp only [bcOf] at h
    split at h
    · rename_i h1; cases h; exact cs_block (bc_ok hdg h1)
    · cases h
  | .loop x, b, h => by
    simp only [bcOf] at h
    split at h
    · rename_i h1; cases h; exact cs_loop (bc_ok hdg h1)
    · cases h
  | .exit id, b, h => by cases h; exact cs_exit
  | .ret, b, h => by cases h; exact cs_ret
  | .rangeFunc .., _, h => by cases h
  | .scope _, _, h => by cases h
  | .label _, _, h => by cases h
  | .goto _, _, h => by cases h
  | .refuse _, _, h => by cases h
theorem rs_comp {keep : List Nat} {x : ResultVar} {r : Rs} (h : rsOf P keep x = some r) : RsOK P keep x r := by
  cases x with
  | tmp n =>
    simp only [rsOf] at h
    split at h
    · rename_i h1; cases h; exact .slot h1
    · cases h
  | cell n ty =>
    simp only [rsOf] at h
    split at h
    · rename_i h1 h2 h3
      split at h
      · rename_i hag; cases h; exact .celln h1 (aggD_true h2 hag) h3
      · rename_i hag; cases h; exact .cell1 h1 h2 (aggD_false (by simpa using hag))
    · cases h
theorem rss_comp {keep : List Nat} : ∀ {l : List ResultVar} {r : List Rs}, rssOf P keep l = some r → RssOK P keep l r
  | [], r, h => by cases h; exact .nil
  | x :: l, r, h => by
    simp only [rssOf] at h
    split at h
    · rename_i h1 h2; cases h; exact .cons (rs_comp h1) (rss_comp h2)
    · cases h
theorem nodup_ok : ∀ {l : List Nat}, nodupB l = true → l.Nodup
  | [], _ => List.nodup_nil
  | x :: l, h => by
    simp only [nodupB, Bool.and_eq_true] at h
    refine List.nodup_cons.2 ⟨fun hm => ?_, nodup_ok h.2⟩
    have := h.1
    simp only [Bool.not_eq_true', List.any_eq_false] at this
    exact this x hm (Nat.beq_refl x)
theorem bf_ok {O : Objs} {dg : List Nat → Nat → Array Oper → Option Dr} (hdg : ∀ keep nt id ops r, keep.Nodup → dg keep nt ops = some r → DrOK P keep nt dr (.region id ops true) r) {f : Nat} {keep : List Nat} {b : BF} (h : bfOf P dg f keep = some b) (N : Nat) : FnOK P O f (fun D args h => b.run dr N D args h) := by
  unfold bfOf at h
  split at h
  · rename_i fn hfn
    split at h
    · rename_i c hc
      split at h
      · rename_i bb rs h1 h2
        split at h
        · rename_i hchk
          cases h
          rw [Bool.and_eq_true, Bool.and_eq_true] at hchk
          obtain ⟨⟨k1, k2⟩, k3⟩ := hchk
          refine fnok_bf N k1 hfn hc rfl (nodup_ok k2) (fun d hd => ?_) (bc_ok (fun id ops r hr => hdg _ _ id ops r (nodup_ok k2) hr) h1) (rss_comp h2)
          have := List.all_eq_true.1 k3 d hd
          simpa [Nat.blt_eq] using this
        · cases h
      · cases h
    · cases h
  · cases h
end Am
end Go.Proofs.Ytmfobcejnkakpaa
