/- The plain machine: what a region that draws its order needs: operands that an operation reads, values held against one another, blocks that are laid later. -/
import Derived.Test.YtmfobcejnkakpaaAm14
namespace Go.Proofs.Ytmfobcejnkakpaa
set_option linter.unusedVariables false
set_option linter.unusedSimpArgs false
namespace Am
open Go.RowKit
set_option maxRecDepth 10000
variable {P : Program}

mutual
def eqA : AV → AV → Bool
  | .int k n, .int k' n' => decide (k = k') && decide (n = n')
  | .bool b, .bool c => b == c
  | .str s, .str t => s == t
  | .ptr g o, .ptr g' o' => Nat.beq g g' && Nat.beq o o'
  | .nilp, .nilp => true
  | .slice z g o l c, .slice z' g' o' l' c' => Nat.beq z z' && Nat.beq g g' && Nat.beq o o' && Nat.beq l l' && decide (c = c')
  | .snil, .snil => true
  | .semp, .semp => true
  | .func f cs, .func f' cs' => Nat.beq f f' && eqAs cs cs'
  | .nilf, .nilf => true
  | .iface t v, .iface t' v' => Nat.beq t t' && eqA v v'
  | .inil, .inil => true
  | .agg l, .agg l' => eqAs l l'
  | .tup l, .tup l' => eqAs l l'
  | .bot, .bot => true
  | _, _ => false
def eqAs : List AV → List AV → Bool
  | [], [] => true
  | a :: l, b :: r => eqA a b && eqAs l r
  | _, _ => false
end
mutual
theorem eqA_ok : ∀ {a b : AV}, eqA a b = true → a = b
  | .int k n, b, h => by cases b <;> simp [eqA] at h; rw [h.1, h.2]
  | .bool c, b, h => by cases b <;> simp [eqA] at h; rw [h]
  | .str s, b, h => by cases b <;> simp [eqA] at h; rw [h]
  | .ptr g o, b, h => by cases b <;> simp [eqA] at h; rw [h.1, h.2]
  | .nilp, b, h => by cases b <;> simp [eqA] at h; rfl
  | .slice z g o l c, b, h => by cases b <;> simp [eqA] at h; obtain ⟨⟨⟨⟨h1, h2⟩, h3⟩, h4⟩, h5⟩ := h; rw [h1, h2, h3, h4, h5]
  | .snil, b, h => by cases b <;> simp [eqA] at h; rfl
  | .semp, b, h => by cases b <;> simp [eqA] at h; rfl
  | .func f cs, b, h => by
    cases b <;> simp [eqA] at h
    obtain ⟨h1, h2⟩ := h
    rw [h1, eqAs_ok h2]
  | .nilf, b, h => by cases b <;> simp [eqA] at h; rfl
  | .iface t v, b, h => by
    cases b <;> simp [eqA] at h
    obtain ⟨h1, h2⟩ := h
    rw [h1, eqA_ok h2]
  | .inil, b, h => by cases b <;> simp [eqA] at h; rfl
  | .agg l, b, h => by cases b <;> simp [eqA] at h; rw [eqAs_ok h]
  | .tup l, b, h => by cases b <;> simp [eqA] at h; rw [eqAs_ok h]
  | .bot, b, h => by cases b <;> simp [eqA] at h; rfl
theorem eqAs_ok : ∀ {a b : List AV}, eqAs a b = true → a = b
  | [], b, h => by cases b <;> simp [eqAs] at h; rfl
  | x :: l, b, h => by
    cases b with
    | nil => simp [eqAs] at h
    | cons y r =>
      simp only [eqAs, Bool.and_eq_true] at h
      rw [eqA_ok h.1, eqAs_ok h.2]
end

/-- the operands that an operation reads -/
def optL (x : Option Od) : List Od := match x with | none => [] | some o => [o]
def Mv.ods : Mv → List Od
  | .mv x | .notb x | .neg x | .conv _ x | .b2s x | .i2s x | .nilc x | .fld1 _ x | .fldn _ _ x | .ext _ x | .faddr _ x | .ld1 x | .ldn _ x | .lenv x | .lens x | .capv x | .mkif _ x => [x]
  | .pick c x y => [c, x, y]
  | .bin _ _ x y | .iaddr _ x y | .idx x y | .maxv x y | .minv x y => [x, y]
  | .bld _ ps => ps.map fun p => p.2.2
  | .sl _ x a b c => x :: (optL a ++ (optL b ++ optL c))
  | .sls x a b => x :: (optL a ++ optL b)
  | .mkfn _ cs => cs
def Ef.ods : Ef → List Od
  | .alloc _ => []
  | .box x | .clear _ _ x | .s2b x | .mark x => [x]
  | .bslice _ _ _ ps => ps.map fun p => p.2.2
  | .store _ a x => [a, x]
  | .append _ _ x y | .appz _ _ _ x y | .copy _ x y | .mkslice _ _ _ x y => [x, y]
def Op1.ods : Op1 → List Od
  | .mov m => m.ods
  | .eff e => e.ods
  | .call _ xs => xs
  | .calv f xs => f :: xs
  | .pan x => [x]
section
variable {X : Type} {e e' : En} {t t' : List AV}
theorem map_ods {xs : List Od} (h : ∀ x ∈ xs, x.ev e t = x.ev e' t') : (xs.map fun x => x.ev e t) = xs.map fun x => x.ev e' t' := List.map_congr_left h
theorem map_parts {ps : List (Nat × Nat × Od)} (h : ∀ x ∈ (ps.map fun p => p.2.2), x.ev e t = x.ev e' t') : (ps.map fun p => (p.1, p.2.1, p.2.2.ev e t)) = ps.map fun p => (p.1, p.2.1, p.2.2.ev e' t') :=
  List.map_congr_left fun p hp => by rw [h p.2.2 (List.mem_map.2 ⟨p, hp, rfl⟩)]
theorem oev_congr {x : Option Od} (h : ∀ y ∈ optL x, y.ev e t = y.ev e' t') : oev x e t = oev x e' t' := by
  cases x with
  | none => rfl
  | some y => simp only [oev]; rw [h y (by simp [optL])]
theorem Mv.congr {m : Mv} {h : Hp X} (hx : ∀ x ∈ m.ods, x.ev e t = x.ev e' t') : m.ev e t h = m.ev e' t' h := by
  cases m
  case bld z ps => simp only [Mv.ev]; rw [map_parts hx]
  case sl z x a b c =>
    simp only [Mv.ev]
    rw [hx x (by simp [Mv.ods]), oev_congr (x := a) (fun y hy => hx y (by simp [Mv.ods, hy])), oev_congr (x := b) (fun y hy => hx y (by simp [Mv.ods, hy])), oev_congr (x := c) (fun y hy => hx y (by simp [Mv.ods, hy]))]
  case sls x a b =>
    simp only [Mv.ev]
    rw [hx x (by simp [Mv.ods]), oev_congr (x := a) (fun y hy => hx y (by simp [Mv.ods, hy])), oev_congr (x := b) (fun y hy => hx y (by simp [Mv.ods, hy]))]
  case mkfn f cs => simp only [Mv.ev]; rw [map_ods (xs := cs) hx]
  all_goals (simp only [Mv.ods, List.mem_cons, List.not_mem_nil, or_false, forall_eq_or_imp, forall_eq] at hx; simp only [Mv.ev, hx])
theorem Ef.congr {m : Ef} {h : Hp X} (hx : ∀ x ∈ m.ods, x.ev e t = x.ev e' t') : m.ev e t h = m.ev e' t' h := by
  cases m
  case alloc => rfl
  case bslice z l zero ps => simp only [Ef.ev]; rw [map_parts hx]
  all_goals (simp only [Ef.ods, List.mem_cons, List.not_mem_nil, or_false, forall_eq_or_imp, forall_eq] at hx; simp only [Ef.ev, hx])
theorem Op1.congr {D : Dp X} {o : Op1} {h : Hp X} (hx : ∀ x ∈ o.ods, x.ev e t = x.ev e' t') : o.run D e t h = o.run D e' t' h := by
  cases o with
  | mov m => simp only [Op1.run]; rw [Mv.congr hx]
  | eff m => simp only [Op1.run]; rw [Ef.congr hx]
  | call f xs => simp only [Op1.run]; rw [map_ods (xs := xs) hx]
  | calv f xs => simp only [Op1.run]; rw [hx f (by simp [Op1.ods]), map_ods (fun x h => hx x (by simp [Op1.ods, h]))]
  | pan x => simp only [Op1.run]; rw [hx x (by simp [Op1.ods])]
end

/-- a block that is laid whatever the heap: its value by its number, its cells -/
def Ef.alc (ef : Ef) (e : En) (t : List AV) : Option ((Nat → AV) × List AV) :=
  match ef with
  | .alloc cs => some (fun g => .ptr g 0, cs)
  | .box x => match cellsOf (x.ev e t) with
    | some l => bif allOne l then some (fun g => .ptr g 0, l) else none
    | none => none
  | .bslice z len zero parts => match fillA (rep zero len) (parts.map fun p => (p.1, p.2.1, p.2.2.ev e t)) with
    | some l => bif allOne l && Nat.beq l.length (len * z) && Nat.ble len maxLen then some (fun g => .slice z g 0 len (some len), l) else none
    | none => none
  | _ => none
def Ef.isAlc : Ef → Bool
  | .alloc _ | .box _ | .bslice .. => true
  | _ => false
theorem alc_ev {X : Type} {ef : Ef} (hi : ef.isAlc = true) {e : En} {t : List AV} {h : Hp X} : ef.ev e t h = (ef.alc e t).map fun p => (p.1 h.n, h.push (.rw p.2)) := by
  cases ef <;> first | (cases hi; done) | skip
  · rfl
  · rename_i x
    simp only [Ef.ev, Ef.alc]
    cases cellsOf (x.ev e t) with
    | none => rfl
    | some l => simp only; cases allOne l <;> rfl
  · rename_i z len zero parts
    simp only [Ef.ev, Ef.alc]
    cases fillA (rep zero len) (parts.map fun p => (p.1, p.2.1, p.2.2.ev e t)) with
    | none => rfl
    | some l => simp only; cases (allOne l && Nat.beq l.length (len * z) && Nat.ble len maxLen) <;> rfl
theorem alc_congr {ef : Ef} (hi : ef.isAlc = true) {e e' : En} {t t' : List AV} (hx : ∀ x ∈ ef.ods, x.ev e t = x.ev e' t') : ef.alc e t = ef.alc e' t' := by
  cases ef <;> first | (cases hi; done) | skip
  · rfl
  · simp only [Ef.ods, List.mem_cons, List.not_mem_nil, or_false, forall_eq] at hx
    simp only [Ef.alc, hx]
  · simp only [Ef.alc]; rw [map_parts hx]
/-- what the operation does in the model: a block laid -/
def AlcOK (P : Program) (keep : List Nat) (o : Oper) (ef : Ef) : Prop :=
  ∀ {m : Mu} {nt : Nat} {e : En} {t : List AV} {a : Act} (w : World), FR m keep nt e t a → ∀ {mk : Nat → AV} {l : List AV}, ef.alc e t = some (mk, l) →
    ∃ cs ty v' z, (execOp a.eval o).run P w = .ok (.value v') (w.alloc (.cells cs ty)) ∧ VRs m l cs.toList ∧ (∀ a ∈ l, a.one = true) ∧ ∀ (m2 : Mu) g, m2 g = some ⟨w.heap.size, 0, cs.size, z⟩ → VR m2 (mk g) v'
section
variable {keep : List Nat} {o : Oper}
theorem alcok_alloc {ty : TypeId} {i : TypeInfo} {z : Value} {l : List AV} (ho : o.op = .alloc ty) (hi : P.info? ty = some i) (hz : i.zero = some z) (hl : avOfs z.cells.toList = some l) : AlcOK P keep o (.alloc l) := by
  intro m nt e t a w hf mk l' h
  cases h
  obtain ⟨h1, h2⟩ := avOfs_ok m hl
  refine ⟨z.cells, ty, .pointer (some ⟨w.heap.size, 0, none⟩), 0, ?_, h1, h2, fun m2 g hg => ⟨_, hg, by simp⟩⟩
  simp [execOp, ho, Instr.alloc, zeroValue, typeInfo, hi, hz, newVar, newRow]
theorem alcok_box {ty : TypeId} {x : Operand} {x' : Od} (ho : o.op = .box ty x) (hx : odOf keep x = some x') : AlcOK P keep o (.box x') := by
  intro m nt e t a w hf mk l' h
  have h1 := hf.od hx
  simp only [Ef.alc] at h
  cases hc : cellsOf (x'.ev e t) with
  | none => rw [hc] at h; cases h
  | some l =>
    rw [hc] at h
    simp only at h
    obtain ⟨h2, h⟩ := bif_some h
    cases h
    refine ⟨(a.eval x).cells, ty, .pointer (some ⟨w.heap.size, 0, none⟩), 0, ?_, cellsOf_ok hc h1, allOne_ok h2, fun m2 g hg => ⟨_, hg, by simp⟩⟩
    simp [execOp, ho, Instr.box, newVar, newRow]
theorem alcok_bslice {ty el : TypeId} {len : Nat} {parts : Array (Nat × Operand)} {ps : List (Nat × Nat × Od)} {i : TypeInfo} {z : Value} {l0 : List AV} (ho : o.op = .buildSlice ty len parts) (hu : P.underlying ty = some (.slice el)) (hi : P.info? el = some i) (hz : i.zero = some z) (hzs : z.cells.size = i.size) (h0 : 0 < i.size) (hbig : len * i.size ≤ 16777216)
    (hl : avOfs z.cells.toList = some l0) (hp : partsOf (fun k => some (k * i.size, i.size)) keep parts.toList = some ps) : AlcOK P keep o (.bslice i.size len l0 ps) := by
  intro m nt e t a w hf mk l' h
  -- out of the plain operation at an empty heap of its own
  have hs : SR ⟨Empty, fun x => x.elim, fun {x} => x.elim, fun {x} => x.elim⟩ w w (fun _ => none) (fun _ _ => False) (⟨.nil, 0⟩ : Hp Empty) := by
    have hg : ∀ g, (⟨.nil, 0⟩ : Hp Empty).get g = none := fun g => by
      have : ∀ f g, T.get (α := AB Empty) f .nil g = none := by
        intro f
        induction f with
        | zero => intro g; rfl
        | succ f ih => intro g; rw [T.get_succ]; split; rfl; split <;> exact ih _
      exact this 40 g
    refine ⟨Below.refl _ _, fun g c h => (by rw [hg] at h; cases h), fun g g' c c' h => (by rw [hg] at h; cases h), fun g c h => (by rw [hg] at h; cases h), fun g p h => by cases h⟩
  simp only [Ef.alc] at h
  cases hfl : fillA (rep l0 len) (ps.map fun p => (p.1, p.2.1, p.2.2.ev e t)) with
  | none => rw [hfl] at h; cases h
  | some r =>
    rw [hfl] at h
    simp only at h
    obtain ⟨hb, h⟩ := bif_some h
    cases h
    rw [Bool.and_eq_true, Bool.and_eq_true] at hb
    obtain ⟨⟨b1, b2⟩, b3⟩ := hb
    have b2 := Nat.eq_of_beq_eq_true b2
    have b3 := Nat.le_of_ble_eq_true b3
    obtain ⟨k1, k2⟩ := parts_ok hf hp
    have hrep := rep_ok (avOfs_ok m hl).1 len (len * z.cells.size) rfl
    obtain ⟨cs', h1, h2⟩ := fill_ok (place := fun k => some (k * i.size, i.size)) k1 k2 hrep hfl
    have hcs : cs'.size = len * i.size := by rw [← b2, ← h2.len]; simp
    have hpm : (parts.map fun p => (p.1, a.eval p.2)).toList = parts.toList.map fun p => (p.1, a.eval p.2) := by simp
    refine ⟨cs', el, .slice (some ⟨w.heap.size, 0, none⟩) len len, i.size, ?_, h2, allOne_ok b1, fun m2 g hg => ?_⟩
    · have hrun : (Instr.buildSlice ty len (parts.map fun p => (p.1, a.eval p.2))).run P w = .ok (.slice (some ⟨w.heap.size, 0, none⟩) len len) (w.alloc (.cells cs' el)) := by
        unfold Instr.buildSlice
        simp only [Sem.run_bind, run_underlying hu, Result.andThen_ok, sizeOf, typeInfo, run_program, hi, Sem.run_pure]
        rw [if_neg (by omega)]
        by_cases hz0 : len * i.size = 0
        · have hlen0 : len = 0 := by rcases Nat.mul_eq_zero.1 hz0 with h | h; exact h; omega
          subst hlen0
          have hz1 : ∀ f : Nat → Value, (Array.range 0).map f = #[] := fun f => by apply Array.ext'; simp
          simp only [Nat.zero_mul, if_true, Sem.run_bind, Sem.run_pure, Result.andThen_ok, hz1, hpm]
          simp only [Nat.zero_mul, hz1] at h1
          rw [h1]
          simp [newRow]
        · rw [if_neg hz0]
          simp only [Sem.run_bind, zeroValue, typeInfo, run_program, Result.andThen_ok, hi, hz, Sem.run_pure, hpm]
          rw [hzs] at h1
          rw [hzs, h1]
          simp [newRow]
      have : execOp a.eval o = (do pure (.value (← Instr.buildSlice ty len (parts.map fun p => (p.1, a.eval p.2))))) := by simp only [execOp, ho]
      rw [this]
      simp [hrun]
    · simp only [VR]
      exact ⟨_, _, _, hg, rfl, Nat.le_refl _, b3, fun _ => by simp, ⟨h0, rfl⟩, rfl⟩
/-- an operation that lays a block, found by its compiled form -/
theorem alc_of {ef : Ef} (h : opOf P keep o = some (.eff ef)) (hi : ef.isAlc = true) : AlcOK P keep o ef := by
  unfold opOf at h
  split at h
  case h_19 ho =>
    split at h
    · split at h
      · split at h
        · cases h; exact alcok_alloc ho (by assumption) (by assumption) (by assumption)
        · cases h
      · cases h
    · cases h
  case h_20 ho => split at h; (cases h; exact alcok_box ho (by assumption)); cases h
  case h_21 ho =>
    unfold bsliceOf at h
    split at h
    · rename_i el hu
      split at h
      · rename_i s b l he
        split at h
        · rename_i ps hps
          split at h
          · rename_i hle
            cases h
            obtain ⟨i, z, h1, h2, h3, h4, h5, rfl, rfl⟩ := elemOf_ok he
            exact alcok_bslice ho hu h1 h2 h4 h5 hle h3 hps
          · cases h
        · cases h
      · cases h
    · cases h
  case h_7 ho =>
    unfold convOf at h
    split at h
    · cases h
    · split at h <;> cases h; cases hi
    · split at h <;> cases h
    · split at h
      · split at h <;> cases h; cases hi
      · cases h
    · cases h
    · cases h
    · cases h
  case h_9 ho => unfold fieldOf at h; split at h; (split at h; (split at h; (split at h <;> cases h); cases h); cases h); cases h
  case h_11 ho => unfold faddrOf at h; split at h; (split at h; (split at h; (split at h <;> cases h); cases h); cases h); cases h
  case h_14 ho => unfold sliceOf at h; split at h; (split at h <;> cases h); (split at h <;> cases h); cases h
  case h_15 ho => unfold loadOf at h; split at h; (split at h <;> cases h); cases h
  case h_16 ho => unfold buildOf at h; split at h; (split at h; (split at h; (split at h <;> cases h); cases h); cases h); cases h
  case h_25 c ho =>
    obtain ⟨callee, args, tys⟩ := c
    unfold callOf at h
    cases callee with
    | invoke => cases h
    | value f => cases f <;> simp only at h <;> split at h <;> cases h
    | builtin b =>
      cases b <;> simp only [biOf] at h <;> first | (cases h; done) | skip
      case len => unfold biLen at h; split at h; (split at h <;> cases h); cases h
      case cap => unfold biCap at h; split at h; (split at h <;> cases h); cases h
      case max => unfold biMax at h; split at h; (split at h <;> cases h); cases h
      case min => unfold biMax at h; split at h; (split at h <;> cases h); cases h
      case append => unfold biApp at h; split at h; (split at h; (split at h; (split at h; (cases h; cases hi); (split at h <;> cases h; cases hi)); cases h); cases h); cases h
      case copy => unfold biCopy at h; split at h; (split at h; (split at h <;> cases h; cases hi); cases h); cases h
      case clear => unfold biClear at h; split at h; (split at h; (split at h <;> cases h; cases hi); cases h); cases h
      case panic => unfold biPan at h; split at h; (split at h <;> cases h); cases h
  all_goals (repeat' (first | (cases h; done) | (cases h; cases hi; done) | split at h))
end
end Am
end Go.Proofs.Ytmfobcejnkakpaa
