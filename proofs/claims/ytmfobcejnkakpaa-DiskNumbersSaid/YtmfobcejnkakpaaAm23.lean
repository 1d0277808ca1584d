/- The plain machine: its fast form is what it stands for: the heap, operations that write, regions, code, functions. -/
import Derived.Test.YtmfobcejnkakpaaAm22
namespace Go.Proofs.Ytmfobcejnkakpaa
set_option linter.unusedVariables false
set_option linter.unusedSimpArgs false
namespace Am
open Go.RowKit
set_option maxRecDepth 10000

theorem k_fT_eq {α β : Type} (t : T α) (f : T α → β) : k_fT t f = f t := by cases t <;> rfl
theorem k_tset_eq {α : Type} (f : Nat) (t : T α) (n : Nat) (a : Option α) : k_tset f t n a = t.set f n a := by
  unfold k_tset T.set
  induction f generalizing t n with
  | zero => rfl
  | succ f ih =>
    have key : ∀ (l : T α) (v : Option α) (r : T α) (g g' : T α → Nat → Option α → T α), (∀ t n, g t n a = g' t n a) → k_node l v r g n a =
      Bool.rec (motive := fun _ => T α) (Bool.rec (motive := fun _ => T α) (.node l v (g' r (Nat.div n 2) a)) (.node (g' l (Nat.div n 2) a) v r) (Nat.beq (Nat.mod n 2) 0)) (.node l a r) (Nat.beq n 0) := fun l v r g g' hg => by
      unfold k_node
      rw [k_fT_eq, k_fT_eq, hg, hg]
    cases t with
    | nil => exact key _ _ _ _ _ (fun t n => ih t n)
    | node l v r => exact key _ _ _ _ _ (fun t n => ih t n)
theorem get_nil {α : Type} (f n : Nat) : (T.nil : T α).get f n = none := by
  induction f generalizing n with
  | zero => rfl
  | succ f ih =>
    show (Bool.rec (motive := fun _ => Option α) (Bool.rec (motive := fun _ => Option α) (T.get f .nil (Nat.div n 2)) (T.get f .nil (Nat.div n 2)) (Nat.beq (Nat.mod n 2) 0)) none (Nat.beq n 0)) = _
    rw [ih]
    cases Nat.beq n 0 <;> cases Nat.beq (Nat.mod n 2) 0 <;> rfl
theorem k_tget_eq {α : Type} (f : Nat) (t : T α) (n : Nat) : k_tget f t n = t.get f n := by
  induction f generalizing t n with
  | zero => rfl
  | succ f ih =>
    cases t with
    | nil => rw [get_nil]; rfl
    | node l v r =>
      show (Bool.rec (motive := fun _ => Option α) (Bool.rec (motive := fun _ => Option α) (k_tget f r (Nat.div n 2)) (k_tget f l (Nat.div n 2)) (Nat.beq (Nat.mod n 2) 0)) v (Nat.beq n 0)) = _
      rw [ih, ih]; rfl

section
variable {X : Type}
theorem k_push_eq {β : Type} (h : Hp X) (c : AB X) (f : Nat → Hp X → β) : k_push h c f = f h.n (h.push c) := by unfold k_push; rw [k_lit_eq, k_fT_eq, k_tset_eq]; rfl
theorem k_put_eq {β : Type} (h : Hp X) (g : Nat) (c : AB X) (f : Hp X → β) : k_put h g c f = f (h.put g c) := by unfold k_put; rw [k_fT_eq, k_tset_eq]; rfl
theorem k_del_eq {β : Type} (h : Hp X) (g : Nat) (f : Hp X → β) : k_del h g f = f (h.del g) := by unfold k_del; rw [k_fT_eq, k_tset_eq]; rfl
theorem k_heap_eq {β : Type} (h : Hp X) (f : Hp X → β) : k_heap h f = f h := by unfold k_heap; rw [k_lit_eq, k_fT_eq]
def toF (x : Option (AV × Hp X)) : FRes X := match x with | some (v, h) => .ret v h | none => .bad
theorem k_done_eq (x : Option (AV × Hp X)) : k_done x = toF x := by
  cases x with
  | none => rfl
  | some p =>
    show k_fvd p.1 _ = _
    rw [k_fvd_eq, k_heap_eq]; rfl
theorem k_someF_eq {α : Type} (x : Option α) (f : α → FRes X) : k_someF x f = match x with | some a => f a | none => .bad := by cases x <;> rfl
theorem k_ifF_eq (c : Bool) (a : FRes X) : k_ifF c a = bif c then a else .bad := by cases c <;> rfl
theorem k_sliceF_eq (v : AV) (f : Nat → Nat → Nat → Nat → Option Nat → FRes X) (n : FRes X) : k_sliceF v f n = match v with | .slice z g off len cap => f z g off len cap | .snil => n | _ => .bad := by cases v <;> rfl
theorem k_sliceF0_eq (v : AV) (f : Nat → Nat → Nat → Nat → Option Nat → FRes X) (n : FRes X) : k_sliceF0 v f n = match v with | .slice z g off len cap => f z g off len cap | .snil => n | .semp => n | _ => .bad := by cases v <;> rfl
theorem k_ptrF_eq (v : AV) (f : Nat → Nat → FRes X) : k_ptrF v f = match v with | .ptr g o => f g o | _ => .bad := by cases v <;> rfl
theorem k_strF_eq (v : AV) (f : List UInt8 → FRes X) : k_strF v f = match v with | .str s => f s | _ => .bad := by cases v <;> rfl
theorem k_rw_eq (h : Hp X) (g : Nat) (f : List AV → FRes X) : k_rw h g f = match h.get g with | some (.rw l) => f l | _ => .bad := by
  unfold k_rw
  rw [k_tget_eq, k_someF_eq, show T.get 40 h.t g = h.get g from rfl]
  cases h.get g with
  | none => rfl
  | some b => cases b <;> rfl
theorem k_elems_eq (h : Hp X) (z : Nat) (y : AV) (f : Nat → List AV → FRes X) : k_elems h z y f = match elems h z y with | some (m, vs) => f m vs | none => .bad := by
  unfold k_elems elems
  rw [k_sliceF0_eq]
  cases y <;> first | rfl | skip
  rename_i z' g off len cap
  simp only [k_ifF_eq, k_someF_eq, k_row_eq, k_takeS_eq, List.append_nil]
  cases Nat.beq z' z <;> first | rfl | skip
  simp only [cond_true]
  cases rowOf h g with
  | none => rfl
  | some l =>
    show (match takeN (len * z) off l with | some r => f len r | none => .bad) = _
    simp only
    cases takeN (len * z) off l <;> rfl
theorem k_appA_eq (h : Hp X) (z bytes : Nat) (x : AV) (m : Nat) (vs : List AV) : k_appA h z bytes x m vs = toF (appA h z bytes x m vs) := by
  unfold k_appA appA
  cases Nat.beq m 0 with
  | true =>
    simp only [k_sliceF_eq, cond_true]
    cases x <;> rfl
  | false =>
    simp only [k_sliceF_eq, cond_false]
    cases x <;> first | rfl | skip
    case snil =>
      simp only [k_ifF_eq, k_and_eq, k_push_eq]
      show (bif Nat.ble (m * bytes) 140737488355328 && Nat.ble m maxLen then _ else _) = _
      cases Nat.ble (m * bytes) 140737488355328 && Nat.ble m maxLen <;> rfl
    case slice z' g off len cap =>
      simp only [k_ifF_eq, k_and_eq, k_lit_eq]
      show (bif (Nat.beq z' z && (Nat.ble ((len + m) * bytes) 140737488355328 && Nat.ble (len + m) maxLen)) then _ else _) = _
      rw [← Bool.and_assoc]
      cases Nat.beq z' z && Nat.ble ((len + m) * bytes) 140737488355328 && Nat.ble (len + m) maxLen with
      | false => rfl
      | true =>
        simp only [cond_true, Bool.not_true, cond_false]
        cases cap with
        | some k =>
          simp only []
          show (Bool.rec _ _ (Nat.ble (len + m) k) : FRes X) = _
          cases Nat.ble (len + m) k with
          | false =>
            simp only [cond_false, k_someF_eq, k_row_eq, k_takeS_eq, k_push_eq]
            cases rowOf h g with
            | none => rfl
            | some l =>
              show (match takeN (len * z) off l with | some r => _ | none => _) = _
              simp only
              cases takeN (len * z) off l <;> rfl
          | true =>
            simp only [cond_true, k_rw_eq, k_ifF_eq, k_len_eq, k_put_eq, k_spl_eq]
            cases h.get g with
            | none => rfl
            | some b =>
              cases b <;> first | rfl | skip
              rename_i l
              simp only
              show (bif Nat.ble (off + (len + m) * z) l.length then _ else _) = _
              cases Nat.ble (off + (len + m) * z) l.length <;> rfl
        | none =>
          simp only [k_rw_eq, k_len_eq, k_put_eq, k_spl_eq, k_takeS_eq, k_del_eq, k_push_eq]
          cases h.get g with
          | none => rfl
          | some b =>
            cases b <;> first | rfl | skip
            rename_i l
            simp only
            show (Bool.rec _ _ (Nat.ble (off + (len + m) * z) l.length) : FRes X) = _
            cases Nat.ble (off + (len + m) * z) l.length with
            | true => rfl
            | false =>
              simp only [cond_false]
              show (match takeN (len * z) off l with | some r => _ | none => _) = _
              cases takeN (len * z) off l <;> rfl
theorem k_copyA_eq (h : Hp X) (z : Nat) (x : AV) (m : Nat) (vs : List AV) : k_copyA h z x m vs = toF (copyA h z x m vs) := by
  unfold k_copyA copyA
  simp only [k_sliceF_eq]
  cases x <;> first | rfl | skip
  rename_i z' g off len cap
  simp only [k_ifF_eq, k_lit_eq, k_min_eq]
  cases Nat.beq z' z with
  | false => rfl
  | true =>
    simp only [cond_true]
    cases Nat.beq (min m len) 0 with
    | true => rfl
    | false =>
      simp only [cond_false, k_rw_eq, k_len_eq, k_put_eq, k_spl_eq, k_take_eq]
      cases h.get g with
      | none => rfl
      | some b =>
        cases b <;> first | rfl | skip
        rename_i l
        simp only
        show (bif Nat.ble (off + min m len * z) l.length then _ else _) = _
        cases Nat.ble (off + min m len * z) l.length <;> rfl
theorem k_ef_eq (o : Ef) (e : En) (t : List AV) (h : Hp X) : k_ef o e t h = toF (o.ev e t h) := by
  cases o
  case alloc cs => show k_push h (.rw cs) _ = _; rw [k_push_eq]; rfl
  case box x =>
    show k_someF (k_cells (k_od x e t)) _ = _
    rw [k_someF_eq, k_cells_eq, k_od_eq]
    simp only [Ef.ev, k_ifF_eq, k_all_eq, k_push_eq]
    cases cellsOf (x.ev e t) with
    | none => rfl
    | some l => simp only; cases allOne l <;> rfl
  case bslice z len zero ps =>
    show k_someF (fillA (rep zero len) (k_parts ps e t)) _ = _
    rw [k_someF_eq, k_parts_eq]
    simp only [Ef.ev, k_ifF_eq, k_all_eq, k_push_eq, k_len_eq]
    cases fillA (rep zero len) (ps.map fun p => (p.1, p.2.1, p.2.2.ev e t)) with
    | none => rfl
    | some l =>
      simp only
      cases allOne l <;> first | rfl | skip
      simp only [Bool.true_and, Nat.add_zero]
      show (bif (Bool.rec false (Bool.rec false (Nat.ble len maxLen) (Nat.beq l.length (len * z))) true : Bool) then _ else _) = toF (bif (Nat.beq l.length (len * z) && Nat.ble len maxLen) then _ else _)
      cases Nat.beq l.length (len * z) <;> first | rfl | skip
      cases Nat.ble len maxLen <;> rfl
  case store n a x =>
    show k_ptrF (k_od a e t) _ = _
    rw [k_ptrF_eq, k_od_eq]
    simp only [Ef.ev]
    cases a.ev e t <;> first | rfl | skip
    rename_i g off
    simp only [k_someF_eq, k_cells_eq, k_od_eq, k_ifF_eq, k_all_eq, k_len_eq]
    cases cellsOf (x.ev e t) with
    | none => rfl
    | some vs =>
      simp only [Nat.add_zero]
      cases allOne vs <;> first | rfl | skip
      cases Nat.beq vs.length n <;> first | rfl | skip
      simp only [Bool.true_and, cond_true, k_tget_eq, show T.get 40 h.t g = h.get g from rfl]
      cases h.get g with
      | none => rfl
      | some b =>
        cases b <;> first | rfl | skip
        rename_i l
        simp only [k_put_eq, k_spl_eq]
        show (bif Nat.ble (off + n) l.length then _ else _) = _
        cases Nat.ble (off + n) l.length <;> rfl
  case append z b x y =>
    show k_elems h z (k_od y e t) _ = _
    rw [k_elems_eq, k_od_eq]
    simp only [Ef.ev, k_appA_eq, k_od_eq]
    cases elems h z (y.ev e t) with
    | none => rfl
    | some p => rfl
  case appz z b zero x n => show k_done _ = _; rw [k_done_eq, k_od_eq, k_od_eq]; rfl
  case copy z x y =>
    show k_elems h z (k_od y e t) _ = _
    rw [k_elems_eq, k_od_eq]
    simp only [Ef.ev, k_copyA_eq, k_od_eq]
    cases elems h z (y.ev e t) with
    | none => rfl
    | some p => rfl
  case clear z zero x => show k_done _ = _; rw [k_done_eq, k_od_eq]; rfl
  case mkslice z b zero l c =>
    show k_someF (k_nOf (k_od l e t)) _ = _
    simp only [k_someF_eq, k_nOf_eq, k_od_eq, k_ifF_eq, k_and_eq, k_rep_eq, k_push_eq, Ef.ev]
    cases nOf (l.ev e t) with
    | none => rfl
    | some n =>
      cases nOf (c.ev e t) with
      | none => rfl
      | some k =>
        simp only
        show (bif (Nat.ble n k && (Nat.ble (b * k) 140737488355328 && Nat.ble k maxLen)) then _ else _) = _
        rw [← Bool.and_assoc]
        cases Nat.ble n k && Nat.ble (b * k) 140737488355328 && Nat.ble k maxLen <;> rfl
  case s2b x =>
    show k_strF (k_od x e t) _ = _
    rw [k_strF_eq, k_od_eq]
    simp only [Ef.ev, k_lit_eq, k_len_eq, k_ifF_eq, k_mapB_eq, k_push_eq]
    cases x.ev e t <;> first | rfl | skip
    rename_i s
    simp only [Nat.add_zero]
    show (bif Nat.ble s.length maxLen then _ else _) = _
    cases Nat.ble s.length maxLen <;> rfl
  case mark x => show k_done _ = _; rw [k_done_eq, k_od_eq]; rfl
theorem k_op1_eq (o : Op1) (D : Dp X) (e : En) (t : List AV) (h : Hp X) : k_op1 o D e t h = o.run D e t h := by
  cases o
  case mov m =>
    show k_doneV h (k_mv m e t h) = _
    rw [k_mv_eq]; simp only [Op1.run]
    cases m.ev e t h <;> rfl
  case eff f => show k_ef f e t h = _; rw [k_ef_eq]; simp only [Op1.run, toF]; cases f.ev e t h <;> rfl
  case call f xs => show k_ods xs e t _ = _; rw [k_ods_eq]; rfl
  case calv f xs =>
    show k_func (k_od f e t) _ = _
    rw [k_od_eq]; simp only [Op1.run]
    cases f.ev e t <;> first | rfl | skip
    show k_ods xs e t _ = _
    rw [k_ods_eq, k_app_eq]
  case pan x =>
    show k_ifc (k_od x e t) _ = _
    rw [k_od_eq]; simp only [Op1.run]
    cases x.ev e t <;> rfl
theorem k_step_eq (x : FRes X) (d : Ds) (ih : Dp X → En → List AV → Hp X → R X) (D : Dp X) (e : En) (t : List AV) : k_step x d ih D e t = stepR x fun v h' => ih D (putE d v e) (putT d v t) h' := by
  cases x <;> first | rfl | skip
  cases d <;> first | rfl | skip
  show k_set t _ _ _ = _
  rw [k_set_eq]; rfl
theorem k_rg_eq (r : List St1) (D : Dp X) (e : En) (t : List AV) (h : Hp X) : k_rg r D e t h = runRg D r e t h := by
  induction r generalizing e t h with
  | nil => rfl
  | cons s r ih =>
    obtain ⟨g, d, o⟩ := s
    have ihf : (fun v h' => k_rg r D (putE d v e) (putT d v t) h') = fun v h' => runRg D r (putE d v e) (putT d v t) h' := by funext v h'; exact ih _ _ _
    cases g with
    | none =>
      show k_step (k_op1 o D e t h) d (k_rg r) D e t = _
      rw [k_step_eq, k_op1_eq, ihf]; rfl
    | some jw =>
      obtain ⟨j, want⟩ := jw
      show k_boolR (k_od j e t) _ _ = _
      rw [k_od_eq]
      simp only [runRg, gdv]
      cases j.ev e t <;> first | rfl | skip
      rename_i b
      show (Bool.rec (k_step (.ret .bot h) d (k_rg r) D e t) (k_step (k_op1 o D e t h) d (k_rg r) D e t) (k_beq b want) : R X) = _
      rw [k_beq_eq, k_step_eq, k_step_eq, k_op1_eq, ihf]
      simp only
      cases (b == want) <;> rfl
noncomputable def k_drGo (r : Dr) (D : Dp X) (past : List (Pa X)) (e : En) (t : List AV) (h : Hp X) : R X := List.rec (motive := fun _ => Dp X → List (Pa X) → En → List AV → Hp X → R X) (fun _ _ _ t h => .norm t h)
  (fun s _ ih D past e t h => k_boolR (Option.rec (motive := fun _ => En → List AV → AV) (fun _ _ => .bool true) (fun jw e t => k_boolR (k_od jw.1 e t) .bot fun b => .bool (k_beq b jw.2)) s.1.g e t) .bad fun b => Bool.rec (motive := fun _ => R X)
    (k_step (.ret .bot h) s.1.d (fun D => ih D (k_app past [.skip])) D e t)
    (FRes.rec (motive := fun _ => R X) (fun v h' => Option.rec (motive := fun _ => R X) .bad (fun pa => Bool.rec (motive := fun _ => R X) .bad (k_step (.ret v h') s.1.d (fun D => ih D (k_app past [pa])) D e t) (chkAll h' past s.2)) (paOf s.1.o e t h v h')) (fun _ _ => .bad) .bad (k_op1 s.1.o D e t h)) b) r D past e t h
theorem k_drGo_eq (r : Dr) (D : Dp X) (past : List (Pa X)) (e : En) (t : List AV) (h : Hp X) : k_drGo r D past e t h = drGo D r past e t h := by
  induction r generalizing past e t h with
  | nil => rfl
  | cons s r ih =>
    obtain ⟨⟨g, d, o⟩, chk⟩ := s
    have ihf : ∀ p, (fun v h' => k_drGo r D p (putE d v e) (putT d v t) h') = fun v h' => drGo D r p (putE d v e) (putT d v t) h' := fun p => by funext v h'; exact ih _ _ _ _
    have fls : k_step (.ret .bot h) d (fun D => k_drGo r D (k_app past [.skip])) D e t = drGo D r (past ++ [.skip]) (putE d .bot e) (putT d .bot t) h := by
      rw [k_step_eq, k_app_eq]; exact ih _ _ _ _
    have tru : (FRes.rec (motive := fun _ => R X) (fun v h' => Option.rec (motive := fun _ => R X) .bad (fun pa => Bool.rec (motive := fun _ => R X) .bad (k_step (.ret v h') d (fun D => k_drGo r D (k_app past [pa])) D e t) (chkAll h' past chk)) (paOf o e t h v h')) (fun _ _ => .bad) .bad (k_op1 o D e t h) : R X) =
      (match o.run D e t h with
      | .ret v h' => (match paOf o e t h v h' with
        | some pa => bif chkAll h' past chk then drGo D r (past ++ [pa]) (putE d v e) (putT d v t) h' else .bad
        | none => .bad)
      | _ => .bad) := by
      rw [k_op1_eq]
      cases o.run D e t h <;> first | rfl | skip
      rename_i v h'
      simp only
      cases paOf o e t h v h' with
      | none => rfl
      | some pa =>
        simp only
        cases chkAll h' past chk with
        | false => rfl
        | true =>
          show k_step (.ret v h') d (fun D => k_drGo r D (k_app past [pa])) D e t = _
          rw [k_step_eq, k_app_eq]; exact ih _ _ _ _
    cases g with
    | none => exact tru
    | some jw =>
      obtain ⟨j, want⟩ := jw
      show k_boolR (k_boolR (k_od j e t) .bot fun b => .bool (k_beq b want)) _ _ = _
      rw [k_od_eq]
      simp only [drGo, gdv, St1.g]
      cases j.ev e t <;> first | rfl | skip
      rename_i b
      show (Bool.rec _ _ (k_beq b want) : R X) = _
      rw [k_beq_eq]
      simp only
      cases (b == want) with
      | false => exact fls
      | true => exact tru
theorem k_dr_eq (r : Dr) (D : Dp X) (t : List AV) (h : Hp X) : k_dr r D t h = drR D r t h := k_drGo_eq r D [] [] t h
theorem k_seq_eq (x : R X) (k : List AV → Hp X → R X) : k_seq x k = seqR x k := by cases x <;> rfl
theorem k_block_eq (id : Nat) (x : R X) : k_block id x = blockR id x := by
  cases x <;> first | rfl | skip
  rename_i n t h
  show (Bool.rec (.brk n t h) (.norm t h) (Nat.beq n id) : R X) = _
  simp only [blockR]
  cases Nat.beq n id <;> rfl
theorem k_loop_eq (f : List AV → Hp X → R X) (n : Nat) (t : List AV) (h : Hp X) : k_loop f n t h = loopR f n t h := by
  induction n generalizing t h with
  | zero => rfl
  | succ n ih =>
    show k_seq (f t h) (k_loop f n) = seqR (f t h) (loopR f n)
    rw [k_seq_eq]
    congr 1
    funext t h
    exact ih t h
theorem k_bc_eq (b : BC) (D : Dp X) (N : Nat) (t : List AV) (h : Hp X) : k_bc b D N t h = b.run D (drR D) N t h := by
  induction b generalizing t h with
  | skip => rfl
  | reg r => exact k_rg_eq r D [] t h
  | dreg r => exact k_dr_eq r D t h
  | seq a b iha ihb =>
    show k_seq (k_bc a D N t h) (k_bc b D N) = seqR (a.run D (drR D) N t h) (b.run D (drR D) N)
    rw [k_seq_eq, iha]
    congr 1
    funext t h
    exact ihb t h
  | cond x a b iha ihb =>
    show k_boolR (k_od x [] t) .bad (fun c => Bool.rec (motive := fun _ => R X) (k_bc b D N t h) (k_bc a D N t h) c) = condR (x.ev [] t) (a.run D (drR D) N t h) (b.run D (drR D) N t h)
    rw [k_od_eq, iha, ihb]
    cases x.ev [] t <;> first | rfl | skip
    rename_i c
    cases c <;> rfl
  | block id b ih =>
    show k_block id (k_bc b D N t h) = blockR id (b.run D (drR D) N t h)
    rw [k_block_eq, ih]
  | loop b ih =>
    show k_loop (k_bc b D N) N t h = loopR (b.run D (drR D) N) N t h
    rw [k_loop_eq]
    congr 1
    funext t h
    exact ih t h
  | exit id => rfl
  | ret => rfl
theorem k_rs_eq (r : Rs) (t : List AV) (h : Hp X) : k_rs r t h = r.ev t h := by
  cases r with
  | slot x => show k_fv (k_od x [] t) some = _; rw [k_fv_eq, k_od_eq]; rfl
  | cell1 x => show k_mv (.ld1 x) [] t h = (Mv.ld1 x).ev [] t h; exact k_mv_eq _ _ _ _
  | celln n x => show k_mv (.ldn n x) [] t h = (Mv.ldn n x).ev [] t h; exact k_mv_eq _ _ _ _
theorem k_res_eq (rs : List Rs) (t : List AV) (h : Hp X) : k_res rs t h = resV t h rs := by
  induction rs with
  | nil => rfl
  | cons r rs ih =>
    show k_some (k_rs r t h) (fun v => k_some (k_res rs t h) fun l => some (v :: l)) = _
    rw [k_some_eq, k_rs_eq, resV]
    simp only [k_some_eq, ih]
    cases r.ev t h with
    | none => rfl
    | some v => simp only [Option.bind_some]; cases resV t h rs <;> rfl
theorem k_pack_eq (l : List AV) : k_pack l = packA l := by
  cases l with
  | nil => rfl
  | cons v l => cases l <;> rfl
theorem k_fin_eq (rs : List Rs) (x : R X) : k_fin rs x = finR rs x := by
  cases x <;> first | rfl | skip
  all_goals
    rename_i t h
    show k_someF (k_res rs t h) _ = _
    rw [k_someF_eq, k_res_eq]
    simp only [finR, k_pack_eq]
    cases resV t h rs <;> rfl
theorem k_enter_eq {β : Type} (keep : List Nat) (args : List AV) (f : List AV → β) : k_enter keep args f = f (keep.map fun d => getS args d) := by
  unfold k_enter
  induction keep generalizing f with
  | nil => rfl
  | cons d keep ih =>
    show k_fv (k_get args d) _ = _
    rw [k_fv_eq, k_get_eq]
    exact ih _
theorem k_bf_eq (N : Nat) (f : BF) (D : Dp X) (args : List AV) (h : Hp X) : k_bf N f D args h = f.run (fun D => drR D) N D args h := by
  obtain ⟨nt, keep, body, res⟩ := f
  show k_ifF (Nat.ble (k_len args 0) nt) (k_enter keep args fun t => k_fin res (k_bc body D N t h)) = _
  rw [k_ifF_eq, k_enter_eq, k_fin_eq, k_bc_eq, k_len_eq]; rfl
end
end Am
end Go.Proofs.Ytmfobcejnkakpaa
