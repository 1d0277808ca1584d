/- The plain machine: a disk as one thing of the heap; what the calls of package disk make of it is what has been shown of them. -/
import Derived.Test.YtmfobcejnkakpaaAm25
import Derived.Test.YtmfobcejnkakpaaDisk8
namespace Go.Proofs.Ytmfobcejnkakpaa
set_option linter.unusedVariables false
set_option linter.unusedSimpArgs false
namespace Am
open Go.RowKit
set_option maxRecDepth 100000

theorem lay_keep {w w' : World} {d : Nat} {m : MD} {v : Value} {ga : Option Nat} {fs : List FM} (h : Lay w d m v ga fs) (hs : ∀ k, _root_.Go.Proofs.Ytmfobcejnkakpaa.DS d ga fs k → w'.heap[k]? = w.heap[k]?) : Lay w' d m v ga fs :=
  ⟨h.disk.same (hs d (.inl rfl)), h.arr.same (fun g hg => hs g (.inr (.inl hg))), fun f hf => (h.files f hf).same (hs _ (.inr (.inr ⟨f, hf, .inl rfl⟩))) (fun g hg => hs g (.inr (.inr ⟨f, hf, .inr hg⟩))), h.abs, h.pn, h.bn, h.ok⟩
theorem rep_keep {w w' : World} {d : Nat} {m : MD} {S : Nat → Prop} (h : DiskRep w d m S) (hs : ∀ k, S k → w'.heap[k]? = w.heap[k]?) : DiskRep w' d m S := by
  obtain ⟨v, ga, fs, hl, rfl⟩ := h
  exact ⟨v, ga, fs, lay_keep hl hs, rfl⟩
/-- the things: disks -/
def OD : Objs := { X := MD, rep := fun x w b S => DiskRep w b x S, lt := fun h _ hk => h.lt hk, keep := fun h hs => rep_keep h hs }

noncomputable def onObj (h : Hp MD) (v : AV) (f : Nat → MD → FRes MD) : FRes MD := match v with
  | .ptr g o => bif Nat.beq o 0 then (match h.get g with | some (.obj x) => bif Nat.ble x.fs.length 1099511627775 then f g x else .bad | _ => .bad) else .bad
  | _ => .bad
theorem onObj_ok {h : Hp MD} {v : AV} {f : Nat → MD → FRes MD} (hb : onObj h v f ≠ .bad) : ∃ g x, v = .ptr g 0 ∧ h.get g = some (.obj x) ∧ x.fs.length ≤ 1099511627775 ∧ onObj h v f = f g x := by
  unfold onObj at hb ⊢
  cases v <;> first | exact absurd rfl hb | skip
  rename_i g o
  simp only at hb ⊢
  cases ho : Nat.beq o 0 with
  | false => rw [ho] at hb; exact absurd rfl hb
  | true =>
    rw [ho] at hb
    have := Nat.eq_of_beq_eq_true ho
    subst this
    simp only [cond_true] at hb ⊢
    cases hg : h.get g with
    | none => rw [hg] at hb; exact absurd rfl hb
    | some c =>
      rw [hg] at hb
      cases c with
      | rw l => exact absurd rfl hb
      | ro l => exact absurd rfl hb
      | obj x =>
        simp only at hb ⊢
        cases hn : Nat.ble x.fs.length 1099511627775 with
        | false => rw [hn] at hb; exact absurd rfl hb
        | true => exact ⟨g, x, rfl, hg, Nat.le_of_ble_eq_true hn, rfl⟩
def onS (v : AV) (f : List UInt8 → FRes MD) : FRes MD := match v with | .str s => f s | _ => .bad
theorem onS_ok {v : AV} {f : List UInt8 → FRes MD} (hb : onS v f ≠ .bad) : ∃ s, v = .str s := by
  cases v <;> first | exact absurd rfl hb | exact ⟨_, rfl⟩
def onI (v : AV) (f : Int → FRes MD) : FRes MD := match v with | .int .i64 n => f n | _ => .bad
theorem onI_ok {v : AV} {f : Int → FRes MD} (hb : onI v f ≠ .bad) : ∃ n, v = .int .i64 n := by
  cases v <;> first | exact absurd rfl hb | skip
  rename_i k n
  cases k <;> first | exact absurd rfl hb | exact ⟨_, rfl⟩
def ar1 (args : List AV) (f : AV → FRes MD) : FRes MD := match args with | [a] => f a | _ => .bad
def ar2 (args : List AV) (f : AV → AV → FRes MD) : FRes MD := match args with | [a, b] => f a b | _ => .bad
def ar3 (args : List AV) (f : AV → AV → AV → FRes MD) : FRes MD := match args with | [a, b, c] => f a b c | _ => .bad
theorem ar1_ok {args : List AV} {f : AV → FRes MD} (hb : ar1 args f ≠ .bad) : ∃ a, args = [a] := by
  unfold ar1 at hb; split at hb; exact ⟨_, rfl⟩; exact absurd rfl hb
theorem ar2_ok {args : List AV} {f : AV → AV → FRes MD} (hb : ar2 args f ≠ .bad) : ∃ a b, args = [a, b] := by
  unfold ar2 at hb; split at hb; exact ⟨_, _, rfl⟩; exact absurd rfl hb
theorem ar3_ok {args : List AV} {f : AV → AV → AV → FRes MD} (hb : ar3 args f ≠ .bad) : ∃ a b c, args = [a, b, c] := by
  unfold ar3 at hb; split at hb; exact ⟨_, _, _, rfl⟩; exact absurd rfl hb
theorem vrs1 {m : Mu} {a : AV} {l : List Value} (h : VRs m [a] l) : ∃ v, l = [v] ∧ VR m a v := by
  simp only [VRs] at h; obtain ⟨v, _, rfl, h1, rfl⟩ := h; exact ⟨v, rfl, h1⟩
theorem vrs2 {m : Mu} {a b : AV} {l : List Value} (h : VRs m [a, b] l) : ∃ v u, l = [v, u] ∧ VR m a v ∧ VR m b u := by
  simp only [VRs] at h; obtain ⟨v, _, rfl, h1, u, _, rfl, h2, rfl⟩ := h; exact ⟨v, u, rfl, h1, h2⟩
theorem vrs3 {m : Mu} {a b c : AV} {l : List Value} (h : VRs m [a, b, c] l) : ∃ v u t, l = [v, u, t] ∧ VR m a v ∧ VR m b u ∧ VR m c t := by
  simp only [VRs] at h; obtain ⟨v, _, rfl, h1, u, _, rfl, h2, t, _, rfl, h3, rfl⟩ := h; exact ⟨v, u, t, rfl, h1, h2, h3⟩

section
variable {w0 w : World} {m : Mu} {φ : Ph} {h : Hp OD.X}
theorem obj_at (H : SR OD w0 w m φ h) {g : Nat} {x : MD} {v : Value} (hv : VR m (.ptr g 0) v) (hg : h.get g = some (.obj x)) : ∃ p, m g = some p ∧ v = .pointer (some ⟨p.b, 0, none⟩) ∧ p.s = 0 ∧ DiskRep w p.b x (φ g) := by
  simp only [VR] at hv
  obtain ⟨p, hp, rfl⟩ := hv
  obtain ⟨h1, h2⟩ := H.blk g _ hg p hp
  exact ⟨p, hp, by rw [h1], h1, h2⟩
theorem obj_post (H : SR OD w0 w m φ h) {g : Nat} {x x' : MD} {p : Pl} (hp : m g = some p) (hg : h.get g = some (.obj x)) (hs : p.s = 0) {r : Value} {a : AV} {e : Ending} {w' : World} (hd : DPost w p.b (φ g) r x' e w') (hr : VR m a r) :
    FPost OD w0 m h (.ret a (h.put g (.obj x'))) e w' := by
  obtain ⟨rfl, S', h1, h2, h3⟩ := hd
  exact ⟨m, φ.set g S', r, fun _ _ => rfl, Nat.le_refl _, H.upd hg rfl hp h2 ⟨hs, h1⟩ rfl h3, hr, rfl⟩
theorem same_post (H : SR OD w0 w m φ h) {r : Value} {a : AV} {e : Ending} {w' : World} (hd : e = .returned r ∧ w' = w) (hr : VR m a r) : FPost OD w0 m h (.ret a h) e w' := by
  obtain ⟨rfl, rfl⟩ := hd
  exact ⟨m, φ, r, fun _ _ => rfl, Nat.le_refl _, H, hr, rfl⟩
end

/-- a name, and a number told back -/
noncomputable def n_name (F : MD → List UInt8 → Int × MD) : Fn MD := fun _ args h => ar2 args fun d s => onS s fun s => onObj h d fun g x => .ret (.int .i64 (F x s).1) (h.put g (.obj (F x s).2))
theorem n_name_ok {f : Nat} {F : MD → List UInt8 → Int × MD} (hc : callable Try.prog f = true)
    (hF : ∀ {w : World} {d : Nat} {m : MD} {S : Nat → Prop}, DiskRep w d m S → m.fs.length ≤ 1099511627775 → ∀ s : ByteArray, Calls Try.prog f #[.pointer (some ⟨d, 0, none⟩), .string s] w (DPost w d S (.int .i64 (F m s.data.toList).1) (F m s.data.toList).2)) :
    FnOK Try.prog OD f (n_name F) := by
  refine ⟨hc, fun {D} hD args h hb {w0 w m φ args'} hs hv => ?_⟩
  obtain ⟨a, b, rfl⟩ := ar2_ok hb
  have hb : onS b (fun s => onObj h a fun g x => .ret (.int .i64 (F x s).1) (h.put g (.obj (F x s).2))) ≠ .bad := hb
  obtain ⟨s, rfl⟩ := onS_ok hb
  obtain ⟨g, x, rfl, hg, hn, he⟩ := onObj_ok (show onObj h a (fun g x => .ret (.int .i64 (F x s).1) (h.put g (.obj (F x s).2))) ≠ .bad from hb)
  obtain ⟨v, u, rfl, h1, h2⟩ := vrs2 hv
  obtain ⟨p, hp, rfl, hps, hrep⟩ := obj_at hs h1 hg
  simp only [VR] at h2
  subst h2
  refine (hF hrep hn ⟨s.toArray⟩).mono fun e w' hd => ?_
  show FPost OD w0 m h (onObj h (.ptr g 0) fun g x => .ret (.int .i64 (F x s).1) (h.put g (.obj (F x s).2))) e w'
  rw [he]
  exact obj_post hs hp hg hps (by simpa using hd) (by simp [VR])
theorem create_n : FnOK Try.prog OD 21 (n_name MD.create) := n_name_ok (by kernel_rfl) fun h hn s => create_any h hn s
theorem remove_n : FnOK Try.prog OD 26 (n_name MD.remove) := n_name_ok (by kernel_rfl) fun h hn s => remove_any h hn s
theorem sync_n : FnOK Try.prog OD 28 (n_name MD.sync) := n_name_ok (by kernel_rfl) fun h hn s => sync_any h hn s

noncomputable def n_rename : Fn MD := fun _ args h => ar3 args fun d s t => onS s fun s => onS t fun t => onObj h d fun g x => .ret (.int .i64 (x.rename s t).1) (h.put g (.obj (x.rename s t).2))
theorem rename_n : FnOK Try.prog OD 24 n_rename := by
  refine ⟨by kernel_rfl, fun {D} hD args h hb {w0 w m φ args'} hs hv => ?_⟩
  obtain ⟨a, b, c, rfl⟩ := ar3_ok hb
  have hb : onS b (fun s => onS c fun t => onObj h a fun g x => .ret (.int .i64 (x.rename s t).1) (h.put g (.obj (x.rename s t).2))) ≠ .bad := hb
  obtain ⟨s, rfl⟩ := onS_ok hb
  have hb : onS c (fun t => onObj h a fun g x => .ret (.int .i64 (x.rename s t).1) (h.put g (.obj (x.rename s t).2))) ≠ .bad := hb
  obtain ⟨t, rfl⟩ := onS_ok hb
  obtain ⟨g, x, rfl, hg, hn, he⟩ := onObj_ok (show onObj h a (fun g x => .ret (.int .i64 (x.rename s t).1) (h.put g (.obj (x.rename s t).2))) ≠ .bad from hb)
  obtain ⟨v, u, y, rfl, h1, h2, h3⟩ := vrs3 hv
  obtain ⟨p, hp, rfl, hps, hrep⟩ := obj_at hs h1 hg
  simp only [VR] at h2 h3
  subst h2; subst h3
  refine (rename_any hrep hn ⟨s.toArray⟩ ⟨t.toArray⟩).mono fun e w' hd => ?_
  show FPost OD w0 m h (onObj h (.ptr g 0) fun g x => .ret (.int .i64 (x.rename s t).1) (h.put g (.obj (x.rename s t).2))) e w'
  rw [he]
  exact obj_post hs hp hg hps (by simpa using hd) (by simp [VR])
noncomputable def n_cut : Fn MD := fun _ args h => ar3 args fun d s n => onS s fun s => onI n fun n => onObj h d fun g x => .ret (.int .i64 (x.cut s n).1) (h.put g (.obj (x.cut s n).2))
theorem cut_n : FnOK Try.prog OD 32 n_cut := by
  refine ⟨by kernel_rfl, fun {D} hD args h hb {w0 w m φ args'} hs hv => ?_⟩
  obtain ⟨a, b, c, rfl⟩ := ar3_ok hb
  have hb : onS b (fun s => onI c fun t => onObj h a fun g x => .ret (.int .i64 (x.cut s t).1) (h.put g (.obj (x.cut s t).2))) ≠ .bad := hb
  obtain ⟨s, rfl⟩ := onS_ok hb
  have hb : onI c (fun t => onObj h a fun g x => .ret (.int .i64 (x.cut s t).1) (h.put g (.obj (x.cut s t).2))) ≠ .bad := hb
  obtain ⟨t, rfl⟩ := onI_ok hb
  obtain ⟨g, x, rfl, hg, hn, he⟩ := onObj_ok (show onObj h a (fun g x => .ret (.int .i64 (x.cut s t).1) (h.put g (.obj (x.cut s t).2))) ≠ .bad from hb)
  obtain ⟨v, u, y, rfl, h1, h2, h3⟩ := vrs3 hv
  obtain ⟨p, hp, rfl, hps, hrep⟩ := obj_at hs h1 hg
  simp only [VR] at h2 h3
  subst h2; subst h3
  refine (cut_any hrep hn ⟨s.toArray⟩ t).mono fun e w' hd => ?_
  show FPost OD w0 m h (onObj h (.ptr g 0) fun g x => .ret (.int .i64 (x.cut s t).1) (h.put g (.obj (x.cut s t).2))) e w'
  rw [he]
  exact obj_post hs hp hg hps (by simpa using hd) (by simp [VR])

/-- a number, and nothing told back -/
noncomputable def n_int (ok : Int → Bool) (F : MD → Int → MD) : Fn MD := fun _ args h => ar2 args fun d n => onI n fun n => onObj h d fun g x => bif ok n then .ret (.tup []) (h.put g (.obj (F x n))) else .bad
theorem n_int_ok {f : Nat} {ok : Int → Bool} {F : MD → Int → MD} (hc : callable Try.prog f = true)
    (hF : ∀ {w : World} {d : Nat} {m : MD} {S : Nat → Prop}, DiskRep w d m S → m.fs.length ≤ 1099511627775 → ∀ n : Int, ok n = true → Calls Try.prog f #[.pointer (some ⟨d, 0, none⟩), .int .i64 n] w (DPost w d S (.tuple #[]) (F m n))) :
    FnOK Try.prog OD f (n_int ok F) := by
  refine ⟨hc, fun {D} hD args h hb {w0 w m φ args'} hs hv => ?_⟩
  obtain ⟨a, b, rfl⟩ := ar2_ok hb
  have hb : onI b (fun n => onObj h a fun g x => bif ok n then .ret (.tup []) (h.put g (.obj (F x n))) else .bad) ≠ .bad := hb
  obtain ⟨n, rfl⟩ := onI_ok hb
  have hb : onObj h a (fun g x => bif ok n then .ret (.tup []) (h.put g (.obj (F x n))) else .bad) ≠ .bad := hb
  obtain ⟨g, x, rfl, hg, hn, he⟩ := onObj_ok hb
  obtain ⟨v, u, rfl, h1, h2⟩ := vrs2 hv
  obtain ⟨p, hp, rfl, hps, hrep⟩ := obj_at hs h1 hg
  simp only [VR] at h2
  subst h2
  rw [he] at hb
  cases hok : ok n with
  | false => rw [hok] at hb; exact absurd rfl hb
  | true =>
    refine (hF hrep hn n hok).mono fun e w' hd => ?_
    show FPost OD w0 m h (onObj h (.ptr g 0) fun g x => bif ok n then .ret (.tup []) (h.put g (.obj (F x n))) else .bad) e w'
    rw [he, hok]
    exact obj_post hs hp hg hps hd (by simp [VR, VRs])
def i64ok (n : Int) : Bool := decide (-9223372036854775808 ≤ n) && decide (n ≤ 9223372036854775807)
theorem i64ok_ok {n : Int} (h : i64ok n = true) : -9223372036854775808 ≤ n ∧ n ≤ 9223372036854775807 := by simpa [i64ok] using h
theorem arm_n : FnOK Try.prog OD 33 (n_int i64ok MD.arm) := n_int_ok (by kernel_rfl) fun h hn n hok => arm_any h n (i64ok_ok hok).1 (i64ok_ok hok).2
theorem crash_n : FnOK Try.prog OD 29 (n_int i64ok MD.crash) := n_int_ok (by kernel_rfl) fun h hn n hok => crash_any h hn n (i64ok_ok hok).1 (i64ok_ok hok).2

noncomputable def n_grow : Fn MD := fun _ args h => ar2 args fun d n => onI n fun n => onObj h d fun g x => .ret (.bool (x.grow n).1) (h.put g (.obj (x.grow n).2))
theorem grow_n : FnOK Try.prog OD 31 n_grow := by
  refine ⟨by kernel_rfl, fun {D} hD args h hb {w0 w m φ args'} hs hv => ?_⟩
  obtain ⟨a, b, rfl⟩ := ar2_ok hb
  have hb : onI b (fun n => onObj h a fun g x => .ret (.bool (x.grow n).1) (h.put g (.obj (x.grow n).2))) ≠ .bad := hb
  obtain ⟨n, rfl⟩ := onI_ok hb
  obtain ⟨g, x, rfl, hg, hn, he⟩ := onObj_ok (show onObj h a (fun g x => .ret (.bool (x.grow n).1) (h.put g (.obj (x.grow n).2))) ≠ .bad from hb)
  obtain ⟨v, u, rfl, h1, h2⟩ := vrs2 hv
  obtain ⟨p, hp, rfl, hps, hrep⟩ := obj_at hs h1 hg
  simp only [VR] at h2
  subst h2
  refine (grow_any hrep hn n).mono fun e w' hd => ?_
  show FPost OD w0 m h (onObj h (.ptr g 0) fun g x => .ret (.bool (x.grow n).1) (h.put g (.obj (x.grow n).2))) e w'
  rw [he]
  exact obj_post hs hp hg hps hd (by simp [VR])
noncomputable def n_down : Fn MD := fun _ args h => ar1 args fun d => onObj h d fun _ x => .ret (.bool x.down) h
theorem down_n : FnOK Try.prog OD 36 n_down := by
  refine ⟨by kernel_rfl, fun {D} hD args h hb {w0 w m φ args'} hs hv => ?_⟩
  obtain ⟨a, rfl⟩ := ar1_ok hb
  obtain ⟨g, x, rfl, hg, hn, he⟩ := onObj_ok (show onObj h a (fun _ x => .ret (.bool x.down) h) ≠ .bad from hb)
  obtain ⟨v, rfl, h1⟩ := vrs1 hv
  obtain ⟨p, hp, rfl, hps, hrep⟩ := obj_at hs h1 hg
  refine (down_any hrep).mono fun e w' hd => ?_
  show FPost OD w0 m h (onObj h (.ptr g 0) fun _ x => .ret (.bool x.down) h) e w'
  rw [he]
  exact same_post hs hd (by simp [VR])
noncomputable def n_used : Fn MD := fun _ args h => ar1 args fun d => onObj h d fun _ x => .ret (.int .i64 x.used) h
theorem used_n : FnOK Try.prog OD 30 n_used := by
  refine ⟨by kernel_rfl, fun {D} hD args h hb {w0 w m φ args'} hs hv => ?_⟩
  obtain ⟨a, rfl⟩ := ar1_ok hb
  obtain ⟨g, x, rfl, hg, hn, he⟩ := onObj_ok (show onObj h a (fun _ x => .ret (.int .i64 x.used) h) ≠ .bad from hb)
  obtain ⟨v, rfl, h1⟩ := vrs1 hv
  obtain ⟨p, hp, rfl, hps, hrep⟩ := obj_at hs h1 hg
  refine (used_rep hrep hn).mono fun e w' hd => ?_
  show FPost OD w0 m h (onObj h (.ptr g 0) fun _ x => .ret (.int .i64 x.used) h) e w'
  rw [he]
  exact same_post hs hd (by simp [VR])
noncomputable def n_synced : Fn MD := fun _ args h => ar2 args fun d s => onS s fun s => onObj h d fun _ x => .ret (.int .i64 (((x.get s).map MF.synced).getD 0 : Nat)) h
theorem synced_n : FnOK Try.prog OD 85 n_synced := by
  refine ⟨by kernel_rfl, fun {D} hD args h hb {w0 w m φ args'} hs hv => ?_⟩
  obtain ⟨a, b, rfl⟩ := ar2_ok hb
  have hb : onS b (fun s => onObj h a fun _ x => .ret (.int .i64 (((x.get s).map MF.synced).getD 0 : Nat)) h) ≠ .bad := hb
  obtain ⟨s, rfl⟩ := onS_ok hb
  obtain ⟨g, x, rfl, hg, hn, he⟩ := onObj_ok (show onObj h a (fun _ x => .ret (.int .i64 (((x.get s).map MF.synced).getD 0 : Nat)) h) ≠ .bad from hb)
  obtain ⟨v, u, rfl, h1, h2⟩ := vrs2 hv
  obtain ⟨p, hp, rfl, hps, hrep⟩ := obj_at hs h1 hg
  simp only [VR] at h2
  subst h2
  refine (synced_any hrep hn ⟨s.toArray⟩).mono fun e w' hd => ?_
  show FPost OD w0 m h (onObj h (.ptr g 0) fun _ x => .ret (.int .i64 (((x.get s).map MF.synced).getD 0 : Nat)) h) e w'
  rw [he]
  exact same_post hs (by simpa using hd) (by simp [VR])
end Am
end Go.Proofs.Ytmfobcejnkakpaa
