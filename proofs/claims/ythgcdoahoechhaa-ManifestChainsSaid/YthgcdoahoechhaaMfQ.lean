/- What a Write makes of a disk that has no files but its own two; power that goes. No program. -/
import Derived.Test.YthgcdoahoechhaaMfP
set_option linter.unusedVariables false
set_option linter.unusedSimpArgs false
namespace Go.Proofs.Ythgcdoahoechhaa
namespace Am
open Go.RowKit
set_option maxRecDepth 100000
def FL (o p : Option (Bs × Nat)) : List MF := (match o with | some q => [⟨nList, q.1, q.2⟩] | none => []) ++ (match p with | some q => [⟨nNew, q.1, q.2⟩] | none => [])
theorem bl_ln : bl nList nNew = true := by decide
theorem bl_nl : bl nNew nList = false := by decide
theorem bl_ll : bl nList nList = false := by decide
theorem bl_nn : bl nNew nNew = false := by decide
theorem ne_ln : nList ≠ nNew := by decide
theorem ne_nl : nNew ≠ nList := by decide
theorem put_new (o p : Option (Bs × Nat)) (b : Bs) (s : Nat) : putL MF.name (FL o p) ⟨nNew, b, s⟩ = FL o (some (b, s)) := by
  cases o <;> cases p <;> simp [FL, putL, bl_ln, bl_nl, bl_nn]
theorem get_new (o : Option (Bs × Nat)) (b : Bs) (s : Nat) : getL MF.name (FL o (some (b, s))) nNew = some ⟨nNew, b, s⟩ := by
  cases o <;> simp [FL, getL, ne_ln]
theorem get_list (p : Option (Bs × Nat)) (b : Bs) (s : Nat) : getL MF.name (FL (some (b, s)) p) nList = some ⟨nList, b, s⟩ := by
  cases p <;> simp [FL, getL]
theorem set_new (o : Option (Bs × Nat)) (b : Bs) (s : Nat) (g : MF → MF) : setL MF.name (FL o (some (b, s))) nNew g = (match o with | some q => [⟨nList, q.1, q.2⟩] | none => []) ++ [g ⟨nNew, b, s⟩] := by
  cases o <;> simp [FL, setL, ne_ln]
theorem ren_fl (o : Option (Bs × Nat)) (b : Bs) (s : Nat) : putL MF.name (dropL MF.name (FL o (some (b, s))) nNew) ⟨nList, b, s⟩ = FL (some (b, s)) none := by
  cases o <;> simp [FL, putL, dropL, ne_ln, bl_ll]
def sz (o : Option (Bs × Nat)) : Nat := match o with | some q => q.1.length | none => 0
theorem used_fl (x : MD) {o p : Option (Bs × Nat)} (h : x.fs = FL o p) : x.used = sz o + sz p := by
  unfold MD.used
  rw [h]
  cases o <;> cases p <;> simp [FL, sz]
theorem len_fl (o p : Option (Bs × Nat)) : (FL o p).length ≤ 2 := by cases o <;> cases p <;> simp [FL]
theorem len_fl' {o p : Option (Bs × Nat)} {n : Nat} (hn : 2 ≤ n) : (FL o p).length ≤ n := Nat.le_trans (len_fl o p) hn
theorem create_fl {x : MD} {o p : Option (Bs × Nat)} (h : x.fs = FL o p) : x.create nNew = if x.count.down = true then (13, x.count) else (0, { x.count with fs := FL o (some ([], 0)) }) := by
  unfold MD.create
  rw [if_neg (by decide), MD.count_fs, h, put_new]
theorem append_fl {x : MD} {o : Option (Bs × Nat)} {b R : Bs} {s : Nat} (h : x.fs = FL o (some (b, s))) (hd : x.down = false) (hr : (sz o + b.length + R.length : Int) ≤ x.limit) : x.append nNew R = (if x.count.down = true then 13 else 0, { x.count with fs := FL o (some (b ++ R, s)) }) := by
  have hu := used_fl x h
  unfold MD.append
  have hg : x.get nNew = some ⟨nNew, b, s⟩ := by unfold MD.get; rw [h]; exact get_new o b s
  rw [hg]
  simp only
  have hsz : sz (some (b, s)) = b.length := rfl
  rw [if_neg (by rintro (q | q); · rw [hd] at q; cases q
                 · omega), h, set_new]
  rfl
theorem sync_fl {x : MD} {o : Option (Bs × Nat)} {b : Bs} {s : Nat} (h : x.fs = FL o (some (b, s))) : x.sync nNew = if x.count.down = true then (13, x.count) else (0, { x.count with fs := FL o (some (b, b.length)) }) := by
  unfold MD.sync
  have hg : x.get nNew = some ⟨nNew, b, s⟩ := by unfold MD.get; rw [h]; exact get_new o b s
  rw [hg]
  simp only
  rw [h, set_new]
  rfl
theorem rename_fl {x : MD} {o : Option (Bs × Nat)} {b : Bs} {s : Nat} (h : x.fs = FL o (some (b, s))) : x.rename nNew nList = if x.count.down = true then (13, x.count) else (0, { x.count with fs := FL (some (b, s)) none }) := by
  unfold MD.rename
  have hg : x.get nNew = some ⟨nNew, b, s⟩ := by unfold MD.get; rw [h]; exact get_new o b s
  rw [hg]
  simp only
  rw [if_neg (by decide), h]
  have := ren_fl o b s
  simp only [this]
theorem count_0 {x : MD} (h : x.armed = 0) : x.count = x := by unfold MD.count; rw [h]; rfl
structure Ready (x : MD) : Prop where
  limit : x.limit = 16777216
  armed : x.armed = 0
  down : x.down = false
theorem write_ready {x : MD} {o p : Option (Bs × Nat)} (hx : Ready x) (h : x.fs = FL o p) {l : List Int} {w n : Int} (hm : MayP l w n) (ho : sz o ≤ 100000) : writeF x l w n = (0, { x with fs := FL (some (recB (encM l w n), (recB (encM l w n)).length)) none }) := by
  obtain ⟨lim, arm, down, fs⟩ := x
  obtain ⟨h1, h2, h3⟩ := hx
  simp only at h1 h2 h3 h
  subst h1 h2 h3 h
  have hR : (recB (encM l w n)).length ≤ 2000 := by rw [recB_len]; have := encM_le hm; omega
  generalize hRR : recB (encM l w n) = R at *
  have c1 : (MD.mk 16777216 0 false (FL o p)).create nNew = (0, MD.mk 16777216 0 false (FL o (some ([], 0)))) := by
    rw [create_fl rfl, count_0 rfl]; rfl
  have c2 : (MD.mk 16777216 0 false (FL o (some ([], 0)))).append nNew R = (0, MD.mk 16777216 0 false (FL o (some (R, 0)))) := by
    rw [append_fl rfl rfl (by simp; omega), count_0 rfl]; rfl
  have c3 : (MD.mk 16777216 0 false (FL o (some (R, 0)))).sync nNew = (0, MD.mk 16777216 0 false (FL o (some (R, R.length)))) := by
    rw [sync_fl rfl, count_0 rfl]; rfl
  have c4 : (MD.mk 16777216 0 false (FL o (some (R, R.length)))).rename nNew nList = (0, MD.mk 16777216 0 false (FL (some (R, R.length)) none)) := by
    rw [rename_fl rfl, count_0 rfl]; rfl
  unfold writeF
  rw [hRR, mayF_iff.2 hm, if_neg (by decide)]
  simp only [c1, c2, c3, c4]
  simp
theorem write_armed {B : Bs} {l : List Int} {w n : Int} (hm : MayP l w n) (hB : B.length ≤ 100000) {k : Int} (h0 : 0 ≤ k) (h6 : k ≤ 6) :
    ∃ e x o p, writeF ⟨16777216, k, false, FL (some (B, B.length)) none⟩ l w n = (e, x) ∧ x.fs = FL (some (o, o.length)) p ∧ x.limit = 16777216 ∧ sz p ≤ 2000 ∧ ((e = 0 ∧ o = recB (encM l w n)) ∨ (e = 13 ∧ o = B)) := by
  have hR : (recB (encM l w n)).length ≤ 2000 := by rw [recB_len]; have := encM_le hm; omega
  generalize hRR : recB (encM l w n) = R at *
  unfold writeF
  rw [hRR, mayF_iff.2 hm, if_neg (by decide)]
  have cr : ∀ (k : Int) (fs : List MF), (MD.mk 16777216 k false fs).count = if 0 < k then ⟨16777216, k - 1, k - 1 == 0, fs⟩ else ⟨16777216, k, false, fs⟩ := fun k fs => by unfold MD.count; rfl
  have c1 : ∀ k o p, (MD.mk 16777216 k false (FL o p)).create nNew = if (MD.mk 16777216 k false (FL o p)).count.down = true then (13, (MD.mk 16777216 k false (FL o p)).count) else (0, { (MD.mk 16777216 k false (FL o p)).count with fs := FL o (some ([], 0)) }) := fun k o p => create_fl rfl
  have c2 : ∀ k, (MD.mk 16777216 k false (FL (some (B, B.length)) (some ([], 0)))).append nNew R = (if (MD.mk 16777216 k false (FL (some (B, B.length)) (some ([], 0)))).count.down = true then 13 else 0, { (MD.mk 16777216 k false (FL (some (B, B.length)) (some ([], 0)))).count with fs := FL (some (B, B.length)) (some (R, 0)) }) := fun k => by
    rw [append_fl (o := some (B, B.length)) (b := []) (s := 0) rfl rfl (by show ((B.length : Int) + (0 : Nat) + R.length) ≤ 16777216; omega)]; rfl
  have c3 : ∀ k, (MD.mk 16777216 k false (FL (some (B, B.length)) (some (R, 0)))).sync nNew = if (MD.mk 16777216 k false (FL (some (B, B.length)) (some (R, 0)))).count.down = true then (13, (MD.mk 16777216 k false (FL (some (B, B.length)) (some (R, 0)))).count) else (0, { (MD.mk 16777216 k false (FL (some (B, B.length)) (some (R, 0)))).count with fs := FL (some (B, B.length)) (some (R, R.length)) }) := fun k => sync_fl (o := some (B, B.length)) rfl
  have c4 : ∀ k, (MD.mk 16777216 k false (FL (some (B, B.length)) (some (R, R.length)))).rename nNew nList = if (MD.mk 16777216 k false (FL (some (B, B.length)) (some (R, R.length)))).count.down = true then (13, (MD.mk 16777216 k false (FL (some (B, B.length)) (some (R, R.length)))).count) else (0, { (MD.mk 16777216 k false (FL (some (B, B.length)) (some (R, R.length)))).count with fs := FL (some (R, R.length)) none }) := fun k => rename_fl (o := some (B, B.length)) rfl
  obtain rfl | rfl | rfl | rfl | rfl | rfl | rfl : k = 0 ∨ k = 1 ∨ k = 2 ∨ k = 3 ∨ k = 4 ∨ k = 5 ∨ k = 6 := by omega
  all_goals simp [c1, cr, c2, c3, c4]
  all_goals first
    | exact ⟨_, _, ⟨rfl, rfl⟩, R, none, rfl, rfl, Nat.zero_le _, .inl ⟨rfl, rfl⟩⟩
    | exact ⟨_, _, ⟨rfl, rfl⟩, B, none, rfl, rfl, Nat.zero_le _, .inr ⟨rfl, rfl⟩⟩
    | exact ⟨_, _, ⟨rfl, rfl⟩, B, some (R, 0), rfl, rfl, hR, .inr ⟨rfl, rfl⟩⟩
    | exact ⟨_, _, ⟨rfl, rfl⟩, B, some (R, R.length), rfl, rfl, hR, .inr ⟨rfl, rfl⟩⟩
theorem crash_fl {x : MD} {B : Bs} {p : Option (Bs × Nat)} (h : x.fs = FL (some (B, B.length)) p) (keep : Int) : ∃ p', (x.crash keep).fs = FL (some (B, B.length)) p' ∧ (x.crash keep).limit = x.limit ∧ (x.crash keep).armed = 0 ∧ (x.crash keep).down = false ∧ sz p' ≤ sz p := by
  have hk : MD.kept keep ⟨nList, B, B.length⟩ = B.length := by simp [MD.kept]
  cases p with
  | none =>
    refine ⟨none, ?_, rfl, rfl, rfl, Nat.le_refl _⟩
    unfold MD.crash
    rw [h]
    simp [FL, hk]
  | some q =>
    refine ⟨some (q.1.take (MD.kept keep ⟨nNew, q.1, q.2⟩), MD.kept keep ⟨nNew, q.1, q.2⟩), ?_, rfl, rfl, rfl, ?_⟩
    · unfold MD.crash
      rw [h]
      simp [FL, hk]
    · simp only [sz, List.length_take]; omega
theorem get_fl {x : MD} {B : Bs} {p : Option (Bs × Nat)} (h : x.fs = FL (some (B, B.length)) p) : x.get nList = some ⟨nList, B, B.length⟩ := by
  unfold MD.get
  rw [h]
  exact get_list p B B.length
end Am
end Go.Proofs.Ythgcdoahoechhaa
