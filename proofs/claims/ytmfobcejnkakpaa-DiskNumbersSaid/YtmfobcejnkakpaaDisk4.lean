/- The disk's functions that turn the list of files: Create, Remove, Rename. -/
import Derived.Test.YtmfobcejnkakpaaDisk3
namespace Go.Proofs.Ytmfobcejnkakpaa
set_option linter.unusedVariables false
set_option linter.unusedSimpArgs false
open Go.RowKit
set_option maxRecDepth 100000

theorem perm_put {α : Type} (key : α → Bs) (l : List α) (f : α) : (putL key l f).Perm (f :: dropL key l (key f)) := by
  have e1 : l.filter (fun x => bl (key x) (key f)) = (dropL key l (key f)).filter (fun x => bl (key x) (key f)) := by
    unfold dropL; rw [List.filter_filter]; apply List.filter_congr; intro x _
    cases h : bl (key x) (key f) with
    | true => simp [bl_ne h]
    | false => rfl
  have e2 : l.filter (fun x => bl (key f) (key x)) = (dropL key l (key f)).filter (fun x => !bl (key x) (key f)) := by
    unfold dropL; rw [List.filter_filter]; apply List.filter_congr; intro x _
    cases h : bl (key f) (key x) with
    | true => simp [bl_asymm h, (bl_ne h).symm]
    | false =>
      cases h2 : bl (key x) (key f) with
      | true => simp
      | false => simp [bl_total h2 h]
  unfold putL
  rw [e1, e2]
  refine List.perm_middle.trans (List.Perm.cons _ ?_)
  exact List.filter_append_perm _ _

theorem nodup_put_p {l : List FM} (h : (l.map FM.p).Nodup) {f : FM} (hf : ∀ x ∈ l, x.key ≠ f.key → x.p ≠ f.p) : ((putL FM.key l f).map FM.p).Nodup := by
  rw [((perm_put FM.key l f).map FM.p).nodup_iff, List.map_cons, List.nodup_cons]
  refine ⟨fun hm => ?_, ?_⟩
  · obtain ⟨x, hx, e⟩ := List.mem_map.1 hm
    obtain ⟨h1, h2⟩ := mem_drop.1 hx
    exact hf x h1 h2 e
  · exact (List.Sublist.map FM.p List.filter_sublist).nodup h
theorem nodup_put_b {l : List FM} (h : (l.filterMap FM.ob).Nodup) {f : FM} (hf : ∀ g, f.ob = some g → ∀ x ∈ l, x.key ≠ f.key → x.ob ≠ some g) : ((putL FM.key l f).filterMap FM.ob).Nodup := by
  rw [((perm_put FM.key l f).filterMap FM.ob).nodup_iff]
  have hs : ((dropL FM.key l f.key).filterMap FM.ob).Nodup := (List.Sublist.filterMap FM.ob List.filter_sublist).nodup h
  cases ho : f.ob with
  | none => rw [List.filterMap_cons_none ho]; exact hs
  | some g =>
    rw [List.filterMap_cons_some ho, List.nodup_cons]
    refine ⟨fun hm => ?_, hs⟩
    obtain ⟨x, hx, e⟩ := List.mem_filterMap.1 hm
    obtain ⟨h1, h2⟩ := mem_drop.1 hx
    exact hf g ho x h1 h2 e
theorem nodup_drop_p {l : List FM} (h : (l.map FM.p).Nodup) (s : Bs) : ((dropL FM.key l s).map FM.p).Nodup := (List.Sublist.map FM.p List.filter_sublist).nodup h
theorem nodup_drop_b {l : List FM} (h : (l.filterMap FM.ob).Nodup) (s : Bs) : ((dropL FM.key l s).filterMap FM.ob).Nodup := (List.Sublist.filterMap FM.ob List.filter_sublist).nodup h

theorem FileAt.ob_ty {w : World} {f : FM} (h : FileAt w f) {g : Nat} (hg : f.ob = some g) : ∃ cur, Blk w g cur 5 := by have := h.own; rw [hg] at this; exact this.blk

/-- behind a call that has made the list another one the disk lies anew -/
theorem Relist.lay {w w' : World} {d : Nat} {m : MD} {ga : Option Nat} {fs : List FM} {e : Ending} (h : Relist w d m ga fs e w') {cs : Array Value} (hd : Blk w d cs 103) (hga : ∀ g, ga = some g → ∃ cur, Blk w g cur 106) (hf : ∀ f ∈ fs, FileAt w f)
    (pn : (fs.map FM.p).Nodup) (bn : (fs.filterMap FM.ob).Nodup) (ok : MD.Ok { m with fs := fs.map FM.abs }) :
    e = .returned (.tuple #[]) ∧ ∃ v' ga', Lay w' d { m with fs := fs.map FM.abs } v' ga' fs ∧ Upd (fun b => b = d ∨ ga = some b) w w' ∧ (ga' = ga ∨ ∀ g, ga' = some g → w.heap.size ≤ g) := by
  obtain ⟨he, v', ga', h1, h2, h3, h4⟩ := h
  refine ⟨he, v', ga', ⟨h1, h2, fun f hm => ?_, rfl, pn, bn, ok⟩, h3, h4⟩
  have hfa := hf f hm
  refine hfa.upd h3 ?_ ?_
  · rintro (e' | e')
    · exact hfa.blk.ty hd (by decide) e'
    · obtain ⟨cur, hb⟩ := hga _ e'; exact hfa.blk.ty hb (by decide) rfl
  · intro g hg
    obtain ⟨cur, hb⟩ := hfa.ob_ty hg
    rintro (e' | e')
    · exact hb.ty hd (by decide) e'
    · obtain ⟨cur', hb'⟩ := hga _ e'; exact hb.ty hb' (by decide) rfl
theorem Lay.arr_ty {w : World} {d : Nat} {m : MD} {v : Value} {ga : Option Nat} {fs : List FM} (h : Lay w d m v ga fs) : ∀ g, ga = some g → ∃ cur, Blk w g cur 106 := by
  intro g hg; have := h.arr; rw [hg] at this; exact this.blk

/-- what a call of the disk's ends in: a result, the disk as it is then -/
def DPost (w : World) (d : Nat) (S : Nat → Prop) (r : Value) (m : MD) (e : Ending) (w' : World) : Prop :=
  e = .returned r ∧ ∃ S', DiskRep w' d m S' ∧ Upd S w w' ∧ (∀ b, S' b → S b ∨ w.heap.size ≤ b)
theorem DPost.same {w w' : World} {d : Nat} {S : Nat → Prop} {r : Value} {m : MD} {e : Ending} (he : e = .returned r) (h : DiskRep w' d m S) (hu : Upd S w w') : DPost w d S r m e w' := ⟨he, S, h, hu, fun _ hb => .inl hb⟩

/-- behind the count -/
theorem Lay.count {w w' : World} {d : Nat} {m : MD} {v : Value} {ga : Option Nat} {fs : List FM} (h : Lay w d m v ga fs) (hb : Blk w' d (diskC m.count v) 103) (hu : Upd (fun b => b = d) w w') : Lay w' d m.count v ga fs := by
  refine ⟨hb, h.arr.upd hu (fun g hg e => h.d_ne_arr (by rw [hg, e])), fun f hf => (h.files f hf).upd hu (h.d_ne_p hf) (fun g hg e => h.d_ne_ob hf (by rw [hg, e])), ?_, h.pn, h.bn, h.ok.count⟩
  rw [MD.count_fs]; exact h.abs
theorem Lay.get {w : World} {d : Nat} {m : MD} {v : Value} {ga : Option Nat} {fs : List FM} (h : Lay w d m v ga fs) (s : Bs) : m.get s = (getL FM.key fs s).map FM.abs := by
  unfold MD.get; rw [h.abs]; exact map_get FM.abs (fun _ => rfl) fs s
theorem lay_upd_d {w w' : World} {d : Nat} {ga : Option Nat} {fs : List FM} (hu : Upd (fun b => b = d) w w') : Upd (DS d ga fs) w w' := hu.mono (fun _ h => .inl (.inl h))

theorem relist_post {S : Nat → Prop} {w W w2 : World} {d : Nat} {m1 : MD} {ga : Option Nat} {fs' : List FM} {e : Ending} {r : Value} (hu : Upd S w W) (hsd : S d) (hsg : ∀ g, ga = some g → S g ∨ w.heap.size ≤ g) (hr : Relist W d m1 ga fs' e w2) {cs : Array Value} (hd : Blk W d cs 103) (hga : ∀ g, ga = some g → ∃ cur, Blk W g cur 106) (hf : ∀ f ∈ fs', FileAt W f)
    (pn : (fs'.map FM.p).Nodup) (bn : (fs'.filterMap FM.ob).Nodup) (ok : MD.Ok { m1 with fs := fs'.map FM.abs }) (hin : ∀ f ∈ fs', ∀ b, b = f.p ∨ f.ob = some b → S b ∨ w.heap.size ≤ b) {e' : Ending} (he : e' = .returned r) :
    DPost w d S r { m1 with fs := fs'.map FM.abs } e' w2 := by
  obtain ⟨_, v', ga', h1, h2, h3⟩ := hr.lay hd hga hf pn bn ok
  refine ⟨he, DS d ga' fs', ⟨v', ga', fs', h1, rfl⟩, hu.trans h2 (fun b hb => by rcases hb with h | h; exact .inl (h ▸ hsd); exact hsg b h), fun b hb => ?_⟩
  rcases hb with h | h | ⟨f, hm, h⟩
  · exact .inl (h ▸ hsd)
  · rcases h3 with h3 | h3
    · rw [h3] at h; exact hsg b h
    · exact .inr (Nat.le_trans hu.size (h3 b h))
  · exact hin f hm b h

set_option maxHeartbeats 400000 in
theorem create_any {w : World} {d : Nat} {m : MD} {S : Nat → Prop} (h : DiskRep w d m S) (hn : m.fs.length ≤ 1099511627775) (s : ByteArray) :
    Calls Try.prog 21 #[.pointer (some ⟨d, 0, none⟩), .string s] w (DPost w d S (.int .i64 (m.create s.data.toList).1) (m.create s.data.toList).2) := by
  obtain ⟨v, ga, fs, hl, rfl⟩ := h
  have RC := dright_any s
  have hfl : fs.length = m.fs.length := by rw [hl.abs, List.length_map]
  cases hr : MD.right s.data.toList with
  | false =>
    have e1 : m.create s.data.toList = (1, m) := by simp [MD.create, hr]
    rw [e1]
    rw [hr] at RC
    have RC' := Lib.hid RC
    have HL := Lib.hid hl
    clear RC hl hfl hr e1
    go_enter Try.func21, Try.ntmps21
    go_wp2_with (go_at_call 67; refine (RC'.out _).mono ?_; rintro e w' ⟨rfl, rfl⟩)
    go_ret
    exact DPost.same rfl ⟨v, ga, fs, HL.out, rfl⟩ (Upd.refl _ _)
  | true =>
    rw [hr] at RC
    have PC := power_any hl.disk hl.ok.arm0 hl.ok.arm1
    have RC' := Lib.hid RC
    have PC' := Lib.hid PC
    have HL := Lib.hid hl
    cases hd : m.count.down with
    | true =>
      have e1 : m.create s.data.toList = (13, m.count) := by simp [MD.create, hr, hd]
      rw [e1]
      rw [hd] at PC
      have PC' := Lib.hid PC
      clear RC PC hl hfl hr e1 hd
      go_enter Try.func21, Try.ntmps21
      go_wp2_with (first
        | (go_at_call 67; refine (RC'.out _).mono ?_; rintro e w' ⟨rfl, rfl⟩)
        | (go_at_call 68; refine PC'.out.mono ?_; rintro e w1 ⟨rfl, h1, h2⟩; have H1 := Lib.hid (HL.out.count h1 h2); have H2 := Lib.hid h2; clear h1 h2))
      go_ret
      exact DPost.same rfl ⟨v, ga, fs, H1.out, rfl⟩ (lay_upd_d H2.out)
    | false =>
      have e1 : m.create s.data.toList = (0, { m.count with fs := putL MF.name m.count.fs ⟨s.data.toList, [], 0⟩ }) := by simp [MD.create, hr, hd]
      have hok := hl.ok.create s.data.toList
      rw [e1] at hok ⊢
      rw [hd] at PC
      have PC' := Lib.hid PC
      have HOK := Lib.hid hok
      have hfl' : fs.length ≤ 1099511627775 := by omega
      clear RC PC hl hfl hr e1 hd hok
      go_enter Try.func21, Try.ntmps21
      go_wp2_with (first
        | (go_at_call 67; refine (RC'.out _).mono ?_; rintro e w' ⟨rfl, rfl⟩)
        | (go_at_call 68; refine PC'.out.mono ?_; rintro e w1 ⟨rfl, h1, h2⟩; have H1 := Lib.hid (HL.out.count h1 h2); have H2 := Lib.hid h2; clear h1 h2)
        | (go_at_call 69; refine (put_any (H1.out.upd (S := NoBlock) ((Upd.refl _ _).alloc _) (fun _ _ h => h)) hfl' ⟨w1.heap.size, s, .slice none 0 0, [], 0, none⟩ (Blk.new _ _ _)).mono ?_; intro e w2 h3; have H3 := Lib.hid h3; obtain ⟨rfl, _⟩ := h3))
      go_ret
      have HA := H1.out.upd (S := NoBlock) ((Upd.refl _ _).alloc (.cells #[.string s, .slice none 0 0, .int .i64 ((0 : Nat) : Int)] 108)) (fun _ _ h => h)
      have hnew : FileAt (w1.alloc (.cells #[.string s, .slice none 0 0, .int .i64 ((0 : Nat) : Int)] 108)) ⟨w1.heap.size, s, .slice none 0 0, [], 0, none⟩ := ⟨Blk.new _ _ _, Own.nil _ _ _⟩
      have habs : (putL FM.key fs ⟨w1.heap.size, s, .slice none 0 0, [], 0, none⟩).map FM.abs = putL MF.name m.count.fs ⟨s.data.toList, [], 0⟩ := by
        rw [map_put FM.abs (key := FM.key) (key' := MF.name) (fun _ => rfl), ← H1.out.abs]; rfl
      have hok := HOK.out
      rw [← habs] at hok ⊢
      refine relist_post ((lay_upd_d H2.out).alloc _) (.inl rfl) (fun g h => .inl (.inr (.inl h))) H3.out HA.disk HA.arr_ty ?_ (nodup_put_p HA.pn ?_) (nodup_put_b HA.bn (fun _ h => by cases h)) hok ?_ rfl
      · intro f hm
        rcases mem_put.1 hm with rfl | ⟨hm, _⟩
        · exact hnew
        · exact HA.files f hm
      · intro x hx _ e
        have := (H1.out.files x hx).blk.lt
        rw [e] at this
        exact Nat.lt_irrefl _ this
      · intro f hm b hb
        rcases mem_put.1 hm with rfl | ⟨hm, _⟩
        · rcases hb with rfl | hb
          · exact .inr H2.out.size
          · cases hb
        · exact .inl (.inr (.inr ⟨f, hm, hb⟩))

theorem lay_getS {w : World} {d : Nat} {m : MD} {v : Value} {ga : Option Nat} {fs : List FM} (h : Lay w d m v ga fs) {s : Bs} {f : FM} (hf : getL FM.key fs s = some f) : m.get s = some f.abs := by rw [h.get, hf]; rfl
theorem lay_getN {w : World} {d : Nat} {m : MD} {v : Value} {ga : Option Nat} {fs : List FM} (h : Lay w d m v ga fs) {s : Bs} (hf : getL FM.key fs s = none) : m.get s = none := by rw [h.get, hf]; rfl

set_option maxHeartbeats 400000 in
theorem remove_any {w : World} {d : Nat} {m : MD} {S : Nat → Prop} (h : DiskRep w d m S) (hn : m.fs.length ≤ 1099511627775) (s : ByteArray) :
    Calls Try.prog 26 #[.pointer (some ⟨d, 0, none⟩), .string s] w (DPost w d S (.int .i64 (m.remove s.data.toList).1) (m.remove s.data.toList).2) := by
  obtain ⟨v, ga, fs, hl, rfl⟩ := h
  have hfl : fs.length ≤ 1099511627776 := by have : fs.length = m.fs.length := by rw [hl.abs, List.length_map]
                                             omega
  have HL := Lib.hid hl
  cases hg : getL FM.key fs s.data.toList with
  | none =>
    have e1 : m.remove s.data.toList = (22, m) := by simp [MD.remove, lay_getN hl hg]
    rw [e1]
    have FC := Lib.hid (file_none hl s hfl hg)
    clear hl hg e1
    go_enter Try.func26, Try.ntmps26
    go_wp2_with (go_at_call 70; refine FC.out.mono ?_; rintro e w' ⟨rfl, rfl⟩)
    go_ret
    exact DPost.same rfl ⟨v, ga, fs, HL.out, rfl⟩ (Upd.refl _ _)
  | some f =>
    have FC := Lib.hid (file_some hl s hfl hg)
    have PC := power_any hl.disk hl.ok.arm0 hl.ok.arm1
    have hget := lay_getS hl hg
    cases hd : m.count.down with
    | true =>
      have e1 : m.remove s.data.toList = (13, m.count) := by simp [MD.remove, hget, hd]
      rw [e1]
      rw [hd] at PC
      have PC' := Lib.hid PC
      clear PC hl hg e1 hd hget
      go_enter Try.func26, Try.ntmps26
      go_wp2_with (first
        | (go_at_call 70; refine FC.out.mono ?_; rintro e w' ⟨rfl, rfl⟩)
        | (go_at_call 68; refine PC'.out.mono ?_; rintro e w1 ⟨rfl, h1, h2⟩; have H1 := Lib.hid (HL.out.count h1 h2); have H2 := Lib.hid h2; clear h1 h2))
      go_ret
      exact DPost.same rfl ⟨v, ga, fs, H1.out, rfl⟩ (lay_upd_d H2.out)
    | false =>
      have e1 : m.remove s.data.toList = (0, { m.count with fs := dropL MF.name m.fs s.data.toList }) := by simp [MD.remove, hget, hd]
      have hok := hl.ok.remove s.data.toList
      rw [e1] at hok ⊢
      rw [hd] at PC
      have PC' := Lib.hid PC
      have HOK := Lib.hid hok
      have HG := Lib.hid hg
      clear PC hl hg e1 hd hget hok
      go_enter Try.func26, Try.ntmps26
      go_wp2_with (first
        | (go_at_call 70; refine FC.out.mono ?_; rintro e w' ⟨rfl, rfl⟩)
        | (go_at_call 68; refine PC'.out.mono ?_; rintro e w1 ⟨rfl, h1, h2⟩; have H1 := Lib.hid (HL.out.count h1 h2); have H2 := Lib.hid h2; clear h1 h2)
        | (go_at_call 71; refine (drop_any H1.out hfl s f HG.out).mono ?_; intro e w2 h3; have H3 := Lib.hid h3; obtain ⟨rfl, _⟩ := h3))
      go_ret
      have habs : (dropL FM.key fs s.data.toList).map FM.abs = dropL MF.name m.fs s.data.toList := by
        rw [map_drop FM.abs (key := FM.key) (key' := MF.name) (fun _ => rfl), ← HL.out.abs]
      have hok := HOK.out
      rw [← habs] at hok ⊢
      refine relist_post (lay_upd_d H2.out) (.inl rfl) (fun g h => .inl (.inr (.inl h))) H3.out H1.out.disk H1.out.arr_ty (fun f hm => H1.out.files f (mem_drop.1 hm).1) (nodup_drop_p H1.out.pn _) (nodup_drop_b H1.out.bn _) hok (fun f hm b hb => .inl (.inr (.inr ⟨f, (mem_drop.1 hm).1, hb⟩))) rfl

theorem FileAt.relist {w w' : World} {d : Nat} {f : FM} {ga : Option Nat} (h : FileAt w f) (hu : Upd (fun b => b = d ∨ ga = some b) w w') {cs : Array Value} (hd : Blk w d cs 103) (hga : ∀ g, ga = some g → ∃ cur, Blk w g cur 106) : FileAt w' f := by
  refine h.upd hu ?_ ?_
  · rintro (e' | e')
    · exact h.blk.ty hd (by decide) e'
    · obtain ⟨cur, hb⟩ := hga _ e'; exact h.blk.ty hb (by decide) rfl
  · intro g hg
    obtain ⟨cur, hb⟩ := h.ob_ty hg
    rintro (e' | e')
    · exact hb.ty hd (by decide) e'
    · obtain ⟨cur', hb'⟩ := hga _ e'; exact hb.ty hb' (by decide) rfl

theorem nodup_inj {l : List FM} (h : (l.map FM.p).Nodup) {x y : FM} (hx : x ∈ l) (hy : y ∈ l) (e : x.p = y.p) : x = y := by
  have hp : l.Pairwise fun a b => a.p ≠ b.p := List.pairwise_map.1 h
  obtain ⟨i, hi, rfl⟩ := List.mem_iff_getElem.1 hx
  obtain ⟨j, hj, rfl⟩ := List.mem_iff_getElem.1 hy
  rcases Nat.lt_trichotomy i j with h' | h' | h'
  · exact absurd e (List.pairwise_iff_getElem.1 hp i j hi hj h')
  · subst h'; rfl
  · exact absurd e.symm (List.pairwise_iff_getElem.1 hp j i hj hi h')
theorem nodup_ob_inj {l : List FM} (h : (l.filterMap FM.ob).Nodup) {x y : FM} (hx : x ∈ l) (hy : y ∈ l) {g : Nat} (h1 : x.ob = some g) (h2 : y.ob = some g) : x = y := by
  have hp : l.Pairwise fun a b => ∀ c, a.ob = some c → ∀ e, b.ob = some e → c ≠ e := List.pairwise_filterMap.1 h
  obtain ⟨i, hi, rfl⟩ := List.mem_iff_getElem.1 hx
  obtain ⟨j, hj, rfl⟩ := List.mem_iff_getElem.1 hy
  rcases Nat.lt_trichotomy i j with h' | h' | h'
  · exact absurd rfl (List.pairwise_iff_getElem.1 hp i j hi hj h' g h1 g h2)
  · subst h'; rfl
  · exact absurd rfl (List.pairwise_iff_getElem.1 hp j i hj hi h' g h2 g h1)

theorem rename_lay {w1 w2 : World} {d : Nat} {m1 m2 : MD} {v v2 : Value} {ga ga2 : Option Nat} {fs : List FM} {f : FM} {s : Bs} (h1 : Lay w1 d m1 v ga fs) (hm : f ∈ fs) (hk : f.key = s) (h2 : Lay w2 d m2 v2 ga2 (dropL FM.key fs s)) {cs : Array Value} (hf : Blk w2 f.p cs 108) (c : ByteArray) :
    Lay (w2.setCell ⟨f.p, 0, none⟩ (.string c)) d m2 v2 ga2 (dropL FM.key fs s) := by
  refine h2.upd (S := fun b => b = f.p) ((Upd.refl (fun b => b = f.p) _).setCell (p := ⟨f.p, 0, none⟩) (.inl rfl) _) ?_
  rintro b (rfl | hb | ⟨x, hx, hb⟩) e
  · exact h2.disk.ty hf (by decide) e
  · obtain ⟨cur, hb'⟩ := h2.arr_ty _ hb; exact hb'.ty hf (by decide) e
  · obtain ⟨hx1, hx2⟩ := mem_drop.1 hx
    rcases hb with hb | hb
    · have := nodup_inj h1.pn hx1 hm (hb.symm.trans e)
      subst this; exact hx2 hk
    · obtain ⟨cur, hb'⟩ := (h2.files x hx).ob_ty hb
      exact hb'.ty hf (by decide) e

set_option maxHeartbeats 800000 in
theorem rename_any {w : World} {d : Nat} {m : MD} {S : Nat → Prop} (h : DiskRep w d m S) (hn : m.fs.length ≤ 1099511627775) (a c : ByteArray) :
    Calls Try.prog 24 #[.pointer (some ⟨d, 0, none⟩), .string a, .string c] w (DPost w d S (.int .i64 (m.rename a.data.toList c.data.toList).1) (m.rename a.data.toList c.data.toList).2) := by
  obtain ⟨v, ga, fs, hl, rfl⟩ := h
  have hfl0 : fs.length = m.fs.length := by rw [hl.abs, List.length_map]
  have hfl : fs.length ≤ 1099511627776 := by omega
  have hfl1 : (dropL FM.key fs a.data.toList).length ≤ 1099511627775 := Nat.le_trans (List.length_filter_le _ _) (by omega)
  have HL := Lib.hid hl
  have RC := dright_any c
  cases hg : getL FM.key fs a.data.toList with
  | none =>
    have e1 : m.rename a.data.toList c.data.toList = (22, m) := by simp [MD.rename, lay_getN hl hg]
    rw [e1]
    have FC := Lib.hid (file_none hl a hfl hg)
    clear hl hg e1 hfl0 RC hfl1
    go_enter Try.func24, Try.ntmps24
    go_wp2_with (go_at_call 70; refine FC.out.mono ?_; rintro e w' ⟨rfl, rfl⟩)
    go_ret
    exact DPost.same rfl ⟨v, ga, fs, HL.out, rfl⟩ (Upd.refl _ _)
  | some f =>
    have FC := Lib.hid (file_some hl a hfl hg)
    have PC := power_any hl.disk hl.ok.arm0 hl.ok.arm1
    have hget := lay_getS hl hg
    cases hr : MD.right c.data.toList with
    | false =>
      have e1 : m.rename a.data.toList c.data.toList = (1, m) := by simp [MD.rename, hget, hr]
      rw [e1]
      rw [hr] at RC
      have RC' := Lib.hid RC
      clear hl hg e1 hfl0 RC hfl1 PC hr hget
      go_enter Try.func24, Try.ntmps24
      go_wp2_with (first
        | (go_at_call 70; refine FC.out.mono ?_; rintro e w' ⟨rfl, rfl⟩)
        | (go_at_call 67; refine (RC'.out _).mono ?_; rintro e w' ⟨rfl, rfl⟩))
      go_ret
      exact DPost.same rfl ⟨v, ga, fs, HL.out, rfl⟩ (Upd.refl _ _)
    | true =>
      rw [hr] at RC
      have RC' := Lib.hid RC
      cases hd : m.count.down with
      | true =>
        have e1 : m.rename a.data.toList c.data.toList = (13, m.count) := by simp [MD.rename, hget, hd, hr]
        rw [e1]
        rw [hd] at PC
        have PC' := Lib.hid PC
        clear PC hl hg e1 hd hget hfl0 RC hfl1 hr
        go_enter Try.func24, Try.ntmps24
        go_wp2_with (first
          | (go_at_call 70; refine FC.out.mono ?_; rintro e w' ⟨rfl, rfl⟩)
          | (go_at_call 67; refine (RC'.out _).mono ?_; rintro e w' ⟨rfl, rfl⟩)
          | (go_at_call 68; refine PC'.out.mono ?_; rintro e w1 ⟨rfl, h1, h2⟩; have H1 := Lib.hid (HL.out.count h1 h2); have H2 := Lib.hid h2; clear h1 h2))
        go_ret
        exact DPost.same rfl ⟨v, ga, fs, H1.out, rfl⟩ (lay_upd_d H2.out)
      | false =>
        have e1 : m.rename a.data.toList c.data.toList = (0, { m.count with fs := putL MF.name (dropL MF.name m.fs a.data.toList) { f.abs with name := c.data.toList } }) := by simp [MD.rename, hget, hd, hr]
        have hok := hl.ok.rename a.data.toList c.data.toList
        have hokd : MD.Ok { m.count with fs := (dropL FM.key fs a.data.toList).map FM.abs } := by
          have := hl.ok.count.drop a.data.toList
          rw [MD.count_fs, hl.abs, ← map_drop FM.abs (key := FM.key) (key' := MF.name) (fun _ => rfl)] at this
          exact this
        rw [e1] at hok ⊢
        rw [hd] at PC
        have PC' := Lib.hid PC
        have HOK := Lib.hid hok
        have HOD := Lib.hid hokd
        have HG := Lib.hid hg
        clear PC hl hg e1 hd hget hok hfl0 RC hr hokd
        go_enter Try.func24, Try.ntmps24
        go_wp2_with (first
          | (go_at_call 70; refine FC.out.mono ?_; rintro e w' ⟨rfl, rfl⟩)
          | (go_at_call 67; refine (RC'.out _).mono ?_; rintro e w' ⟨rfl, rfl⟩)
          | (go_at_call 68; refine PC'.out.mono ?_; rintro e w1 ⟨rfl, h1, h2⟩; have H1 := Lib.hid (HL.out.count h1 h2); have H2 := Lib.hid h2; clear h1 h2)
          | (go_at_call 71; refine (drop_any H1.out hfl a f HG.out).mono ?_; intro e w2 h3
             obtain ⟨rfl, v2, ga2, h4, h5, h6⟩ := h3.lay H1.out.disk H1.out.arr_ty (fun f hm => H1.out.files f (mem_drop.1 hm).1) (nodup_drop_p H1.out.pn _) (nodup_drop_b H1.out.bn _) HOD.out
             have hfa := (H1.out.files f (get_mem HG.out).1).relist h5 H1.out.disk H1.out.arr_ty
             have H4 := Lib.hid h4; have H5 := Lib.hid h5; have H6 := Lib.hid h6; have HF := Lib.hid hfa
             have cf := hfa.blk.cell 0
             have ff := hfa.blk.frozen 0
             clear h3 h4 h5 h6 hfa)
          | (go_at_call 69; refine (put_any (rename_lay H1.out (get_mem HG.out).1 (get_mem HG.out).2 H4.out HF.out.blk c) hfl1 { f with name := c } (HF.out.blk.set 0 (.string c))).mono ?_; intro e w4 h7; have H7 := Lib.hid h7; obtain ⟨rfl, _⟩ := h7))
        go_ret
        have hl3 := rename_lay H1.out (get_mem HG.out).1 (get_mem HG.out).2 H4.out HF.out.blk c
        have hfm := (get_mem HG.out).1
        have hnew : FileAt (w2.setCell ⟨f.p, 0, none⟩ (.string c)) { f with name := c } := ⟨HF.out.blk.set 0 (.string c), HF.out.own.setOther (H1.out.p_ne_ob hfm hfm) _⟩
        have habs : (putL FM.key (dropL FM.key fs a.data.toList) { f with name := c }).map FM.abs = putL MF.name (dropL MF.name m.fs a.data.toList) { f.abs with name := c.data.toList } := by
          rw [map_put FM.abs (key := FM.key) (key' := MF.name) (fun _ => rfl), map_drop FM.abs (key := FM.key) (key' := MF.name) (fun _ => rfl), ← HL.out.abs]; rfl
        have hok := HOK.out
        rw [← habs] at hok ⊢
        have hu3 : Upd (DS d ga fs) w' (w2.setCell ⟨f.p, 0, none⟩ (.string c)) :=
          ((lay_upd_d H2.out).trans H5.out (fun b hb => .inl (by rcases hb with h | h; exact .inl h; exact .inr (.inl h)))).setCell (p := ⟨f.p, 0, none⟩) (.inl (.inr (.inr ⟨f, hfm, .inl rfl⟩))) _
        refine relist_post hu3 (.inl rfl) (fun g hg => ?_) H7.out hl3.disk hl3.arr_ty ?_ (nodup_put_p hl3.pn ?_) (nodup_put_b hl3.bn ?_) hok ?_ rfl
        · rcases H6.out with h | h
          · rw [h] at hg; exact .inl (.inr (.inl hg))
          · exact .inr (Nat.le_trans H2.out.size (h g hg))
        · intro x hx
          rcases mem_put.1 hx with rfl | ⟨hx, _⟩
          · exact hnew
          · exact hl3.files x hx
        · intro x hx _ e
          obtain ⟨hx1, hx2⟩ := mem_drop.1 hx
          have := nodup_inj H1.out.pn hx1 hfm e
          subst this; exact hx2 (get_mem HG.out).2
        · intro g hg x hx _ e
          obtain ⟨hx1, hx2⟩ := mem_drop.1 hx
          have := nodup_ob_inj H1.out.bn hx1 hfm e hg
          subst this; exact hx2 (get_mem HG.out).2
        · intro x hx b hb
          rcases mem_put.1 hx with rfl | ⟨hx, _⟩
          · exact .inl (.inr (.inr ⟨f, hfm, hb⟩))
          · exact .inl (.inr (.inr ⟨x, (mem_drop.1 hx).1, hb⟩))
end Go.Proofs.Ytmfobcejnkakpaa
