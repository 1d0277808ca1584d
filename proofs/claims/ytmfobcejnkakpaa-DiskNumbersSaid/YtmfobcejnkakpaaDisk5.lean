/- The disk's functions that turn one file: Append, Sync, Cut. -/
import Derived.Test.YtmfobcejnkakpaaDisk4
namespace Go.Proofs.Ytmfobcejnkakpaa
set_option linter.unusedVariables false
set_option linter.unusedSimpArgs false
open Go.RowKit
set_option maxRecDepth 100000

theorem map_set {α β : Type} {key : α → Bs} {key' : β → Bs} (φ : α → β) (hk : ∀ x, key' (φ x) = key x) (l : List α) (s : Bs) (g : α → α) (g' : β → β) (hg : ∀ x ∈ l, key x = s → φ (g x) = g' (φ x)) : (setL key l s g).map φ = setL key' (l.map φ) s g' := by
  unfold setL
  rw [List.map_map, List.map_map]
  apply List.map_congr_left
  intro x hx
  simp only [Function.comp, hk]
  split
  · rename_i e; exact hg x hx e
  · rfl
theorem set_congr {α : Type} {key : α → Bs} {l : List α} (hr : Rising key l) {s : Bs} {f : α} (hf : getL key l s = some f) {g g' : α → α} (e : g f = g' f) : setL key l s g = setL key l s g' := by
  unfold setL
  apply List.map_congr_left
  intro x hx
  split
  · rename_i hk
    have := hr.get_iff.2 ⟨hx, hk⟩
    rw [hf] at this; cases this; exact e
  · rfl

/-- one file is another one, in its own block -/
theorem Lay.setFile {w w' : World} {d : Nat} {m m' : MD} {v : Value} {ga : Option Nat} {fs : List FM} (h : Lay w d m v ga fs) {s : Bs} {f : FM} (hf : getL FM.key fs s = some f) (g : FM → FM) (hp : ∀ x, (g x).p = x.p) (hk : ∀ x, (g x).key = x.key)
    {T : Nat → Prop} (hu : Upd T w w') (hT : ∀ b, T b → b = f.p ∨ f.ob = some b) (hn : FileAt w' (g f)) (hob : (g f).ob = f.ob ∨ ∀ c, (g f).ob = some c → w.heap.size ≤ c)
    (hl : m'.limit = m.limit) (ha : m'.armed = m.armed) (hd : m'.down = m.down) (habs : m'.fs = (setL FM.key fs s g).map FM.abs) (ok : m'.Ok) : Lay w' d m' v ga (setL FM.key fs s g) := by
  obtain ⟨hm, hks⟩ := get_mem hf
  have hr := h.rising
  have only : ∀ x ∈ fs, x.key = s → x = f := fun x hx e => by
    have := hr.get_iff.2 ⟨hx, e⟩; rw [hf] at this; exact (Option.some.inj this).symm
  have hTd : ¬ T d := fun ht => by
    rcases hT d ht with e | e
    · exact h.d_ne_p hm e.symm
    · exact h.d_ne_ob hm e
  refine ⟨?_, ?_, ?_, habs, ?_, ?_, ok⟩
  · have := h.disk.upd hu hTd
    rw [hl, ha, hd]; exact this
  · have e1 : (setL FM.key fs s g).length = fs.length := by simp [setL]
    have e2 : (setL FM.key fs s g).map (fun f => ptrV f.p) = fs.map fun f => ptrV f.p := by
      unfold setL; rw [List.map_map]; apply List.map_congr_left; intro x _; simp only [Function.comp]; split <;> simp [hp]
    rw [e1, e2]
    refine h.arr.upd hu (fun c hc ht => ?_)
    rcases hT c ht with e | e
    · exact h.arr_ne_p hm (by rw [hc, e])
    · exact h.arr_ne_ob hm e (by rw [hc])
  · intro x hx
    obtain ⟨y, hy, rfl⟩ := List.mem_map.1 hx
    by_cases e : y.key = s
    · rw [if_pos e]; have := only y hy e; subst this; exact hn
    · rw [if_neg e]
      have hne : y ≠ f := fun e' => e (e' ▸ hks)
      refine (h.files y hy).upd hu (fun ht => ?_) (fun c hc ht => ?_)
      · rcases hT _ ht with e' | e'
        · exact hne (nodup_inj h.pn hy hm e')
        · exact h.p_ne_ob hy hm e'
      · rcases hT _ ht with e' | e'
        · exact h.p_ne_ob hm hy (by rw [hc, e'])
        · exact hne (nodup_ob_inj h.bn hy hm hc e')
  · have : (setL FM.key fs s g).map FM.p = fs.map FM.p := by
      unfold setL; rw [List.map_map]; apply List.map_congr_left; intro x _; simp only [Function.comp]; split <;> simp [hp]
    rw [this]; exact h.pn
  · have hb : fs.Pairwise fun a b => ∀ c, a.ob = some c → ∀ e, b.ob = some e → c ≠ e := List.pairwise_filterMap.1 h.bn
    refine List.pairwise_filterMap.2 (List.pairwise_map.2 (List.pairwise_iff_getElem.2 fun i j hi hj hij => ?_))
    have hb' := List.pairwise_iff_getElem.1 hb i j hi hj hij
    have nf : ∀ (k : Nat) (hk' : k < fs.length), ¬ (fs[k]).key = s → ∀ c, (fs[k]).ob = some c → (g f).ob ≠ some c := fun k hk' hks' c hc e => by
      rcases hob with ho | ho
      · rw [ho] at e
        have := nodup_ob_inj h.bn (List.getElem_mem hk') hm hc e
        rw [this] at hks'; exact hks' hks
      · have h1 := ho c e
        have h2 := (h.files _ (List.getElem_mem hk')).own.lt c hc
        omega
    intro c hc e he
    by_cases e1 : (fs[i]).key = s
    · rw [if_pos e1] at hc
      have hif := only _ (List.getElem_mem hi) e1
      by_cases e2 : (fs[j]).key = s
      · exact absurd (hr.key_inj hi hj (e1.trans e2.symm)) (by omega)
      · rw [if_neg e2] at he
        rw [hif] at hc
        intro e3; subst e3
        exact nf j hj e2 c he hc
    · rw [if_neg e1] at hc
      by_cases e2 : (fs[j]).key = s
      · rw [if_pos e2] at he
        rw [only _ (List.getElem_mem hj) e2] at he
        intro e3; subst e3
        exact nf i hi e1 c hc he
      · rw [if_neg e2] at he
        exact hb' c hc e he

theorem setFile_sub {w : World} {d : Nat} {ga : Option Nat} {fs : List FM} {s : Bs} {f : FM} (hf : getL FM.key fs s = some f) (hr : Rising FM.key fs) (g : FM → FM) (hp : ∀ x, (g x).p = x.p) (hob : (g f).ob = f.ob ∨ ∀ c, (g f).ob = some c → w.heap.size ≤ c) :
    ∀ b, DS d ga (setL FM.key fs s g) b → DS d ga fs b ∨ w.heap.size ≤ b := by
  rintro b (h | h | ⟨x, hx, h⟩)
  · exact .inl (.inl h)
  · exact .inl (.inr (.inl h))
  · obtain ⟨y, hy, rfl⟩ := List.mem_map.1 hx
    by_cases e : y.key = s
    · have hyf : y = f := by have := hr.get_iff.2 ⟨hy, e⟩; rw [hf] at this; exact (Option.some.inj this).symm
      subst hyf
      rw [if_pos e] at h
      rcases h with h | h
      · exact .inl (.inr (.inr ⟨y, hy, .inl (by rw [h, hp])⟩))
      · rcases hob with ho | ho
        · rw [ho] at h; exact .inl (.inr (.inr ⟨y, hy, .inr h⟩))
        · exact .inr (ho b h)
    · rw [if_neg e] at h
      exact .inl (.inr (.inr ⟨y, hy, h⟩))

theorem bv_one (l : Bs) : ∀ u ∈ l.map bv, u.oneCell' = true := by
  intro u hu; obtain ⟨x, _, rfl⟩ := List.mem_map.1 hu; rfl
theorem infoU8 : (Try.prog.info? 5).map (fun i => (i.zero, i.size, i.bytes)) = some (some (.int .u8 0), 1, 1) := by kernel_rfl
theorem sizeU8 : (Try.prog.info? 5).map (·.size) = some 1 := by kernel_rfl

/-- the closing of a call that turned one file behind the count -/
theorem set_post {w w1 w2 : World} {d : Nat} {m : MD} {v : Value} {ga : Option Nat} {fs : List FM} {r : Value} (h : Lay w1 d m v ga fs) (hu1 : Upd (DS d ga fs) w w1) {s : Bs} {f : FM} (hf : getL FM.key fs s = some f) (g : FM → FM) (g' : MF → MF) (hp : ∀ x, (g x).p = x.p) (hk : ∀ x, (g x).key = x.key)
    {T : Nat → Prop} (hu : Upd T w1 w2) (hT : ∀ b, T b → b = f.p ∨ f.ob = some b) (hn : FileAt w2 (g f)) (hob : (g f).ob = f.ob ∨ ∀ c, (g f).ob = some c → w1.heap.size ≤ c)
    (habs : (g f).abs = g' f.abs) (ok : MD.Ok { m with fs := setL MF.name m.fs s g' }) {e : Ending} (he : e = .returned r) :
    DPost w d (DS d ga fs) r { m with fs := setL MF.name m.fs s g' } e w2 := by
  obtain ⟨hm, hks⟩ := get_mem hf
  have hr := h.rising
  have hob' : (g f).ob = f.ob ∨ ∀ c, (g f).ob = some c → w.heap.size ≤ c := by
    rcases hob with h | h
    · exact .inl h
    · exact .inr fun c hc => Nat.le_trans hu1.size (h c hc)
  have e1 : setL MF.name m.fs s g' = (setL FM.key fs s g).map FM.abs := by
    rw [h.abs, map_set (key := FM.key) (key' := MF.name) FM.abs (fun _ => rfl) fs s g g' (fun x hx e => by
      have := hr.get_iff.2 ⟨hx, e⟩; rw [hf] at this; cases this; exact habs)]
  refine ⟨he, DS d ga (setL FM.key fs s g), ⟨v, ga, _, h.setFile hf g hp hk hu hT hn hob rfl rfl rfl e1 ok, rfl⟩, hu1.trans hu (fun b hb => ?_), setFile_sub hf hr g hp hob'⟩
  rcases hT b hb with e | e
  · exact .inl (.inr (.inr ⟨f, hm, .inl e⟩))
  · exact .inl (.inr (.inr ⟨f, hm, .inr e⟩))

set_option maxHeartbeats 800000 in
theorem sync_any {w : World} {d : Nat} {m : MD} {S : Nat → Prop} (h : DiskRep w d m S) (hn : m.fs.length ≤ 1099511627775) (s : ByteArray) :
    Calls Try.prog 28 #[.pointer (some ⟨d, 0, none⟩), .string s] w (DPost w d S (.int .i64 (m.sync s.data.toList).1) (m.sync s.data.toList).2) := by
  obtain ⟨v, ga, fs, hl, rfl⟩ := h
  have hfl : fs.length ≤ 1099511627776 := by have : fs.length = m.fs.length := by rw [hl.abs, List.length_map]
                                             omega
  have HL := Lib.hid hl
  cases hg : getL FM.key fs s.data.toList with
  | none =>
    have e1 : m.sync s.data.toList = (22, m) := by simp [MD.sync, lay_getN hl hg]
    rw [e1]
    have FC := Lib.hid (file_none hl s hfl hg)
    clear hl hg e1
    go_enter Try.func28, Try.ntmps28
    go_wp2_with (go_at_call 70; refine FC.out.mono ?_; rintro e w' ⟨rfl, rfl⟩)
    go_ret
    exact DPost.same rfl ⟨v, ga, fs, HL.out, rfl⟩ (Upd.refl _ _)
  | some f =>
    have FC := Lib.hid (file_some hl s hfl hg)
    have PC := power_any hl.disk hl.ok.arm0 hl.ok.arm1
    have hget := lay_getS hl hg
    cases hd : m.count.down with
    | true =>
      have e1 : m.sync s.data.toList = (13, m.count) := by simp [MD.sync, hget, hd]
      rw [e1]
      rw [hd] at PC
      have PC' := Lib.hid PC
      clear PC hl hg e1 hd hget
      go_enter Try.func28, Try.ntmps28
      go_wp2_with (first
        | (go_at_call 70; refine FC.out.mono ?_; rintro e w' ⟨rfl, rfl⟩)
        | (go_at_call 68; refine PC'.out.mono ?_; rintro e w1 ⟨rfl, h1, h2⟩; have H1 := Lib.hid (HL.out.count h1 h2); have H2 := Lib.hid h2; clear h1 h2))
      go_ret
      exact DPost.same rfl ⟨v, ga, fs, H1.out, rfl⟩ (lay_upd_d H2.out)
    | false =>
      have e1 : m.sync s.data.toList = (0, { m.count with fs := setL MF.name m.count.fs s.data.toList fun f => { f with synced := f.b.length } }) := by simp [MD.sync, hget, hd, MD.count_fs]
      have hok := hl.ok.sync s.data.toList
      rw [e1] at hok ⊢
      rw [hd] at PC
      have PC' := Lib.hid PC
      have HOK := Lib.hid hok
      have HG := Lib.hid hg
      have hfm := (get_mem hg).1
      obtain ⟨fa, fc, hv, hle, hcm⟩ := (hl.files f hfm).slice
      clear PC hl hg e1 hd hget hok
      obtain ⟨fp, fname, fv, fb, fsy, fob⟩ := f
      dsimp only at *
      subst hv
      go_enter Try.func28, Try.ntmps28
      go_wp2_with (first
        | (go_at_call 70; refine FC.out.mono ?_; rintro e w' ⟨rfl, rfl⟩)
        | (go_at_call 68; refine PC'.out.mono ?_; rintro e w1 ⟨rfl, h1, h2⟩; have H1 := Lib.hid (HL.out.count h1 h2); have H2 := Lib.hid h2
           have hfa := (H1.out.files _ hfm)
           have cf : w1.cell? ⟨fp, 1, none⟩ = some (.slice fa fb.length fc) := hfa.blk.cell 1
           have cf2 : w1.cell? ⟨fp, 2, none⟩ = some (.int .i64 fsy) := hfa.blk.cell 2
           have ff : w1.frozen? ⟨fp, 2, none⟩ = false := hfa.blk.frozen 2
           clear h1 h2 hfa))
      go_ret
      have hfa := (H1.out.files _ hfm)
      exact set_post H1.out (lay_upd_d H2.out) HG.out (fun x => { x with synced := x.b.length }) _ (fun _ => rfl) (fun _ => rfl) (T := fun b => b = fp) ((Upd.refl (fun b => b = fp) _).setCell (p := ⟨fp, 2, none⟩) (.inl rfl) _) (fun b hb => .inl hb) ⟨hfa.blk.set 2 _, hfa.own.setOther (H1.out.p_ne_ob hfm hfm) _⟩ (.inl rfl) rfl HOK.out rfl

/-- the first k bytes, no more room -/
theorem FileAt.cutTo {w : World} {f : FM} (h : FileAt w f) {k : Nat} (hk : k ≤ f.b.length) {fa : Option Addr} {c : Nat} (hv : f.v = .slice fa f.b.length c) : Own w 5 1 (.slice fa k k) k ((f.b.take k).map bv) f.ob := by
  have ho := h.own
  rw [hv] at ho
  refine ⟨by simp; omega, ?_⟩
  rcases ho.2 with ⟨h1, h2, h3⟩ | ⟨g, cap, cur, h1, h2, h3, h4, h5, h6, h7⟩
  · simp only [Value.slice.injEq] at h1
    obtain ⟨rfl, h8, rfl⟩ := h1
    have : k = 0 := by omega
    subst this
    exact .inl ⟨rfl, rfl, h3⟩
  · simp only [Value.slice.injEq] at h1
    obtain ⟨rfl, h8, rfl⟩ := h1
    refine .inr ⟨g, k, cur, rfl, h2, h3, Nat.le_refl _, by omega, by omega, ?_⟩
    rw [Nat.mul_one] at h7 ⊢
    rw [List.map_take, ← h7, List.take_take, Nat.min_eq_left hk]

set_option maxHeartbeats 800000 in
theorem cut_any {w : World} {d : Nat} {m : MD} {S : Nat → Prop} (h : DiskRep w d m S) (hn : m.fs.length ≤ 1099511627775) (s : ByteArray) (n : Int) :
    Calls Try.prog 32 #[.pointer (some ⟨d, 0, none⟩), .string s, .int .i64 n] w (DPost w d S (.int .i64 (m.cut s.data.toList n).1) (m.cut s.data.toList n).2) := by
  obtain ⟨v, ga, fs, hl, rfl⟩ := h
  have hfl : fs.length ≤ 1099511627776 := by have : fs.length = m.fs.length := by rw [hl.abs, List.length_map]
                                             omega
  have HL := Lib.hid hl
  cases hg : getL FM.key fs s.data.toList with
  | none =>
    have e1 : m.cut s.data.toList n = (22, m) := by simp [MD.cut, lay_getN hl hg]
    rw [e1]
    have FC := Lib.hid (file_none hl s hfl hg)
    clear hl hg e1
    go_enter Try.func32, Try.ntmps32
    go_wp2_with (go_at_call 70; refine FC.out.mono ?_; rintro e w' ⟨rfl, rfl⟩)
    go_ret
    exact DPost.same rfl ⟨v, ga, fs, HL.out, rfl⟩ (Upd.refl _ _)
  | some f =>
    have FC := Lib.hid (file_some hl s hfl hg)
    have PC := power_any hl.disk hl.ok.arm0 hl.ok.arm1
    have hget := lay_getS hl hg
    have HG := Lib.hid hg
    have hfm := (get_mem hg).1
    obtain ⟨fa, fc, hv, hle, hcm⟩ := (hl.files f hfm).slice
    have hfa := hl.files f hfm
    have c1 : w.cell? ⟨f.p, 1, none⟩ = some (.slice fa f.b.length fc) := by rw [← hv]; exact hfa.blk.cell 1
    unfold maxLen at hcm
    by_cases hbad : n < 0 ∨ (f.b.length : Int) < n
    · have e1 : m.cut s.data.toList n = (1, m) := by simp only [MD.cut, hget]; rw [if_pos]; exact hbad
      rw [e1]
      have hlen : (f.b.length : Int) ≤ 9223372036854775807 := by omega
      generalize f.b.length = L at *
      clear PC hl hg e1 hget hfa hv
      rcases hbad with hb | hb
      · go_enter Try.func32, Try.ntmps32
        go_wp2_with (go_at_call 70; refine FC.out.mono ?_; rintro e w' ⟨rfl, rfl⟩)
        go_ret
        exact DPost.same rfl ⟨v, ga, fs, HL.out, rfl⟩ (Upd.refl _ _)
      · have hb0 : 0 ≤ n := by omega
        go_enter Try.func32, Try.ntmps32
        go_wp2_with (go_at_call 70; refine FC.out.mono ?_; rintro e w' ⟨rfl, rfl⟩)
        go_ret
        exact DPost.same rfl ⟨v, ga, fs, HL.out, rfl⟩ (Upd.refl _ _)
    · obtain ⟨k, rfl⟩ : ∃ k : Nat, n = k := ⟨n.toNat, by omega⟩
      have hk : k ≤ f.b.length := by omega
      cases hd : m.count.down with
      | true =>
        have e1 : m.cut s.data.toList k = (13, m.count) := by simp only [MD.cut, hget]; rw [if_neg (by exact hbad), if_pos hd]
        rw [e1]
        rw [hd] at PC
        have PC' := Lib.hid PC
        generalize f.b.length = L at *
        clear PC hl hg e1 hd hget hfa hv hbad
        go_enter Try.func32, Try.ntmps32
        go_wp2_with (first
          | (go_at_call 70; refine FC.out.mono ?_; rintro e w' ⟨rfl, rfl⟩)
          | (go_at_call 68; refine PC'.out.mono ?_; rintro e w1 ⟨rfl, h1, h2⟩; have H1 := Lib.hid (HL.out.count h1 h2); have H2 := Lib.hid h2; clear h1 h2))
        go_ret
        exact DPost.same rfl ⟨v, ga, fs, H1.out, rfl⟩ (lay_upd_d H2.out)
      | false =>
        have e1 : m.cut s.data.toList k = (0, { m.count with fs := setL MF.name m.count.fs s.data.toList fun f => { f with b := f.b.take k, synced := k } }) := by
          simp only [MD.cut, hget]; rw [if_neg (by exact hbad), if_neg (by simp [hd]), MD.count_fs]; rfl
        have hok := hl.ok.cut s.data.toList k
        rw [e1] at hok ⊢
        rw [hd] at PC
        have PC' := Lib.hid PC
        have HOK := Lib.hid hok
        have HV := Lib.hid hv
        clear PC hl hg e1 hd hget hok hfa hv hbad
        obtain ⟨fp, fname, fv, fb, fsy, fob⟩ := f
        dsimp only at *
        go_enter Try.func32, Try.ntmps32
        go_wp2_with (first
          | (go_at_call 70; refine FC.out.mono ?_; rintro e w' ⟨rfl, rfl⟩)
          | (go_at_call 68; refine PC'.out.mono ?_; rintro e w1 ⟨rfl, h1, h2⟩; have H1 := Lib.hid (HL.out.count h1 h2); have H2 := Lib.hid h2
             have hfa := (H1.out.files _ hfm)
             have cf : w1.cell? ⟨fp, 1, none⟩ = some (.slice fa fb.length fc) := by rw [← HV.out]; exact hfa.blk.cell 1
             have cf2 : w1.cell? ⟨fp, 2, none⟩ = some (.int .i64 fsy) := hfa.blk.cell 2
             have ff1 : w1.frozen? ⟨fp, 1, none⟩ = false := hfa.blk.frozen 1
             have ff : w1.frozen? ⟨fp, 2, none⟩ = false := hfa.blk.frozen 2
             clear h1 h2 hfa))
        go_ret
        have hfa := (H1.out.files _ hfm)
        have hcut := hfa.cutTo hk HV.out
        exact set_post H1.out (lay_upd_d H2.out) HG.out (fun x => { x with v := .slice fa k k, b := x.b.take k, synced := k }) _ (fun _ => rfl) (fun _ => rfl) (T := fun b => b = fp) (((Upd.refl (fun b => b = fp) _).setCell (p := ⟨fp, 1, none⟩) (.inl rfl) _).setCell (p := ⟨fp, 2, none⟩) (.inl rfl) _) (fun b hb => .inl hb)
          ⟨(hfa.blk.set 1 _).set 2 _, by
            have := (hcut.setOther (a := ⟨fp, 1, none⟩) (H1.out.p_ne_ob hfm hfm) (.slice fa k k)).setOther (a := ⟨fp, 2, none⟩) (H1.out.p_ne_ob hfm hfm) (.int .i64 k)
            have e : (fb.take k).length = k := by simp; omega
            show Own _ _ _ _ (fb.take k).length _ _
            rw [e]; exact this⟩ (.inl rfl) rfl HOK.out rfl

theorem DPost.res {w w' : World} {d : Nat} {S : Nat → Prop} {r r' : Value} {m : MD} {e : Ending} (hr : r = r') (h : DPost w d S r m e w') : DPost w d S r' m e w' := hr ▸ h

set_option maxHeartbeats 800000 in
theorem append_any {w : World} {d : Nat} {m : MD} {S : Nat → Prop} (h : DiskRep w d m S) (hn : m.fs.length ≤ 1099511627775) (s : ByteArray) (vb : Value) (b : Bs) (hrd : Rd w 1 vb b.length (b.map bv)) (hsep : 0 < b.length → ∀ g, vb.ownBlock = some g → ¬ S g) :
    Calls Try.prog 22 #[.pointer (some ⟨d, 0, none⟩), .string s, vb] w (DPost w d S (.int .i64 (m.append s.data.toList b).1) (m.append s.data.toList b).2) := by
  obtain ⟨v, ga, fs, hl, rfl⟩ := h
  have hfl : fs.length ≤ 1099511627776 := by have : fs.length = m.fs.length := by rw [hl.abs, List.length_map]
                                             omega
  have HL := Lib.hid hl
  obtain ⟨_, hbm, ba, bc, rfl, hbl, hbcm, _, _⟩ := id hrd
  unfold maxLen at hbm hbcm
  have HR := Lib.hid hrd
  have HS := Lib.hid hsep
  cases hg : getL FM.key fs s.data.toList with
  | none =>
    have e1 : m.append s.data.toList b = (22, m) := by simp [MD.append, lay_getN hl hg]
    rw [e1]
    have FC := Lib.hid (file_none hl s hfl hg)
    clear hl hg e1 hrd hsep
    go_enter Try.func22, Try.ntmps22
    go_wp2_with (go_at_call 70; refine FC.out.mono ?_; rintro e w' ⟨rfl, rfl⟩)
    go_ret
    exact DPost.same rfl ⟨v, ga, fs, HL.out, rfl⟩ (Upd.refl _ _)
  | some f =>
    have FC := Lib.hid (file_some hl s hfl hg)
    have PC := power_any hl.disk hl.ok.arm0 hl.ok.arm1
    have hget := lay_getS hl hg
    have HG := Lib.hid hg
    have hfm := (get_mem hg).1
    have c3 : w.cell? ⟨d, 3, none⟩ = some (.bool m.down) := hl.disk.cell 3
    cases hdn : m.down with
    | true =>
      have e1 : m.append s.data.toList b = (13, m.count) := by simp only [MD.append, hget]; rw [if_pos (.inl hdn)]
      rw [e1]
      rw [hdn] at c3
      have PC' := Lib.hid PC
      clear PC hl hg e1 hget hrd hsep hdn
      go_enter Try.func22, Try.ntmps22
      go_wp2_with (first
        | (go_at_call 70; refine FC.out.mono ?_; rintro e w' ⟨rfl, rfl⟩)
        | (go_at_call 68; refine PC'.out.mono ?_; rintro e w1 ⟨rfl, h1, h2⟩; have H1 := Lib.hid (HL.out.count h1 h2); have H2 := Lib.hid h2; clear h1 h2))
      go_quiet (fail)
      go_wp2
      go_ret
      exact DPost.same rfl ⟨v, ga, fs, H1.out.upd (S := NoBlock) ((Upd.refl _ _).drewN _) (fun _ _ h => h), rfl⟩ ((lay_upd_d H2.out).drewN _)
    | false =>
      have hlim0 := hl.ok.lim0
      have hlim1 := hl.ok.lim1
      have hroom := hl.ok.room
      by_cases hfull : m.limit - m.used < b.length
      · have e1 : m.append s.data.toList b = (13, m.count) := by simp only [MD.append, hget]; rw [if_pos (.inr hfull)]
        rw [e1]
        rw [hdn] at c3
        have PC' := Lib.hid PC
        have HLIM := Lib.hid (MD.count_limit m)
        have HUS := Lib.hid (MD.count_used m)
        clear PC hl hg e1 hget hrd hsep hdn
        generalize m.used = U at *
        generalize m.limit = LI at *
        generalize b.length = BL at *
        go_enter Try.func22, Try.ntmps22
        go_wp2_with (first
          | (go_at_call 70; refine FC.out.mono ?_; rintro e w' ⟨rfl, rfl⟩)
          | (go_at_call 68; refine PC'.out.mono ?_; rintro e w1 ⟨rfl, h1, h2⟩; have H1 := Lib.hid (HL.out.count h1 h2); have H2 := Lib.hid h2
             have c0 : w1.cell? ⟨d, 0, none⟩ = some (.int .i64 LI) := by rw [← HLIM.out]; exact H1.out.disk.cell 0
             clear h1 h2))
        have UC : ∀ n, Calls Try.prog 30 #[.pointer (some ⟨d, 0, none⟩)] (w1.drewN n) fun e w' => e = .returned (.int .i64 U) ∧ w' = w1.drewN n := fun n => by
          have := used_any (H1.out.upd (S := NoBlock) ((Upd.refl _ _).drewN n) (fun _ _ h => h)) hfl
          rw [HUS.out] at this; exact this
        have UCH := Lib.hid UC
        clear UC
        go_quiet ((go_at_call 30; exact Calls.quiet_of_same (UCH.out _)))
        go_wp2
        go_ret
        exact DPost.same rfl ⟨v, ga, fs, H1.out.upd (S := NoBlock) ((Upd.refl _ _).drewN _) (fun _ _ h => h), rfl⟩ ((lay_upd_d H2.out).drewN _)
      · have e1 : m.append s.data.toList b = (if m.count.down = true then 13 else 0, { m.count with fs := setL MF.name m.count.fs s.data.toList fun f => { f with b := f.b ++ b } }) := by
          simp only [MD.append, hget]; rw [if_neg (by rintro (h | h); rw [hdn] at h; cases h; exact hfull h), MD.count_fs]
        have hok := hl.ok.append s.data.toList b
        rw [e1] at hok ⊢
        rw [hdn] at c3
        have PC' := Lib.hid PC
        have HOK := Lib.hid hok
        have HLIM := Lib.hid (MD.count_limit m)
        have HUS := Lib.hid (MD.count_used m)
        obtain ⟨fa, fc, hv, hle, hcm⟩ := (hl.files f hfm).slice
        have HV := Lib.hid hv
        have hfu : (f.b.length : Int) ≤ m.used := by
          have h1 := MD.usedL_drop hl.ok.rising (lay_getS hl hg)
          rw [MD.used_eq]
          have : f.abs.b = f.b := rfl
          rw [this] at h1
          omega
        have H1c := Lib.hid (bv_one b)
        clear PC hl hg e1 hget hrd hsep hdn hok hv
        generalize m.used = U at *
        generalize m.limit = LI at *
        obtain ⟨fp, fname, fv, fb, fsy, fob⟩ := f
        dsimp only at *
        rcases Bool.eq_false_or_eq_true m.count.down with hd | hd
        all_goals
          rw [hd] at PC'
          generalize hRES : (if m.count.down = true then (13 : Int) else 0) = RES at *
          have HRES := Lib.hid hRES
          have HD := Lib.hid hd
          clear hd hRES
          go_enter Try.func22, Try.ntmps22
          go_wp2_with (first
            | (go_at_call 70; refine FC.out.mono ?_; rintro e w' ⟨rfl, rfl⟩)
            | (go_at_call 68; refine PC'.out.mono ?_; rintro e w1 ⟨rfl, h1, h2⟩; have H1 := Lib.hid (HL.out.count h1 h2); have H2 := Lib.hid h2
               have c0 : w1.cell? ⟨d, 0, none⟩ = some (.int .i64 LI) := by rw [← HLIM.out]; exact H1.out.disk.cell 0
               have hfa := (H1.out.files _ hfm)
               have cf : w1.cell? ⟨fp, 1, none⟩ = some (.slice fa fb.length fc) := by rw [← HV.out]; exact hfa.blk.cell 1
               clear h1 h2 hfa))
          have UC : ∀ n, Calls Try.prog 30 #[.pointer (some ⟨d, 0, none⟩)] (w1.drewN n) fun e w' => e = .returned (.int .i64 U) ∧ w' = w1.drewN n := fun n => by
            have := used_any (H1.out.upd (S := NoBlock) ((Upd.refl _ _).drewN n) (fun _ _ h => h)) hfl
            rw [HUS.out] at this; exact this
          have UCH := Lib.hid UC
          clear UC
          go_quiet ((go_at_call 30; exact Calls.quiet_of_same (UCH.out _)))
          have hfa := (H1.out.files _ hfm)
          have HOW : Hid (Own w1 5 1 (.slice fa fb.length fc) fb.length (fb.map bv) fob) := by have := hfa.own; dsimp only at this; rw [HV.out] at this; exact this
          have HRD : Hid (Rd w1 1 (.slice ba b.length bc) b.length (b.map bv)) := HR.out.upd H2.out (fun h0 g hg e => HS.out h0 g hg (.inl e))
          have HFB := Lib.hid hfa.blk
          have HPO := Lib.hid (H1.out.p_ne_ob hfm hfm)
          clear hfa
          dsimp only at HFB HPO
          go_wp2_with (at_builtin; refine wpList_append rfl _ _ _ rfl 5 1 1 _ Try.underlying22 infoU8 rfl (by decide) fb.length (fb.map bv) fob (HOW.out.drewN _) b.length (b.map bv) (HRD.out.drewN _) H1c.out (by unfold maxLen; omega) (by omega) ?_
                       intro v' w2 ob' h2 h3 h4
                       have hb2 : Blk w2 fp #[.string fname, fv, .int .i64 fsy] 108 := (HFB.out.drewN _).upd h3 HPO.out
                       have ff := hb2.frozen 1
                       have cf2 : w2.cell? ⟨fp, 1, none⟩ = some fv := hb2.cell 1
                       obtain ⟨a', c', rfl⟩ := h2.shape
                       have HB2 := Lib.hid hb2; have H2' := Lib.hid h2; have H3 := Lib.hid h3; have H4 := Lib.hid h4; clear hb2 h2 h3 h4)
          go_ret
          have hob : ob' ≠ some fp := by
            rcases H4.out with h | h
            · rw [h]; exact HPO.out
            · intro e; have h5 := h fp e; have h6 := HFB.out.lt; simp at h5; omega
          have hpost : ∀ {r : Value} {e : Ending}, e = .returned r → DPost w' d (DS d ga fs) r { m.count with fs := setL MF.name m.count.fs s.data.toList fun f => { f with b := f.b ++ b } } e (w2.setCell ⟨fp, 1, none⟩ (.slice a' (fb.length + b.length) c')) := fun he => set_post (w2 := w2.setCell ⟨fp, 1, none⟩ (.slice a' (fb.length + b.length) c')) H1.out (lay_upd_d H2.out) HG.out (fun x => { x with v := .slice a' (fb.length + b.length) c', b := x.b ++ b, ob := ob' }) _ (fun _ => rfl) (fun _ => rfl) (T := fun k => k = fp ∨ fob = some k)
            ((((Upd.refl _ _).drewN _).trans H3.out (fun k hk => .inl (.inr hk))).setCell (p := ⟨fp, 1, none⟩) (.inl (.inl rfl)) _) (fun k hk => hk)
            ⟨HB2.out.set 1 _, by
              have := H2'.out.setOther (a := ⟨fp, 1, none⟩) hob (.slice a' (fb.length + b.length) c')
              show Own _ _ _ (.slice a' (fb.length + b.length) c') (fb ++ b).length ((fb ++ b).map bv) ob'
              rw [List.map_append, List.length_append]
              exact this⟩ (by
              rcases H4.out with h | h
              · exact .inl h
              · exact .inr fun c hc => by have := h c hc; simpa using this) rfl HOK.out he
          refine DPost.res ?_ (hpost rfl)
          rw [← HRES.out, HD.out]; rfl
end Go.Proofs.Ytmfobcejnkakpaa
