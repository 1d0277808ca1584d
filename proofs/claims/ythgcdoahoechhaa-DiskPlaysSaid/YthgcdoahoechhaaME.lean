/- The disk's functions that turn one file: Append, Sync, Cut. slices.Clone of bytes. The disk's other functions: New, Read, Synced, Names, Arm, Down, Grow. The disk's names. The disk's crash. The disk's contracts as a law meets them: the disk lies in memory that the law's own call made. -/
import Derived.Test.YthgcdoahoechhaaMD
import Derived.Test.YthgcdoahoechhaaRows
import Derived.Test.YthgcdoahoechhaaMA
set_option linter.unusedVariables false
set_option linter.unusedSimpArgs false
namespace Go.Proofs.Ythgcdoahoechhaa
open Go.RowKit
set_option maxRecDepth 100000
theorem map_set {α β : Type} {key : α → Bs} {key' : β → Bs} (φ : α → β) (hk : ∀ x, key' (φ x) = key x) (l : List α) (s : Bs) (g : α → α) (g' : β → β) (hg : ∀ x ∈ l, key x = s → φ (g x) = g' (φ x)) : (setL key l s g).map φ = setL key' (l.map φ) s g' := by
  unfold setL
  rw [List.map_map, List.map_map]
  apply List.map_congr_left
  intro x hx
  simp only [Function.comp, hk]
  split
  · rename_i e; exact hg x hx e
  · rfl
theorem Lay.setFile {w w' : World} {d : Nat} {m m' : MD} {v : Value} {ga : Option Nat} {fs : List FM} (h : Lay w d m v ga fs) {s : Bs} {f : FM} (hf : getL FM.key fs s = some f) (g : FM → FM) (hp : ∀ x, (g x).p = x.p) (hk : ∀ x, (g x).key = x.key)
    {T : Nat → Prop} (hu : Upd T w w') (hT : ∀ b, T b → b = f.p ∨ f.ob = some b) (hn : FileAt w' (g f)) (hob : (g f).ob = f.ob ∨ ∀ c, (g f).ob = some c → w.heap.size ≤ c)
    (hl : m'.limit = m.limit) (ha : m'.armed = m.armed) (hd : m'.down = m.down) (habs : m'.fs = (setL FM.key fs s g).map FM.abs) (ok : m'.Ok) : Lay w' d m' v ga (setL FM.key fs s g) := by
  obtain ⟨hm, hks⟩ := get_mem hf
  have hr := h.rising
  have only : ∀ x ∈ fs, x.key = s → x = f := fun x hx e => by
    have := hr.get_iff.2 ⟨hx, e⟩; rw [hf] at this; exact (Option.some.inj this).symm
  have hTd : ¬ T d := fun ht => by
    rcases hT d ht with e | e
    · exact h.d_ne_p hm e.symm
    · exact h.d_ne_ob hm e
  refine ⟨?_, ?_, ?_, habs, ?_, ?_, ok⟩
  · have := h.disk.upd hu hTd
    rw [hl, ha, hd]; exact this
  · have e1 : (setL FM.key fs s g).length = fs.length := by simp [setL]
    have e2 : (setL FM.key fs s g).map (fun f => ptrV f.p) = fs.map fun f => ptrV f.p := by
      unfold setL; rw [List.map_map]; apply List.map_congr_left; intro x _; simp only [Function.comp]; split <;> simp [hp]
    rw [e1, e2]
    refine h.arr.upd hu (fun c hc ht => ?_)
    rcases hT c ht with e | e
    · exact h.arr_ne_p hm (by rw [hc, e])
    · exact h.arr_ne_ob hm e (by rw [hc])
  · intro x hx
    obtain ⟨y, hy, rfl⟩ := List.mem_map.1 hx
    by_cases e : y.key = s
    · rw [if_pos e]; have := only y hy e; subst this; exact hn
    · rw [if_neg e]
      have hne : y ≠ f := fun e' => e (e' ▸ hks)
      refine (h.files y hy).upd hu (fun ht => ?_) (fun c hc ht => ?_)
      · rcases hT _ ht with e' | e'
        · exact hne (nodup_inj h.pn hy hm e')
        · exact h.p_ne_ob hy hm e'
      · rcases hT _ ht with e' | e'
        · exact h.p_ne_ob hm hy (by rw [hc, e'])
        · exact hne (nodup_ob_inj h.bn hy hm hc e')
  · have : (setL FM.key fs s g).map FM.p = fs.map FM.p := by
      unfold setL; rw [List.map_map]; apply List.map_congr_left; intro x _; simp only [Function.comp]; split <;> simp [hp]
    rw [this]; exact h.pn
  · have hb : fs.Pairwise fun a b => ∀ c, a.ob = some c → ∀ e, b.ob = some e → c ≠ e := List.pairwise_filterMap.1 h.bn
    refine List.pairwise_filterMap.2 (List.pairwise_map.2 (List.pairwise_iff_getElem.2 fun i j hi hj hij => ?_))
    have hb' := List.pairwise_iff_getElem.1 hb i j hi hj hij
    have nf : ∀ (k : Nat) (hk' : k < fs.length), ¬ (fs[k]).key = s → ∀ c, (fs[k]).ob = some c → (g f).ob ≠ some c := fun k hk' hks' c hc e => by
      rcases hob with ho | ho
      · rw [ho] at e
        have := nodup_ob_inj h.bn (List.getElem_mem hk') hm hc e
        rw [this] at hks'; exact hks' hks
      · have h1 := ho c e
        have h2 := (h.files _ (List.getElem_mem hk')).own.lt c hc
        omega
    intro c hc e he
    by_cases e1 : (fs[i]).key = s
    · rw [if_pos e1] at hc
      have hif := only _ (List.getElem_mem hi) e1
      by_cases e2 : (fs[j]).key = s
      · exact absurd (hr.key_inj hi hj (e1.trans e2.symm)) (by omega)
      · rw [if_neg e2] at he
        rw [hif] at hc
        intro e3; subst e3
        exact nf j hj e2 c he hc
    · rw [if_neg e1] at hc
      by_cases e2 : (fs[j]).key = s
      · rw [if_pos e2] at he
        rw [only _ (List.getElem_mem hj) e2] at he
        intro e3; subst e3
        exact nf i hi e1 c hc he
      · rw [if_neg e2] at he
        exact hb' c hc e he
theorem setFile_sub {w : World} {d : Nat} {ga : Option Nat} {fs : List FM} {s : Bs} {f : FM} (hf : getL FM.key fs s = some f) (hr : Rising FM.key fs) (g : FM → FM) (hp : ∀ x, (g x).p = x.p) (hob : (g f).ob = f.ob ∨ ∀ c, (g f).ob = some c → w.heap.size ≤ c) :
    ∀ b, DS d ga (setL FM.key fs s g) b → DS d ga fs b ∨ w.heap.size ≤ b := by
  rintro b (h | h | ⟨x, hx, h⟩)
  · exact .inl (.inl h)
  · exact .inl (.inr (.inl h))
  · obtain ⟨y, hy, rfl⟩ := List.mem_map.1 hx
    by_cases e : y.key = s
    · have hyf : y = f := by have := hr.get_iff.2 ⟨hy, e⟩; rw [hf] at this; exact (Option.some.inj this).symm
      subst hyf
      rw [if_pos e] at h
      rcases h with h | h
      · exact .inl (.inr (.inr ⟨y, hy, .inl (by rw [h, hp])⟩))
      · rcases hob with ho | ho
        · rw [ho] at h; exact .inl (.inr (.inr ⟨y, hy, .inr h⟩))
        · exact .inr (ho b h)
    · rw [if_neg e] at h
      exact .inl (.inr (.inr ⟨y, hy, h⟩))
theorem bv_one (l : Bs) : ∀ u ∈ l.map bv, u.oneCell' = true := by
  intro u hu; obtain ⟨x, _, rfl⟩ := List.mem_map.1 hu; rfl
theorem infoU8 : (Try.prog.info? 5).map (fun i => (i.zero, i.size, i.bytes)) = some (some (.int .u8 0), 1, 1) := by kernel_rfl
theorem set_post {w w1 w2 : World} {d : Nat} {m : MD} {v : Value} {ga : Option Nat} {fs : List FM} {r : Value} (h : Lay w1 d m v ga fs) (hu1 : Upd (DS d ga fs) w w1) {s : Bs} {f : FM} (hf : getL FM.key fs s = some f) (g : FM → FM) (g' : MF → MF) (hp : ∀ x, (g x).p = x.p) (hk : ∀ x, (g x).key = x.key)
    {T : Nat → Prop} (hu : Upd T w1 w2) (hT : ∀ b, T b → b = f.p ∨ f.ob = some b) (hn : FileAt w2 (g f)) (hob : (g f).ob = f.ob ∨ ∀ c, (g f).ob = some c → w1.heap.size ≤ c)
    (habs : (g f).abs = g' f.abs) (ok : MD.Ok { m with fs := setL MF.name m.fs s g' }) {e : Ending} (he : e = .returned r) :
    DPost w d (DS d ga fs) r { m with fs := setL MF.name m.fs s g' } e w2 := by
  obtain ⟨hm, hks⟩ := get_mem hf
  have hr := h.rising
  have hob' : (g f).ob = f.ob ∨ ∀ c, (g f).ob = some c → w.heap.size ≤ c := by
    rcases hob with h | h
    · exact .inl h
    · exact .inr fun c hc => Nat.le_trans hu1.size (h c hc)
  have e1 : setL MF.name m.fs s g' = (setL FM.key fs s g).map FM.abs := by
    rw [h.abs, map_set (key := FM.key) (key' := MF.name) FM.abs (fun _ => rfl) fs s g g' (fun x hx e => by
      have := hr.get_iff.2 ⟨hx, e⟩; rw [hf] at this; cases this; exact habs)]
  refine ⟨he, DS d ga (setL FM.key fs s g), ⟨v, ga, _, h.setFile hf g hp hk hu hT hn hob rfl rfl rfl e1 ok, rfl⟩, hu1.trans hu (fun b hb => ?_), setFile_sub hf hr g hp hob'⟩
  rcases hT b hb with e | e
  · exact .inl (.inr (.inr ⟨f, hm, .inl e⟩))
  · exact .inl (.inr (.inr ⟨f, hm, .inr e⟩))
set_option maxHeartbeats 800000 in
theorem sync_any {w : World} {d : Nat} {m : MD} {S : Nat → Prop} (h : DiskRep w d m S) (hn : m.fs.length ≤ 1099511627775) (s : ByteArray) :
    Calls Try.prog 55 #[.pointer (some ⟨d, 0, none⟩), .string s] w (DPost w d S (.int .i64 (m.sync s.data.toList).1) (m.sync s.data.toList).2) := by
  obtain ⟨v, ga, fs, hl, rfl⟩ := h
  have hfl : fs.length ≤ 1099511627776 := by have : fs.length = m.fs.length := by rw [hl.abs, List.length_map]
                                             omega
  have HL := Lib.hid hl
  cases hg : getL FM.key fs s.data.toList with
  | none =>
    have e1 : m.sync s.data.toList = (22, m) := by simp [MD.sync, lay_getN hl hg]
    rw [e1]
    have FC := Lib.hid (file_none hl s hfl hg)
    clear hl hg e1
    go_enter Try.func55, Try.ntmps55
    go_wp2_with (go_at_call 84; refine FC.out.mono ?_; rintro e w' ⟨rfl, rfl⟩)
    go_ret
    exact DPost.same rfl ⟨v, ga, fs, HL.out, rfl⟩ (Upd.refl _ _)
  | some f =>
    have FC := Lib.hid (file_some hl s hfl hg)
    have PC := power_any hl.disk hl.ok.arm0 hl.ok.arm1
    have hget := lay_getS hl hg
    cases hd : m.count.down with
    | true =>
      have e1 : m.sync s.data.toList = (13, m.count) := by simp [MD.sync, hget, hd]
      rw [e1]
      rw [hd] at PC
      have PC' := Lib.hid PC
      clear PC hl hg e1 hd hget
      go_enter Try.func55, Try.ntmps55
      go_wp2_with (first
        | (go_at_call 84; refine FC.out.mono ?_; rintro e w' ⟨rfl, rfl⟩)
        | (go_at_call 97; refine PC'.out.mono ?_; rintro e w1 ⟨rfl, h1, h2⟩; have H1 := Lib.hid (HL.out.count h1 h2); have H2 := Lib.hid h2; clear h1 h2))
      go_ret
      exact DPost.same rfl ⟨v, ga, fs, H1.out, rfl⟩ (lay_upd_d H2.out)
    | false =>
      have e1 : m.sync s.data.toList = (0, { m.count with fs := setL MF.name m.count.fs s.data.toList fun f => { f with synced := f.b.length } }) := by simp [MD.sync, hget, hd, MD.count_fs]
      have hok := hl.ok.sync s.data.toList
      rw [e1] at hok ⊢
      rw [hd] at PC
      have PC' := Lib.hid PC
      have HOK := Lib.hid hok
      have HG := Lib.hid hg
      have hfm := (get_mem hg).1
      obtain ⟨fa, fc, hv, hle, hcm⟩ := (hl.files f hfm).slice
      clear PC hl hg e1 hd hget hok
      obtain ⟨fp, fname, fv, fb, fsy, fob⟩ := f
      dsimp only at *
      subst hv
      go_enter Try.func55, Try.ntmps55
      go_wp2_with (first
        | (go_at_call 84; refine FC.out.mono ?_; rintro e w' ⟨rfl, rfl⟩)
        | (go_at_call 97; refine PC'.out.mono ?_; rintro e w1 ⟨rfl, h1, h2⟩; have H1 := Lib.hid (HL.out.count h1 h2); have H2 := Lib.hid h2
           have hfa := (H1.out.files _ hfm)
           have cf : w1.cell? ⟨fp, 1, none⟩ = some (.slice fa fb.length fc) := hfa.blk.cell 1
           have cf2 : w1.cell? ⟨fp, 2, none⟩ = some (.int .i64 fsy) := hfa.blk.cell 2
           have ff : w1.frozen? ⟨fp, 2, none⟩ = false := hfa.blk.frozen 2
           clear h1 h2 hfa))
      go_ret
      have hfa := (H1.out.files _ hfm)
      exact set_post H1.out (lay_upd_d H2.out) HG.out (fun x => { x with synced := x.b.length }) _ (fun _ => rfl) (fun _ => rfl) (T := fun b => b = fp) ((Upd.refl (fun b => b = fp) _).setCell (p := ⟨fp, 2, none⟩) (.inl rfl) _) (fun b hb => .inl hb) ⟨hfa.blk.set 2 _, hfa.own.setOther (H1.out.p_ne_ob hfm hfm) _⟩ (.inl rfl) rfl HOK.out rfl
theorem FileAt.cutTo {w : World} {f : FM} (h : FileAt w f) {k : Nat} (hk : k ≤ f.b.length) {fa : Option Addr} {c : Nat} (hv : f.v = .slice fa f.b.length c) : Own w 5 1 (.slice fa k k) k ((f.b.take k).map bv) f.ob := by
  have ho := h.own
  rw [hv] at ho
  refine ⟨by simp; omega, ?_⟩
  rcases ho.2 with ⟨h1, h2, h3⟩ | ⟨g, cap, cur, h1, h2, h3, h4, h5, h6, h7⟩
  · simp only [Value.slice.injEq] at h1
    obtain ⟨rfl, h8, rfl⟩ := h1
    have : k = 0 := by omega
    subst this
    exact .inl ⟨rfl, rfl, h3⟩
  · simp only [Value.slice.injEq] at h1
    obtain ⟨rfl, h8, rfl⟩ := h1
    refine .inr ⟨g, k, cur, rfl, h2, h3, Nat.le_refl _, by omega, by omega, ?_⟩
    rw [Nat.mul_one] at h7 ⊢
    rw [List.map_take, ← h7, List.take_take, Nat.min_eq_left hk]
set_option maxHeartbeats 800000 in
theorem cut_any {w : World} {d : Nat} {m : MD} {S : Nat → Prop} (h : DiskRep w d m S) (hn : m.fs.length ≤ 1099511627775) (s : ByteArray) (n : Int) :
    Calls Try.prog 57 #[.pointer (some ⟨d, 0, none⟩), .string s, .int .i64 n] w (DPost w d S (.int .i64 (m.cut s.data.toList n).1) (m.cut s.data.toList n).2) := by
  obtain ⟨v, ga, fs, hl, rfl⟩ := h
  have hfl : fs.length ≤ 1099511627776 := by have : fs.length = m.fs.length := by rw [hl.abs, List.length_map]
                                             omega
  have HL := Lib.hid hl
  cases hg : getL FM.key fs s.data.toList with
  | none =>
    have e1 : m.cut s.data.toList n = (22, m) := by simp [MD.cut, lay_getN hl hg]
    rw [e1]
    have FC := Lib.hid (file_none hl s hfl hg)
    clear hl hg e1
    go_enter Try.func57, Try.ntmps57
    go_wp2_with (go_at_call 84; refine FC.out.mono ?_; rintro e w' ⟨rfl, rfl⟩)
    go_ret
    exact DPost.same rfl ⟨v, ga, fs, HL.out, rfl⟩ (Upd.refl _ _)
  | some f =>
    have FC := Lib.hid (file_some hl s hfl hg)
    have PC := power_any hl.disk hl.ok.arm0 hl.ok.arm1
    have hget := lay_getS hl hg
    have HG := Lib.hid hg
    have hfm := (get_mem hg).1
    obtain ⟨fa, fc, hv, hle, hcm⟩ := (hl.files f hfm).slice
    have hfa := hl.files f hfm
    have c1 : w.cell? ⟨f.p, 1, none⟩ = some (.slice fa f.b.length fc) := by rw [← hv]; exact hfa.blk.cell 1
    unfold maxLen at hcm
    by_cases hbad : n < 0 ∨ (f.b.length : Int) < n
    · have e1 : m.cut s.data.toList n = (1, m) := by simp only [MD.cut, hget]; rw [if_pos]; exact hbad
      rw [e1]
      have hlen : (f.b.length : Int) ≤ 9223372036854775807 := by omega
      generalize f.b.length = L at *
      clear PC hl hg e1 hget hfa hv
      rcases hbad with hb | hb
      · go_enter Try.func57, Try.ntmps57
        go_wp2_with (go_at_call 84; refine FC.out.mono ?_; rintro e w' ⟨rfl, rfl⟩)
        go_ret
        exact DPost.same rfl ⟨v, ga, fs, HL.out, rfl⟩ (Upd.refl _ _)
      · have hb0 : 0 ≤ n := by omega
        go_enter Try.func57, Try.ntmps57
        go_wp2_with (go_at_call 84; refine FC.out.mono ?_; rintro e w' ⟨rfl, rfl⟩)
        go_ret
        exact DPost.same rfl ⟨v, ga, fs, HL.out, rfl⟩ (Upd.refl _ _)
    · obtain ⟨k, rfl⟩ : ∃ k : Nat, n = k := ⟨n.toNat, by omega⟩
      have hk : k ≤ f.b.length := by omega
      cases hd : m.count.down with
      | true =>
        have e1 : m.cut s.data.toList k = (13, m.count) := by simp only [MD.cut, hget]; rw [if_neg (by exact hbad), if_pos hd]
        rw [e1]
        rw [hd] at PC
        have PC' := Lib.hid PC
        generalize f.b.length = L at *
        clear PC hl hg e1 hd hget hfa hv hbad
        go_enter Try.func57, Try.ntmps57
        go_wp2_with (first
          | (go_at_call 84; refine FC.out.mono ?_; rintro e w' ⟨rfl, rfl⟩)
          | (go_at_call 97; refine PC'.out.mono ?_; rintro e w1 ⟨rfl, h1, h2⟩; have H1 := Lib.hid (HL.out.count h1 h2); have H2 := Lib.hid h2; clear h1 h2))
        go_ret
        exact DPost.same rfl ⟨v, ga, fs, H1.out, rfl⟩ (lay_upd_d H2.out)
      | false =>
        have e1 : m.cut s.data.toList k = (0, { m.count with fs := setL MF.name m.count.fs s.data.toList fun f => { f with b := f.b.take k, synced := k } }) := by
          simp only [MD.cut, hget]; rw [if_neg (by exact hbad), if_neg (by simp [hd]), MD.count_fs]; rfl
        have hok := hl.ok.cut s.data.toList k
        rw [e1] at hok ⊢
        rw [hd] at PC
        have PC' := Lib.hid PC
        have HOK := Lib.hid hok
        have HV := Lib.hid hv
        clear PC hl hg e1 hd hget hok hfa hv hbad
        obtain ⟨fp, fname, fv, fb, fsy, fob⟩ := f
        dsimp only at *
        go_enter Try.func57, Try.ntmps57
        go_wp2_with (first
          | (go_at_call 84; refine FC.out.mono ?_; rintro e w' ⟨rfl, rfl⟩)
          | (go_at_call 97; refine PC'.out.mono ?_; rintro e w1 ⟨rfl, h1, h2⟩; have H1 := Lib.hid (HL.out.count h1 h2); have H2 := Lib.hid h2
             have hfa := (H1.out.files _ hfm)
             have cf : w1.cell? ⟨fp, 1, none⟩ = some (.slice fa fb.length fc) := by rw [← HV.out]; exact hfa.blk.cell 1
             have cf2 : w1.cell? ⟨fp, 2, none⟩ = some (.int .i64 fsy) := hfa.blk.cell 2
             have ff1 : w1.frozen? ⟨fp, 1, none⟩ = false := hfa.blk.frozen 1
             have ff : w1.frozen? ⟨fp, 2, none⟩ = false := hfa.blk.frozen 2
             clear h1 h2 hfa))
        go_ret
        have hfa := (H1.out.files _ hfm)
        have hcut := hfa.cutTo hk HV.out
        exact set_post H1.out (lay_upd_d H2.out) HG.out (fun x => { x with v := .slice fa k k, b := x.b.take k, synced := k }) _ (fun _ => rfl) (fun _ => rfl) (T := fun b => b = fp) (((Upd.refl (fun b => b = fp) _).setCell (p := ⟨fp, 1, none⟩) (.inl rfl) _).setCell (p := ⟨fp, 2, none⟩) (.inl rfl) _) (fun b hb => .inl hb)
          ⟨(hfa.blk.set 1 _).set 2 _, by
            have := (hcut.setOther (a := ⟨fp, 1, none⟩) (H1.out.p_ne_ob hfm hfm) (.slice fa k k)).setOther (a := ⟨fp, 2, none⟩) (H1.out.p_ne_ob hfm hfm) (.int .i64 k)
            have e : (fb.take k).length = k := by simp; omega
            show Own _ _ _ _ (fb.take k).length _ _
            rw [e]; exact this⟩ (.inl rfl) rfl HOK.out rfl
theorem DPost.res {w w' : World} {d : Nat} {S : Nat → Prop} {r r' : Value} {m : MD} {e : Ending} (hr : r = r') (h : DPost w d S r m e w') : DPost w d S r' m e w' := hr ▸ h
set_option maxHeartbeats 800000 in
theorem append_any {w : World} {d : Nat} {m : MD} {S : Nat → Prop} (h : DiskRep w d m S) (hn : m.fs.length ≤ 1099511627775) (s : ByteArray) (vb : Value) (b : Bs) (hrd : Rd w 1 vb b.length (b.map bv)) (hsep : 0 < b.length → ∀ g, vb.ownBlock = some g → ¬ S g) :
    Calls Try.prog 53 #[.pointer (some ⟨d, 0, none⟩), .string s, vb] w (DPost w d S (.int .i64 (m.append s.data.toList b).1) (m.append s.data.toList b).2) := by
  obtain ⟨v, ga, fs, hl, rfl⟩ := h
  have hfl : fs.length ≤ 1099511627776 := by have : fs.length = m.fs.length := by rw [hl.abs, List.length_map]
                                             omega
  have HL := Lib.hid hl
  obtain ⟨_, hbm, ba, bc, rfl, hbl, hbcm, _, _⟩ := id hrd
  unfold maxLen at hbm hbcm
  have HR := Lib.hid hrd
  have HS := Lib.hid hsep
  cases hg : getL FM.key fs s.data.toList with
  | none =>
    have e1 : m.append s.data.toList b = (22, m) := by simp [MD.append, lay_getN hl hg]
    rw [e1]
    have FC := Lib.hid (file_none hl s hfl hg)
    clear hl hg e1 hrd hsep
    go_enter Try.func53, Try.ntmps53
    go_wp2_with (go_at_call 84; refine FC.out.mono ?_; rintro e w' ⟨rfl, rfl⟩)
    go_ret
    exact DPost.same rfl ⟨v, ga, fs, HL.out, rfl⟩ (Upd.refl _ _)
  | some f =>
    have FC := Lib.hid (file_some hl s hfl hg)
    have PC := power_any hl.disk hl.ok.arm0 hl.ok.arm1
    have hget := lay_getS hl hg
    have HG := Lib.hid hg
    have hfm := (get_mem hg).1
    have c3 : w.cell? ⟨d, 3, none⟩ = some (.bool m.down) := hl.disk.cell 3
    cases hdn : m.down with
    | true =>
      have e1 : m.append s.data.toList b = (13, m.count) := by simp only [MD.append, hget]; rw [if_pos (.inl hdn)]
      rw [e1]
      rw [hdn] at c3
      have PC' := Lib.hid PC
      clear PC hl hg e1 hget hrd hsep hdn
      go_enter Try.func53, Try.ntmps53
      go_wp2_with (first
        | (go_at_call 84; refine FC.out.mono ?_; rintro e w' ⟨rfl, rfl⟩)
        | (go_at_call 97; refine PC'.out.mono ?_; rintro e w1 ⟨rfl, h1, h2⟩; have H1 := Lib.hid (HL.out.count h1 h2); have H2 := Lib.hid h2; clear h1 h2))
      go_quiet (fail)
      go_wp2
      go_ret
      exact DPost.same rfl ⟨v, ga, fs, H1.out.upd (S := NoBlock) ((Upd.refl _ _).drewN _) (fun _ _ h => h), rfl⟩ ((lay_upd_d H2.out).drewN _)
    | false =>
      have hlim0 := hl.ok.lim0
      have hlim1 := hl.ok.lim1
      have hroom := hl.ok.room
      by_cases hfull : m.limit - m.used < b.length
      · have e1 : m.append s.data.toList b = (13, m.count) := by simp only [MD.append, hget]; rw [if_pos (.inr hfull)]
        rw [e1]
        rw [hdn] at c3
        have PC' := Lib.hid PC
        have HLIM := Lib.hid (MD.count_limit m)
        have HUS := Lib.hid (MD.count_used m)
        clear PC hl hg e1 hget hrd hsep hdn
        generalize m.used = U at *
        generalize m.limit = LI at *
        generalize b.length = BL at *
        go_enter Try.func53, Try.ntmps53
        go_wp2_with (first
          | (go_at_call 84; refine FC.out.mono ?_; rintro e w' ⟨rfl, rfl⟩)
          | (go_at_call 97; refine PC'.out.mono ?_; rintro e w1 ⟨rfl, h1, h2⟩; have H1 := Lib.hid (HL.out.count h1 h2); have H2 := Lib.hid h2
             have c0 : w1.cell? ⟨d, 0, none⟩ = some (.int .i64 LI) := by rw [← HLIM.out]; exact H1.out.disk.cell 0
             clear h1 h2))
        have UC : ∀ n, Calls Try.prog 30 #[.pointer (some ⟨d, 0, none⟩)] (w1.drewN n) fun e w' => e = .returned (.int .i64 U) ∧ w' = w1.drewN n := fun n => by
          have := used_any (H1.out.upd (S := NoBlock) ((Upd.refl _ _).drewN n) (fun _ _ h => h)) hfl
          rw [HUS.out] at this; exact this
        have UCH := Lib.hid UC
        clear UC
        go_quiet ((go_at_call 30; exact Calls.quiet_of_same (UCH.out _)))
        go_wp2
        go_ret
        exact DPost.same rfl ⟨v, ga, fs, H1.out.upd (S := NoBlock) ((Upd.refl _ _).drewN _) (fun _ _ h => h), rfl⟩ ((lay_upd_d H2.out).drewN _)
      · have e1 : m.append s.data.toList b = (if m.count.down = true then 13 else 0, { m.count with fs := setL MF.name m.count.fs s.data.toList fun f => { f with b := f.b ++ b } }) := by
          simp only [MD.append, hget]; rw [if_neg (by rintro (h | h); rw [hdn] at h; cases h; exact hfull h), MD.count_fs]
        have hok := hl.ok.append s.data.toList b
        rw [e1] at hok ⊢
        rw [hdn] at c3
        have PC' := Lib.hid PC
        have HOK := Lib.hid hok
        have HLIM := Lib.hid (MD.count_limit m)
        have HUS := Lib.hid (MD.count_used m)
        obtain ⟨fa, fc, hv, hle, hcm⟩ := (hl.files f hfm).slice
        have HV := Lib.hid hv
        have hfu : (f.b.length : Int) ≤ m.used := by
          have h1 := MD.usedL_drop hl.ok.rising (lay_getS hl hg)
          rw [MD.used_eq]
          have : f.abs.b = f.b := rfl
          rw [this] at h1
          omega
        have H1c := Lib.hid (bv_one b)
        clear PC hl hg e1 hget hrd hsep hdn hok hv
        generalize m.used = U at *
        generalize m.limit = LI at *
        obtain ⟨fp, fname, fv, fb, fsy, fob⟩ := f
        dsimp only at *
        rcases Bool.eq_false_or_eq_true m.count.down with hd | hd
        all_goals
          rw [hd] at PC'
          generalize hRES : (if m.count.down = true then (13 : Int) else 0) = RES at *
          have HRES := Lib.hid hRES
          have HD := Lib.hid hd
          clear hd hRES
          go_enter Try.func53, Try.ntmps53
          go_wp2_with (first
            | (go_at_call 84; refine FC.out.mono ?_; rintro e w' ⟨rfl, rfl⟩)
            | (go_at_call 97; refine PC'.out.mono ?_; rintro e w1 ⟨rfl, h1, h2⟩; have H1 := Lib.hid (HL.out.count h1 h2); have H2 := Lib.hid h2
               have c0 : w1.cell? ⟨d, 0, none⟩ = some (.int .i64 LI) := by rw [← HLIM.out]; exact H1.out.disk.cell 0
               have hfa := (H1.out.files _ hfm)
               have cf : w1.cell? ⟨fp, 1, none⟩ = some (.slice fa fb.length fc) := by rw [← HV.out]; exact hfa.blk.cell 1
               clear h1 h2 hfa))
          have UC : ∀ n, Calls Try.prog 30 #[.pointer (some ⟨d, 0, none⟩)] (w1.drewN n) fun e w' => e = .returned (.int .i64 U) ∧ w' = w1.drewN n := fun n => by
            have := used_any (H1.out.upd (S := NoBlock) ((Upd.refl _ _).drewN n) (fun _ _ h => h)) hfl
            rw [HUS.out] at this; exact this
          have UCH := Lib.hid UC
          clear UC
          go_quiet ((go_at_call 30; exact Calls.quiet_of_same (UCH.out _)))
          have hfa := (H1.out.files _ hfm)
          have HOW : Hid (Own w1 5 1 (.slice fa fb.length fc) fb.length (fb.map bv) fob) := by have := hfa.own; dsimp only at this; rw [HV.out] at this; exact this
          have HRD : Hid (Rd w1 1 (.slice ba b.length bc) b.length (b.map bv)) := HR.out.upd H2.out (fun h0 g hg e => HS.out h0 g hg (.inl e))
          have HFB := Lib.hid hfa.blk
          have HPO := Lib.hid (H1.out.p_ne_ob hfm hfm)
          clear hfa
          dsimp only at HFB HPO
          go_wp2_with (at_builtin; refine wpList_append rfl _ _ _ rfl 5 1 1 _ Try.underlying33 infoU8 rfl (by decide) fb.length (fb.map bv) fob (HOW.out.drewN _) b.length (b.map bv) (HRD.out.drewN _) H1c.out (by unfold maxLen; omega) (by omega) ?_
                       intro v' w2 ob' h2 h3 h4
                       have hb2 : Blk w2 fp #[.string fname, fv, .int .i64 fsy] 116 := (HFB.out.drewN _).upd h3 HPO.out
                       have ff := hb2.frozen 1
                       have cf2 : w2.cell? ⟨fp, 1, none⟩ = some fv := hb2.cell 1
                       obtain ⟨a', c', rfl⟩ := h2.shape
                       have HB2 := Lib.hid hb2; have H2' := Lib.hid h2; have H3 := Lib.hid h3; have H4 := Lib.hid h4; clear hb2 h2 h3 h4)
          go_ret
          have hob : ob' ≠ some fp := by
            rcases H4.out with h | h
            · rw [h]; exact HPO.out
            · intro e; have h5 := h fp e; have h6 := HFB.out.lt; simp at h5; omega
          have hpost : ∀ {r : Value} {e : Ending}, e = .returned r → DPost w' d (DS d ga fs) r { m.count with fs := setL MF.name m.count.fs s.data.toList fun f => { f with b := f.b ++ b } } e (w2.setCell ⟨fp, 1, none⟩ (.slice a' (fb.length + b.length) c')) := fun he => set_post (w2 := w2.setCell ⟨fp, 1, none⟩ (.slice a' (fb.length + b.length) c')) H1.out (lay_upd_d H2.out) HG.out (fun x => { x with v := .slice a' (fb.length + b.length) c', b := x.b ++ b, ob := ob' }) _ (fun _ => rfl) (fun _ => rfl) (T := fun k => k = fp ∨ fob = some k)
            ((((Upd.refl _ _).drewN _).trans H3.out (fun k hk => .inl (.inr hk))).setCell (p := ⟨fp, 1, none⟩) (.inl (.inl rfl)) _) (fun k hk => hk)
            ⟨HB2.out.set 1 _, by
              have := H2'.out.setOther (a := ⟨fp, 1, none⟩) hob (.slice a' (fb.length + b.length) c')
              show Own _ _ _ (.slice a' (fb.length + b.length) c') (fb ++ b).length ((fb ++ b).map bv) ob'
              rw [List.map_append, List.length_append]
              exact this⟩ (by
              rcases H4.out with h | h
              · exact .inl h
              · exact .inr fun c hc => by have := h c hc; simpa using this) rfl HOK.out he
          refine DPost.res ?_ (hpost rfl)
          rw [← HRES.out, HD.out]; rfl
end Go.Proofs.Ythgcdoahoechhaa
namespace Go.Proofs.Ythgcdoahoechhaa
open Go.RowKit
set_option maxRecDepth 100000
def RetNew (w : World) (e : TypeId) (size n : Nat) (xs : List Value) (en : Ending) (w' : World) : Prop :=
  ∃ v' ob', en = .returned v' ∧ Own w' e size v' n xs ob' ∧ Below w.heap.size w w' ∧ ∀ g, ob' = some g → w.heap.size ≤ g
theorem infoU8' : (Try.prog.info? 5).map (fun i => (i.zero, i.size, i.bytes)) = some (some (.int .u8 0), 1, 1) := by kernel_rfl
set_option maxHeartbeats 400000 in
theorem clone_any {w : World} {vb : Value} {n : Nat} {xs : List Value} (h : Rd w 1 vb n xs) (h1 : ∀ u ∈ xs, u.oneCell' = true) (hn : n ≤ 70368744177664) :
    Calls Try.prog 85 #[vb] w (RetNew w 5 1 n xs) := by
  obtain ⟨hl, hbm, ba, bc, rfl, hbl, hbcm, hnone, _⟩ := id h
  unfold maxLen at hbm hbcm
  have H := Lib.hid h
  have H1 := Lib.hid h1
  cases ba with
  | none =>
    obtain ⟨rfl, rfl⟩ := hnone rfl
    have hx : xs = [] := List.eq_nil_of_length_eq_zero (by simpa using hl)
    subst hx
    clear hl h h1 hnone
    have hq := fun w => Lib.run_eql_slice_nil (P := Try.prog) w 33 5 none 0 0 0 0 Try.underlying33
    go_enter Try.func85, Try.ntmps85
    go_wp2
    go_ret
    exact ⟨_, _, rfl, Own.nil _ _ _, Below.refl _ _, fun g hg => by cases hg⟩
  | some a =>
    clear hl h h1 hnone
    have hq := fun w => Lib.run_eql_slice_nil (P := Try.prog) w 33 5 (some a) n bc 0 0 Try.underlying33
    have hnil : Hid (Own (w.alloc (.cells #[] 5)) 5 1 (.slice (some ⟨w.heap.size, 0, none⟩) 0 0) 0 [] (some w.heap.size)) := ⟨rfl, .inr ⟨w.heap.size, 0, #[], rfl, rfl, Blk.new _ _ _, Nat.le_refl _, by unfold maxLen; omega, by simp, rfl⟩⟩
    go_enter Try.func85, Try.ntmps85
    go_wp2_with (at_builtin; refine wpList_append rfl _ _ _ rfl 5 1 1 _ Try.underlying33 infoU8' rfl (by decide) 0 [] _ hnil.out n xs (H.out.alloc _) H1.out (by unfold maxLen; omega) (by omega) ?_; intro v' w2 ob' h2 h3 h4; have H2 := Lib.hid h2; have H3 := Lib.hid h3; have H4 := Lib.hid h4; clear h2 h3 h4)
    go_ret
    refine ⟨_, ob', rfl, by simpa using H2.out, ?_, fun g hg => ?_⟩
    · exact Upd.toBelow ((((Upd.refl NoBlock w).alloc _).trans H3.out (fun k hk => .inr (by cases hk; exact Nat.le_refl _))))
    · rcases H4.out with h | h
      · rw [h] at hg; cases hg; exact Nat.le_refl _
      · have := h g hg; simp at this; omega
end Go.Proofs.Ythgcdoahoechhaa
namespace Go.Proofs.Ythgcdoahoechhaa
open Go.RowKit
set_option maxRecDepth 100000
set_option maxHeartbeats 400000 in
theorem new_bad (n : Int) (w : World) (h : n < 0 ∨ 16777216 < n) : Calls Try.prog 13 #[.int .i64 n] w fun e w' => e = .returned (.tuple #[.pointer none, .int .i64 1]) ∧ w' = w := by
  rcases h with h | h
  · go_enter Try.func13, Try.ntmps13
    go_wp2
    go_ret2
    exact ⟨rfl, rfl⟩
  · have h0 : 0 ≤ n := by omega
    go_enter Try.func13, Try.ntmps13
    go_wp2
    go_ret2
    exact ⟨rfl, rfl⟩
def NewPost (w : World) (n : Int) (e : Ending) (w' : World) : Prop :=
  ∃ d S, e = .returned (.tuple #[.pointer (some ⟨d, 0, none⟩), .int .i64 0]) ∧ DiskRep w' d (MD.new n) S ∧ Below w.heap.size w w' ∧ ∀ b, S b → w.heap.size ≤ b
set_option maxHeartbeats 400000 in
theorem new_ok (n : Int) (w : World) (h0 : 0 ≤ n) (h1 : n ≤ 16777216) : Calls Try.prog 13 #[.int .i64 n] w (NewPost w n) := by
  have hl : Lay (w.alloc (.cells #[.int .i64 n, .slice none 0 0, .int .i64 0, .bool false] 91)) w.heap.size (MD.new n) (.slice none 0 0) none [] :=
    ⟨Blk.new _ _ _, Own.nil _ _ _, by simp, rfl, by simp, by simp, MD.Ok.new h0 h1⟩
  have HL := Lib.hid hl
  clear hl
  go_enter Try.func13, Try.ntmps13
  go_wp2
  go_ret2
  refine ⟨_, _, rfl, ⟨_, _, _, HL.out, rfl⟩, (Below.refl _ _).alloc (Nat.le_refl _) _, ?_⟩
  rintro b (rfl | h | ⟨f, hf, _⟩)
  · exact Nat.le_refl _
  · cases h
  · cases hf
theorem down_any {w : World} {d : Nat} {m : MD} {S : Nat → Prop} (h : DiskRep w d m S) : Calls Try.prog 29 #[.pointer (some ⟨d, 0, none⟩)] w fun e w' => e = .returned (.bool m.down) ∧ w' = w := by
  obtain ⟨v, ga, fs, hl, rfl⟩ := h
  have c3 : w.cell? ⟨d, 3, none⟩ = some (.bool m.down) := hl.disk.cell 3
  clear hl
  go_enter Try.func29, Try.ntmps29
  go_wp2
  go_ret
  exact ⟨rfl, rfl⟩
theorem used_rep {w : World} {d : Nat} {m : MD} {S : Nat → Prop} (h : DiskRep w d m S) (hn : m.fs.length ≤ 1099511627775) : Calls Try.prog 30 #[.pointer (some ⟨d, 0, none⟩)] w fun e w' => e = .returned (.int .i64 m.used) ∧ w' = w := by
  obtain ⟨v, ga, fs, hl, rfl⟩ := h
  have : fs.length = m.fs.length := by rw [hl.abs, List.length_map]
  exact used_any hl (by omega)
theorem Lay.nums {w w' : World} {d : Nat} {m m' : MD} {v : Value} {ga : Option Nat} {fs : List FM} (h : Lay w d m v ga fs) (hb : Blk w' d (diskC m' v) 91) (hu : Upd (fun b => b = d) w w') (hf : m'.fs = m.fs) (ok : m'.Ok) : Lay w' d m' v ga fs := by
  refine ⟨hb, h.arr.upd hu (fun g hg e => h.d_ne_arr (by rw [hg, e])), fun f hf => (h.files f hf).upd hu (h.d_ne_p hf) (fun g hg e => h.d_ne_ob hf (by rw [hg, e])), ?_, h.pn, h.bn, ok⟩
  rw [hf]; exact h.abs
set_option maxHeartbeats 400000 in
theorem arm_any {w : World} {d : Nat} {m : MD} {S : Nat → Prop} (h : DiskRep w d m S) (n : Int) (h0 : -9223372036854775808 ≤ n) (h1 : n ≤ 9223372036854775807) :
    Calls Try.prog 28 #[.pointer (some ⟨d, 0, none⟩), .int .i64 n] w (DPost w d S (.tuple #[]) (m.arm n)) := by
  obtain ⟨v, ga, fs, hl, rfl⟩ := h
  have c3 : w.cell? ⟨d, 3, none⟩ = some (.bool m.down) := hl.disk.cell 3
  have c2 : w.cell? ⟨d, 2, none⟩ = some (.int .i64 m.armed) := hl.disk.cell 2
  have f2 := hl.disk.frozen 2
  have HL := Lib.hid hl
  have hok := hl.ok.arm n h1
  cases hd : m.down with
  | true =>
    have e : m.arm n = m := by simp [MD.arm, hd]
    rw [e]
    rw [hd] at c3
    clear hl hok e hd
    go_enter Try.func28, Try.ntmps28
    go_wp2
    go_end0
    exact DPost.same rfl ⟨v, ga, fs, HL.out, rfl⟩ (Upd.refl _ _)
  | false =>
    have e : m.arm n = { m with armed := max n 0 } := by simp [MD.arm, hd]
    rw [e] at hok ⊢
    have hb : Blk (w.setCell ⟨d, 2, none⟩ (.int .i64 (max n 0))) d (diskC { m with armed := max n 0 } v) 91 := hl.disk.set 2 _
    rw [hd] at c3
    by_cases hn : n < 0
    · have em : max n 0 = 0 := by omega
      rw [em] at hok hb ⊢
      have HOK := Lib.hid hok
      have HB := Lib.hid hb
      clear hl hok e hb hd em
      go_enter Try.func28, Try.ntmps28
      go_wp2
      go_end0
      exact DPost.same rfl ⟨v, ga, fs, HL.out.nums HB.out ((Upd.refl (fun b => b = d) w).setCell (p := ⟨d, 2, none⟩) (.inl rfl) _) rfl HOK.out, rfl⟩ (lay_upd_d ((Upd.refl (fun b => b = d) w).setCell (p := ⟨d, 2, none⟩) (.inl rfl) _))
    · have em : max n 0 = n := by omega
      rw [em] at hok hb ⊢
      have hn' : 0 ≤ n := by omega
      have HOK := Lib.hid hok
      have HB := Lib.hid hb
      clear hl hok e hb hd em hn
      go_enter Try.func28, Try.ntmps28
      go_wp2
      go_end0
      exact DPost.same rfl ⟨v, ga, fs, HL.out.nums HB.out ((Upd.refl (fun b => b = d) w).setCell (p := ⟨d, 2, none⟩) (.inl rfl) _) rfl HOK.out, rfl⟩ (lay_upd_d ((Upd.refl (fun b => b = d) w).setCell (p := ⟨d, 2, none⟩) (.inl rfl) _))
set_option maxHeartbeats 400000 in
theorem grow_any {w : World} {d : Nat} {m : MD} {S : Nat → Prop} (h : DiskRep w d m S) (hn : m.fs.length ≤ 1099511627775) (n : Int) :
    Calls Try.prog 65 #[.pointer (some ⟨d, 0, none⟩), .int .i64 n] w (DPost w d S (.bool (m.grow n).1) (m.grow n).2) := by
  have UC := used_rep h hn
  obtain ⟨v, ga, fs, hl, rfl⟩ := h
  have f0 := hl.disk.frozen 0
  have c0 : w.cell? ⟨d, 0, none⟩ = some (.int .i64 m.limit) := hl.disk.cell 0
  have HL := Lib.hid hl
  have UCH := Lib.hid UC
  have hok := hl.ok.grow n
  have hur := hl.ok.room
  have hl1 := hl.ok.lim1
  by_cases hbad : n < m.used ∨ 16777216 < n
  · have e : m.grow n = (false, m) := by simp only [MD.grow]; rw [if_pos hbad]
    rw [e]
    generalize m.used = U at *
    clear hl hok e UC
    rcases hbad with hb | hb
    · go_enter Try.func65, Try.ntmps65
      go_wp2_with (go_at_call 30; refine UCH.out.mono ?_; rintro e w' ⟨rfl, rfl⟩)
      go_ret
      exact DPost.same rfl ⟨v, ga, fs, HL.out, rfl⟩ (Upd.refl _ _)
    · have hb' : (U : Int) ≤ n := by omega
      go_enter Try.func65, Try.ntmps65
      go_wp2_with (go_at_call 30; refine UCH.out.mono ?_; rintro e w' ⟨rfl, rfl⟩)
      go_ret
      exact DPost.same rfl ⟨v, ga, fs, HL.out, rfl⟩ (Upd.refl _ _)
  · have e : m.grow n = (true, { m with limit := n }) := by simp only [MD.grow]; rw [if_neg hbad]
    rw [e] at hok ⊢
    have hb : Blk (w.setCell ⟨d, 0, none⟩ (.int .i64 n)) d (diskC { m with limit := n } v) 91 := hl.disk.set 0 _
    have h1 : (m.used : Int) ≤ n := by omega
    have h2 : n ≤ 16777216 := by omega
    have HOK := Lib.hid hok
    have HB := Lib.hid hb
    generalize m.used = U at *
    clear hl hok e UC hb hbad
    go_enter Try.func65, Try.ntmps65
    go_wp2_with (go_at_call 30; refine UCH.out.mono ?_; rintro e w' ⟨rfl, rfl⟩)
    go_ret
    exact DPost.same rfl ⟨v, ga, fs, HL.out.nums HB.out ((Upd.refl (fun b => b = d) _).setCell (p := ⟨d, 0, none⟩) (.inl rfl) _) rfl HOK.out, rfl⟩ (lay_upd_d ((Upd.refl (fun b => b = d) _).setCell (p := ⟨d, 0, none⟩) (.inl rfl) _))
def ReadPost (w : World) (o : Option MF) (e : Ending) (w' : World) : Prop :=
  match o with
  | none => e = .returned (.tuple #[.slice none 0 0, .bool false]) ∧ w' = w
  | some f => ∃ v ob, e = .returned (.tuple #[v, .bool true]) ∧ Own w' 5 1 v f.b.length (f.b.map bv) ob ∧ Below w.heap.size w w' ∧ ∀ g, ob = some g → w.heap.size ≤ g
theorem file_len {m : MD} (h : m.Ok) {f : MF} (hf : f ∈ m.fs) : f.b.length ≤ 16777216 := by
  have h1 := MD.usedL_drop h.rising (h.rising.get_of_mem hf)
  have h2 := h.room
  have h3 := h.lim1
  rw [MD.used_eq] at h2
  omega
set_option maxHeartbeats 400000 in
theorem read_any {w : World} {d : Nat} {m : MD} {S : Nat → Prop} (h : DiskRep w d m S) (hn : m.fs.length ≤ 1099511627775) (s : ByteArray) :
    Calls Try.prog 32 #[.pointer (some ⟨d, 0, none⟩), .string s] w (ReadPost w (m.get s.data.toList)) := by
  obtain ⟨v, ga, fs, hl, rfl⟩ := h
  have hfl : fs.length ≤ 1099511627776 := by have : fs.length = m.fs.length := by rw [hl.abs, List.length_map]
                                             omega
  cases hg : getL FM.key fs s.data.toList with
  | none =>
    rw [lay_getN hl hg]
    have FC := Lib.hid (file_none hl s hfl hg)
    clear hl hg
    go_enter Try.func32, Try.ntmps32
    go_wp2_with (go_at_call 84; refine FC.out.mono ?_; rintro e w' ⟨rfl, rfl⟩)
    go_ret2
    exact ⟨rfl, rfl⟩
  | some f =>
    rw [lay_getS hl hg]
    have FC := Lib.hid (file_some hl s hfl hg)
    have hfm := (get_mem hg).1
    have hfa := hl.files f hfm
    have hlen : f.b.length ≤ 16777216 := file_len hl.ok (f := f.abs) (by rw [hl.abs]; exact List.mem_map_of_mem hfm)
    have c1 : w.cell? ⟨f.p, 1, none⟩ = some f.v := hfa.blk.cell 1
    obtain ⟨fa, fc, hv, _, _⟩ := hfa.slice
    have CC := clone_any hfa.own.rd (bv_one _) (by omega)
    rw [hv] at c1 CC
    have CCH := Lib.hid CC
    have e : f.abs.b = f.b := rfl
    clear hl hg hfa CC hv
    go_enter Try.func32, Try.ntmps32
    go_wp2_with (first
      | (go_at_call 84; refine FC.out.mono ?_; rintro e w' ⟨rfl, rfl⟩)
      | (go_at_call 85; refine CCH.out.mono ?_; rintro e w1 ⟨v', ob', rfl, h1, h2, h3⟩; have H1 := Lib.hid h1; have H2 := Lib.hid h2; have H3 := Lib.hid h3; clear h1 h2 h3))
    go_ret2
    exact ⟨_, ob', rfl, H1.out, H2.out, H3.out⟩
set_option maxHeartbeats 400000 in
theorem synced_any {w : World} {d : Nat} {m : MD} {S : Nat → Prop} (h : DiskRep w d m S) (hn : m.fs.length ≤ 1099511627775) (s : ByteArray) :
    Calls Try.prog 71 #[.pointer (some ⟨d, 0, none⟩), .string s] w fun e w' => e = .returned (.int .i64 (((m.get s.data.toList).map MF.synced).getD 0 : Nat)) ∧ w' = w := by
  obtain ⟨v, ga, fs, hl, rfl⟩ := h
  have hfl : fs.length ≤ 1099511627776 := by have : fs.length = m.fs.length := by rw [hl.abs, List.length_map]
                                             omega
  cases hg : getL FM.key fs s.data.toList with
  | none =>
    rw [lay_getN hl hg]
    have FC := Lib.hid (file_none hl s hfl hg)
    clear hl hg
    go_enter Try.func71, Try.ntmps71
    go_wp2_with (go_at_call 84; refine FC.out.mono ?_; rintro e w' ⟨rfl, rfl⟩)
    go_ret
    exact ⟨rfl, rfl⟩
  | some f =>
    rw [lay_getS hl hg]
    have FC := Lib.hid (file_some hl s hfl hg)
    have hfa := hl.files f (get_mem hg).1
    have c1 : w.cell? ⟨f.p, 2, none⟩ = some (.int .i64 f.synced) := hfa.blk.cell 2
    clear hl hg hfa
    go_enter Try.func71, Try.ntmps71
    go_wp2_with (go_at_call 84; refine FC.out.mono ?_; rintro e w' ⟨rfl, rfl⟩)
    go_ret
    exact ⟨rfl, rfl⟩
end Go.Proofs.Ythgcdoahoechhaa
namespace Go.Proofs.Ythgcdoahoechhaa
open Go.RowKit
set_option maxRecDepth 100000
theorem infoStr : (Try.prog.info? 9).map (fun i => (i.zero, i.size, i.bytes)) = some (some (.string default), 1, 16) := by kernel_rfl
def strV (l : Bs) : Value := .string (bsv l)
def NamesRel (w : World) (fs : List FM) (k : Nat) (vo : Value) (wr : World) : Prop :=
  ∃ ob, Own wr 9 1 vo k ((fs.take k).map fun f => .string f.name) ob ∧ Below w.heap.size w wr ∧ ∀ g, ob = some g → w.heap.size ≤ g
set_option maxHeartbeats 1000000 in
theorem names_any {w : World} {d : Nat} {m : MD} {S : Nat → Prop} (h : DiskRep w d m S) (hn : m.fs.length ≤ 1099511627775) :
    Calls Try.prog 33 #[.pointer (some ⟨d, 0, none⟩)] w (RetNew w 9 1 m.fs.length (m.fs.map fun f => strV f.name)) := by
  obtain ⟨v, ga, fs, hl, rfl⟩ := h
  have hlen : m.fs.length = fs.length := by rw [hl.abs, List.length_map]
  have hmap : (m.fs.map fun f => strV f.name) = fs.map fun f => .string f.name := by rw [hl.abs, List.map_map]; rfl
  rw [hlen, hmap]
  have hfl : fs.length ≤ 1099511627776 := by omega
  have hc1 : w.cell? ⟨d, 1, none⟩ = some v := hl.disk.cell 1
  have H := Lib.hid hl
  clear hlen hmap hn
  rcases hl.arr.2 with ⟨rfl, h0, _⟩ | ⟨g, cap, cur, rfl, _, _, hcap, hcm, _⟩
  · have e : fs = [] := List.eq_nil_of_length_eq_zero h0
    subst e
    clear hl
    go_enter Try.func33, Try.ntmps33
    go_wp2
    refine wp_loop_rounds 1 ?_
    rw [rounds_succ]
    go_wp2_with fail
    go_ret
    exact ⟨_, _, rfl, Own.nil _ _ _, Below.refl _ _, fun g hg => by cases hg⟩
  · clear hl
    go_enter Try.func33, Try.ntmps33
    go_wp2
    go_loopw [3, 11] (fun vo vi wr => ∃ k : Nat, k ≤ fs.length ∧ vi = .int .i64 k ∧ NamesRel w fs k vo wr) (fun _ vi _ => fs.length - (intOf vi).toNat)
    case atStart => exact ⟨0, Nat.zero_le _, rfl, none, Own.nil _ _ _, Below.refl _ _, fun g hg => by cases hg⟩
    case round =>
      obtain ⟨k, hk, rfl, ob, h1, h2, h3⟩ := hrel
      have H1 := Lib.hid h1
      have H2 := Lib.hid h2
      have H3 := Lib.hid h3
      clear h1 h2 h3
      by_cases hlt : k < fs.length
      · have hl := H.out.upd (S := NoBlock) (Upd.of_below H2.out) (fun _ _ h => h)
        have c1 : wr.cell? ⟨g, k, none⟩ = some (.pointer (some ⟨(fs[k]).p, 0, none⟩)) := hl.arr.cellAt (by rw [List.getElem?_map, List.getElem?_eq_getElem hlt]; rfl)
        have c2 : wr.cell? ⟨(fs[k]).p, 0, none⟩ = some (.string (fs[k]).name) := (hl.files _ (List.getElem_mem hlt)).blk.cell 0
        have hs : (fs.take (k + 1)).map (fun f => Value.string f.name) = (fs.take k).map (fun f => Value.string f.name) ++ [.string (fs[k]).name] := by
          rw [List.take_succ_eq_append_getElem hlt, List.map_append]; rfl
        have HS := Lib.hid hs
        generalize (fs[k]).name = nm at *
        generalize (fs[k]).p = pp at *
        clear hl hs
        obtain ⟨va, vc, rfl⟩ := H1.out.shape
        go_wp2_with (at_builtin; refine wpList_append rfl _ _ _ rfl 9 1 16 _ Try.underlying62 infoStr rfl (by decide) k _ ob (H1.out.alloc _) 1 [.string nm] (rd_one (Blk.new _ _ _)) (by simp [Value.oneCell']) (by unfold maxLen; omega) (by omega) ?_
                     intro v' w2 ob' h2 h3 h4; have A2 := Lib.hid h2; have A3 := Lib.hid h3; have A4 := Lib.hid h4; clear h2 h3 h4)
        go_roundw
        case rel =>
          refine ⟨k + 1, by omega, by go_num, ob', ?_, ?_, ?_⟩
          · rw [HS.out]; exact A2.out
          · have hu : Upd (fun b => ob = some b) wr w2 := (((Upd.refl _ wr).alloc _).trans A3.out (fun b hb => .inl hb))
            exact Upd.toBelow ((Upd.of_below (S := NoBlock) H2.out).trans hu (fun b hb => .inr (H3.out b hb)))
          · exact fresh_of A4.out H3.out (Nat.le_trans H2.out.size (by simp))
        case measure => simp [intOf]; omega
      · obtain rfl : k = fs.length := by omega
        go_wp2
        go_ret
        have := H1.out
        rw [List.take_length] at this
        exact ⟨_, ob, rfl, this, H2.out, H3.out⟩
end Go.Proofs.Ythgcdoahoechhaa
namespace Go.Proofs.Ythgcdoahoechhaa
open Go.RowKit
set_option maxRecDepth 100000
def cutV (v : Value) (n : Nat) : Value := match v with | .slice a _ _ => .slice a n n | v => v
def crashF (keep : Int) (x : FM) : FM := { x with v := cutV x.v (MD.kept keep x.abs), b := x.b.take (MD.kept keep x.abs), synced := MD.kept keep x.abs }
def crashM (keep : Int) (f : MF) : MF := { f with b := f.b.take (MD.kept keep f), synced := MD.kept keep f }
def stepL {α : Type} (g : α → α) (l : List α) (k : Nat) : List α := (l.take k).map g ++ l.drop k
theorem set_at {α : Type} {key : α → Bs} {l : List α} (hr : Rising key l) {i : Nat} (hi : i < l.length) (g : α → α) : setL key l (key l[i]) g = l.take i ++ g l[i] :: l.drop (i + 1) := by
  have hx : l = l.take i ++ l[i] :: l.drop (i + 1) := by rw [List.getElem_cons_drop, List.take_append_drop]
  have h1 : ∀ x ∈ l.take i, key x ≠ key l[i] := fun x hx e => by
    obtain ⟨k, hk, rfl⟩ := List.mem_iff_getElem.1 hx
    rw [List.length_take] at hk
    rw [List.getElem_take] at e
    have := hr.key_inj (by omega) hi e
    omega
  have h2 : ∀ x ∈ l.drop (i + 1), key x ≠ key l[i] := fun x hx e => by
    obtain ⟨k, hk, rfl⟩ := List.mem_iff_getElem.1 hx
    rw [List.length_drop] at hk
    rw [List.getElem_drop] at e
    have := hr.key_inj (by omega) hi e
    omega
  have m1 : (l.take i).map (fun x => if key x = key l[i] then g x else x) = l.take i := by
    conv => rhs; rw [← List.map_id (l.take i)]
    exact List.map_congr_left fun x hx => by rw [if_neg (h1 x hx)]; rfl
  have m2 : (l.drop (i + 1)).map (fun x => if key x = key l[i] then g x else x) = l.drop (i + 1) := by
    conv => rhs; rw [← List.map_id (l.drop (i + 1))]
    exact List.map_congr_left fun x hx => by rw [if_neg (h2 x hx)]; rfl
  unfold setL
  generalize hs : key l[i] = s at *
  conv => lhs; rw [hx]
  rw [List.map_append, List.map_cons, m1, m2, if_pos hs]
theorem stepL_zero {α : Type} (g : α → α) (l : List α) : stepL g l 0 = l := by simp [stepL]
theorem stepL_all {α : Type} (g : α → α) (l : List α) : stepL g l l.length = l.map g := by simp [stepL]
theorem stepL_length {α : Type} (g : α → α) (l : List α) {k : Nat} (hk : k ≤ l.length) : (stepL g l k).length = l.length := by simp [stepL]; omega
theorem stepL_at {α : Type} (g : α → α) (l : List α) {k : Nat} (hk : k < l.length) : ∃ h : k < (stepL g l k).length, (stepL g l k)[k] = l[k] := by
  refine ⟨by rw [stepL_length g l (by omega)]; exact hk, ?_⟩
  simp only [stepL]
  rw [List.getElem_append_right (by simp; omega)]
  simp [Nat.min_eq_left (Nat.le_of_lt hk)]
theorem stepL_succ {α : Type} (g : α → α) (l : List α) {k : Nat} (hk : k < l.length) : stepL g l (k + 1) = (stepL g l k).take k ++ g l[k] :: (stepL g l k).drop (k + 1) := by
  have hlen : ((l.take k).map g).length = k := by simp; omega
  have e1 : (stepL g l k).take k = (l.take k).map g := by
    unfold stepL; exact List.take_left' hlen
  have e2 : (stepL g l k).drop (k + 1) = l.drop (k + 1) := by
    unfold stepL; rw [List.drop_append, hlen, List.drop_eq_nil_of_le (by omega), Nat.add_sub_cancel_left, List.nil_append, List.drop_drop]
  rw [e1, e2]
  unfold stepL
  rw [List.take_succ_eq_append_getElem hk, List.map_append, List.map_cons, List.map_nil, List.append_assoc]; rfl
theorem stepL_map {α β : Type} (φ : α → β) (g : α → α) (g' : β → β) (h : ∀ x, φ (g x) = g' (φ x)) (l : List α) (k : Nat) : (stepL g l k).map φ = stepL g' (l.map φ) k := by
  simp [stepL, List.map_take, List.map_drop, Function.comp_def, h]
theorem MD.Ok.step {m : MD} (h : m.Ok) (keep : Int) (k : Nat) : MD.Ok { m with fs := stepL (crashM keep) m.fs k } := by
  have hmem : ∀ f ∈ stepL (crashM keep) m.fs k, f ∈ m.fs ∨ ∃ x ∈ m.fs, f = crashM keep x := by
    intro f hf
    rcases List.mem_append.1 hf with hf | hf
    · obtain ⟨x, hx, rfl⟩ := List.mem_map.1 hf; exact .inr ⟨x, List.mem_of_mem_take hx, rfl⟩
    · exact .inl (List.mem_of_mem_drop hf)
  have hu : ∀ l : List MF, MD.usedL (l.map (crashM keep)) ≤ MD.usedL l := by
    intro l
    induction l with
    | nil => exact Nat.le_refl _
    | cons x l ih => rw [List.map_cons, MD.usedL_cons, MD.usedL_cons]; simp [crashM]; omega
  refine h.files _ (h.rising.of_keys ?_) ?_ ?_ ?_
  · rw [stepL_map MF.name (crashM keep) id (fun _ => rfl)]; simp [stepL]
  · have h1 := hu (m.fs.take k)
    have h2 := h.fill
    have h3 : MD.usedL m.fs = MD.usedL (m.fs.take k) + MD.usedL (m.fs.drop k) := by rw [← MD.usedL_append, List.take_append_drop]
    unfold stepL
    rw [MD.usedL_append]
    omega
  · intro f hf
    rcases hmem f hf with hf | ⟨x, hx, rfl⟩
    · exact h.names f hf
    · exact h.names x hx
  · intro f hf
    rcases hmem f hf with hf | ⟨x, hx, rfl⟩
    · exact h.synced f hf
    · have := MD.kept_le (keep := keep) (h.synced x hx)
      simp [crashM]; omega
def CrashRel (w : World) (d : Nat) (m : MD) (v : Value) (ga : Option Nat) (fs : List FM) (keep : Int) (k : Nat) (wr : World) : Prop :=
  Lay wr d { m with fs := (stepL (crashF keep) fs k).map FM.abs } v ga (stepL (crashF keep) fs k) ∧ Upd (DS d ga fs) w wr
theorem crash_step {w wr : World} {d : Nat} {m : MD} {v : Value} {ga : Option Nat} {fs : List FM} {keep : Int} {k : Nat} (hm : m.Ok) (habs : m.fs = fs.map FM.abs) (h1 : Lay wr d { m with fs := (stepL (crashF keep) fs k).map FM.abs } v ga (stepL (crashF keep) fs k)) (h2 : Upd (DS d ga fs) w wr) (hlt : k < fs.length)
    {fa : Option Addr} {fc nn : Nat} (hv : (fs[k]).v = .slice fa (fs[k]).b.length fc) (hnn : MD.kept keep (fs[k]).abs = nn) (nq : Nat) :
    CrashRel w d m v ga fs keep (k + 1) (((wr.drewN nq).setCell ⟨(fs[k]).p, 1, none⟩ (.slice fa nn nn)).setCell ⟨(fs[k]).p, 2, none⟩ (.int .i64 nn)) := by
  obtain ⟨hltk, hat⟩ := stepL_at (crashF keep) fs hlt
  have hr := h1.rising
  have hfm : fs[k] ∈ stepL (crashF keep) fs k := by rw [← hat]; exact List.getElem_mem hltk
  have hfa := h1.files _ hfm
  have hget : getL FM.key (stepL (crashF keep) fs k) (fs[k]).key = some fs[k] := hr.get_of_mem hfm
  have hset : setL FM.key (stepL (crashF keep) fs k) (fs[k]).key (crashF keep) = stepL (crashF keep) fs (k + 1) := by
    have := set_at hr hltk (crashF keep)
    rw [hat] at this
    rw [this, ← stepL_succ (crashF keep) fs hlt]
  have hkl : nn ≤ (fs[k]).b.length := by
    rw [← hnn]; exact MD.kept_le (h1.ok.synced (fs[k]).abs (List.mem_map_of_mem hfm))
  have hg : crashF keep fs[k] = { fs[k] with v := .slice fa nn nn, b := (fs[k]).b.take nn, synced := nn } := by
    unfold crashF; rw [hnn, hv]; rfl
  have hu : Upd (fun b => b = (fs[k]).p) wr (((wr.drewN nq).setCell ⟨(fs[k]).p, 1, none⟩ (.slice fa nn nn)).setCell ⟨(fs[k]).p, 2, none⟩ (.int .i64 nn)) :=
    (((Upd.refl (fun b => b = (fs[k]).p) wr).drewN nq).setCell (p := ⟨(fs[k]).p, 1, none⟩) (.inl rfl) _).setCell (p := ⟨(fs[k]).p, 2, none⟩) (.inl rfl) _
  have hown : Own (((wr.drewN nq).setCell ⟨(fs[k]).p, 1, none⟩ (.slice fa nn nn)).setCell ⟨(fs[k]).p, 2, none⟩ (.int .i64 nn)) 5 1 (.slice fa nn nn) nn (((fs[k]).b.take nn).map bv) (fs[k]).ob :=
    (((hfa.cutTo hkl hv).drewN nq).setOther (a := ⟨(fs[k]).p, 1, none⟩) (h1.p_ne_ob hfm hfm) _).setOther (a := ⟨(fs[k]).p, 2, none⟩) (h1.p_ne_ob hfm hfm) _
  have hnew : FileAt (((wr.drewN nq).setCell ⟨(fs[k]).p, 1, none⟩ (.slice fa nn nn)).setCell ⟨(fs[k]).p, 2, none⟩ (.int .i64 nn)) (crashF keep fs[k]) := by
    rw [hg]
    refine ⟨((hfa.blk.drewN nq).set 1 _).set 2 _, ?_⟩
    have e : ((fs[k]).b.take nn).length = nn := by simp; omega
    show Own _ _ _ _ ((fs[k]).b.take nn).length _ _
    rw [e]; exact hown
  have hok := MD.Ok.step hm keep (k + 1)
  have hmap : (stepL (crashF keep) fs (k + 1)).map FM.abs = stepL (crashM keep) m.fs (k + 1) := by rw [stepL_map FM.abs (crashF keep) (crashM keep) (fun _ => rfl), ← habs]
  rw [← hmap] at hok
  have hl := h1.setFile (m' := { m with fs := (stepL (crashF keep) fs (k + 1)).map FM.abs }) hget (crashF keep) (fun _ => rfl) (fun _ => rfl) hu (fun b hb => .inl hb) hnew (.inl rfl) rfl rfl rfl (by rw [hset]) hok
  rw [hset] at hl
  exact ⟨hl, h2.trans hu (fun b hb => .inl (by rw [hb]; exact .inr (.inr ⟨fs[k], List.getElem_mem hlt, .inl rfl⟩)))⟩
theorem stepL_DS (d : Nat) (ga : Option Nat) (fs : List FM) (keep : Int) (k : Nat) : ∀ b, DS d ga (stepL (crashF keep) fs k) b → DS d ga fs b := by
  rintro b (h | h | ⟨x, hx, h⟩)
  · exact .inl h
  · exact .inr (.inl h)
  · rcases List.mem_append.1 hx with hx | hx
    · obtain ⟨y, hy, rfl⟩ := List.mem_map.1 hx
      exact .inr (.inr ⟨y, List.mem_of_mem_take hy, h⟩)
    · exact .inr (.inr ⟨x, List.mem_of_mem_drop hx, h⟩)
theorem crash_end {w wr : World} {d : Nat} {m : MD} {v : Value} {ga : Option Nat} {fs : List FM} {keep : Int} (hm : m.Ok) (habs : m.fs = fs.map FM.abs) (h : CrashRel w d m v ga fs keep fs.length wr) :
    DPost w d (DS d ga fs) (.tuple #[]) (m.crash keep) (.returned (.tuple #[])) ((wr.setCell ⟨d, 2, none⟩ (.int .i64 0)).setCell ⟨d, 3, none⟩ (.bool false)) := by
  obtain ⟨h1, h2⟩ := h
  have hu : Upd (fun b => b = d) wr ((wr.setCell ⟨d, 2, none⟩ (.int .i64 0)).setCell ⟨d, 3, none⟩ (.bool false)) := ((Upd.refl (fun b => b = d) wr).setCell (p := ⟨d, 2, none⟩) (.inl rfl) _).setCell (p := ⟨d, 3, none⟩) (.inl rfl) _
  have e : (stepL (crashF keep) fs fs.length).map FM.abs = (m.crash keep).fs := by
    rw [stepL_map FM.abs (crashF keep) (crashM keep) (fun _ => rfl), ← habs, show fs.length = m.fs.length by rw [habs, List.length_map], stepL_all]; rfl
  refine ⟨rfl, DS d ga (stepL (crashF keep) fs fs.length), ⟨v, ga, _, h1.nums (m' := m.crash keep) ((h1.disk.set 2 _).set 3 _) hu e.symm (hm.crash keep), rfl⟩, h2.trans hu (fun b hb => .inl (by rw [hb]; exact .inl rfl)), fun b hb => .inl (stepL_DS d ga fs keep _ b hb)⟩
set_option maxHeartbeats 1000000 in
theorem crash_any {w : World} {d : Nat} {m : MD} {S : Nat → Prop} (h : DiskRep w d m S) (hn : m.fs.length ≤ 1099511627775) (keep : Int) (hk0 : -9223372036854775808 ≤ keep) (hk1 : keep ≤ 9223372036854775807) :
    Calls Try.prog 22 #[.pointer (some ⟨d, 0, none⟩), .int .i64 keep] w (DPost w d S (.tuple #[]) (m.crash keep)) := by
  obtain ⟨v, ga, fs, hl, rfl⟩ := h
  have hlen : m.fs.length = fs.length := by rw [hl.abs, List.length_map]
  have hfl : fs.length ≤ 1099511627776 := by omega
  have hc1 : w.cell? ⟨d, 1, none⟩ = some v := hl.disk.cell 1
  have H := Lib.hid hl
  clear hlen hn
  rcases hl.arr.2 with ⟨rfl, h0, _⟩ | ⟨g, cap, cur, rfl, _, _, hcap, hcm, _⟩
  · have e : fs = [] := List.eq_nil_of_length_eq_zero h0
    subst e
    have f2 := hl.disk.frozen 2
    have f3 := hl.disk.frozen 3
    have c2 : w.cell? ⟨d, 2, none⟩ = some (.int .i64 m.armed) := hl.disk.cell 2
    have c3 : w.cell? ⟨d, 3, none⟩ = some (.bool m.down) := hl.disk.cell 3
    clear hl
    go_enter Try.func22, Try.ntmps22
    go_wp2
    refine wp_loop_rounds 1 ?_
    rw [rounds_succ]
    go_wp2_with fail
    go_end0
    exact crash_end H.out.ok H.out.abs ⟨by have := H.out; rw [show (stepL (crashF keep) [] ([] : List FM).length) = [] from rfl, show ({ m with fs := ([] : List FM).map FM.abs } : MD) = m from by rw [← this.abs]]; exact this, Upd.refl _ _⟩
  · clear hl
    go_enter Try.func22, Try.ntmps22
    go_wp2
    go_loopw [12] (fun vi wr => ∃ k : Nat, k ≤ fs.length ∧ vi = .int .i64 k ∧ CrashRel w d m (.slice (some ⟨g, 0, none⟩) fs.length cap) ga fs keep k wr) (fun vi _ => fs.length - (intOf vi).toNat)
    case atStart => exact ⟨0, Nat.zero_le _, rfl, by rw [stepL_zero, ← H.out.abs]; exact H.out, Upd.refl _ _⟩
    case round =>
      obtain ⟨k, hk, rfl, h1, h2⟩ := hrel
      have H1 := Lib.hid h1
      have H2 := Lib.hid h2
      clear h1 h2
      by_cases hlt : k < fs.length
      · obtain ⟨hltk, hat⟩ := stepL_at (crashF keep) fs hlt
        have hfm : fs[k] ∈ stepL (crashF keep) fs k := by rw [← hat]; exact List.getElem_mem hltk
        have hfa := H1.out.files _ hfm
        have c1 : wr.cell? ⟨g, k, none⟩ = some (.pointer (some ⟨(fs[k]).p, 0, none⟩)) := by
          have := H1.out.arr
          rw [stepL_length _ _ hk] at this
          exact this.cellAt (by rw [List.getElem?_map, List.getElem?_eq_getElem hltk, hat]; rfl)
        obtain ⟨fa, fc, hv, hle, hfcm⟩ := hfa.slice
        have c2 : wr.cell? ⟨(fs[k]).p, 1, none⟩ = some (.slice fa (fs[k]).b.length fc) := by rw [← hv]; exact hfa.blk.cell 1
        have c3 : wr.cell? ⟨(fs[k]).p, 2, none⟩ = some (.int .i64 (fs[k]).synced) := hfa.blk.cell 2
        have f1 := hfa.blk.frozen 1
        have f2 := hfa.blk.frozen 2
        have hsy : (fs[k]).synced ≤ (fs[k]).b.length := H1.out.ok.synced (fs[k]).abs (List.mem_map_of_mem hfm)
        have hKEPT : MD.kept keep (fs[k]).abs = (fs[k]).synced + min keep.toNat ((fs[k]).b.length - (fs[k]).synced) := rfl
        have HK := Lib.hid hKEPT
        have HV := Lib.hid hv
        have HFM := Lib.hid hfm
        unfold maxLen at hfcm
        generalize hp : (fs[k]).p = pp at *
        generalize hsn : (fs[k]).synced = sn at *
        generalize hbl : (fs[k]).b.length = bl at *
        have HP := Lib.hid hp
        have HSN := Lib.hid hsn
        have HBL := Lib.hid hbl
        clear hp hsn hbl hfa hKEPT hv hat hfm
        have hsy' : (sn : Int) ≤ bl := by omega
        have hsub : IntKind.i64.wrap ((bl : Int) - sn) = (bl : Int) - sn := IntWalk.i64_in _ (by omega)
        by_cases hneg : keep < 0
        · have hz : ¬ ((bl : Int) - sn < 0) := by omega
          go_wp2
          go_quiet (fail)
          go_wp2
          refine ⟨⟨k + 1, by omega, by go_num, ?_⟩, by simp [intOf]; omega⟩
          have := crash_step H.out.ok H.out.abs H1.out H2.out hlt (nn := sn) (by rw [HBL.out]; exact HV.out) (by rw [HK.out]; omega) nq
          rw [HP.out] at this; exact this
        · by_cases hkp : keep ≤ (bl : Int) - sn
          · go_wp2
            go_quiet (fail)
            go_wp2
            refine ⟨⟨k + 1, by omega, by go_num, ?_⟩, by simp [intOf]; omega⟩
            rw [show ((sn : Int) + keep) = ((sn + keep.toNat : Nat) : Int) by omega, Int.toNat_natCast]
            have := crash_step H.out.ok H.out.abs H1.out H2.out hlt (nn := sn + keep.toNat) (by rw [HBL.out]; exact HV.out) (by rw [HK.out]; omega) nq
            rw [HP.out] at this; exact this
          · go_wp2
            go_quiet (fail)
            go_wp2
            refine ⟨⟨k + 1, by omega, by go_num, ?_⟩, by simp [intOf]; omega⟩
            rw [show ((sn : Int) + ((bl : Int) - sn)) = (bl : Int) by omega]
            have := crash_step H.out.ok H.out.abs H1.out H2.out hlt (nn := bl) (by rw [HBL.out]; exact HV.out) (by rw [HK.out]; omega) nq
            rw [HP.out] at this; exact this
      · obtain rfl : k = fs.length := by omega
        have f2 := H1.out.disk.frozen 2
        have f3 := H1.out.disk.frozen 3
        have c2 : wr.cell? ⟨d, 2, none⟩ = some (.int .i64 m.armed) := H1.out.disk.cell 2
        have c3 : wr.cell? ⟨d, 3, none⟩ = some (.bool m.down) := H1.out.disk.cell 3
        go_wp2
        go_end0
        exact crash_end H.out.ok H.out.abs ⟨H1.out, H2.out⟩
end Go.Proofs.Ythgcdoahoechhaa
namespace Go.Proofs.Ythgcdoahoechhaa
open Go.RowKit
set_option maxRecDepth 100000
structure At (w0 w : World) (d : Nat) (m : MD) (S : Nat → Prop) : Prop where
  rep : DiskRep w d m S
  since : ∀ b, S b → w0.heap.size ≤ b
  below : Below w0.heap.size w0 w
def AtPost (w0 : World) (d : Nat) (r : Value) (m : MD) (e : Ending) (w' : World) : Prop := e = .returned r ∧ ∃ S, At w0 w' d m S
namespace At
variable {w0 w : World} {d : Nat} {m : MD} {S : Nat → Prop}
theorem post {r : Value} {m' : MD} {e : Ending} {w' : World} (h : At w0 w d m S) (hp : DPost w d S r m' e w') : AtPost w0 d r m' e w' := by
  obtain ⟨he, S', h1, h2, h3⟩ := hp
  refine ⟨he, S', h1, fun b hb => ?_, ?_⟩
  · rcases h3 b hb with h' | h'
    · exact h.since b h'
    · exact Nat.le_trans h.below.size h'
  · exact Upd.toBelow ((Upd.of_below (S := NoBlock) h.below).trans h2 (fun b hb => .inr (h.since b hb)))
theorem mem (h : At w0 w d m S) {w' : World} (hb : Below w.heap.size w w') : At w0 w' d m S :=
  ⟨h.rep.below hb, h.since, h.below.trans (hb.mono h.below.size)⟩
theorem upd (h : At w0 w d m S) {T : Nat → Prop} {w' : World} (hu : Upd T w w') (h1 : ∀ b, S b → ¬ T b) (h2 : ∀ b, T b → w0.heap.size ≤ b) : At w0 w' d m S :=
  ⟨h.rep.upd hu h1, h.since, Upd.toBelow ((Upd.of_below (S := NoBlock) h.below).trans hu (fun b hb => .inr (h2 b hb)))⟩
theorem alloc (h : At w0 w d m S) (o : Obj) : At w0 (w.alloc o) d m S := h.mem ((Below.refl _ _).alloc (Nat.le_refl _) o)
theorem drew (h : At w0 w d m S) : At w0 w.drew d m S := h.mem (Below.refl _ _).drew
theorem drewN (h : At w0 w d m S) (n : Nat) : At w0 (w.drewN n) d m S := h.mem ⟨rfl, rfl, rfl, Nat.le_refl _, fun _ _ => rfl⟩
theorem ok (h : At w0 w d m S) : m.Ok := h.rep.ok
theorem lt (h : At w0 w d m S) {b : Nat} (hb : S b) : b < w.heap.size := h.rep.lt hb
end At
/-! ### small functions of the statements' packages -/
def within (n lo hi : Int) : Int := if lo ≤ n ∧ n ≤ hi then n else if n.tmod (hi - lo + 1) < 0 then lo + (n.tmod (hi - lo + 1) + hi - lo + 1) else lo + n.tmod (hi - lo + 1)
end Go.Proofs.Ythgcdoahoechhaa
