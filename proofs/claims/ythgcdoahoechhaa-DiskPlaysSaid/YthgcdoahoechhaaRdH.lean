/- Layer 3: do: each call is told as the document says. -/
import Derived.Test.YthgcdoahoechhaaRdG
set_option linter.unusedVariables false
set_option linter.unusedSimpArgs false
namespace Go.Proofs.Ythgcdoahoechhaa
namespace Am
open Go.RowKit
set_option maxRecDepth 100000
structure RdO (E : Nat → Option (Ent MD)) : Prop extends RdT E where
  rcreate : E 52 = some (.bc b_refCreate)
  rappend : E 54 = some (.bc b_refAppend)
  rsync : E 56 = some (.bc b_refSync)
  rcut : E 58 = some (.bc b_refCut)
  rrename : E 60 = some (.bc b_refRename)
  rremove : E 62 = some (.bc b_refRemove)
  rread : E 70 = some (.bc b_refRead)
  rnames : E 67 = some (.bc b_refNames)
  rarm : E 63 = some (.bc b_refArm)
  rcrash : E 64 = some (.bc b_refCrash)
  rgrow : E 66 = some (.bc b_refGrow)
  file : E 50 = some (.bc b_l3file)
  head : E 95 = some (.bc b_keepHead)
  cut : E 27 = some (.bc b_keepCut)
  within : E 12 = some (.bc b_Within)
  sames : E 68 = some (.bc b_sameStr)
  create : E 51 = some (.nat (n_name MD.create))
  append : E 53 = some (.nat n_append)
  sync : E 55 = some (.nat (n_name MD.sync))
  dcut : E 57 = some (.nat n_cut)
  rename : E 59 = some (.nat n_rename)
  remove : E 61 = some (.nat (n_name MD.remove))
  arm : E 28 = some (.nat (n_int i64ok MD.arm))
  crash : E 22 = some (.nat (n_int i64ok MD.crash))
  grow : E 65 = some (.nat n_grow)
  do_ : E 14 = some (.bc b_do3)
theorem put_len (l : List MF) (f : MF) : (putL MF.name l f).length ≤ l.length + 1 := by
  rw [(perm_put MF.name l f).length_eq, List.length_cons]
  have : (dropL MF.name l f.name).length ≤ l.length := List.length_filter_le ..
  omega
theorem drop_len (l : List MF) (s : Bs) : (dropL MF.name l s).length ≤ l.length := List.length_filter_le ..
theorem set_len (l : List MF) (s : Bs) (g : MF → MF) : (setL MF.name l s g).length = l.length := by unfold setL; rw [List.length_map]
section
variable {m : MD}
theorem nl_create (s : Bs) : (m.create s).2.fs.length ≤ m.fs.length + 1 := by
  have hc := count_fs m
  unfold MD.create
  split
  · simp
  · split
    · simp only [hc]; omega
    · simp only [hc]; exact put_len ..
theorem nl_append (s b : Bs) : (m.append s b).2.fs.length ≤ m.fs.length + 1 := by
  have hc := count_fs m
  unfold MD.append
  split
  · simp
  · split
    · simp only [hc]; omega
    · simp only [set_len]; omega
theorem nl_sync (s : Bs) : (m.sync s).2.fs.length ≤ m.fs.length + 1 := by
  have hc := count_fs m
  unfold MD.sync
  split
  · simp
  · split
    · simp only [hc]; omega
    · simp only [set_len]; omega
theorem nl_cut (s : Bs) (n : Int) : (m.cut s n).2.fs.length ≤ m.fs.length + 1 := by
  have hc := count_fs m
  unfold MD.cut
  split
  · simp
  · split
    · simp
    · split
      · simp only [hc]; omega
      · simp only [set_len]; omega
theorem nl_rename (s c : Bs) : (m.rename s c).2.fs.length ≤ m.fs.length + 1 := by
  have hc := count_fs m
  unfold MD.rename
  split
  · simp
  · split
    · simp
    · split
      · simp only [hc]; omega
      · exact Nat.le_trans (put_len ..) (Nat.succ_le_succ (drop_len m.fs s))
theorem nl_remove (s : Bs) : (m.remove s).2.fs.length ≤ m.fs.length + 1 := by
  have hc := count_fs m
  unfold MD.remove
  split
  · simp
  · split
    · simp only [hc]; omega
    · have := drop_len m.fs s
      simp only
      omega
theorem nl_arm (n : Int) : (m.arm n).fs.length ≤ m.fs.length + 1 := by unfold MD.arm; split <;> simp
theorem nl_crash (n : Int) : (m.crash n).fs.length ≤ m.fs.length + 1 := by unfold MD.crash; simp
theorem nl_grow (n : Int) : (m.grow n).2.fs.length ≤ m.fs.length + 1 := by unfold MD.grow; split <;> simp
end
theorem RS.ne_ob {h : Hp MD} {z n g : Nat} {v : AV} {cells : List AV} {x : MD} (a : RS h z v n cells) (o : Ob h g x) {k : Nat} (hk : blk v k) (e : k = g) : False := by
  subst e
  cases v <;> first | exact a.elim | exact hk.elim | skip
  obtain ⟨_, _, _, l, hl, _⟩ := a
  cases hk
  unfold rowOf at hl
  rw [o.get] at hl
  cases hl
theorem one_all6 {a b c d : Int} {s : List UInt8} {v : AV} (hv : v.one = true) : allOne [.int .i64 a, .int .i64 b, .int .i64 c, .int .i64 d, v, .str s] = true := by
  unfold allOne
  cases v <;> first | (cases hv; done) | rfl
section
variable {E : Nat → Option (Ent MD)}
theorem w_grow (hE : ∀ f e, E f = some e → e.plain) {f g : Nat} (hf : E f = some (.nat n_grow)) {x : MD} {h : Hp MD} (hg : Ob h g x) (hn : x.fs.length ≤ 1099511627775) (n : Int) :
    WF (lim E) f [.ptr g 0, .int .i64 n] h fun r h' => r = .bool (x.grow n).1 ∧ Ob h' g (x.grow n).2 ∧ Keep (OneB g) h h' := by
  have e : ∀ D, n_grow D [.ptr g 0, .int .i64 n] h = .ret (.bool (x.grow n).1) (h.put g (.obj (x.grow n).2)) := fun D => w_obj (fun g x => .ret (.bool (x.grow n).1) (h.put g (.obj (x.grow n).2))) hg hn
  refine ⟨⟨_, _, (lim_nat hE hf (D := lim E) (by rw [e]; intro q; cases q)).trans (e _), rfl, hg.put, Keep.put _ _ _ rfl⟩⟩
theorem v_beqt {X : Type} {e : En} {t : List AV} {h : Hp X} {x y : Od} {a : Bool} (hx : x.ev e t = .bool a) (hy : y.ev e t = .bool a) : (Mv.bin .eql .bool x y).ev e t h = some (.bool true) := by
  rw [v_beq hx hy]; simp
structure DoP (h : Hp MD) (g r : Nat) (m : MD) (h' : Hp MD) : Prop where
  out : ∃ m', m'.fs.length ≤ m.fs.length + 1 ∧ Ob h' g m' ∧ RD h' r m'
  keep : Keep (fun k => k = g ∨ r ≤ k) h h'
theorem do_fin {h0 h h1 h2 : Hp MD} {g r : Nat} {m m' : MD} (hgr : g < r) (K : Keep NoB h0 h) (k1 : Keep (OneB g) h h1) (k2 : Keep (FromB r) h1 h2) (hl : m'.fs.length ≤ m.fs.length + 1) (o : Ob h1 g m') (d : RD h2 r m') : DoP h0 g r m h2 :=
  ⟨⟨m', hl, o.keep k2 (fun q => by have q : r ≤ g := q; omega), d⟩, ((K.any (S := fun k => k = g ∨ r ≤ k)).trans k1 (fun k _ q => .inl q)).trans k2 (fun k _ q => .inr q)⟩
set_option maxHeartbeats 4000000 in
theorem do_ok (hE : ∀ f e, E f = some e → e.plain) (T : RdO E) {h : Hp MD} {g r : Nat} {m : MD} (hd : Ob h g m) (hr : RD h r m) (hgr : g < r) (hn : m.fs.length ≤ 900) {kd f0 g0 n0 : Int} {vb : AV} {b : List UInt8} {s : List UInt8} (hvb : RS h 1 vb b.length (b.map ub)) (hv : ∀ k, blk vb k → k < r) (hn0 : I64 n0) :
    WF (lim E) 14 [.ptr g 0, .ptr r 0, .agg [.int .i64 kd, .int .i64 f0, .int .i64 g0, .int .i64 n0, vb, .str s]] h fun x h' => x = .bool true ∧ DoP h g r m h' := by
  refine wf_bc hE T.do_ rfl ?_
  simp only [b_do3, List.map, getS]
  have hrl := hr.lt
  have h64a := hn0.1
  have h64b := hn0.2
  repeat first|(refine BG ?_;first|(refine BH ?_;first|(refine BI ?_;refine BM ?_)|(refine BJ ?_;first|refine BN ?_|refine BO ?_)|refine BP ?_)|(refine BK ?_;first|refine BS rfl rfl ?_|refine BT rfl rfl ?_|refine BU rfl ?_)|(refine BL ?_;first|refine BW (ef_box rfl (one_all6 hvb.one.2)) ?_|refine BQ ?_)|(refine BR ?_;try simp only [setS]))|refine AA ?_|refine AC ?_|refine AD ?_|refine AF rfl rfl ?_|refine AG rfl rfl ?_|refine AH ?_|refine AI ?_|refine AJ ?_|refine AK ?_|refine AL ?_|refine AM ?_|refine AN ?_|refine AO ?_|refine AP ?_|refine AQ rfl ?_|refine AR ?_|refine AS ?_|refine AT rfl ?_|refine AU rfl ?_
  have kp : Keep NoB h (h.push (.rw [.int .i64 kd, .int .i64 f0, .int .i64 g0, .int .i64 n0, vb, .str s])) := Keep.push _ _ _
  have bx : Bx (h.push (.rw [.int .i64 kd, .int .i64 f0, .int .i64 g0, .int .i64 n0, vb, .str s])) h.n [.int .i64 kd, .int .i64 f0, .int .i64 g0, .int .i64 n0, vb, .str s] := bx_push
  generalize h.push (.rw [.int .i64 kd, .int .i64 f0, .int .i64 g0, .int .i64 n0, vb, .str s]) = h1 at *
  repeat first|(refine BG ?_;first|(refine BH ?_;first|(refine BI ?_;refine BM ?_)|(refine BJ ?_;first|refine BN ?_|refine BO ?_)|refine BV (v_bx bx rfl rfl) ?_|refine BP ?_)|(refine BK ?_;first|refine BS rfl rfl ?_|refine BT rfl rfl ?_|refine BU rfl ?_)|(refine BL ?_;first|refine BQ ?_)|(refine BR ?_;try simp only [setS]))|(refine BX ?_;first|refine BY rfl ?_|(refine BZ ?_;refine CA ?_)|refine CB (v_bx bx rfl rfl) ?_|refine CC ?_|(refine CD ?_;try simp only [setS]))|refine AA ?_|refine AC ?_|refine AD ?_|refine AE ?_|refine AF rfl rfl ?_|refine AG rfl rfl ?_|refine AH ?_|refine AI ?_|refine AJ ?_|refine AK ?_|refine AL ?_|refine AM ?_|refine AN ?_|refine AO ?_|refine AP ?_|refine AQ rfl ?_|refine AR ?_|refine AS ?_|refine AT rfl ?_|refine AU rfl ?_
  refine wd_calls_e rfl ((file_ok hE T.file T.head f0 s).mono fun x h2 ⟨k2, e2⟩ => ?_)
  subst e2
  have bx2 := bx.up k2
  refine ⟨(by (try simp only [List.nil_append, List.cons_append]);repeat first|exact chk_nil|(apply chk_at;(focus exact rfl);first|exact pa_skp|(refine pa_mov ?_;first|exact (v_bx bx2 rfl rfl)|exact rfl))), ?_⟩
  repeat first|(refine BG ?_;first|(refine BH ?_;first|(refine BI ?_;refine BM ?_)|(refine BJ ?_;first|refine BN ?_|refine BO ?_)|refine BP ?_)|(refine BK ?_;first|refine BS rfl rfl ?_|refine BT rfl rfl ?_|refine BU rfl ?_)|(refine BL ?_;first|refine BQ ?_)|(refine BR ?_;try simp only [setS]))|(refine BX ?_;first|refine BY rfl ?_|(refine BZ ?_;refine CA ?_)|refine CC ?_|(refine CD ?_;try simp only [setS]))|refine AA ?_|refine AC ?_|refine AD ?_|refine AE ?_|refine AF rfl rfl ?_|refine AG rfl rfl ?_|refine AH ?_|refine AI ?_|refine AJ ?_|refine AK ?_|refine AL ?_|refine AM ?_|refine AN ?_|refine AO ?_|refine AP ?_|refine AQ rfl ?_|refine AR ?_|refine AS ?_|refine AT rfl ?_|refine AU rfl ?_
  refine wd_calls_e rfl ((file_ok hE T.file T.head g0 s).mono fun x h3 ⟨k3, e3⟩ => ?_)
  subst e3
  have bx3 := bx2.up k3
  have K3 := (kp.and k2).and k3
  refine ⟨chk_nil, ?_⟩
  repeat first|(refine BG ?_;first|(refine BH ?_;first|(refine BI ?_;refine BM ?_)|(refine BJ ?_;first|refine BN ?_|refine BO ?_)|refine BV (v_bx bx3 rfl rfl) ?_|refine BP ?_)|(refine BK ?_;first|refine BS rfl rfl ?_|refine BT rfl rfl ?_|refine BU rfl ?_)|(refine BL ?_;first|refine BQ ?_)|(refine BR ?_;try simp only [setS]))|(refine BX ?_;first|refine BY rfl ?_|(refine BZ ?_;refine CA ?_)|refine CB (v_bx bx3 rfl rfl) ?_|refine CC ?_|(refine CD ?_;try simp only [setS]))|refine AA ?_|refine AC ?_|refine AD ?_|refine AE ?_|refine AF rfl rfl ?_|refine AG rfl rfl ?_|refine AH ?_|refine AI ?_|refine AJ ?_|refine AK ?_|refine AL ?_|refine AM ?_|refine AN ?_|refine AO ?_|refine AP ?_|refine AQ rfl ?_|refine AR ?_|refine AS ?_|refine AT rfl ?_|refine AU rfl ?_
  refine wr_call_e rfl ((cut_ok hE T.cut (hvb.up K3) (n := 40) (by omega)).mono fun y h4 ⟨e4, c4, c5, _⟩ => ?_)
  subst e4
  have lf := fileF_len f0 s
  have lg := fileF_len g0 s
  generalize fileF f0 s = F at *
  generalize fileF g0 s = G at *
  have d3 := hd.up K3
  have r3 := hr.up K3
  have hbl : (b.take 40).length ≤ 1000000 := by have := List.length_take_le 40 b; omega
  have hne : ¬ OneB g h.n := fun q => by have q : h.n = g := q; omega
  by_cases q1 : kd = 1
  · repeat first|(refine BG ?_;first|(refine BH ?_;first|(refine BI ?_;refine BM ?_)|(refine BJ ?_;first|refine BN ?_|refine BO ?_)|refine BV (v_bx bx3 rfl rfl) ?_|refine BP ?_)|(refine BK ?_;first|refine BS rfl rfl ?_|refine BT rfl rfl ?_|refine BU rfl ?_)|(refine BL ?_;first|refine BQ ?_)|(refine BR ?_;try simp only [setS]))|refine AA ?_|refine AC ?_|refine AD ?_|refine AE ?_|refine AF rfl rfl ?_|refine AG rfl rfl ?_|refine AH ?_|refine AI ?_|refine AJ ?_|refine AK ?_|refine AL ?_|refine AM ?_|refine AN ?_|refine AO ?_|refine AP ?_|refine AQ rfl ?_|refine AR ?_|refine AS ?_|refine AT rfl ?_|refine AU rfl ?_
    refine wr_call_e rfl ((w_name hE T.create d3 (by omega) F).mono fun x h5 ⟨e5, o5, k5⟩ => ?_)
    repeat first|(refine BG ?_;first|(refine BH ?_;first|(refine BI ?_;refine BM ?_)|(refine BJ ?_;first|refine BN ?_|refine BO ?_)|refine BP ?_)|(refine BK ?_;first|refine BS rfl rfl ?_|refine BT rfl rfl ?_|refine BU rfl ?_)|(refine BL ?_;first|refine BQ ?_)|(refine BR ?_;try simp only [setS]))|refine AA ?_|refine AC ?_|refine AD ?_|refine AE ?_|refine AF rfl rfl ?_|refine AG rfl rfl ?_|refine AH ?_|refine AI ?_|refine AJ ?_|refine AK ?_|refine AL ?_|refine AM ?_|refine AN ?_|refine AO ?_|refine AP ?_|refine AQ rfl ?_|refine AR ?_|refine AS ?_|refine AT rfl ?_|refine AU rfl ?_
    refine wr_call_e rfl ((rcreate_ok hE T.toRdT T.rcreate (r3.keep k5 (fun k q _ => by have q : k = g := q; omega)) (by omega) F lf).mono fun x h6 ⟨e6, o6, k6⟩ => ?_)
    subst e5 e6
    repeat first|(refine BG ?_;first|(refine BH ?_;first|(refine BI ?_;refine BM ?_)|(refine BJ ?_;first|refine BN ?_|refine BO ?_)|refine BP ?_)|(refine BK ?_;first|refine BS rfl rfl ?_|refine BT rfl rfl ?_|refine BU rfl ?_)|(refine BL ?_;first|refine BQ ?_)|(refine BR ?_;try simp only [setS]))|refine AA ?_|refine AC ?_|refine AD ?_|refine AE ?_|refine AF rfl rfl ?_|refine AG rfl rfl ?_|refine AH ?_|refine AI ?_|refine AJ ?_|refine AK ?_|refine AL ?_|refine AM ?_|refine AN ?_|refine AO ?_|refine AP ?_|refine AQ rfl ?_|refine AR ?_|refine AS ?_|refine AT rfl ?_|refine AU rfl ?_
    exact ⟨rfl, do_fin hgr K3 k5 k6 (nl_create F) o5 o6⟩
  by_cases q2 : kd = 2
  · repeat first|(refine BG ?_;first|(refine BH ?_;first|(refine BI ?_;refine BM ?_)|(refine BJ ?_;first|refine BN ?_|refine BO ?_)|refine BV (v_bx bx3 rfl rfl) ?_|refine BP ?_)|(refine BK ?_;first|refine BS rfl rfl ?_|refine BT rfl rfl ?_|refine BU rfl ?_)|(refine BL ?_;first|refine BQ ?_)|(refine BR ?_;try simp only [setS]))|refine AA ?_|refine AC ?_|refine AD ?_|refine AE ?_|refine AF rfl rfl ?_|refine AG rfl rfl ?_|refine AH ?_|refine AI ?_|refine AJ ?_|refine AK ?_|refine AL ?_|refine AM ?_|refine AN ?_|refine AO ?_|refine AP ?_|refine AQ rfl ?_|refine AR ?_|refine AS ?_|refine AT rfl ?_|refine AU rfl ?_
    refine wr_call_e rfl ((w_append hE T.append d3 (by omega) F c4).mono fun x h5 ⟨e5, o5, k5⟩ => ?_)
    repeat first|(refine BG ?_;first|(refine BH ?_;first|(refine BI ?_;refine BM ?_)|(refine BJ ?_;first|refine BN ?_|refine BO ?_)|refine BP ?_)|(refine BK ?_;first|refine BS rfl rfl ?_|refine BT rfl rfl ?_|refine BU rfl ?_)|(refine BL ?_;first|refine BQ ?_)|(refine BR ?_;try simp only [setS]))|refine AA ?_|refine AC ?_|refine AD ?_|refine AE ?_|refine AF rfl rfl ?_|refine AG rfl rfl ?_|refine AH ?_|refine AI ?_|refine AJ ?_|refine AK ?_|refine AL ?_|refine AM ?_|refine AN ?_|refine AO ?_|refine AP ?_|refine AQ rfl ?_|refine AR ?_|refine AS ?_|refine AT rfl ?_|refine AU rfl ?_
    refine wr_call_e rfl ((rappend_ok hE T.toRdT T.rappend (r3.keep k5 (fun k q _ => by have q : k = g := q; omega)) (by omega) F (c4.keep k5 (fun k q z => by have z : k = g := z; exact c4.ne_ob d3 q z)) (fun k q => hv k (c5 k q)) hbl).mono fun x h6 ⟨e6, o6, k6⟩ => ?_)
    subst e5 e6
    repeat first|(refine BG ?_;first|(refine BH ?_;first|(refine BI ?_;refine BM ?_)|(refine BJ ?_;first|refine BN ?_|refine BO ?_)|refine BP ?_)|(refine BK ?_;first|refine BS rfl rfl ?_|refine BT rfl rfl ?_|refine BU rfl ?_)|(refine BL ?_;first|refine BQ ?_)|(refine BR ?_;try simp only [setS]))|refine AA ?_|refine AC ?_|refine AD ?_|refine AE ?_|refine AF rfl rfl ?_|refine AG rfl rfl ?_|refine AH ?_|refine AI ?_|refine AJ ?_|refine AK ?_|refine AL ?_|refine AM ?_|refine AN ?_|refine AO ?_|refine AP ?_|refine AQ rfl ?_|refine AR ?_|refine AS ?_|refine AT rfl ?_|refine AU rfl ?_
    exact ⟨rfl, do_fin hgr K3 k5 k6 (nl_append F _) o5 o6⟩
  by_cases q3 : kd = 3
  · repeat first|(refine BG ?_;first|(refine BH ?_;first|(refine BI ?_;refine BM ?_)|(refine BJ ?_;first|refine BN ?_|refine BO ?_)|refine BV (v_bx bx3 rfl rfl) ?_|refine BP ?_)|(refine BK ?_;first|refine BS rfl rfl ?_|refine BT rfl rfl ?_|refine BU rfl ?_)|(refine BL ?_;first|refine BQ ?_)|(refine BR ?_;try simp only [setS]))|refine AA ?_|refine AC ?_|refine AD ?_|refine AE ?_|refine AF rfl rfl ?_|refine AG rfl rfl ?_|refine AH ?_|refine AI ?_|refine AJ ?_|refine AK ?_|refine AL ?_|refine AM ?_|refine AN ?_|refine AO ?_|refine AP ?_|refine AQ rfl ?_|refine AR ?_|refine AS ?_|refine AT rfl ?_|refine AU rfl ?_
    refine wr_call_e rfl ((w_name hE T.sync d3 (by omega) F).mono fun x h5 ⟨e5, o5, k5⟩ => ?_)
    repeat first|(refine BG ?_;first|(refine BH ?_;first|(refine BI ?_;refine BM ?_)|(refine BJ ?_;first|refine BN ?_|refine BO ?_)|refine BP ?_)|(refine BK ?_;first|refine BS rfl rfl ?_|refine BT rfl rfl ?_|refine BU rfl ?_)|(refine BL ?_;first|refine BQ ?_)|(refine BR ?_;try simp only [setS]))|refine AA ?_|refine AC ?_|refine AD ?_|refine AE ?_|refine AF rfl rfl ?_|refine AG rfl rfl ?_|refine AH ?_|refine AI ?_|refine AJ ?_|refine AK ?_|refine AL ?_|refine AM ?_|refine AN ?_|refine AO ?_|refine AP ?_|refine AQ rfl ?_|refine AR ?_|refine AS ?_|refine AT rfl ?_|refine AU rfl ?_
    refine wr_call_e rfl ((rsync_ok hE T.toRdT T.rsync (r3.keep k5 (fun k q _ => by have q : k = g := q; omega)) (by omega) F).mono fun x h6 ⟨e6, o6, k6⟩ => ?_)
    subst e5 e6
    repeat first|(refine BG ?_;first|(refine BH ?_;first|(refine BI ?_;refine BM ?_)|(refine BJ ?_;first|refine BN ?_|refine BO ?_)|refine BP ?_)|(refine BK ?_;first|refine BS rfl rfl ?_|refine BT rfl rfl ?_|refine BU rfl ?_)|(refine BL ?_;first|refine BQ ?_)|(refine BR ?_;try simp only [setS]))|refine AA ?_|refine AC ?_|refine AD ?_|refine AE ?_|refine AF rfl rfl ?_|refine AG rfl rfl ?_|refine AH ?_|refine AI ?_|refine AJ ?_|refine AK ?_|refine AL ?_|refine AM ?_|refine AN ?_|refine AO ?_|refine AP ?_|refine AQ rfl ?_|refine AR ?_|refine AS ?_|refine AT rfl ?_|refine AU rfl ?_
    exact ⟨rfl, do_fin hgr K3 k5 k6 (nl_sync F) o5 o6⟩
  by_cases q4 : kd = 4
  · repeat first|(refine BG ?_;first|(refine BH ?_;first|(refine BI ?_;refine BM ?_)|(refine BJ ?_;first|refine BN ?_|refine BO ?_)|refine BV (v_bx bx3 rfl rfl) ?_|refine BP ?_)|(refine BK ?_;first|refine BS rfl rfl ?_|refine BT rfl rfl ?_|refine BU rfl ?_)|(refine BL ?_;first|refine BQ ?_)|(refine BR ?_;try simp only [setS]))|refine AA ?_|refine AC ?_|refine AD ?_|refine AF rfl rfl ?_|refine AG rfl rfl ?_|refine AH ?_|refine AI ?_|refine AJ ?_|refine AK ?_|refine AL ?_|refine AM ?_|refine AN ?_|refine AO ?_|refine AP ?_|refine AQ rfl ?_|refine AR ?_|refine AS ?_|refine AT rfl ?_|refine AU rfl ?_
    repeat first|(refine BG ?_;first|(refine BH ?_;first|(refine BI ?_;refine BM ?_)|(refine BJ ?_;first|refine BN ?_|refine BO ?_)|refine BV (v_bx bx3 rfl rfl) ?_|refine BP ?_)|(refine BK ?_;first|refine BS rfl rfl ?_|refine BT rfl rfl ?_|refine BU rfl ?_)|(refine BL ?_;first|refine BQ ?_)|(refine BR ?_;try simp only [setS]))|(refine BX ?_;first|refine BY rfl ?_|(refine BZ ?_;refine CA ?_)|refine CB (v_bx bx3 rfl rfl) ?_|refine CC ?_|(refine CD ?_;try simp only [setS]))|refine AA ?_|refine AC ?_|refine AD ?_|refine AE ?_|refine AF rfl rfl ?_|refine AG rfl rfl ?_|refine AH ?_|refine AI ?_|refine AJ ?_|refine AK ?_|refine AL ?_|refine AM ?_|refine AN ?_|refine AO ?_|refine AP ?_|refine AQ rfl ?_|refine AR ?_|refine AS ?_|refine AT rfl ?_|refine AU rfl ?_
    refine wd_calls_e rfl ((w_cut hE T.dcut d3 (by omega) F n0).mono fun x h5 ⟨e5, o5, k5⟩ => ?_)
    have bx5 := bx3.keep k5 hne
    refine ⟨(by (try simp only [List.nil_append, List.cons_append]);repeat first|exact chk_nil|(apply chk_at;(focus exact rfl);first|exact pa_skp|(refine pa_mov ?_;first|exact (v_bx bx5 rfl rfl)|exact rfl))), ?_⟩
    repeat first|(refine BG ?_;first|(refine BH ?_;first|(refine BI ?_;refine BM ?_)|(refine BJ ?_;first|refine BN ?_|refine BO ?_)|refine BP ?_)|(refine BK ?_;first|refine BS rfl rfl ?_|refine BT rfl rfl ?_|refine BU rfl ?_)|(refine BL ?_;first|refine BQ ?_)|(refine BR ?_;try simp only [setS]))|(refine BX ?_;first|refine BY rfl ?_|(refine BZ ?_;refine CA ?_)|refine CC ?_|(refine CD ?_;try simp only [setS]))|refine AA ?_|refine AC ?_|refine AD ?_|refine AE ?_|refine AF rfl rfl ?_|refine AG rfl rfl ?_|refine AH ?_|refine AI ?_|refine AJ ?_|refine AK ?_|refine AL ?_|refine AM ?_|refine AN ?_|refine AO ?_|refine AP ?_|refine AQ rfl ?_|refine AR ?_|refine AS ?_|refine AT rfl ?_|refine AU rfl ?_
    refine wd_calls_e rfl ((rcut_ok hE T.toRdT T.rcut (r3.keep k5 (fun k q _ => by have q : k = g := q; omega)) (by omega) F n0).mono fun x h6 ⟨e6, o6, k6⟩ => ?_)
    subst e5 e6
    refine ⟨chk_nil, ?_⟩
    repeat first|(refine BG ?_;first|(refine BH ?_;first|(refine BI ?_;refine BM ?_)|(refine BJ ?_;first|refine BN ?_|refine BO ?_)|refine BV (v_cmp rfl rfl (congrArg some (decide_eq_true rfl))) ?_|refine BV (v_beqt rfl rfl) ?_|refine BP ?_)|(refine BK ?_;first|refine BS rfl rfl ?_|refine BT rfl rfl ?_|refine BU rfl ?_)|(refine BL ?_;first|refine BQ ?_)|(refine BR ?_;try simp only [setS]))|(refine BX ?_;first|refine BY rfl ?_|(refine BZ ?_;refine CA ?_)|refine CB (v_cmp rfl rfl (congrArg some (decide_eq_true rfl))) ?_|refine CB (v_beqt rfl rfl) ?_|refine CC ?_|(refine CD ?_;try simp only [setS]))|refine AA ?_|refine AC ?_|refine AD ?_|refine AE ?_|refine AF rfl rfl ?_|refine AG rfl rfl ?_|refine AH ?_|refine AI ?_|refine AJ ?_|refine AK ?_|refine AL ?_|refine AM ?_|refine AN ?_|refine AO ?_|refine AP ?_|refine AQ rfl ?_|refine AR ?_|refine AS ?_|refine AT rfl ?_|refine AU rfl ?_
    exact ⟨rfl, do_fin hgr K3 k5 k6 (nl_cut F n0) o5 o6⟩
  by_cases q5 : kd = 5
  · repeat first|(refine BG ?_;first|(refine BH ?_;first|(refine BI ?_;refine BM ?_)|(refine BJ ?_;first|refine BN ?_|refine BO ?_)|refine BV (v_bx bx3 rfl rfl) ?_|refine BP ?_)|(refine BK ?_;first|refine BS rfl rfl ?_|refine BT rfl rfl ?_|refine BU rfl ?_)|(refine BL ?_;first|refine BQ ?_)|(refine BR ?_;try simp only [setS]))|refine AA ?_|refine AC ?_|refine AD ?_|refine AE ?_|refine AF rfl rfl ?_|refine AG rfl rfl ?_|refine AH ?_|refine AI ?_|refine AJ ?_|refine AK ?_|refine AL ?_|refine AM ?_|refine AN ?_|refine AO ?_|refine AP ?_|refine AQ rfl ?_|refine AR ?_|refine AS ?_|refine AT rfl ?_|refine AU rfl ?_
    refine wr_call_e rfl ((w_rename hE T.rename d3 (by omega) F G).mono fun x h5 ⟨e5, o5, k5⟩ => ?_)
    repeat first|(refine BG ?_;first|(refine BH ?_;first|(refine BI ?_;refine BM ?_)|(refine BJ ?_;first|refine BN ?_|refine BO ?_)|refine BP ?_)|(refine BK ?_;first|refine BS rfl rfl ?_|refine BT rfl rfl ?_|refine BU rfl ?_)|(refine BL ?_;first|refine BQ ?_)|(refine BR ?_;try simp only [setS]))|refine AA ?_|refine AC ?_|refine AD ?_|refine AE ?_|refine AF rfl rfl ?_|refine AG rfl rfl ?_|refine AH ?_|refine AI ?_|refine AJ ?_|refine AK ?_|refine AL ?_|refine AM ?_|refine AN ?_|refine AO ?_|refine AP ?_|refine AQ rfl ?_|refine AR ?_|refine AS ?_|refine AT rfl ?_|refine AU rfl ?_
    refine wr_call_e rfl ((rrename_ok hE T.toRdT T.rrename (r3.keep k5 (fun k q _ => by have q : k = g := q; omega)) (by omega) F G lg).mono fun x h6 ⟨e6, o6, k6⟩ => ?_)
    subst e5 e6
    repeat first|(refine BG ?_;first|(refine BH ?_;first|(refine BI ?_;refine BM ?_)|(refine BJ ?_;first|refine BN ?_|refine BO ?_)|refine BP ?_)|(refine BK ?_;first|refine BS rfl rfl ?_|refine BT rfl rfl ?_|refine BU rfl ?_)|(refine BL ?_;first|refine BQ ?_)|(refine BR ?_;try simp only [setS]))|refine AA ?_|refine AC ?_|refine AD ?_|refine AE ?_|refine AF rfl rfl ?_|refine AG rfl rfl ?_|refine AH ?_|refine AI ?_|refine AJ ?_|refine AK ?_|refine AL ?_|refine AM ?_|refine AN ?_|refine AO ?_|refine AP ?_|refine AQ rfl ?_|refine AR ?_|refine AS ?_|refine AT rfl ?_|refine AU rfl ?_
    exact ⟨rfl, do_fin hgr K3 k5 k6 (nl_rename F G) o5 o6⟩
  by_cases q6 : kd = 6
  · repeat first|(refine BG ?_;first|(refine BH ?_;first|(refine BI ?_;refine BM ?_)|(refine BJ ?_;first|refine BN ?_|refine BO ?_)|refine BV (v_bx bx3 rfl rfl) ?_|refine BP ?_)|(refine BK ?_;first|refine BS rfl rfl ?_|refine BT rfl rfl ?_|refine BU rfl ?_)|(refine BL ?_;first|refine BQ ?_)|(refine BR ?_;try simp only [setS]))|refine AA ?_|refine AC ?_|refine AD ?_|refine AE ?_|refine AF rfl rfl ?_|refine AG rfl rfl ?_|refine AH ?_|refine AI ?_|refine AJ ?_|refine AK ?_|refine AL ?_|refine AM ?_|refine AN ?_|refine AO ?_|refine AP ?_|refine AQ rfl ?_|refine AR ?_|refine AS ?_|refine AT rfl ?_|refine AU rfl ?_
    refine wr_call_e rfl ((w_name hE T.remove d3 (by omega) F).mono fun x h5 ⟨e5, o5, k5⟩ => ?_)
    repeat first|(refine BG ?_;first|(refine BH ?_;first|(refine BI ?_;refine BM ?_)|(refine BJ ?_;first|refine BN ?_|refine BO ?_)|refine BP ?_)|(refine BK ?_;first|refine BS rfl rfl ?_|refine BT rfl rfl ?_|refine BU rfl ?_)|(refine BL ?_;first|refine BQ ?_)|(refine BR ?_;try simp only [setS]))|refine AA ?_|refine AC ?_|refine AD ?_|refine AE ?_|refine AF rfl rfl ?_|refine AG rfl rfl ?_|refine AH ?_|refine AI ?_|refine AJ ?_|refine AK ?_|refine AL ?_|refine AM ?_|refine AN ?_|refine AO ?_|refine AP ?_|refine AQ rfl ?_|refine AR ?_|refine AS ?_|refine AT rfl ?_|refine AU rfl ?_
    refine wr_call_e rfl ((rremove_ok hE T.toRdT T.rremove (r3.keep k5 (fun k q _ => by have q : k = g := q; omega)) (by omega) F).mono fun x h6 ⟨e6, o6, k6⟩ => ?_)
    subst e5 e6
    repeat first|(refine BG ?_;first|(refine BH ?_;first|(refine BI ?_;refine BM ?_)|(refine BJ ?_;first|refine BN ?_|refine BO ?_)|refine BP ?_)|(refine BK ?_;first|refine BS rfl rfl ?_|refine BT rfl rfl ?_|refine BU rfl ?_)|(refine BL ?_;first|refine BQ ?_)|(refine BR ?_;try simp only [setS]))|refine AA ?_|refine AC ?_|refine AD ?_|refine AE ?_|refine AF rfl rfl ?_|refine AG rfl rfl ?_|refine AH ?_|refine AI ?_|refine AJ ?_|refine AK ?_|refine AL ?_|refine AM ?_|refine AN ?_|refine AO ?_|refine AP ?_|refine AQ rfl ?_|refine AR ?_|refine AS ?_|refine AT rfl ?_|refine AU rfl ?_
    exact ⟨rfl, do_fin hgr K3 k5 k6 (nl_remove F) o5 o6⟩
  by_cases q7 : kd = 7
  · repeat first|(refine BG ?_;first|(refine BH ?_;first|(refine BI ?_;refine BM ?_)|(refine BJ ?_;first|refine BN ?_|refine BO ?_)|refine BV (v_bx bx3 rfl rfl) ?_|refine BP ?_)|(refine BK ?_;first|refine BS rfl rfl ?_|refine BT rfl rfl ?_|refine BU rfl ?_)|(refine BL ?_;first|refine BQ ?_)|(refine BR ?_;try simp only [setS]))|refine AA ?_|refine AC ?_|refine AD ?_|refine AE ?_|refine AF rfl rfl ?_|refine AG rfl rfl ?_|refine AH ?_|refine AI ?_|refine AJ ?_|refine AK ?_|refine AL ?_|refine AM ?_|refine AN ?_|refine AO ?_|refine AP ?_|refine AQ rfl ?_|refine AR ?_|refine AS ?_|refine AT rfl ?_|refine AU rfl ?_
    refine wr_call_e rfl ((within_ok hE T.within hn0 (lo := -1) (hi := 9) (by omega) (by omega) (by omega)).mono fun z h7 ⟨e7, e8⟩ => ?_)
    subst e7 e8
    have hw := withinF_in (n := n0) (lo := -1) (hi := 9) (by omega)
    generalize withinF n0 (-1) 9 = j at *
    repeat first|(refine BG ?_;first|(refine BH ?_;first|(refine BI ?_;refine BM ?_)|(refine BJ ?_;first|refine BN ?_|refine BO ?_)|refine BP ?_)|(refine BK ?_;first|refine BS rfl rfl ?_|refine BT rfl rfl ?_|refine BU rfl ?_)|(refine BL ?_;first|refine BQ ?_)|(refine BR ?_;try simp only [setS]))|refine AA ?_|refine AC ?_|refine AD ?_|refine AE ?_|refine AF rfl rfl ?_|refine AG rfl rfl ?_|refine AH ?_|refine AI ?_|refine AJ ?_|refine AK ?_|refine AL ?_|refine AM ?_|refine AN ?_|refine AO ?_|refine AP ?_|refine AQ rfl ?_|refine AR ?_|refine AS ?_|refine AT rfl ?_|refine AU rfl ?_
    refine wr_call_e rfl ((w_int hE T.arm d3 (by omega) (n := j) (by omega)).mono fun x h5 ⟨e5, o5, k5⟩ => ?_)
    repeat first|(refine BG ?_;first|(refine BH ?_;first|(refine BI ?_;refine BM ?_)|(refine BJ ?_;first|refine BN ?_|refine BO ?_)|refine BP ?_)|(refine BK ?_;first|refine BS rfl rfl ?_|refine BT rfl rfl ?_|refine BU rfl ?_)|(refine BL ?_;first|refine BQ ?_)|(refine BR ?_;try simp only [setS]))|refine AA ?_|refine AC ?_|refine AD ?_|refine AE ?_|refine AF rfl rfl ?_|refine AG rfl rfl ?_|refine AH ?_|refine AI ?_|refine AJ ?_|refine AK ?_|refine AL ?_|refine AM ?_|refine AN ?_|refine AO ?_|refine AP ?_|refine AQ rfl ?_|refine AR ?_|refine AS ?_|refine AT rfl ?_|refine AU rfl ?_
    refine wr_call_e rfl ((rarm_ok hE T.rarm (r3.keep k5 (fun k q _ => by have q : k = g := q; omega)) (n := j) (by omega)).mono fun x h6 ⟨o6, k6⟩ => ?_)
    repeat first|(refine BG ?_;first|(refine BH ?_;first|(refine BI ?_;refine BM ?_)|(refine BJ ?_;first|refine BN ?_|refine BO ?_)|refine BP ?_)|(refine BK ?_;first|refine BS rfl rfl ?_|refine BT rfl rfl ?_|refine BU rfl ?_)|(refine BL ?_;first|refine BQ ?_)|(refine BR ?_;try simp only [setS]))|refine AA ?_|refine AC ?_|refine AD ?_|refine AE ?_|refine AF rfl rfl ?_|refine AG rfl rfl ?_|refine AH ?_|refine AI ?_|refine AJ ?_|refine AK ?_|refine AL ?_|refine AM ?_|refine AN ?_|refine AO ?_|refine AP ?_|refine AQ rfl ?_|refine AR ?_|refine AS ?_|refine AT rfl ?_|refine AU rfl ?_
    exact ⟨rfl, do_fin hgr K3 k5 k6 (nl_arm j) o5 o6⟩
  by_cases q8 : kd = 8
  · repeat first|(refine BG ?_;first|(refine BH ?_;first|(refine BI ?_;refine BM ?_)|(refine BJ ?_;first|refine BN ?_|refine BO ?_)|refine BV (v_bx bx3 rfl rfl) ?_|refine BP ?_)|(refine BK ?_;first|refine BS rfl rfl ?_|refine BT rfl rfl ?_|refine BU rfl ?_)|(refine BL ?_;first|refine BQ ?_)|(refine BR ?_;try simp only [setS]))|refine AA ?_|refine AC ?_|refine AD ?_|refine AE ?_|refine AF rfl rfl ?_|refine AG rfl rfl ?_|refine AH ?_|refine AI ?_|refine AJ ?_|refine AK ?_|refine AL ?_|refine AM ?_|refine AN ?_|refine AO ?_|refine AP ?_|refine AQ rfl ?_|refine AR ?_|refine AS ?_|refine AT rfl ?_|refine AU rfl ?_
    refine wr_call_e rfl ((w_int hE T.crash d3 (by omega) (n := n0) (by omega)).mono fun x h5 ⟨e5, o5, k5⟩ => ?_)
    have bx5 := bx3.keep k5 hne
    repeat first|(refine BG ?_;first|(refine BH ?_;first|(refine BI ?_;refine BM ?_)|(refine BJ ?_;first|refine BN ?_|refine BO ?_)|refine BV (v_bx bx5 rfl rfl) ?_|refine BP ?_)|(refine BK ?_;first|refine BS rfl rfl ?_|refine BT rfl rfl ?_|refine BU rfl ?_)|(refine BL ?_;first|refine BQ ?_)|(refine BR ?_;try simp only [setS]))|refine AA ?_|refine AC ?_|refine AD ?_|refine AE ?_|refine AF rfl rfl ?_|refine AG rfl rfl ?_|refine AH ?_|refine AI ?_|refine AJ ?_|refine AK ?_|refine AL ?_|refine AM ?_|refine AN ?_|refine AO ?_|refine AP ?_|refine AQ rfl ?_|refine AR ?_|refine AS ?_|refine AT rfl ?_|refine AU rfl ?_
    refine wr_call_e rfl ((rcrash_ok hE T.rcrash (r3.keep k5 (fun k q _ => by have q : k = g := q; omega)) (by omega) (keep := n0) (by omega) (by omega)).mono fun x h6 ⟨o6, k6⟩ => ?_)
    repeat first|(refine BG ?_;first|(refine BH ?_;first|(refine BI ?_;refine BM ?_)|(refine BJ ?_;first|refine BN ?_|refine BO ?_)|refine BP ?_)|(refine BK ?_;first|refine BS rfl rfl ?_|refine BT rfl rfl ?_|refine BU rfl ?_)|(refine BL ?_;first|refine BQ ?_)|(refine BR ?_;try simp only [setS]))|refine AA ?_|refine AC ?_|refine AD ?_|refine AE ?_|refine AF rfl rfl ?_|refine AG rfl rfl ?_|refine AH ?_|refine AI ?_|refine AJ ?_|refine AK ?_|refine AL ?_|refine AM ?_|refine AN ?_|refine AO ?_|refine AP ?_|refine AQ rfl ?_|refine AR ?_|refine AS ?_|refine AT rfl ?_|refine AU rfl ?_
    exact ⟨rfl, do_fin hgr K3 k5 k6 (nl_crash n0) o5 o6⟩
  by_cases q9 : kd = 9
  · repeat first|(refine BG ?_;first|(refine BH ?_;first|(refine BI ?_;refine BM ?_)|(refine BJ ?_;first|refine BN ?_|refine BO ?_)|refine BV (v_bx bx3 rfl rfl) ?_|refine BP ?_)|(refine BK ?_;first|refine BS rfl rfl ?_|refine BT rfl rfl ?_|refine BU rfl ?_)|(refine BL ?_;first|refine BQ ?_)|(refine BR ?_;try simp only [setS]))|refine AA ?_|refine AC ?_|refine AD ?_|refine AF rfl rfl ?_|refine AG rfl rfl ?_|refine AH ?_|refine AI ?_|refine AJ ?_|refine AK ?_|refine AL ?_|refine AM ?_|refine AN ?_|refine AO ?_|refine AP ?_|refine AQ rfl ?_|refine AR ?_|refine AS ?_|refine AT rfl ?_|refine AU rfl ?_
    repeat first|(refine BG ?_;first|(refine BH ?_;first|(refine BI ?_;refine BM ?_)|(refine BJ ?_;first|refine BN ?_|refine BO ?_)|refine BV (v_bx bx3 rfl rfl) ?_|refine BP ?_)|(refine BK ?_;first|refine BS rfl rfl ?_|refine BT rfl rfl ?_|refine BU rfl ?_)|(refine BL ?_;first|refine BQ ?_)|(refine BR ?_;try simp only [setS]))|(refine BX ?_;first|refine BY rfl ?_|(refine BZ ?_;refine CA ?_)|refine CB (v_bx bx3 rfl rfl) ?_|refine CC ?_|(refine CD ?_;try simp only [setS]))|refine AA ?_|refine AC ?_|refine AD ?_|refine AE ?_|refine AF rfl rfl ?_|refine AG rfl rfl ?_|refine AH ?_|refine AI ?_|refine AJ ?_|refine AK ?_|refine AL ?_|refine AM ?_|refine AN ?_|refine AO ?_|refine AP ?_|refine AQ rfl ?_|refine AR ?_|refine AS ?_|refine AT rfl ?_|refine AU rfl ?_
    refine wd_calls_e rfl ((w_grow hE T.grow d3 (by omega) n0).mono fun x h5 ⟨e5, o5, k5⟩ => ?_)
    have bx5 := bx3.keep k5 hne
    refine ⟨(by (try simp only [List.nil_append, List.cons_append]);repeat first|exact chk_nil|(apply chk_at;(focus exact rfl);first|exact pa_skp|(refine pa_mov ?_;first|exact (v_bx bx5 rfl rfl)|exact rfl))), ?_⟩
    repeat first|(refine BG ?_;first|(refine BH ?_;first|(refine BI ?_;refine BM ?_)|(refine BJ ?_;first|refine BN ?_|refine BO ?_)|refine BP ?_)|(refine BK ?_;first|refine BS rfl rfl ?_|refine BT rfl rfl ?_|refine BU rfl ?_)|(refine BL ?_;first|refine BQ ?_)|(refine BR ?_;try simp only [setS]))|(refine BX ?_;first|refine BY rfl ?_|(refine BZ ?_;refine CA ?_)|refine CC ?_|(refine CD ?_;try simp only [setS]))|refine AA ?_|refine AC ?_|refine AD ?_|refine AE ?_|refine AF rfl rfl ?_|refine AG rfl rfl ?_|refine AH ?_|refine AI ?_|refine AJ ?_|refine AK ?_|refine AL ?_|refine AM ?_|refine AN ?_|refine AO ?_|refine AP ?_|refine AQ rfl ?_|refine AR ?_|refine AS ?_|refine AT rfl ?_|refine AU rfl ?_
    refine wd_calls_e rfl ((rgrow_ok hE T.toRdT T.rgrow (r3.keep k5 (fun k q _ => by have q : k = g := q; omega)) (by omega) n0).mono fun x h6 ⟨e6, o6, k6⟩ => ?_)
    subst e5 e6
    refine ⟨chk_nil, ?_⟩
    repeat first|(refine BG ?_;first|(refine BH ?_;first|(refine BI ?_;refine BM ?_)|(refine BJ ?_;first|refine BN ?_|refine BO ?_)|refine BV (v_cmp rfl rfl (congrArg some (decide_eq_true rfl))) ?_|refine BV (v_beqt rfl rfl) ?_|refine BP ?_)|(refine BK ?_;first|refine BS rfl rfl ?_|refine BT rfl rfl ?_|refine BU rfl ?_)|(refine BL ?_;first|refine BQ ?_)|(refine BR ?_;try simp only [setS]))|(refine BX ?_;first|refine BY rfl ?_|(refine BZ ?_;refine CA ?_)|refine CB (v_cmp rfl rfl (congrArg some (decide_eq_true rfl))) ?_|refine CB (v_beqt rfl rfl) ?_|refine CC ?_|(refine CD ?_;try simp only [setS]))|refine AA ?_|refine AC ?_|refine AD ?_|refine AE ?_|refine AF rfl rfl ?_|refine AG rfl rfl ?_|refine AH ?_|refine AI ?_|refine AJ ?_|refine AK ?_|refine AL ?_|refine AM ?_|refine AN ?_|refine AO ?_|refine AP ?_|refine AQ rfl ?_|refine AR ?_|refine AS ?_|refine AT rfl ?_|refine AU rfl ?_
    exact ⟨rfl, do_fin hgr K3 k5 k6 (nl_grow n0) o5 o6⟩
  repeat first|(refine BG ?_;first|(refine BH ?_;first|(refine BI ?_;refine BM ?_)|(refine BJ ?_;first|refine BN ?_|refine BO ?_)|refine BV (v_bx bx3 rfl rfl) ?_|refine BP ?_)|(refine BK ?_;first|refine BS rfl rfl ?_|refine BT rfl rfl ?_|refine BU rfl ?_)|(refine BL ?_;first|refine BQ ?_)|(refine BR ?_;try simp only [setS]))|refine AA ?_|refine AC ?_|refine AD ?_|refine AE ?_|refine AF rfl rfl ?_|refine AG rfl rfl ?_|refine AH ?_|refine AI ?_|refine AJ ?_|refine AK ?_|refine AL ?_|refine AM ?_|refine AN ?_|refine AO ?_|refine AP ?_|refine AQ rfl ?_|refine AR ?_|refine AS ?_|refine AT rfl ?_|refine AU rfl ?_
  exact ⟨rfl, ⟨⟨m, by omega, d3, r3⟩, K3.any⟩⟩
end
end Am
end Go.Proofs.Ythgcdoahoechhaa
