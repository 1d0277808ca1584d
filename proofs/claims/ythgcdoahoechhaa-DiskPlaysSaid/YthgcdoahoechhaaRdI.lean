/- Layer 3: same: both disks are told alike. -/
import Derived.Test.YthgcdoahoechhaaRdH
set_option linter.unusedVariables false
set_option linter.unusedSimpArgs false
namespace Go.Proofs.Ythgcdoahoechhaa
namespace Am
open Go.RowKit
set_option maxRecDepth 100000
def b_same3 : BF := ⟨77, [0, 1, 4, 5, 7, 8, 9, 10, 11, 12, 35, 40, 41, 42, 43, 75], (.seq (.reg [.mk none (.slot 2) (.mov (.mv (.const (.bool false))))]) (.seq (.reg [.mk none (.env 13) (.mov (.mv (.slot 1))), .mk none (.env 14) (.call 67 [(.env 13)]), .mk none (.slot 3) (.mov (.mv (.env 14)))]) (.seq (.seq (.dreg [(.mk none (.env 15) (.mov (.mv (.slot 0))), []), (.mk none (.env 17) (.mov (.mv (.slot 3))), []), (.mk none (.env 16) (.call 33 [(.env 15)]), [1]), (.mk none (.env 18) (.call 68 [(.env 16), (.env 17)]), []), (.mk none (.env 19) (.mov (.notb (.env 18))), []), (.mk none (.env 20) (.mov (.mv (.env 19))), []), (.mk (some ((.env 20), false)) (.env 21) (.mov (.mv (.slot 0))), []), (.mk (some ((.env 20), false)) (.env 23) (.mov (.mv (.slot 1))), []), (.mk (some ((.env 20), false)) (.env 22) (.call 30 [(.env 21)]), [7]), (.mk (some ((.env 20), false)) (.env 24) (.call 69 [(.env 23)]), []), (.mk (some ((.env 20), false)) (.env 25) (.mov (.bin .neq .no (.env 22) (.env 24))), []), (.mk none (.env 26) (.mov (.pick (.env 20) (.const (.bool true)) (.env 25))), []), (.mk none (.env 27) (.mov (.mv (.env 26))), []), (.mk (some ((.env 27), false)) (.env 28) (.mov (.mv (.slot 0))), []), (.mk (some ((.env 27), false)) (.env 30) (.mov (.mv (.slot 1))), []), (.mk (some ((.env 27), false)) (.env 31) (.mov (.nilc (.env 30))), []), (.mk (some ((.env 27), false)) (.env 32) (.mov (.faddr 3 (.env 31))), []), (.mk (some ((.env 27), false)) (.env 33) (.mov (.ld1 (.env 32))), []), (.mk (some ((.env 27), false)) (.env 29) (.call 29 [(.env 28)]), [14, 15, 16, 17]), (.mk (some ((.env 27), false)) (.env 34) (.mov (.bin .neq .bool (.env 29) (.env 33))), []), (.mk none (.slot 10) (.mov (.pick (.env 27) (.const (.bool true)) (.env 34))), [])]) (.cond (.slot 10) (.seq (.reg [.mk none (.slot 2) (.mov (.mv (.const (.bool false))))]) .ret) .skip)) (.seq (.seq (.reg [.mk none (.env 36) (.eff (.bslice 1 0 [(.str [])] [])), .mk none (.env 37) (.mov (.mv (.slot 3))), .mk none (.env 38) (.eff (.append 1 16 (.env 36) (.env 37))), .mk none (.env 39) (.eff (.bslice 1 2 [(.str [])] [(0, 1, (.const (.str [97]))), (1, 1, (.const (.str [110, 111])))])), .mk none (.slot 11) (.eff (.append 1 16 (.env 38) (.env 39))), .mk none (.slot 12) (.mov (.lenv (.slot 11))), .mk none (.slot 13) (.mov (.mv (.const (.int .i64 0))))]) (.block 0 (.loop (.seq (.reg [.mk none (.slot 14) (.mov (.bin .lss .no (.slot 13) (.slot 12)))]) (.seq (.cond (.slot 14) .skip (.exit 0)) (.seq (.block 1 (.seq (.reg [.mk none (.env 44) (.mov (.iaddr 1 (.slot 11) (.slot 13))), .mk none (.env 45) (.mov (.ld1 (.env 44))), .mk none (.slot 4) (.mov (.mv (.env 45)))]) (.seq (.reg [.mk none (.env 47) (.mov (.mv (.slot 1))), .mk none (.env 48) (.mov (.mv (.slot 4))), .mk none (.env 49) (.call 70 [(.env 47), (.env 48)]), .mk none (.env 46) (.mov (.mv (.env 49))), .mk none (.env 50) (.mov (.ext 0 (.env 46))), .mk none (.env 51) (.mov (.ext 1 (.env 46))), .mk none (.env 52) (.mov (.ext 2 (.env 46))), .mk none (.slot 5) (.mov (.mv (.env 50))), .mk none (.slot 6) (.mov (.mv (.env 51))), .mk none (.slot 7) (.mov (.mv (.env 52)))]) (.seq (.reg [.mk none (.env 54) (.mov (.mv (.slot 0))), .mk none (.env 55) (.mov (.mv (.slot 4))), .mk none (.env 56) (.call 32 [(.env 54), (.env 55)]), .mk none (.env 53) (.mov (.mv (.env 56))), .mk none (.env 57) (.mov (.ext 0 (.env 53))), .mk none (.env 58) (.mov (.ext 1 (.env 53))), .mk none (.slot 8) (.mov (.mv (.env 57))), .mk none (.slot 9) (.mov (.mv (.env 58)))]) (.seq (.reg [.mk none (.env 59) (.mov (.mv (.slot 7))), .mk none (.env 60) (.mov (.mv (.slot 9))), .mk none (.env 61) (.mov (.bin .neq .bool (.env 59) (.env 60))), .mk none (.env 62) (.mov (.mv (.env 61))), .mk (some ((.env 62), false)) (.env 63) (.mov (.mv (.slot 5))), .mk (some ((.env 62), false)) (.env 64) (.mov (.b2s (.env 63))), .mk (some ((.env 62), false)) (.env 65) (.mov (.mv (.slot 8))), .mk (some ((.env 62), false)) (.env 66) (.mov (.b2s (.env 65))), .mk (some ((.env 62), false)) (.env 67) (.mov (.bin .neq .no (.env 64) (.env 66))), .mk none (.env 68) (.mov (.pick (.env 62) (.const (.bool true)) (.env 67))), .mk none (.env 69) (.mov (.mv (.env 68))), .mk (some ((.env 69), false)) (.env 70) (.mov (.mv (.slot 0))), .mk (some ((.env 69), false)) (.env 71) (.mov (.mv (.slot 4))), .mk (some ((.env 69), false)) (.env 72) (.call 71 [(.env 70), (.env 71)]), .mk (some ((.env 69), false)) (.env 73) (.mov (.mv (.slot 6))), .mk (some ((.env 69), false)) (.env 74) (.mov (.bin .neq .no (.env 72) (.env 73))), .mk none (.slot 15) (.mov (.pick (.env 69) (.const (.bool true)) (.env 74)))]) (.cond (.slot 15) (.seq (.reg [.mk none (.slot 2) (.mov (.mv (.const (.bool false))))]) .ret) .skip)))))) (.reg [.mk none (.env 76) (.mov (.bin .add .no (.slot 13) (.const (.int .i64 1)))), .mk none (.slot 13) (.mov (.mv (.env 76)))]))))))) (.seq (.reg [.mk none (.slot 2) (.mov (.mv (.const (.bool true))))]) .ret))))), [.slot (.slot 2)]⟩
structure RdS (E : Nat → Option (Ent MD)) : Prop extends RdO E where
  names : E 33 = some (.nat n_names)
  used_ : E 30 = some (.nat n_used)
  down : E 29 = some (.nat n_down)
  synced : E 71 = some (.nat n_synced)
  dread : E 32 = some (.nat n_read)
  same : E 15 = some (.bc b_same3)
theorem v_bnef {X : Type} {e : En} {t : List AV} {h : Hp X} {x y : Od} {a : Bool} (hx : x.ev e t = .bool a) (hy : y.ev e t = .bool a) : (Mv.bin .neq .bool x y).ev e t h = some (.bool false) := by
  rw [v_bne hx hy]; simp
section
variable {E : Nat → Option (Ent MD)}
theorem wr_app_s {D : Dp MD} {l : List St1} {e : En} {t : List AV} {h : Hp MD} {Q : R MD → Prop} {k z by' : Nat} {x y : Od} {v w : AV} {n m : Nat} {cells vs : List AV} (hx : x.ev e t = v) (hy : y.ev e t = w) (ho : OS h z v n cells) (hz : 0 < z) (hw : RS h z w m vs) (h1 : (n + m) * by' ≤ 140737488355328) (h2 : n + m ≤ maxLen)
    (H : ∀ v' h', OS h' z v' (n + m) (cells ++ vs) → Keep (blk v) h h' → (∀ g, blk v' g → blk v g ∨ h.n ≤ g) → WR D l e (setS t k v') h' Q) : WR D (.mk none (.slot k) (.eff (.append z by' x y)) :: l) e t h Q := by
  obtain ⟨v', h', e1, e2, e3, e4⟩ := ho.app hz hw.len h1 h2
  exact wr_eff_s (by simp only [Ef.ev, hy, hw.elems, hx, e1]) rfl (H v' h' e2 e3 e4)
theorem rused_rd (hE : ∀ f e, E f = some e → e.plain) (T : RdT E) {h : Hp MD} {r : Nat} {m : MD} (a : RD h r m) (hn : m.fs.length ≤ 999) : WF (lim E) 69 [.ptr r 0] h fun x h' => h' = h ∧ x = .int .i64 (m.used : Nat) := by
  obtain ⟨v, qs, hb, hl, hp⟩ := a.out
  have hus : qsum qs = m.used := q_used hp
  have hro := a.ok.room
  have hl1 := a.ok.lim1
  have hlen := q_len hp
  rw [← hus]
  exact rused_ok hE T.used hb hl (by omega) (by omega)
set_option maxHeartbeats 4000000 in
theorem same_d_ok (hE : ∀ f e, E f = some e → e.plain) (T : RdS E) {h : Hp MD} {g r : Nat} {m : MD} (hd : Ob h g m) (hr : RD h r m) (hn : m.fs.length ≤ 900) :
    WF (lim E) 15 [.ptr g 0, .ptr r 0] h fun x h' => x = .bool true ∧ Keep NoB h h' := by
  have hmx : (maxLen : Nat) = 9223372036854775807 := rfl
  refine wf_bc hE T.same rfl ?_
  simp only [b_same3, List.map, getS]
  repeat first|(refine BG ?_;first|(refine BH ?_;first|(refine BI ?_;refine BM ?_)|(refine BJ ?_;first|refine BN ?_|refine BO ?_)|refine BP ?_)|(refine BK ?_;first|refine BS rfl rfl ?_|refine BT rfl rfl ?_|refine BU rfl ?_)|(refine BL ?_;first|refine BQ ?_)|(refine BR ?_;try simp only [setS]))|refine AA ?_|refine AC ?_|refine AD ?_|refine AE ?_|refine AF rfl rfl ?_|refine AG rfl rfl ?_|refine AH ?_|refine AI ?_|refine AJ ?_|refine AK ?_|refine AL ?_|refine AM ?_|refine AN ?_|refine AO ?_|refine AP ?_|refine AQ rfl ?_|refine AR ?_|refine AS ?_|refine AT rfl ?_|refine AU rfl ?_
  refine wr_call_e rfl ((rnames_ok hE T.rnames hr (by omega)).mono fun vn h1 ⟨k1, n1, lo1⟩ => ?_)
  have d1 := hd.up k1
  have r1 := hr.up k1
  repeat first|(refine BG ?_;first|(refine BH ?_;first|(refine BI ?_;refine BM ?_)|(refine BJ ?_;first|refine BN ?_|refine BO ?_)|refine BP ?_)|(refine BK ?_;first|refine BS rfl rfl ?_|refine BT rfl rfl ?_|refine BU rfl ?_)|(refine BL ?_;first|refine BQ ?_)|(refine BR ?_;try simp only [setS]))|refine AA ?_|refine AC ?_|refine AD ?_|refine AF rfl rfl ?_|refine AG rfl rfl ?_|refine AH ?_|refine AI ?_|refine AJ ?_|refine AK ?_|refine AL ?_|refine AM ?_|refine AN ?_|refine AO ?_|refine AP ?_|refine AQ rfl ?_|refine AR ?_|refine AS ?_|refine AT rfl ?_|refine AU rfl ?_
  repeat first|(refine BG ?_;first|(refine BH ?_;first|(refine BI ?_;refine BM ?_)|(refine BJ ?_;first|refine BN ?_|refine BO ?_)|refine BP ?_)|(refine BK ?_;first|refine BS rfl rfl ?_|refine BT rfl rfl ?_|refine BU rfl ?_)|(refine BL ?_;first|refine BQ ?_)|(refine BR ?_;try simp only [setS]))|(refine BX ?_;first|refine BY rfl ?_|(refine BZ ?_;refine CA ?_)|refine CC ?_|(refine CD ?_;try simp only [setS]))|refine AA ?_|refine AC ?_|refine AD ?_|refine AE ?_|refine AF rfl rfl ?_|refine AG rfl rfl ?_|refine AH ?_|refine AI ?_|refine AJ ?_|refine AK ?_|refine AL ?_|refine AM ?_|refine AN ?_|refine AO ?_|refine AP ?_|refine AQ rfl ?_|refine AR ?_|refine AS ?_|refine AT rfl ?_|refine AU rfl ?_
  refine wd_calls_e rfl ((w_names hE T.names d1 (by omega)).mono fun x h2 ⟨k2, n2, _⟩ => ?_)
  have e2 : (m.fs.map fun f => AV.str f.name) = strs (m.fs.map MF.name) := by unfold strs; rw [List.map_map]; rfl
  rw [e2] at n2
  refine ⟨(by (try simp only [List.nil_append, List.cons_append]);repeat first|exact chk_nil|(apply chk_at;(focus exact rfl);first|exact pa_skp|(refine pa_mov ?_;first|exact rfl))), ?_⟩
  repeat first|(refine BG ?_;first|(refine BH ?_;first|(refine BI ?_;refine BM ?_)|(refine BJ ?_;first|refine BN ?_|refine BO ?_)|refine BP ?_)|(refine BK ?_;first|refine BS rfl rfl ?_|refine BT rfl rfl ?_|refine BU rfl ?_)|(refine BL ?_;first|refine BQ ?_)|(refine BR ?_;try simp only [setS]))|(refine BX ?_;first|refine BY rfl ?_|(refine BZ ?_;refine CA ?_)|refine CC ?_|(refine CD ?_;try simp only [setS]))|refine AA ?_|refine AC ?_|refine AD ?_|refine AE ?_|refine AF rfl rfl ?_|refine AG rfl rfl ?_|refine AH ?_|refine AI ?_|refine AJ ?_|refine AK ?_|refine AL ?_|refine AM ?_|refine AN ?_|refine AO ?_|refine AP ?_|refine AQ rfl ?_|refine AR ?_|refine AS ?_|refine AT rfl ?_|refine AU rfl ?_
  refine wd_calls_e rfl ((sames_ok hE T.sames n2 (n1.up k2) (by omega)).mono fun y h3 ⟨e3, e4⟩ => ?_)
  subst e3 e4
  refine ⟨chk_nil, ?_⟩
  have d2 := d1.up k2
  have r2 := r1.up k2
  obtain ⟨v, qs, bq, _, _⟩ := r2.out
  repeat first|(refine BG ?_;first|(refine BH ?_;first|(refine BI ?_;refine BM ?_)|(refine BJ ?_;first|refine BN ?_|refine BO ?_)|refine BP ?_)|(refine BK ?_;first|refine BS rfl rfl ?_|refine BT rfl rfl ?_|refine BU rfl ?_)|(refine BL ?_;first|refine BQ ?_)|(refine BR ?_;try simp only [setS]))|(refine BX ?_;first|refine BY rfl ?_|(refine BZ ?_;refine CA ?_)|refine CC ?_|(refine CD ?_;try simp only [setS]))|refine AA ?_|refine AC ?_|refine AD ?_|refine AE ?_|refine AF rfl rfl ?_|refine AG rfl rfl ?_|refine AH ?_|refine AI ?_|refine AJ ?_|refine AK ?_|refine AL ?_|refine AM ?_|refine AN ?_|refine AO ?_|refine AP ?_|refine AQ rfl ?_|refine AR ?_|refine AS ?_|refine AT rfl ?_|refine AU rfl ?_
  refine wd_calls_e rfl ((w_used hE T.used_ d2 (by omega)).mono fun y h4 ⟨e3, e4⟩ => ?_)
  subst e3 e4
  refine ⟨(by (try simp only [List.nil_append, List.cons_append]);repeat first|exact chk_nil|(apply chk_at;(focus exact rfl);first|exact pa_skp|(refine pa_mov ?_;first|exact rfl))), ?_⟩
  repeat first|(refine BG ?_;first|(refine BH ?_;first|(refine BI ?_;refine BM ?_)|(refine BJ ?_;first|refine BN ?_|refine BO ?_)|refine BP ?_)|(refine BK ?_;first|refine BS rfl rfl ?_|refine BT rfl rfl ?_|refine BU rfl ?_)|(refine BL ?_;first|refine BQ ?_)|(refine BR ?_;try simp only [setS]))|(refine BX ?_;first|refine BY rfl ?_|(refine BZ ?_;refine CA ?_)|refine CC ?_|(refine CD ?_;try simp only [setS]))|refine AA ?_|refine AC ?_|refine AD ?_|refine AE ?_|refine AF rfl rfl ?_|refine AG rfl rfl ?_|refine AH ?_|refine AI ?_|refine AJ ?_|refine AK ?_|refine AL ?_|refine AM ?_|refine AN ?_|refine AO ?_|refine AP ?_|refine AQ rfl ?_|refine AR ?_|refine AS ?_|refine AT rfl ?_|refine AU rfl ?_
  refine wd_calls_e rfl ((rused_rd hE T.toRdT r2 (by omega)).mono fun y h5 ⟨e3, e4⟩ => ?_)
  subst e3 e4
  refine ⟨chk_nil, ?_⟩
  repeat first|(refine BG ?_;first|(refine BH ?_;first|(refine BI ?_;refine BM ?_)|(refine BJ ?_;first|refine BN ?_|refine BO ?_)|refine BV (v_bx bq rfl rfl) ?_|refine BP ?_)|(refine BK ?_;first|refine BS rfl rfl ?_|refine BT rfl rfl ?_|refine BU rfl ?_)|(refine BL ?_;first|refine BQ ?_)|(refine BR ?_;try simp only [setS]))|(refine BX ?_;first|refine BY rfl ?_|(refine BZ ?_;refine CA ?_)|refine CB (v_bx bq rfl rfl) ?_|refine CC ?_|(refine CD ?_;try simp only [setS]))|refine AA ?_|refine AC ?_|refine AD ?_|refine AE ?_|refine AF rfl rfl ?_|refine AG rfl rfl ?_|refine AH ?_|refine AI ?_|refine AJ ?_|refine AK ?_|refine AL ?_|refine AM ?_|refine AN ?_|refine AO ?_|refine AP ?_|refine AQ rfl ?_|refine AR ?_|refine AS ?_|refine AT rfl ?_|refine AU rfl ?_
  refine wd_calls_e rfl ((w_down hE T.down d2 (by omega)).mono fun y h6 ⟨e3, e4⟩ => ?_)
  subst e3 e4
  refine ⟨(by (try simp only [List.nil_append, List.cons_append]);repeat first|exact chk_nil|(apply chk_at;(focus exact rfl);first|exact pa_skp|(refine pa_mov ?_;first|exact (v_bx bq rfl rfl)|exact rfl))), ?_⟩
  repeat first|(refine BG ?_;first|(refine BH ?_;first|(refine BI ?_;refine BM ?_)|(refine BJ ?_;first|refine BN ?_|refine BO ?_)|refine BV (v_bnef rfl rfl) ?_|refine BP ?_)|(refine BK ?_;first|refine BS rfl rfl ?_|refine BT rfl rfl ?_|refine BU rfl ?_)|(refine BL ?_;first|refine BQ ?_)|(refine BR ?_;try simp only [setS]))|(refine BX ?_;first|refine BY rfl ?_|(refine BZ ?_;refine CA ?_)|refine CB (v_bnef rfl rfl) ?_|refine CC ?_|(refine CD ?_;try simp only [setS]))|refine AA ?_|refine AC ?_|refine AD ?_|refine AE ?_|refine AF rfl rfl ?_|refine AG rfl rfl ?_|refine AH ?_|refine AI ?_|refine AJ ?_|refine AK ?_|refine AL ?_|refine AM ?_|refine AN ?_|refine AO ?_|refine AP ?_|refine AQ rfl ?_|refine AR ?_|refine AS ?_|refine AT rfl ?_|refine AU rfl ?_
  refine wr_heap (h' := h6.push (.rw [])) rfl ?_
  have kp : Keep NoB h6 (h6.push (.rw [])) := Keep.push _ _ _
  have oz : OS (h6.push (.rw [])) 1 (.slice 1 h6.n 0 0 (some 0)) 0 [] := ⟨rfl, rfl, Nat.zero_lt_one, Nat.lt_succ_self _, [], Hp.push_self _ _, by simp, by simp, by simp⟩
  refine wr_app_e rfl rfl oz Nat.zero_lt_one ((n1.up k2).up kp) (by omega) (by omega) fun y h7 a1 a2 a3 => ?_
  rw [Nat.zero_add, List.nil_append] at a1
  have K7 : Keep NoB h6 h7 := kp.own a2 (fun k q => by have q : k = h6.n := q; omega)
  have lo7 : ∀ k, blk y k → h6.n ≤ k := fun k q => by
    rcases a3 k q with q | q
    · have q : k = h6.n := q; omega
    · simp only [push_n] at q; omega
  repeat first|(refine BG ?_;first|(refine BH ?_;first|(refine BI ?_;refine BM ?_)|(refine BJ ?_;first|refine BN ?_|refine BO ?_)|refine BP ?_)|(refine BK ?_;first|refine BS rfl rfl ?_|refine BT rfl rfl ?_|refine BU rfl ?_)|(refine BL ?_;first|refine BW (ef_bs2 rfl rfl ⟨rfl, rfl⟩ ⟨rfl, rfl⟩) ?_|refine BQ ?_)|(refine BR ?_;try simp only [setS]))|refine AA ?_|refine AC ?_|refine AD ?_|refine AE ?_|refine AF rfl rfl ?_|refine AG rfl rfl ?_|refine AH ?_|refine AI ?_|refine AJ ?_|refine AK ?_|refine AL ?_|refine AM ?_|refine AN ?_|refine AO ?_|refine AP ?_|refine AQ rfl ?_|refine AR ?_|refine AS ?_|refine AT rfl ?_|refine AU rfl ?_
  have kq : Keep NoB h7 (h7.push (.rw [.str [97], .str [110, 111]])) := Keep.push _ _ _
  refine wr_heap (h' := h7.push (.rw [.str [97], .str [110, 111]])) rfl ?_
  refine wr_app_s rfl rfl (a1.up kq) Nat.zero_lt_one (rs_push (l := [.str [97], .str [110, 111]]) (n := 2) (z := 1) rfl) (by omega) (by omega) fun z h8 a4 a5 a6 => ?_
  have K8 : Keep NoB h6 h8 := (K7.and kq).own a5 lo7
  obtain ⟨L, hL⟩ : ∃ L, L = m.fs.map MF.name ++ [[97], [110, 111]] := ⟨_, rfl⟩
  have eL : strs (m.fs.map MF.name) ++ [.str [97], .str [110, 111]] = strs L := by rw [hL]; unfold strs; rw [List.map_append]; rfl
  have lL : L.length = m.fs.length + 2 := by rw [hL, List.length_append, List.length_map]; rfl
  rw [eL] at a4
  clear hL eL a1 a2 a3 a5 a6
  have d8 := d2.up K8
  have r8 := r2.up K8
  have KK := (k1.and k2).and K8
  simp only [setS]
  repeat first|(refine BG ?_;first|(refine BH ?_;first|(refine BI ?_;refine BM ?_)|(refine BJ ?_;first|refine BN ?_|refine BO ?_)|refine BV (a4.rs.lenv (by rfl)) ?_|refine BP ?_)|(refine BK ?_;first|refine BS rfl rfl ?_|refine BT rfl rfl ?_|refine BU rfl ?_)|(refine BL ?_;first|refine BQ ?_)|(refine BR ?_;try simp only [setS]))|refine AA ?_|refine AC ?_|refine AD ?_|refine AE ?_|refine AF rfl rfl ?_|refine AG rfl rfl ?_|refine AH ?_|refine AI ?_|refine AJ ?_|refine AK ?_|refine AL ?_|refine AM ?_|refine AN ?_|refine AO ?_|refine AP ?_|refine AQ rfl ?_|refine AR ?_|refine AS ?_|refine AT rfl ?_|refine AU rfl ?_
  refine wb_loop (fun n t hh => ∃ (i : Nat) (s4 s5 s6 s7 s8 s9 s14 s15 : AV), i ≤ L.length ∧ n = L.length - i ∧ Keep NoB h8 hh ∧ t = [.ptr g 0, .ptr r 0, .bool false, vn, s4, s5, s6, s7, s8, s9, .bool false, z, .int .i64 (m.fs.length + 2 : Nat), .int .i64 i, s14, s15]) ?_ L.length _ _ ⟨0, _, _, _, _, _, _, _, _, by omega, by omega, Keep.refl _ _, rfl⟩
  rintro n t hh ⟨i, s4, s5, s6, s7, s8, s9, s14, s15, hi, hm, K, rfl⟩
  have d9 := d8.up K
  have r9 := r8.up K
  have z9 := a4.rs.up K
  by_cases hlt : i < L.length
  · obtain ⟨f, hf⟩ : ∃ f, L[i]? = some f := ⟨_, List.getElem?_eq_getElem hlt⟩
    obtain ⟨ga, oa, aa, la⟩ := z9.at2 (i := i) (by omega)
    have la1 : ∀ {e : En} {t : List AV} {x : Od}, x.ev e t = .ptr ga oa → (Mv.ld1 x).ev e t hh = some (.str f) := fun hx => by
      rw [la (Keep.refl NoB hh) (fun _ _ q => q) hx]
      unfold strs
      rw [List.getElem?_map, hf]
      rfl
    repeat first|(refine BG ?_;first|(refine BH ?_;first|(refine BI ?_;refine BM ?_)|(refine BJ ?_;first|refine BN ?_|refine BO ?_)|refine BV (aa rfl rfl) ?_|refine BV (la1 rfl) ?_|refine BP ?_)|(refine BK ?_;first|refine BS rfl rfl ?_|refine BT rfl rfl ?_|refine BU rfl ?_)|(refine BL ?_;first|refine BQ ?_)|(refine BR ?_;try simp only [setS]))|refine AA ?_|refine AC ?_|refine AD ?_|refine AE ?_|refine AF rfl rfl ?_|refine AG rfl rfl ?_|refine AH ?_|refine AI ?_|refine AJ ?_|refine AK ?_|refine AL ?_|refine AM ?_|refine AN ?_|refine AO ?_|refine AP ?_|refine AQ rfl ?_|refine AR ?_|refine AS ?_|refine AT rfl ?_|refine AU rfl ?_
    cases hg : m.get f with
    | none =>
      refine wr_call_e rfl ((rread_none hE T.toRdT T.rread r9 (by omega) hg).mono fun x h10 ⟨e1, e2⟩ => ?_)
      subst e1 e2
      repeat first|(refine BG ?_;first|(refine BH ?_;first|(refine BI ?_;refine BM ?_)|(refine BJ ?_;first|refine BN ?_|refine BO ?_)|refine BP ?_)|(refine BK ?_;first|refine BS rfl rfl ?_|refine BT rfl rfl ?_|refine BU rfl ?_)|(refine BL ?_;first|refine BQ ?_)|(refine BR ?_;try simp only [setS]))|refine AA ?_|refine AC ?_|refine AD ?_|refine AE ?_|refine AF rfl rfl ?_|refine AG rfl rfl ?_|refine AH ?_|refine AI ?_|refine AJ ?_|refine AK ?_|refine AL ?_|refine AM ?_|refine AN ?_|refine AO ?_|refine AP ?_|refine AQ rfl ?_|refine AR ?_|refine AS ?_|refine AT rfl ?_|refine AU rfl ?_
      refine wr_call_e rfl ((w_read_none hE T.dread d9 (by omega) hg).mono fun x h11 ⟨e1, e2⟩ => ?_)
      subst e1 e2
      repeat first|(refine BG ?_;first|(refine BH ?_;first|(refine BI ?_;refine BM ?_)|(refine BJ ?_;first|refine BN ?_|refine BO ?_)|refine BV (v_bnef rfl rfl) ?_|refine BV (v_b2s (b := []) rfl ⟨rfl, rfl⟩) ?_|refine BV (v_sne_f rfl rfl rfl) ?_|refine BP ?_)|(refine BK ?_;first|refine BS rfl rfl ?_|refine BT rfl rfl ?_|refine BU rfl ?_)|(refine BL ?_;first|refine BQ ?_)|(refine BR ?_;try simp only [setS]))|refine AA ?_|refine AC ?_|refine AD ?_|refine AE ?_|refine AF rfl rfl ?_|refine AG rfl rfl ?_|refine AH ?_|refine AI ?_|refine AJ ?_|refine AK ?_|refine AL ?_|refine AM ?_|refine AN ?_|refine AO ?_|refine AP ?_|refine AQ rfl ?_|refine AR ?_|refine AS ?_|refine AT rfl ?_|refine AU rfl ?_
      refine wr_call_e rfl ((w_synced hE T.synced d9 (by omega) f).mono fun x h12 ⟨e1, e2⟩ => ?_)
      subst e1 e2
      rw [hg]
      have e0 : (((none : Option MF).map MF.synced).getD 0 : Nat) = 0 := rfl
      rw [e0]
      repeat first|(refine BG ?_;first|(refine BH ?_;first|(refine BI ?_;refine BM ?_)|(refine BJ ?_;first|refine BN ?_|refine BO ?_)|refine BP ?_)|(refine BK ?_;first|refine BS rfl rfl ?_|refine BT rfl rfl ?_|refine BU rfl ?_)|(refine BL ?_;first|refine BQ ?_)|(refine BR ?_;try simp only [setS]))|refine AA ?_|refine AC ?_|refine AD ?_|refine AE ?_|refine AF rfl rfl ?_|refine AG rfl rfl ?_|refine AH ?_|refine AI ?_|refine AJ ?_|refine AK ?_|refine AL ?_|refine AM ?_|refine AN ?_|refine AO ?_|refine AP ?_|refine AQ rfl ?_|refine AR ?_|refine AS ?_|refine AT rfl ?_|refine AU rfl ?_
      rw [show ((i : Int) + 1) = ((i + 1 : Nat) : Int) by omega]
      exact round_norm (n - 1) (by omega) ⟨i + 1, _, _, _, _, _, _, _, _, by omega, by omega, K, rfl⟩
    | some q =>
      refine wr_call_e rfl ((rread_some hE T.toRdT T.rread r9 (by omega) hg).mono fun x h10 ⟨e1, w, e2, w1⟩ => ?_)
      subst e1 e2
      repeat first|(refine BG ?_;first|(refine BH ?_;first|(refine BI ?_;refine BM ?_)|(refine BJ ?_;first|refine BN ?_|refine BO ?_)|refine BP ?_)|(refine BK ?_;first|refine BS rfl rfl ?_|refine BT rfl rfl ?_|refine BU rfl ?_)|(refine BL ?_;first|refine BQ ?_)|(refine BR ?_;try simp only [setS]))|refine AA ?_|refine AC ?_|refine AD ?_|refine AE ?_|refine AF rfl rfl ?_|refine AG rfl rfl ?_|refine AH ?_|refine AI ?_|refine AJ ?_|refine AK ?_|refine AL ?_|refine AM ?_|refine AN ?_|refine AO ?_|refine AP ?_|refine AQ rfl ?_|refine AR ?_|refine AS ?_|refine AT rfl ?_|refine AU rfl ?_
      refine wr_call_e rfl ((w_read hE T.dread d9 (by omega) hg).mono fun x h11 ⟨u, e1, k11, u1, _⟩ => ?_)
      subst e1
      repeat first|(refine BG ?_;first|(refine BH ?_;first|(refine BI ?_;refine BM ?_)|(refine BJ ?_;first|refine BN ?_|refine BO ?_)|refine BV (v_bnef rfl rfl) ?_|refine BV (v_b2s rfl (w1.up k11)) ?_|refine BV (v_b2s rfl u1) ?_|refine BV (v_sne_f rfl rfl rfl) ?_|refine BP ?_)|(refine BK ?_;first|refine BS rfl rfl ?_|refine BT rfl rfl ?_|refine BU rfl ?_)|(refine BL ?_;first|refine BQ ?_)|(refine BR ?_;try simp only [setS]))|refine AA ?_|refine AC ?_|refine AD ?_|refine AE ?_|refine AF rfl rfl ?_|refine AG rfl rfl ?_|refine AH ?_|refine AI ?_|refine AJ ?_|refine AK ?_|refine AL ?_|refine AM ?_|refine AN ?_|refine AO ?_|refine AP ?_|refine AQ rfl ?_|refine AR ?_|refine AS ?_|refine AT rfl ?_|refine AU rfl ?_
      refine wr_call_e rfl ((w_synced hE T.synced (d9.up k11) (by omega) f).mono fun x h12 ⟨e1, e2⟩ => ?_)
      subst e1 e2
      rw [hg]
      have e0 : (((some q : Option MF).map MF.synced).getD 0 : Nat) = q.synced := rfl
      rw [e0]
      repeat first|(refine BG ?_;first|(refine BH ?_;first|(refine BI ?_;refine BM ?_)|(refine BJ ?_;first|refine BN ?_|refine BO ?_)|refine BP ?_)|(refine BK ?_;first|refine BS rfl rfl ?_|refine BT rfl rfl ?_|refine BU rfl ?_)|(refine BL ?_;first|refine BQ ?_)|(refine BR ?_;try simp only [setS]))|refine AA ?_|refine AC ?_|refine AD ?_|refine AE ?_|refine AF rfl rfl ?_|refine AG rfl rfl ?_|refine AH ?_|refine AI ?_|refine AJ ?_|refine AK ?_|refine AL ?_|refine AM ?_|refine AN ?_|refine AO ?_|refine AP ?_|refine AQ rfl ?_|refine AR ?_|refine AS ?_|refine AT rfl ?_|refine AU rfl ?_
      rw [show ((i : Int) + 1) = ((i + 1 : Nat) : Int) by omega]
      exact round_norm (n - 1) (by omega) ⟨i + 1, _, _, _, _, _, _, _, _, by omega, by omega, K.and k11, rfl⟩
  · repeat first|(refine BG ?_;first|(refine BH ?_;first|(refine BI ?_;refine BM ?_)|(refine BJ ?_;first|refine BN ?_|refine BO ?_)|refine BP ?_)|(refine BK ?_;first|refine BS rfl rfl ?_|refine BT rfl rfl ?_|refine BU rfl ?_)|(refine BL ?_;first|refine BQ ?_)|(refine BR ?_;try simp only [setS]))|refine AA ?_|refine AC ?_|refine AD ?_|refine AE ?_|refine AF rfl rfl ?_|refine AG rfl rfl ?_|refine AH ?_|refine AI ?_|refine AJ ?_|refine AK ?_|refine AL ?_|refine AM ?_|refine AN ?_|refine AO ?_|refine AP ?_|refine AQ rfl ?_|refine AR ?_|refine AS ?_|refine AT rfl ?_|refine AU rfl ?_
    exact ⟨rfl, KK.and K⟩
end
end Am
end Go.Proofs.Ythgcdoahoechhaa
