/- The document's disk: Append, Cut, Rename. -/
import Derived.Test.YthgcdoahoechhaaRdC
set_option linter.unusedVariables false
set_option linter.unusedSimpArgs false
namespace Go.Proofs.Ythgcdoahoechhaa
namespace Am
open Go.RowKit
set_option maxRecDepth 100000
def b_refAppend : BF := ⟨54, [0, 1, 2, 6, 7, 8, 9, 14, 33, 53], (.seq (.reg [.mk none (.slot 3) (.mov (.mv (.const (.int .i64 0))))]) (.seq (.reg [.mk none (.env 10) (.mov (.mv (.slot 0))), .mk none (.env 11) (.mov (.mv (.slot 1))), .mk none (.env 12) (.call 102 [(.env 10), (.env 11)]), .mk none (.slot 4) (.mov (.mv (.env 12)))]) (.seq (.seq (.reg [.mk none (.env 13) (.mov (.mv (.slot 4))), .mk none (.slot 7) (.mov (.bin .lss .no (.env 13) (.const (.int .i64 0))))]) (.cond (.slot 7) (.seq (.reg [.mk none (.slot 3) (.mov (.mv (.const (.int .i64 22))))]) .ret) .skip)) (.seq (.reg [.mk none (.env 15) (.mov (.mv (.slot 0))), .mk none (.env 16) (.mov (.nilc (.env 15))), .mk none (.env 17) (.mov (.faddr 3 (.env 16))), .mk none (.env 18) (.mov (.ld1 (.env 17))), .mk none (.slot 5) (.mov (.mv (.env 18)))]) (.seq (.reg [.mk none (.env 19) (.mov (.mv (.slot 0))), .mk none (.env 20) (.call 100 [(.env 19)]), .mk none (.slot 6) (.mov (.mv (.env 20)))]) (.seq (.seq (.dreg [(.mk none (.env 21) (.mov (.mv (.slot 5))), []), (.mk none (.env 22) (.mov (.mv (.env 21))), []), (.mk (some ((.env 22), false)) (.env 23) (.mov (.mv (.slot 0))), []), (.mk (some ((.env 22), false)) (.env 25) (.mov (.mv (.slot 2))), []), (.mk (some ((.env 22), false)) (.env 26) (.mov (.lenv (.env 25))), []), (.mk (some ((.env 22), false)) (.env 28) (.mov (.mv (.slot 0))), []), (.mk (some ((.env 22), false)) (.env 29) (.mov (.nilc (.env 28))), []), (.mk (some ((.env 22), false)) (.env 30) (.mov (.faddr 1 (.env 29))), []), (.mk (some ((.env 22), false)) (.env 31) (.mov (.ld1 (.env 30))), []), (.mk (some ((.env 22), false)) (.env 24) (.call 69 [(.env 23)]), [3, 4, 5, 6, 7, 8]), (.mk (some ((.env 22), false)) (.env 27) (.mov (.bin .add .no (.env 24) (.env 26))), []), (.mk (some ((.env 22), false)) (.env 32) (.mov (.bin .gtr .no (.env 27) (.env 31))), []), (.mk none (.slot 8) (.mov (.pick (.env 22) (.const (.bool true)) (.env 32))), [])]) (.cond (.slot 8) (.seq (.reg [.mk none (.slot 3) (.mov (.mv (.const (.int .i64 13))))]) .ret) .skip)) (.seq (.dreg [(.mk none (.env 34) (.mov (.mv (.slot 0))), []), (.mk none (.env 35) (.mov (.nilc (.env 34))), []), (.mk none (.env 36) (.mov (.faddr 0 (.env 35))), []), (.mk none (.env 37) (.mov (.ld1 (.env 36))), []), (.mk none (.env 38) (.mov (.mv (.slot 4))), []), (.mk none (.env 40) (.mov (.mv (.slot 0))), []), (.mk none (.env 41) (.mov (.nilc (.env 40))), []), (.mk none (.env 42) (.mov (.faddr 0 (.env 41))), []), (.mk none (.env 43) (.mov (.ld1 (.env 42))), []), (.mk none (.env 44) (.mov (.mv (.slot 4))), []), (.mk none (.env 45) (.mov (.iaddr 3 (.env 43) (.env 44))), []), (.mk none (.env 46) (.mov (.faddr 1 (.env 45))), []), (.mk none (.env 47) (.mov (.ld1 (.env 46))), []), (.mk none (.env 49) (.mov (.mv (.slot 2))), []), (.mk none (.env 39) (.eff (.bslice 1 0 [(.int .u8 0)] [])), [0, 1, 2, 3, 4, 5, 6, 7, 8, 9, 10, 11, 12, 13]), (.mk none (.env 48) (.eff (.append 1 1 (.env 39) (.env 47))), [0, 1, 2, 3, 4, 13]), (.mk none (.env 50) (.eff (.append 1 1 (.env 48) (.env 49))), [0, 1, 2, 3, 4]), (.mk none (.env 51) (.mov (.iaddr 3 (.env 37) (.env 38))), []), (.mk none (.env 52) (.mov (.faddr 1 (.env 51))), []), (.mk none .none (.eff (.store 1 (.env 52) (.env 50))), [])]) (.seq (.seq (.reg [.mk none (.slot 9) (.mov (.mv (.slot 6)))]) (.cond (.slot 9) (.seq (.reg [.mk none (.slot 3) (.mov (.mv (.const (.int .i64 13))))]) .ret) .skip)) (.seq (.reg [.mk none (.slot 3) (.mov (.mv (.const (.int .i64 0))))]) .ret))))))))), [.slot (.slot 3)]⟩
def b_refCut : BF := ⟨57, [0, 1, 2, 6, 7, 12, 27, 29], (.seq (.reg [.mk none (.slot 3) (.mov (.mv (.const (.int .i64 0))))]) (.seq (.reg [.mk none (.env 8) (.mov (.mv (.slot 0))), .mk none (.env 9) (.mov (.mv (.slot 1))), .mk none (.env 10) (.call 102 [(.env 8), (.env 9)]), .mk none (.slot 4) (.mov (.mv (.env 10)))]) (.seq (.seq (.reg [.mk none (.env 11) (.mov (.mv (.slot 4))), .mk none (.slot 5) (.mov (.bin .lss .no (.env 11) (.const (.int .i64 0))))]) (.cond (.slot 5) (.seq (.reg [.mk none (.slot 3) (.mov (.mv (.const (.int .i64 22))))]) .ret) .skip)) (.seq (.seq (.reg [.mk none (.env 13) (.mov (.mv (.slot 2))), .mk none (.env 14) (.mov (.bin .lss .no (.env 13) (.const (.int .i64 0)))), .mk none (.env 15) (.mov (.mv (.env 14))), .mk (some ((.env 15), false)) (.env 16) (.mov (.mv (.slot 2))), .mk (some ((.env 15), false)) (.env 17) (.mov (.mv (.slot 0))), .mk (some ((.env 15), false)) (.env 18) (.mov (.nilc (.env 17))), .mk (some ((.env 15), false)) (.env 19) (.mov (.faddr 0 (.env 18))), .mk (some ((.env 15), false)) (.env 20) (.mov (.ld1 (.env 19))), .mk (some ((.env 15), false)) (.env 21) (.mov (.mv (.slot 4))), .mk (some ((.env 15), false)) (.env 22) (.mov (.iaddr 3 (.env 20) (.env 21))), .mk (some ((.env 15), false)) (.env 23) (.mov (.faddr 1 (.env 22))), .mk (some ((.env 15), false)) (.env 24) (.mov (.ld1 (.env 23))), .mk (some ((.env 15), false)) (.env 25) (.mov (.lenv (.env 24))), .mk (some ((.env 15), false)) (.env 26) (.mov (.bin .gtr .no (.env 16) (.env 25))), .mk none (.slot 6) (.mov (.pick (.env 15) (.const (.bool true)) (.env 26)))]) (.cond (.slot 6) (.seq (.reg [.mk none (.slot 3) (.mov (.mv (.const (.int .i64 1))))]) .ret) .skip)) (.seq (.seq (.reg [.mk none (.env 28) (.mov (.mv (.slot 0))), .mk none (.slot 7) (.call 100 [(.env 28)])]) (.cond (.slot 7) (.seq (.reg [.mk none (.slot 3) (.mov (.mv (.const (.int .i64 13))))]) .ret) .skip)) (.seq (.dreg [(.mk none (.env 30) (.mov (.mv (.slot 0))), []), (.mk none (.env 31) (.mov (.nilc (.env 30))), []), (.mk none (.env 32) (.mov (.faddr 0 (.env 31))), []), (.mk none (.env 33) (.mov (.ld1 (.env 32))), []), (.mk none (.env 34) (.mov (.mv (.slot 4))), []), (.mk none (.env 36) (.mov (.mv (.slot 0))), []), (.mk none (.env 37) (.mov (.nilc (.env 36))), []), (.mk none (.env 38) (.mov (.faddr 0 (.env 37))), []), (.mk none (.env 39) (.mov (.ld1 (.env 38))), []), (.mk none (.env 40) (.mov (.mv (.slot 4))), []), (.mk none (.env 41) (.mov (.iaddr 3 (.env 39) (.env 40))), []), (.mk none (.env 42) (.mov (.faddr 1 (.env 41))), []), (.mk none (.env 43) (.mov (.ld1 (.env 42))), []), (.mk none (.env 44) (.mov (.mv (.slot 2))), []), (.mk none (.env 45) (.mov (.sl 1 (.env 43) none (some (.env 44)) none)), []), (.mk none (.env 35) (.eff (.bslice 1 0 [(.int .u8 0)] [])), [0, 1, 2, 3, 4, 5, 6, 7, 8, 9, 10, 11, 12, 13, 14]), (.mk none (.env 46) (.eff (.append 1 1 (.env 35) (.env 45))), [0, 1, 2, 3, 4]), (.mk none (.env 47) (.mov (.iaddr 3 (.env 33) (.env 34))), []), (.mk none (.env 48) (.mov (.faddr 1 (.env 47))), []), (.mk none .none (.eff (.store 1 (.env 48) (.env 46))), [])]) (.seq (.reg [.mk none (.env 49) (.mov (.mv (.slot 0))), .mk none (.env 50) (.mov (.nilc (.env 49))), .mk none (.env 51) (.mov (.faddr 0 (.env 50))), .mk none (.env 52) (.mov (.ld1 (.env 51))), .mk none (.env 53) (.mov (.mv (.slot 4))), .mk none (.env 54) (.mov (.mv (.slot 2))), .mk none (.env 55) (.mov (.iaddr 3 (.env 52) (.env 53))), .mk none (.env 56) (.mov (.faddr 2 (.env 55))), .mk none .none (.eff (.store 1 (.env 56) (.env 54)))]) (.seq (.reg [.mk none (.slot 3) (.mov (.mv (.const (.int .i64 0))))]) .ret)))))))), [.slot (.slot 3)]⟩
def b_refRename : BF := ⟨47, [0, 1, 2, 6, 7, 11, 14, 16, 19], (.seq (.reg [.mk none (.slot 3) (.mov (.mv (.const (.int .i64 0))))]) (.seq (.seq (.reg [.mk none (.env 8) (.mov (.mv (.slot 0))), .mk none (.env 9) (.mov (.mv (.slot 1))), .mk none (.env 10) (.call 102 [(.env 8), (.env 9)]), .mk none (.slot 5) (.mov (.bin .lss .no (.env 10) (.const (.int .i64 0))))]) (.cond (.slot 5) (.seq (.reg [.mk none (.slot 3) (.mov (.mv (.const (.int .i64 22))))]) .ret) .skip)) (.seq (.seq (.reg [.mk none (.env 12) (.mov (.mv (.slot 2))), .mk none (.env 13) (.call 99 [(.env 12)]), .mk none (.slot 6) (.mov (.notb (.env 13)))]) (.cond (.slot 6) (.seq (.reg [.mk none (.slot 3) (.mov (.mv (.const (.int .i64 1))))]) .ret) .skip)) (.seq (.seq (.reg [.mk none (.env 15) (.mov (.mv (.slot 0))), .mk none (.slot 7) (.call 100 [(.env 15)])]) (.cond (.slot 7) (.seq (.reg [.mk none (.slot 3) (.mov (.mv (.const (.int .i64 13))))]) .ret) .skip)) (.seq (.seq (.reg [.mk none (.env 17) (.mov (.mv (.slot 1))), .mk none (.env 18) (.mov (.mv (.slot 2))), .mk none (.slot 8) (.mov (.bin .eql .no (.env 17) (.env 18)))]) (.cond (.slot 8) (.seq (.reg [.mk none (.slot 3) (.mov (.mv (.const (.int .i64 0))))]) .ret) .skip)) (.seq (.dreg [(.mk none (.env 20) (.mov (.mv (.slot 0))), []), (.mk none (.env 21) (.mov (.nilc (.env 20))), []), (.mk none (.env 22) (.mov (.faddr 0 (.env 21))), []), (.mk none (.env 23) (.mov (.ld1 (.env 22))), []), (.mk none (.env 24) (.mov (.mv (.slot 0))), []), (.mk none (.env 25) (.mov (.mv (.slot 1))), []), (.mk none (.slot 4) (.eff (.alloc [(.str []), .snil, (.int .i64 0)])), [0, 1, 2, 3, 4, 5]), (.mk none (.env 26) (.call 102 [(.env 24), (.env 25)]), [0, 1, 2, 3, 6]), (.mk none (.env 27) (.mov (.iaddr 3 (.env 23) (.env 26))), []), (.mk none (.env 28) (.mov (.ldn 3 (.env 27))), []), (.mk none .none (.eff (.store 3 (.slot 4) (.env 28))), [])]) (.seq (.reg [.mk none (.env 29) (.mov (.mv (.slot 0))), .mk none (.env 30) (.mov (.mv (.slot 1))), .mk none (.env 31) (.call 101 [(.env 29), (.env 30)])]) (.seq (.reg [.mk none (.env 32) (.mov (.mv (.slot 0))), .mk none (.env 33) (.mov (.mv (.slot 2))), .mk none (.env 34) (.call 101 [(.env 32), (.env 33)])]) (.seq (.reg [.mk none (.env 35) (.mov (.mv (.slot 2))), .mk none (.env 36) (.mov (.faddr 0 (.slot 4))), .mk none .none (.eff (.store 1 (.env 36) (.env 35)))]) (.seq (.dreg [(.mk none (.env 37) (.mov (.mv (.slot 0))), []), (.mk none (.env 38) (.mov (.mv (.slot 0))), []), (.mk none (.env 39) (.mov (.nilc (.env 38))), []), (.mk none (.env 40) (.mov (.faddr 0 (.env 39))), []), (.mk none (.env 41) (.mov (.ld1 (.env 40))), []), (.mk none (.env 42) (.mov (.ldn 3 (.slot 4))), []), (.mk none (.env 43) (.eff (.bslice 3 1 [(.str []), .snil, (.int .i64 0)] [(0, 3, (.env 42))])), [0, 1, 2, 3, 4, 5]), (.mk none (.env 44) (.eff (.append 3 48 (.env 41) (.env 43))), [0]), (.mk none (.env 45) (.mov (.nilc (.env 37))), []), (.mk none (.env 46) (.mov (.faddr 0 (.env 45))), []), (.mk none .none (.eff (.store 1 (.env 46) (.env 44))), [])]) (.seq (.reg [.mk none (.slot 3) (.mov (.mv (.const (.int .i64 0))))]) .ret))))))))))), [.slot (.slot 3)]⟩
section
variable {D : Dp MD} {l : Dr} {past : List (Pa MD)} {e e' : En} {t t' : List AV} {h : Hp MD} {Q : R MD → Prop}
theorem wd_gq {g : Od × Bool} {d : Ds} {o : Op1} {chk : List Nat} (hg : gdv (some g) e t = some false) (H : WD D l (past ++ [.skip]) e' t' h Q) (he : putE d (.tup []) e = e' := by conv => lhs; whnf) (ht : putT d (.tup []) t = t' := by conv => lhs; whnf) : WD D ((.mk (some g) d o, chk) :: l) past e t h Q := by
  subst he ht
  obtain ⟨t', h', h1, h2⟩ := H.out
  refine ⟨⟨t', h', ?_, h2⟩⟩
  simp only [drGo, St1.g, St1.o, St1.d, hg] at h1 ⊢
  exact h1
end
section
variable {E : Nat → Option (Ent MD)}
theorem wb_hq {D : Dp MD} {b : BC} {t : List AV} {h h' : Hp MD} {Q : R MD → Prop} (he : h = h') (H : WB D b t h' Q) : WB D b t h Q := he ▸ H
theorem le_sum_m {n : Nat} : ∀ {l : List Nat}, n ∈ l → n ≤ l.sum
  | x :: l, h => by
    rcases List.mem_cons.1 h with rfl | h
    · simp
    · have := le_sum_m h
      simp only [List.sum_cons]
      omega
theorem len_used {m : MD} {s : Bs} {f : MF} (hg : m.get s = some f) : f.b.length ≤ m.used := by
  have h := (get_mem hg).1
  unfold MD.used
  obtain ⟨i, hi⟩ := List.mem_iff_getElem?.1 h
  have e : (m.fs.map fun f => f.b.length)[i]? = some f.b.length := by rw [List.getElem?_map, hi]; rfl
  exact le_sum_m (List.mem_of_getElem? e)
set_option maxHeartbeats 2000000 in
theorem rappend_ok (hE : ∀ f e, E f = some e → e.plain) (T : RdT E) (hf : E 54 = some (.bc b_refAppend)) {h : Hp MD} {r : Nat} {m : MD} (a : RD h r m) (hn : m.fs.length ≤ 999) (s : List UInt8) {vb : AV} {b : List UInt8} (hvb : RS h 1 vb b.length (b.map ub)) (hv : ∀ k, blk vb k → k < r) (hbl : b.length ≤ 1000000) :
    WF (lim E) 54 [.ptr r 0, .str s, vb] h fun x h' => x = .int .i64 (m.append s b).1 ∧ RD h' r (m.append s b).2 ∧ Keep (FromB r) h h' := by
  obtain ⟨v, qs, hb, hl, hp⟩ := a.out
  have hlen := q_len hp
  have hus : qsum qs = m.used := q_used hp
  have hro := a.ok.room
  have hl1 := a.ok.lim1
  have hmx : (maxLen : Nat) = 9223372036854775807 := rfl
  refine wf_bc hE hf rfl ?_
  simp only [b_refAppend, List.map, getS]
  have okC := a.ok.append s b
  have hcf := count_fs m
  repeat first|(refine BG ?_;first|(refine BH ?_;first|(refine BI ?_;refine BM ?_)|(refine BJ ?_;first|refine BN ?_|refine BO ?_)|refine BP ?_)|(refine BK ?_;first|refine BS rfl rfl ?_|refine BT rfl rfl ?_|refine BU rfl ?_)|(refine BL ?_;first|refine BQ ?_)|(refine BR ?_;try simp only [setS]))|refine AA ?_|refine AC ?_|refine AD ?_|refine AE ?_|refine AF rfl rfl ?_|refine AG rfl rfl ?_|refine AH ?_|refine AI ?_|refine AJ ?_|refine AK ?_|refine AL ?_|refine AM ?_|refine AN ?_|refine AO ?_|refine AP ?_|refine AQ rfl ?_|refine AR ?_|refine AS ?_|refine AT rfl ?_|refine AU rfl ?_
  refine wr_call_e rfl ((rat_ok hE T.at_ hb hl (by omega) s).mono fun x h0 ⟨e1, e2⟩ => ?_)
  subst e1
  cases hg : m.get s with
  | none =>
    have hc : m.append s b = (22, m) := by unfold MD.append; rw [hg]
    have e3 := rat_none hp a.ok hg e2
    subst e3
    rw [hc]
    repeat first|(refine BG ?_;first|(refine BH ?_;first|(refine BI ?_;refine BM ?_)|(refine BJ ?_;first|refine BN ?_|refine BO ?_)|refine BP ?_)|(refine BK ?_;first|refine BS rfl rfl ?_|refine BT rfl rfl ?_|refine BU rfl ?_)|(refine BL ?_;first|refine BQ ?_)|(refine BR ?_;try simp only [setS]))|refine AA ?_|refine AC ?_|refine AD ?_|refine AE ?_|refine AF rfl rfl ?_|refine AG rfl rfl ?_|refine AH ?_|refine AI ?_|refine AJ ?_|refine AK ?_|refine AL ?_|refine AM ?_|refine AN ?_|refine AO ?_|refine AP ?_|refine AQ rfl ?_|refine AR ?_|refine AS ?_|refine AT rfl ?_|refine AU rfl ?_
    exact ⟨rfl, a, Keep.refl _ _⟩
  | some f =>
    have hfl := len_used hg
    obtain ⟨i, q, hq, hqs, e3, hfq⟩ := rat_some hp a.ok hg e2
    subst e3
    have hqb : q.b.length ≤ m.used := by rw [hfq] at hfl; exact hfl
    repeat first|(refine BG ?_;first|(refine BH ?_;first|(refine BI ?_;refine BM ?_)|(refine BJ ?_;first|refine BN ?_|refine BO ?_)|refine BV (v_bx hb rfl rfl) ?_|refine BP ?_)|(refine BK ?_;first|refine BS rfl rfl ?_|refine BT rfl rfl ?_|refine BU rfl ?_)|(refine BL ?_;first|refine BQ ?_)|(refine BR ?_;try simp only [setS]))|refine AA ?_|refine AC ?_|refine AD ?_|refine AE ?_|refine AF rfl rfl ?_|refine AG rfl rfl ?_|refine AH ?_|refine AI ?_|refine AJ ?_|refine AK ?_|refine AL ?_|refine AM ?_|refine AN ?_|refine AO ?_|refine AP ?_|refine AQ rfl ?_|refine AR ?_|refine AS ?_|refine AT rfl ?_|refine AU rfl ?_
    refine wr_call_e rfl ((rgoes_ok hE T.goes hb a.ok).mono fun x h1 ⟨e1, b1, k1⟩ => ?_)
    subst e1
    have l1 := hl.keep k1 (fun k q _ => Nat.le_of_eq q)
    have hv1 := hvb.keep k1 (fun k q1 q2 => by have := hv k q1; have q2 : k = r := q2; omega)
    have rd1 : ∀ {m' : MD}, m' = m.count → m'.Ok → RD h1 r m' := fun {m'} e ok => by subst e; exact ⟨⟨v, qs, b1, l1, by rw [hcf]; exact hp⟩, ok⟩
    rcases Bool.eq_false_or_eq_true m.down with hd | hd
    · have hc : m.append s b = (13, m.count) := by unfold MD.append; rw [hg]; simp only; rw [if_pos (.inl hd)]
      rw [hc] at okC ⊢
      rw [hd]
      repeat first|(refine BG ?_;first|(refine BH ?_;first|(refine BI ?_;refine BM ?_)|(refine BJ ?_;first|refine BN ?_|refine BO ?_)|refine BP ?_)|(refine BK ?_;first|refine BS rfl rfl ?_|refine BT rfl rfl ?_|refine BU rfl ?_)|(refine BL ?_;first|refine BQ ?_)|(refine BR ?_;try simp only [setS]))|refine AA ?_|refine AC ?_|refine AD ?_|refine AE ?_|refine AF rfl rfl ?_|refine AG rfl rfl ?_|refine AH ?_|refine AI ?_|refine AJ ?_|refine AK ?_|refine AL ?_|refine AM ?_|refine AN ?_|refine AO ?_|refine AP ?_|refine AQ rfl ?_|refine AR ?_|refine AS ?_|refine AT rfl ?_|refine AU rfl ?_
      repeat first|(refine BG ?_;first|(refine BH ?_;first|(refine BI ?_;refine BM ?_)|(refine BJ ?_;first|refine BN ?_|refine BO ?_)|refine BP ?_)|(refine BK ?_;first|refine BS rfl rfl ?_|refine BT rfl rfl ?_|refine BU rfl ?_)|(refine BL ?_;first|refine BQ ?_)|(refine BR ?_;try simp only [setS]))|(refine BX ?_;first|refine BY rfl ?_|refine (wd_gq rfl) ?_|(refine BZ ?_;refine CA ?_)|refine CC ?_|(refine CD ?_;try simp only [setS]))|refine AA ?_|refine AC ?_|refine AD ?_|refine AE ?_|refine AF rfl rfl ?_|refine AG rfl rfl ?_|refine AH ?_|refine AI ?_|refine AJ ?_|refine AK ?_|refine AL ?_|refine AM ?_|refine AN ?_|refine AO ?_|refine AP ?_|refine AQ rfl ?_|refine AR ?_|refine AS ?_|refine AT rfl ?_|refine AU rfl ?_
      exact ⟨rfl, rd1 rfl okC, one_fromB k1⟩
    · rw [hd]
      repeat first|(refine BG ?_;first|(refine BH ?_;first|(refine BI ?_;refine BM ?_)|(refine BJ ?_;first|refine BN ?_|refine BO ?_)|refine BP ?_)|(refine BK ?_;first|refine BS rfl rfl ?_|refine BT rfl rfl ?_|refine BU rfl ?_)|(refine BL ?_;first|refine BQ ?_)|(refine BR ?_;try simp only [setS]))|refine AA ?_|refine AC ?_|refine AD ?_|refine AE ?_|refine AF rfl rfl ?_|refine AG rfl rfl ?_|refine AH ?_|refine AI ?_|refine AJ ?_|refine AK ?_|refine AL ?_|refine AM ?_|refine AN ?_|refine AO ?_|refine AP ?_|refine AQ rfl ?_|refine AR ?_|refine AS ?_|refine AT rfl ?_|refine AU rfl ?_
      repeat first|(refine BG ?_;first|(refine BH ?_;first|(refine BI ?_;refine BM ?_)|(refine BJ ?_;first|refine BN ?_|refine BO ?_)|refine BV (v_bx b1 rfl rfl) ?_|refine BV (hv1.lenv (by rfl)) ?_|refine BP ?_)|(refine BK ?_;first|refine BS rfl rfl ?_|refine BT rfl rfl ?_|refine BU rfl ?_)|(refine BL ?_;first|refine BQ ?_)|(refine BR ?_;try simp only [setS]))|(refine BX ?_;first|refine BY rfl ?_|(refine BZ ?_;refine CA ?_)|refine CB (v_bx b1 rfl rfl) ?_|refine CB (hv1.lenv (by rfl)) ?_|refine CC ?_|(refine CD ?_;try simp only [setS]))|refine AA ?_|refine AC ?_|refine AD ?_|refine AE ?_|refine AF rfl rfl ?_|refine AG rfl rfl ?_|refine AH ?_|refine AI ?_|refine AJ ?_|refine AK ?_|refine AL ?_|refine AM ?_|refine AN ?_|refine AO ?_|refine AP ?_|refine AQ rfl ?_|refine AR ?_|refine AS ?_|refine AT rfl ?_|refine AU rfl ?_
      refine wd_calls_e rfl ((rused_ok hE T.used b1 l1 (by omega) (by omega)).mono fun x h2 ⟨e1, e2⟩ => ?_)
      subst e1 e2
      refine ⟨(by (try simp only [List.nil_append, List.cons_append]);repeat first|exact chk_nil|(apply chk_at;(focus exact rfl);first|exact pa_skp|(refine pa_mov ?_;first|exact (v_bx b1 rfl rfl)|exact (hv1.lenv (by rfl))|exact rfl))), ?_⟩
      rw [hus]
      by_cases hr : m.limit - m.used < b.length
      · have hc : m.append s b = (13, m.count) := by unfold MD.append; rw [hg]; simp only; rw [if_pos (.inr hr)]
        have hml : m.count.limit = m.limit := by unfold MD.count; split <;> rfl
        rw [hc] at okC ⊢
        repeat first|(refine BG ?_;first|(refine BH ?_;first|(refine BI ?_;refine BM ?_)|(refine BJ ?_;first|refine BN ?_|refine BO ?_)|refine BV (v_add rfl rfl (by omega)) ?_|refine BV (v_cmp rfl rfl (congrArg some (decide_eq_true (by rw [hml]; omega)))) ?_|refine BP ?_)|(refine BK ?_;first|refine BS rfl rfl ?_|refine BT rfl rfl ?_|refine BU rfl ?_)|(refine BL ?_;first|refine BQ ?_)|(refine BR ?_;try simp only [setS]))|(refine BX ?_;first|refine BY rfl ?_|(refine BZ ?_;refine CA ?_)|refine CB (v_add rfl rfl (by omega)) ?_|refine CB (v_cmp rfl rfl (congrArg some (decide_eq_true (by rw [hml]; omega)))) ?_|refine CC ?_|(refine CD ?_;try simp only [setS]))|refine AA ?_|refine AC ?_|refine AD ?_|refine AE ?_|refine AF rfl rfl ?_|refine AG rfl rfl ?_|refine AH ?_|refine AI ?_|refine AJ ?_|refine AK ?_|refine AL ?_|refine AM ?_|refine AN ?_|refine AO ?_|refine AP ?_|refine AQ rfl ?_|refine AR ?_|refine AS ?_|refine AT rfl ?_|refine AU rfl ?_
        exact ⟨rfl, rd1 rfl okC, one_fromB k1⟩
      · have hc : m.append s b = (if m.count.down = true then 13 else 0, { m.count with fs := setL MF.name m.fs s fun f => { f with b := f.b ++ b } }) := by unfold MD.append; rw [hg]; simp only; rw [if_neg (by rw [hd]; rintro (q | q); cases q; exact hr q)]
        have hml : m.count.limit = m.limit := by unfold MD.count; split <;> rfl
        rw [hc] at okC ⊢
        generalize hX : ({ m.count with fs := setL MF.name m.fs s fun f => { f with b := f.b ++ b } } : MD) = X at okC ⊢
        obtain ⟨g, o, ca, c0, c1, c2, _, cs⟩ := l1.atk hq
        have hrow := l1.row q (List.mem_of_getElem? hq)
        have kr := fun hh => Keep.refl (NoB) (hh : Hp MD)
        repeat first|(refine BG ?_;first|(refine BH ?_;first|(refine BI ?_;refine BM ?_)|(refine BJ ?_;first|refine BN ?_|refine BO ?_)|refine BV (v_add rfl rfl (by omega)) ?_|refine BV (v_cmp rfl rfl (congrArg some (decide_eq_false (by rw [hml]; omega)))) ?_|refine BV (v_bx b1 rfl rfl) ?_|refine BV (ca rfl rfl) ?_|refine BV (c1 (kr _) rfl) ?_|refine BP ?_)|(refine BK ?_;first|refine BS rfl rfl ?_|refine BT rfl rfl ?_|refine BU rfl ?_)|(refine BL ?_;first|refine BQ ?_)|(refine BR ?_;try simp only [setS]))|(refine BX ?_;first|refine BY rfl ?_|(refine BZ ?_;refine CA ?_)|refine CB (v_add rfl rfl (by omega)) ?_|refine CB (v_cmp rfl rfl (congrArg some (decide_eq_false (by rw [hml]; omega)))) ?_|refine CB (v_bx b1 rfl rfl) ?_|refine CB (ca rfl rfl) ?_|refine CB (c1 (kr _) rfl) ?_|refine CC ?_|(refine CD ?_;try simp only [setS]))|refine AA ?_|refine AC ?_|refine AD ?_|refine AE ?_|refine AF rfl rfl ?_|refine AG rfl rfl ?_|refine AH ?_|refine AI ?_|refine AJ ?_|refine AK ?_|refine AL ?_|refine AM ?_|refine AN ?_|refine AO ?_|refine AP ?_|refine AQ rfl ?_|refine AR ?_|refine AS ?_|refine AT rfl ?_|refine AU rfl ?_
        have kp : Keep NoB h2 (h2.push (.rw [])) := Keep.push _ _ _
        have oz : OS (h2.push (.rw [])) 1 (.slice 1 h2.n 0 0 (some 0)) 0 [] := ⟨rfl, rfl, Nat.zero_lt_one, Nat.lt_succ_self _, [], Hp.push_self _ _, by simp, by simp, by simp⟩
        have bp := b1.up kp
        refine wd_alc (cs := []) ef_bs0 (by (try simp only [List.nil_append, List.cons_append]);repeat first|exact chk_nil|(apply chk_at;(focus exact rfl);first|exact pa_skp|(refine pa_mov ?_;first|exact (v_bx bp rfl rfl)|exact (ca rfl rfl)|exact (c1 kp rfl)|exact rfl))) ?_
        repeat first|(refine BG ?_;first|(refine BH ?_;first|(refine BI ?_;refine BM ?_)|(refine BJ ?_;first|refine BN ?_|refine BO ?_)|refine BP ?_)|(refine BK ?_;first|refine BS rfl rfl ?_|refine BT rfl rfl ?_|refine BU rfl ?_)|(refine BL ?_;first|refine BQ ?_)|(refine BR ?_;try simp only [setS]))|(refine BX ?_;first|refine BY rfl ?_|(refine BZ ?_;refine CA ?_)|refine CC ?_|(refine CD ?_;try simp only [setS]))|refine AA ?_|refine AC ?_|refine AD ?_|refine AE ?_|refine AF rfl rfl ?_|refine AG rfl rfl ?_|refine AH ?_|refine AI ?_|refine AJ ?_|refine AK ?_|refine AL ?_|refine AM ?_|refine AN ?_|refine AO ?_|refine AP ?_|refine AQ rfl ?_|refine AR ?_|refine AS ?_|refine AT rfl ?_|refine AU rfl ?_
        refine wd_app rfl rfl oz Nat.zero_lt_one (hrow.1.up kp) (by omega) (by omega) fun y h3 a1 a2 a3 => ?_
        rw [Nat.zero_add, List.nil_append] at a1
        have k3 : Keep NoB h2 h3 := kp.own a2 (fun k q => by have q : k = h2.n := q; omega)
        have lo3 : ∀ k, blk y k → h2.n ≤ k := fun k q => by
          rcases a3 k q with q | q
          · have q : k = h2.n := q; omega
          · simp only [push_n] at q; omega
        have b3 := b1.up k3
        refine ⟨(by (try simp only [List.nil_append, List.cons_append]);repeat first|exact chk_nil|(apply chk_at;(focus exact rfl);first|exact pa_skp|(refine pa_mov ?_;first|exact (v_bx b3 rfl rfl)|exact (ca rfl rfl)|exact (c1 k3 rfl)|exact rfl))), ?_⟩
        repeat first|(refine BG ?_;first|(refine BH ?_;first|(refine BI ?_;refine BM ?_)|(refine BJ ?_;first|refine BN ?_|refine BO ?_)|refine BP ?_)|(refine BK ?_;first|refine BS rfl rfl ?_|refine BT rfl rfl ?_|refine BU rfl ?_)|(refine BL ?_;first|refine BQ ?_)|(refine BR ?_;try simp only [setS]))|(refine BX ?_;first|refine BY rfl ?_|(refine BZ ?_;refine CA ?_)|refine CC ?_|(refine CD ?_;try simp only [setS]))|refine AA ?_|refine AC ?_|refine AD ?_|refine AE ?_|refine AF rfl rfl ?_|refine AG rfl rfl ?_|refine AH ?_|refine AI ?_|refine AJ ?_|refine AK ?_|refine AL ?_|refine AM ?_|refine AN ?_|refine AO ?_|refine AP ?_|refine AQ rfl ?_|refine AR ?_|refine AS ?_|refine AT rfl ?_|refine AU rfl ?_
        refine wd_app rfl rfl a1 Nat.zero_lt_one (hv1.up k3) (by omega) (by omega) fun z h4 a4 a5 a6 => ?_
        have k4 : Keep NoB h2 h4 := k3.own a5 lo3
        have lo4 : ∀ k, blk z k → h2.n ≤ k := fun k q => by
          rcases a6 k q with q | q
          · exact lo3 k q
          · have := k3.n; omega
        have b4 := b1.up k4
        refine ⟨(by (try simp only [List.nil_append, List.cons_append]);repeat first|exact chk_nil|(apply chk_at;(focus exact rfl);first|exact pa_skp|(refine pa_mov ?_;first|exact (v_bx b4 rfl rfl)|exact (ca rfl rfl)|exact (c1 k4 rfl)|exact rfl))), ?_⟩
        have r4 := a4.rs
        rw [← List.map_append, ← List.length_append] at r4
        have hrl := b1.lt
        obtain ⟨lc, bx', hlt', l4, hbg, hlo⟩ := cs (q' := ⟨q.name, z, q.b ++ b, q.sy⟩) k4 (j := 1) (by decide) rfl r4 (fun k hk => ⟨by have := lo4 k hk; omega, fun q2 => by have := lo4 k hk; have := l1.arr.lt k q2; omega⟩)
        repeat first|(refine BG ?_;first|(refine BH ?_;first|(refine BI ?_;refine BM ?_)|(refine BJ ?_;first|refine BN ?_|refine BO ?_)|refine BV (ca rfl rfl) ?_|refine BP ?_)|(refine BK ?_;first|refine BS rfl rfl ?_|refine BT rfl rfl ?_|refine BU rfl ?_)|(refine BL ?_;first|refine BQ ?_)|(refine BR ?_;try simp only [setS]))|(refine BX ?_;first|refine BY rfl ?_|(refine BZ ?_;refine CA ?_)|refine CB (ca rfl rfl) ?_|refine CC ?_|(refine CD ?_;try simp only [setS]))|refine AA ?_|refine AC ?_|refine AD ?_|refine AE ?_|refine AF rfl rfl ?_|refine AG rfl rfl ?_|refine AH ?_|refine AI ?_|refine AJ ?_|refine AK ?_|refine AL ?_|refine AM ?_|refine AN ?_|refine AO ?_|refine AP ?_|refine AQ rfl ?_|refine AR ?_|refine AS ?_|refine AT rfl ?_|refine AU rfl ?_
        refine wd_ef (ef_bx bx' rfl rfl r4.one hlt') chk_nil ?_
        have k5 : Keep (OneB g) h4 (h4.put g (.rw (spl (o + 1) [z] lc))) := Keep.put _ _ _ rfl
        have fin : RD (h4.put g (.rw (spl (o + 1) [z] lc))) r X ∧ Keep (FromB r) h0 (h4.put g (.rw (spl (o + 1) [z] lc))) := by
          subst hX
          refine ⟨⟨⟨v, _, b4.keep k5 (fun q => by have q : r = g := q; omega), l4, ?_⟩, okC⟩, ((one_fromB k1).trans k4 (fun _ _ q => q.elim)).trans (k5.mono (fun j _ q => (by have q : j = g := q; show r ≤ j; omega : FromB r j))) (fun _ _ q => q)⟩
          subst hqs
          exact q_set hp a.ok hq (q' := ⟨q.name, z, q.b ++ b, q.sy⟩) (fun f => { f with b := f.b ++ b }) rfl
        rcases Bool.eq_false_or_eq_true m.count.down with hdc | hdc
        · rw [if_pos hdc]
          rw [hdc]
          repeat first|(refine BG ?_;first|(refine BH ?_;first|(refine BI ?_;refine BM ?_)|(refine BJ ?_;first|refine BN ?_|refine BO ?_)|refine BP ?_)|(refine BK ?_;first|refine BS rfl rfl ?_|refine BT rfl rfl ?_|refine BU rfl ?_)|(refine BL ?_;first|refine BQ ?_)|(refine BR ?_;try simp only [setS]))|(refine BX ?_;first|refine BY rfl ?_|(refine BZ ?_;refine CA ?_)|refine CC ?_|(refine CD ?_;try simp only [setS]))|refine AA ?_|refine AC ?_|refine AD ?_|refine AE ?_|refine AF rfl rfl ?_|refine AG rfl rfl ?_|refine AH ?_|refine AI ?_|refine AJ ?_|refine AK ?_|refine AL ?_|refine AM ?_|refine AN ?_|refine AO ?_|refine AP ?_|refine AQ rfl ?_|refine AR ?_|refine AS ?_|refine AT rfl ?_|refine AU rfl ?_
          exact ⟨rfl, fin⟩
        · rw [if_neg (by rw [hdc]; decide)]
          rw [hdc]
          repeat first|(refine BG ?_;first|(refine BH ?_;first|(refine BI ?_;refine BM ?_)|(refine BJ ?_;first|refine BN ?_|refine BO ?_)|refine BP ?_)|(refine BK ?_;first|refine BS rfl rfl ?_|refine BT rfl rfl ?_|refine BU rfl ?_)|(refine BL ?_;first|refine BQ ?_)|(refine BR ?_;try simp only [setS]))|(refine BX ?_;first|refine BY rfl ?_|(refine BZ ?_;refine CA ?_)|refine CC ?_|(refine CD ?_;try simp only [setS]))|refine AA ?_|refine AC ?_|refine AD ?_|refine AE ?_|refine AF rfl rfl ?_|refine AG rfl rfl ?_|refine AH ?_|refine AI ?_|refine AJ ?_|refine AK ?_|refine AL ?_|refine AM ?_|refine AN ?_|refine AO ?_|refine AP ?_|refine AQ rfl ?_|refine AR ?_|refine AS ?_|refine AT rfl ?_|refine AU rfl ?_
          exact ⟨rfl, fin⟩
set_option maxHeartbeats 2000000 in
theorem rcut_ok (hE : ∀ f e, E f = some e → e.plain) (T : RdT E) (hf : E 58 = some (.bc b_refCut)) {h : Hp MD} {r : Nat} {m : MD} (a : RD h r m) (hn : m.fs.length ≤ 999) (s : List UInt8) (n : Int) :
    WF (lim E) 58 [.ptr r 0, .str s, .int .i64 n] h fun x h' => x = .int .i64 (m.cut s n).1 ∧ RD h' r (m.cut s n).2 ∧ Keep (FromB r) h h' := by
  obtain ⟨v, qs, hb, hl, hp⟩ := a.out
  have hlen := q_len hp
  have hro := a.ok.room
  have hl1 := a.ok.lim1
  have hmx : (maxLen : Nat) = 9223372036854775807 := rfl
  refine wf_bc hE hf rfl ?_
  simp only [b_refCut, List.map, getS]
  have okC := a.ok.cut s n
  have hcf := count_fs m
  repeat first|(refine BG ?_;first|(refine BH ?_;first|(refine BI ?_;refine BM ?_)|(refine BJ ?_;first|refine BN ?_|refine BO ?_)|refine BP ?_)|(refine BK ?_;first|refine BS rfl rfl ?_|refine BT rfl rfl ?_|refine BU rfl ?_)|(refine BL ?_;first|refine BQ ?_)|(refine BR ?_;try simp only [setS]))|refine AA ?_|refine AC ?_|refine AD ?_|refine AE ?_|refine AF rfl rfl ?_|refine AG rfl rfl ?_|refine AH ?_|refine AI ?_|refine AJ ?_|refine AK ?_|refine AL ?_|refine AM ?_|refine AN ?_|refine AO ?_|refine AP ?_|refine AQ rfl ?_|refine AR ?_|refine AS ?_|refine AT rfl ?_|refine AU rfl ?_
  refine wr_call_e rfl ((rat_ok hE T.at_ hb hl (by omega) s).mono fun x h0 ⟨e1, e2⟩ => ?_)
  subst e1
  cases hg : m.get s with
  | none =>
    have hc : m.cut s n = (22, m) := by unfold MD.cut; rw [hg]
    have e3 := rat_none hp a.ok hg e2
    subst e3
    rw [hc]
    repeat first|(refine BG ?_;first|(refine BH ?_;first|(refine BI ?_;refine BM ?_)|(refine BJ ?_;first|refine BN ?_|refine BO ?_)|refine BP ?_)|(refine BK ?_;first|refine BS rfl rfl ?_|refine BT rfl rfl ?_|refine BU rfl ?_)|(refine BL ?_;first|refine BQ ?_)|(refine BR ?_;try simp only [setS]))|refine AA ?_|refine AC ?_|refine AD ?_|refine AE ?_|refine AF rfl rfl ?_|refine AG rfl rfl ?_|refine AH ?_|refine AI ?_|refine AJ ?_|refine AK ?_|refine AL ?_|refine AM ?_|refine AN ?_|refine AO ?_|refine AP ?_|refine AQ rfl ?_|refine AR ?_|refine AS ?_|refine AT rfl ?_|refine AU rfl ?_
    exact ⟨rfl, a, Keep.refl _ _⟩
  | some f =>
    have hfl := len_used hg
    obtain ⟨i, q, hq, hqs, e3, hfq⟩ := rat_some hp a.ok hg e2
    subst e3
    have hqb : q.b.length ≤ m.used := by rw [hfq] at hfl; exact hfl
    have hfb : f.b.length = q.b.length := by rw [hfq]; rfl
    by_cases hneg : n < 0
    · have hc : m.cut s n = (1, m) := by unfold MD.cut; rw [hg]; simp only; rw [if_pos (.inl hneg)]
      rw [hc]
      repeat first|(refine BG ?_;first|(refine BH ?_;first|(refine BI ?_;refine BM ?_)|(refine BJ ?_;first|refine BN ?_|refine BO ?_)|refine BP ?_)|(refine BK ?_;first|refine BS rfl rfl ?_|refine BT rfl rfl ?_|refine BU rfl ?_)|(refine BL ?_;first|refine BQ ?_)|(refine BR ?_;try simp only [setS]))|refine AA ?_|refine AC ?_|refine AD ?_|refine AE ?_|refine AF rfl rfl ?_|refine AG rfl rfl ?_|refine AH ?_|refine AI ?_|refine AJ ?_|refine AK ?_|refine AL ?_|refine AM ?_|refine AN ?_|refine AO ?_|refine AP ?_|refine AQ rfl ?_|refine AR ?_|refine AS ?_|refine AT rfl ?_|refine AU rfl ?_
      exact ⟨rfl, a, Keep.refl _ _⟩
    obtain ⟨g0, o0, ca0, c00, c10, c20, _⟩ := hl.at hq
    have hrow0 := hl.row q (List.mem_of_getElem? hq)
    by_cases hbig : (q.b.length : Int) < n
    · have hc : m.cut s n = (1, m) := by unfold MD.cut; rw [hg]; simp only; rw [if_pos (.inr (by rw [hfb]; exact hbig))]
      rw [hc]
      repeat first|(refine BG ?_;first|(refine BH ?_;first|(refine BI ?_;refine BM ?_)|(refine BJ ?_;first|refine BN ?_|refine BO ?_)|refine BV (v_bx hb rfl rfl) ?_|refine BV (ca0 rfl rfl) ?_|refine BV (c10 rfl) ?_|refine BV (hrow0.1.lenv (by rfl)) ?_|refine BP ?_)|(refine BK ?_;first|refine BS rfl rfl ?_|refine BT rfl rfl ?_|refine BU rfl ?_)|(refine BL ?_;first|refine BQ ?_)|(refine BR ?_;try simp only [setS]))|refine AA ?_|refine AC ?_|refine AD ?_|refine AE ?_|refine AF rfl rfl ?_|refine AG rfl rfl ?_|refine AH ?_|refine AI ?_|refine AJ ?_|refine AK ?_|refine AL ?_|refine AM ?_|refine AN ?_|refine AO ?_|refine AP ?_|refine AQ rfl ?_|refine AR ?_|refine AS ?_|refine AT rfl ?_|refine AU rfl ?_
      exact ⟨rfl, a, Keep.refl _ _⟩
    repeat first|(refine BG ?_;first|(refine BH ?_;first|(refine BI ?_;refine BM ?_)|(refine BJ ?_;first|refine BN ?_|refine BO ?_)|refine BV (v_bx hb rfl rfl) ?_|refine BV (ca0 rfl rfl) ?_|refine BV (c10 rfl) ?_|refine BV (hrow0.1.lenv (by rfl)) ?_|refine BP ?_)|(refine BK ?_;first|refine BS rfl rfl ?_|refine BT rfl rfl ?_|refine BU rfl ?_)|(refine BL ?_;first|refine BQ ?_)|(refine BR ?_;try simp only [setS]))|refine AA ?_|refine AC ?_|refine AD ?_|refine AE ?_|refine AF rfl rfl ?_|refine AG rfl rfl ?_|refine AH ?_|refine AI ?_|refine AJ ?_|refine AK ?_|refine AL ?_|refine AM ?_|refine AN ?_|refine AO ?_|refine AP ?_|refine AQ rfl ?_|refine AR ?_|refine AS ?_|refine AT rfl ?_|refine AU rfl ?_
    refine wr_call_s rfl ((rgoes_ok hE T.goes hb a.ok).mono fun x h1 ⟨e1, b1, k1⟩ => ?_)
    have l1 := hl.keep k1 (fun k q _ => Nat.le_of_eq q)
    have rd1 : ∀ {m' : MD}, m' = m.count → m'.Ok → RD h1 r m' := fun {m'} e ok => by subst e; exact ⟨⟨v, qs, b1, l1, by rw [hcf]; exact hp⟩, ok⟩
    rcases Bool.eq_false_or_eq_true m.count.down with hd | hd
    · have hc : m.cut s n = (13, m.count) := by unfold MD.cut; rw [hg]; simp only; rw [if_neg (by rw [hfb]; omega), if_pos hd]
      rw [hd] at e1
      rw [hc] at okC ⊢
      subst e1
      repeat first|(refine BG ?_;first|(refine BH ?_;first|(refine BI ?_;refine BM ?_)|(refine BJ ?_;first|refine BN ?_|refine BO ?_)|refine BP ?_)|(refine BK ?_;first|refine BS rfl rfl ?_|refine BT rfl rfl ?_|refine BU rfl ?_)|(refine BL ?_;first|refine BQ ?_)|(refine BR ?_;try simp only [setS]))|refine AA ?_|refine AC ?_|refine AD ?_|refine AE ?_|refine AF rfl rfl ?_|refine AG rfl rfl ?_|refine AH ?_|refine AI ?_|refine AJ ?_|refine AK ?_|refine AL ?_|refine AM ?_|refine AN ?_|refine AO ?_|refine AP ?_|refine AQ rfl ?_|refine AR ?_|refine AS ?_|refine AT rfl ?_|refine AU rfl ?_
      exact ⟨rfl, rd1 rfl okC, one_fromB k1⟩
    · have hc : m.cut s n = (0, { m.count with fs := setL MF.name m.fs s fun f => { f with b := f.b.take n.toNat, synced := n.toNat } }) := by unfold MD.cut; rw [hg]; simp only; rw [if_neg (by rw [hfb]; omega), if_neg (by rw [hd]; decide)]
      rw [hd] at e1
      rw [hc] at okC ⊢
      subst e1
      generalize hX : ({ m.count with fs := setL MF.name m.fs s fun f => { f with b := f.b.take n.toNat, synced := n.toNat } } : MD) = X at okC ⊢
      obtain ⟨k, rfl⟩ := Int.eq_ofNat_of_zero_le (show 0 ≤ n by omega)
      rw [Int.toNat_natCast] at hX
      obtain ⟨g, o, ca, c0, c1, c2, _, cs⟩ := l1.atk hq
      have hrow := l1.row q (List.mem_of_getElem? hq)
      obtain ⟨vs, s1, s2, s3, s4⟩ := hrow.1.bytes (lo := 0) (hi := k) (Nat.zero_le _) (by omega)
      rw [List.drop_zero, Nat.sub_zero] at s1
      have kr := fun hh => Keep.refl (NoB) (hh : Hp MD)
      repeat first|(refine BG ?_;first|(refine BH ?_;first|(refine BI ?_;refine BM ?_)|(refine BJ ?_;first|refine BN ?_|refine BO ?_)|refine BP ?_)|(refine BK ?_;first|refine BS rfl rfl ?_|refine BT rfl rfl ?_|refine BU rfl ?_)|(refine BL ?_;first|refine BQ ?_)|(refine BR ?_;try simp only [setS]))|refine AA ?_|refine AC ?_|refine AD ?_|refine AF rfl rfl ?_|refine AG rfl rfl ?_|refine AH ?_|refine AI ?_|refine AJ ?_|refine AK ?_|refine AL ?_|refine AM ?_|refine AN ?_|refine AO ?_|refine AP ?_|refine AQ rfl ?_|refine AR ?_|refine AS ?_|refine AT rfl ?_|refine AU rfl ?_
      repeat first|(refine BG ?_;first|(refine BH ?_;first|(refine BI ?_;refine BM ?_)|(refine BJ ?_;first|refine BN ?_|refine BO ?_)|refine BV (v_bx b1 rfl rfl) ?_|refine BV (ca rfl rfl) ?_|refine BV (c1 (kr _) rfl) ?_|refine BV (s4 (by rfl) (.inl ⟨rfl, rfl⟩) (.inr ⟨_, _, rfl, rfl⟩)) ?_|refine BP ?_)|(refine BK ?_;first|refine BS rfl rfl ?_|refine BT rfl rfl ?_|refine BU rfl ?_)|(refine BL ?_;first|refine BQ ?_)|(refine BR ?_;try simp only [setS]))|(refine BX ?_;first|refine BY rfl ?_|(refine BZ ?_;refine CA ?_)|refine CB (v_bx b1 rfl rfl) ?_|refine CB (ca rfl rfl) ?_|refine CB (c1 (kr _) rfl) ?_|refine CB (s4 (by rfl) (.inl ⟨rfl, rfl⟩) (.inr ⟨_, _, rfl, rfl⟩)) ?_|refine CC ?_|(refine CD ?_;try simp only [setS]))|refine AA ?_|refine AC ?_|refine AD ?_|refine AE ?_|refine AF rfl rfl ?_|refine AG rfl rfl ?_|refine AH ?_|refine AI ?_|refine AJ ?_|refine AK ?_|refine AL ?_|refine AM ?_|refine AN ?_|refine AO ?_|refine AP ?_|refine AQ rfl ?_|refine AR ?_|refine AS ?_|refine AT rfl ?_|refine AU rfl ?_
      have kp : Keep NoB h1 (h1.push (.rw [])) := Keep.push _ _ _
      have oz : OS (h1.push (.rw [])) 1 (.slice 1 h1.n 0 0 (some 0)) 0 [] := ⟨rfl, rfl, Nat.zero_lt_one, Nat.lt_succ_self _, [], Hp.push_self _ _, by simp, by simp, by simp⟩
      have bp := b1.up kp
      refine wd_alc (cs := []) ef_bs0 (by (try simp only [List.nil_append, List.cons_append]);repeat first|exact chk_nil|(apply chk_at;(focus exact rfl);first|exact pa_skp|(refine pa_mov ?_;first|exact (v_bx bp rfl rfl)|exact (ca rfl rfl)|exact (c1 kp rfl)|exact (s4 (by rfl) (.inl ⟨rfl, rfl⟩) (.inr ⟨_, _, rfl, rfl⟩))|exact rfl))) ?_
      repeat first|(refine BG ?_;first|(refine BH ?_;first|(refine BI ?_;refine BM ?_)|(refine BJ ?_;first|refine BN ?_|refine BO ?_)|refine BP ?_)|(refine BK ?_;first|refine BS rfl rfl ?_|refine BT rfl rfl ?_|refine BU rfl ?_)|(refine BL ?_;first|refine BQ ?_)|(refine BR ?_;try simp only [setS]))|(refine BX ?_;first|refine BY rfl ?_|(refine BZ ?_;refine CA ?_)|refine CC ?_|(refine CD ?_;try simp only [setS]))|refine AA ?_|refine AC ?_|refine AD ?_|refine AE ?_|refine AF rfl rfl ?_|refine AG rfl rfl ?_|refine AH ?_|refine AI ?_|refine AJ ?_|refine AK ?_|refine AL ?_|refine AM ?_|refine AN ?_|refine AO ?_|refine AP ?_|refine AQ rfl ?_|refine AR ?_|refine AS ?_|refine AT rfl ?_|refine AU rfl ?_
      have hkl : (q.b.take k).length ≤ k := List.length_take_le ..
      refine wd_app rfl rfl oz Nat.zero_lt_one (s1.up kp) (by omega) (by omega) fun y h3 a1 a2 a3 => ?_
      rw [Nat.zero_add, List.nil_append] at a1
      have k3 : Keep NoB h1 h3 := kp.own a2 (fun k q => by have q : k = h1.n := q; omega)
      have lo3 : ∀ k, blk y k → h1.n ≤ k := fun k q => by
        rcases a3 k q with q | q
        · have q : k = h1.n := q; omega
        · simp only [push_n] at q; omega
      have b3 := b1.up k3
      refine ⟨(by (try simp only [List.nil_append, List.cons_append]);repeat first|exact chk_nil|(apply chk_at;(focus exact rfl);first|exact pa_skp|(refine pa_mov ?_;first|exact (v_bx b3 rfl rfl)|exact (ca rfl rfl)|exact (c1 k3 rfl)|exact rfl))), ?_⟩
      have hrl := b1.lt
      have hyy : ∀ k, blk y k → r < k ∧ ¬ blk v k := fun k hk => ⟨by have := lo3 k hk; omega, fun q2 => by have := lo3 k hk; have := l1.arr.lt k q2; omega⟩
      obtain ⟨lc, bx', hlt', l4, hbg, hlo⟩ := cs (q' := ⟨q.name, y, q.b.take k, q.sy⟩) k3 (j := 1) (by decide) rfl a1.rs hyy
      repeat first|(refine BG ?_;first|(refine BH ?_;first|(refine BI ?_;refine BM ?_)|(refine BJ ?_;first|refine BN ?_|refine BO ?_)|refine BV (ca rfl rfl) ?_|refine BP ?_)|(refine BK ?_;first|refine BS rfl rfl ?_|refine BT rfl rfl ?_|refine BU rfl ?_)|(refine BL ?_;first|refine BQ ?_)|(refine BR ?_;try simp only [setS]))|(refine BX ?_;first|refine BY rfl ?_|(refine BZ ?_;refine CA ?_)|refine CB (ca rfl rfl) ?_|refine CC ?_|(refine CD ?_;try simp only [setS]))|refine AA ?_|refine AC ?_|refine AD ?_|refine AE ?_|refine AF rfl rfl ?_|refine AG rfl rfl ?_|refine AH ?_|refine AI ?_|refine AJ ?_|refine AK ?_|refine AL ?_|refine AM ?_|refine AN ?_|refine AO ?_|refine AP ?_|refine AQ rfl ?_|refine AR ?_|refine AS ?_|refine AT rfl ?_|refine AU rfl ?_
      refine wd_ef (ef_bx bx' rfl rfl a1.rs.one hlt') chk_nil ?_
      refine wd_heap (h' := h3.put g (.rw (spl (o + 1) [y] lc))) rfl ?_
      have k5 : Keep (OneB g) h3 (h3.put g (.rw (spl (o + 1) [y] lc))) := Keep.put _ _ _ rfl
      have b5 := b3.keep k5 (fun q => by have q : r = g := q; omega)
      have a5 := a1.rs.keep k5 (fun k q1 q2 => by have q2 : k = g := q2; subst q2; exact (hyy _ q1).2 hbg)
      generalize h3.put g (.rw (spl (o + 1) [y] lc)) = h5 at *
      have hil := (List.getElem?_eq_some_iff.1 hq).1
      have hq5 : (qs.set i ⟨q.name, y, q.b.take k, q.sy⟩)[i]? = some ⟨q.name, y, q.b.take k, q.sy⟩ := by rw [List.getElem?_set_self hil]
      obtain ⟨g6, o6, ca6, _, _, _, _, cs6⟩ := l4.atk hq5
      obtain ⟨lc6, bx6, hlt6, l6, hbg6, hlo6⟩ := cs6 (q' := ⟨q.name, y, q.b.take k, k⟩) (Keep.refl _ _) (j := 2) (u := .int .i64 k) (by decide) rfl a5 hyy
      repeat first|(refine BG ?_;first|(refine BH ?_;first|(refine BI ?_;refine BM ?_)|(refine BJ ?_;first|refine BN ?_|refine BO ?_)|refine BV (v_bx b5 rfl rfl) ?_|refine BV (ca6 rfl rfl) ?_|refine BP ?_)|(refine BK ?_;first|refine BS rfl rfl ?_|refine BT rfl rfl ?_|refine BU rfl ?_)|(refine BL ?_;first|refine BW (ef_bx bx6 rfl rfl ⟨rfl, rfl⟩ hlt6) ?_|refine BQ ?_)|(refine BR ?_;try simp only [setS]))|(refine BX ?_;first|refine BY rfl ?_|(refine BZ ?_;refine CA ?_)|refine CB (v_bx b5 rfl rfl) ?_|refine CB (ca6 rfl rfl) ?_|refine CC ?_|(refine CD ?_;try simp only [setS]))|refine AA ?_|refine AC ?_|refine AD ?_|refine AE ?_|refine AF rfl rfl ?_|refine AG rfl rfl ?_|refine AH ?_|refine AI ?_|refine AJ ?_|refine AK ?_|refine AL ?_|refine AM ?_|refine AN ?_|refine AO ?_|refine AP ?_|refine AQ rfl ?_|refine AR ?_|refine AS ?_|refine AT rfl ?_|refine AU rfl ?_
      have k6 : Keep (OneB g6) h5 (h5.put g6 (.rw (spl (o6 + 2) [.int .i64 k] lc6))) := Keep.put _ _ _ rfl
      have K5 : Keep (FromB r) h0 h5 := ((one_fromB k1).trans k3 (fun _ _ q => q.elim)).trans (k5.mono (fun j _ q => (by have q : j = g := q; show r ≤ j; omega : FromB r j))) (fun _ _ q => q)
      subst hX
      refine ⟨rfl, ⟨⟨v, _, b5.keep k6 (fun q => by have q : r = g6 := q; omega), l6, ?_⟩, okC⟩, K5.trans (k6.mono (fun j _ q => (by have q : j = g6 := q; show r ≤ j; omega : FromB r j))) (fun _ _ q => q)⟩
      rw [List.set_set]
      subst hqs
      exact q_set hp a.ok hq (q' := ⟨q.name, y, q.b.take k, k⟩) (fun f => { f with b := f.b.take k, synced := k }) rfl
theorem same_fs {m : MD} (ok : m.Ok) {s : Bs} {f : MF} (hg : m.get s = some f) : m.fs.Perm (putL MF.name (dropL MF.name m.fs s) { f with name := s }) := by
  obtain ⟨hf, hn⟩ := get_mem hg
  have e : ({ f with name := s } : MF) = f := by subst hn; rfl
  rw [e]
  have nd : ∀ {l : List MF}, Rising MF.name l → l.Nodup := fun h => List.Pairwise.imp (R := fun a b : MF => bl a.name b.name = true) (fun {a b} (q : bl a.name b.name = true) (e : a = b) => bl_ne q (congrArg MF.name e)) h
  refine (List.perm_ext_iff_of_nodup (nd ok.rising) (nd ((ok.rising.drop s).put f))).2 fun x => ?_
  rw [mem_put, mem_drop, hn]
  constructor
  · intro hx
    by_cases hxs : x.name = s
    · have := ok.rising.get_of_mem hx
      rw [hxs] at this
      exact .inl (Option.some.inj (this.symm.trans hg))
    · exact .inr ⟨⟨hx, hxs⟩, hxs⟩
  · rintro (rfl | ⟨⟨hx, _⟩, _⟩)
    · exact hf
    · exact hx
set_option maxHeartbeats 2000000 in
theorem rrename_ok (hE : ∀ f e, E f = some e → e.plain) (T : RdT E) (hf : E 60 = some (.bc b_refRename)) {h : Hp MD} {r : Nat} {m : MD} (a : RD h r m) (hn : m.fs.length ≤ 999) (s c : List UInt8) (hs : c.length ≤ 1000) :
    WF (lim E) 60 [.ptr r 0, .str s, .str c] h fun x h' => x = .int .i64 (m.rename s c).1 ∧ RD h' r (m.rename s c).2 ∧ Keep (FromB r) h h' := by
  obtain ⟨v, qs, hb, hl, hp⟩ := a.out
  have hlen := q_len hp
  have hro := a.ok.room
  have hl1 := a.ok.lim1
  have hmx : (maxLen : Nat) = 9223372036854775807 := rfl
  refine wf_bc hE hf rfl ?_
  simp only [b_refRename, List.map, getS]
  have okC := a.ok.rename s c
  have hcf := count_fs m
  repeat first|(refine BG ?_;first|(refine BH ?_;first|(refine BI ?_;refine BM ?_)|(refine BJ ?_;first|refine BN ?_|refine BO ?_)|refine BP ?_)|(refine BK ?_;first|refine BS rfl rfl ?_|refine BT rfl rfl ?_|refine BU rfl ?_)|(refine BL ?_;first|refine BQ ?_)|(refine BR ?_;try simp only [setS]))|refine AA ?_|refine AC ?_|refine AD ?_|refine AE ?_|refine AF rfl rfl ?_|refine AG rfl rfl ?_|refine AH ?_|refine AI ?_|refine AJ ?_|refine AK ?_|refine AL ?_|refine AM ?_|refine AN ?_|refine AO ?_|refine AP ?_|refine AQ rfl ?_|refine AR ?_|refine AS ?_|refine AT rfl ?_|refine AU rfl ?_
  refine wr_call_e rfl ((rat_ok hE T.at_ hb hl (by omega) s).mono fun x h0 ⟨e1, e2⟩ => ?_)
  subst e1
  cases hg : m.get s with
  | none =>
    have hc : m.rename s c = (22, m) := by unfold MD.rename; rw [hg]
    have e3 := rat_none hp a.ok hg e2
    subst e3
    rw [hc]
    repeat first|(refine BG ?_;first|(refine BH ?_;first|(refine BI ?_;refine BM ?_)|(refine BJ ?_;first|refine BN ?_|refine BO ?_)|refine BP ?_)|(refine BK ?_;first|refine BS rfl rfl ?_|refine BT rfl rfl ?_|refine BU rfl ?_)|(refine BL ?_;first|refine BQ ?_)|(refine BR ?_;try simp only [setS]))|refine AA ?_|refine AC ?_|refine AD ?_|refine AE ?_|refine AF rfl rfl ?_|refine AG rfl rfl ?_|refine AH ?_|refine AI ?_|refine AJ ?_|refine AK ?_|refine AL ?_|refine AM ?_|refine AN ?_|refine AO ?_|refine AP ?_|refine AQ rfl ?_|refine AR ?_|refine AS ?_|refine AT rfl ?_|refine AU rfl ?_
    exact ⟨rfl, a, Keep.refl _ _⟩
  | some f =>
    obtain ⟨i, q, hq, hqs, e3, hfq⟩ := rat_some hp a.ok hg e2
    subst e3
    repeat first|(refine BG ?_;first|(refine BH ?_;first|(refine BI ?_;refine BM ?_)|(refine BJ ?_;first|refine BN ?_|refine BO ?_)|refine BP ?_)|(refine BK ?_;first|refine BS rfl rfl ?_|refine BT rfl rfl ?_|refine BU rfl ?_)|(refine BL ?_;first|refine BQ ?_)|(refine BR ?_;try simp only [setS]))|refine AA ?_|refine AC ?_|refine AD ?_|refine AE ?_|refine AF rfl rfl ?_|refine AG rfl rfl ?_|refine AH ?_|refine AI ?_|refine AJ ?_|refine AK ?_|refine AL ?_|refine AM ?_|refine AN ?_|refine AO ?_|refine AP ?_|refine AQ rfl ?_|refine AR ?_|refine AS ?_|refine AT rfl ?_|refine AU rfl ?_
    refine wr_call_e rfl ((rnamed_ok hE T.named c (by omega)).mono fun x h00 ⟨e1, e4⟩ => ?_)
    subst e1
    rcases Bool.eq_false_or_eq_true (MD.right c) with hr | hr
    case' inr =>
      have hc : m.rename s c = (1, m) := by unfold MD.rename; rw [hg]; simp only; rw [if_pos hr]
      rw [hr] at e4
      subst e4
      rw [hc]
      repeat first|(refine BG ?_;first|(refine BH ?_;first|(refine BI ?_;refine BM ?_)|(refine BJ ?_;first|refine BN ?_|refine BO ?_)|refine BP ?_)|(refine BK ?_;first|refine BS rfl rfl ?_|refine BT rfl rfl ?_|refine BU rfl ?_)|(refine BL ?_;first|refine BQ ?_)|(refine BR ?_;try simp only [setS]))|refine AA ?_|refine AC ?_|refine AD ?_|refine AE ?_|refine AF rfl rfl ?_|refine AG rfl rfl ?_|refine AH ?_|refine AI ?_|refine AJ ?_|refine AK ?_|refine AL ?_|refine AM ?_|refine AN ?_|refine AO ?_|refine AP ?_|refine AQ rfl ?_|refine AR ?_|refine AS ?_|refine AT rfl ?_|refine AU rfl ?_
      exact ⟨rfl, a, Keep.refl _ _⟩
    rw [hr] at e4
    subst e4
    repeat first|(refine BG ?_;first|(refine BH ?_;first|(refine BI ?_;refine BM ?_)|(refine BJ ?_;first|refine BN ?_|refine BO ?_)|refine BP ?_)|(refine BK ?_;first|refine BS rfl rfl ?_|refine BT rfl rfl ?_|refine BU rfl ?_)|(refine BL ?_;first|refine BQ ?_)|(refine BR ?_;try simp only [setS]))|refine AA ?_|refine AC ?_|refine AD ?_|refine AE ?_|refine AF rfl rfl ?_|refine AG rfl rfl ?_|refine AH ?_|refine AI ?_|refine AJ ?_|refine AK ?_|refine AL ?_|refine AM ?_|refine AN ?_|refine AO ?_|refine AP ?_|refine AQ rfl ?_|refine AR ?_|refine AS ?_|refine AT rfl ?_|refine AU rfl ?_
    refine wr_call_s rfl ((rgoes_ok hE T.goes hb a.ok).mono fun x h1 ⟨e1, b1, k1⟩ => ?_)
    have l1 := hl.keep k1 (fun k q _ => Nat.le_of_eq q)
    rcases Bool.eq_false_or_eq_true m.count.down with hd | hd
    · have hc : m.rename s c = (13, m.count) := by unfold MD.rename; rw [hg]; simp only; rw [if_neg (by rw [hr]; decide), if_pos hd]
      rw [hd] at e1
      rw [hc] at okC ⊢
      subst e1
      repeat first|(refine BG ?_;first|(refine BH ?_;first|(refine BI ?_;refine BM ?_)|(refine BJ ?_;first|refine BN ?_|refine BO ?_)|refine BP ?_)|(refine BK ?_;first|refine BS rfl rfl ?_|refine BT rfl rfl ?_|refine BU rfl ?_)|(refine BL ?_;first|refine BQ ?_)|(refine BR ?_;try simp only [setS]))|refine AA ?_|refine AC ?_|refine AD ?_|refine AE ?_|refine AF rfl rfl ?_|refine AG rfl rfl ?_|refine AH ?_|refine AI ?_|refine AJ ?_|refine AK ?_|refine AL ?_|refine AM ?_|refine AN ?_|refine AO ?_|refine AP ?_|refine AQ rfl ?_|refine AR ?_|refine AS ?_|refine AT rfl ?_|refine AU rfl ?_
      exact ⟨rfl, ⟨⟨v, qs, b1, l1, by rw [hcf]; exact hp⟩, okC⟩, one_fromB k1⟩
    · have hc : m.rename s c = (0, { m.count with fs := putL MF.name (dropL MF.name m.fs s) { f with name := c } }) := by unfold MD.rename; rw [hg]; simp only; rw [if_neg (by rw [hr]; decide), if_neg (by rw [hd]; decide)]
      rw [hd] at e1
      rw [hc] at okC ⊢
      subst e1
      generalize hX : ({ m.count with fs := putL MF.name (dropL MF.name m.fs s) { f with name := c } } : MD) = X at okC ⊢
      by_cases hsc : s = c
      · repeat first|(refine BG ?_;first|(refine BH ?_;first|(refine BI ?_;refine BM ?_)|(refine BJ ?_;first|refine BN ?_|refine BO ?_)|refine BV (v_seq_t rfl rfl hsc) ?_|refine BP ?_)|(refine BK ?_;first|refine BS rfl rfl ?_|refine BT rfl rfl ?_|refine BU rfl ?_)|(refine BL ?_;first|refine BQ ?_)|(refine BR ?_;try simp only [setS]))|refine AA ?_|refine AC ?_|refine AD ?_|refine AE ?_|refine AF rfl rfl ?_|refine AG rfl rfl ?_|refine AH ?_|refine AI ?_|refine AJ ?_|refine AK ?_|refine AL ?_|refine AM ?_|refine AN ?_|refine AO ?_|refine AP ?_|refine AQ rfl ?_|refine AR ?_|refine AS ?_|refine AT rfl ?_|refine AU rfl ?_
        subst hX hsc
        exact ⟨rfl, ⟨⟨v, qs, b1, l1, hp.trans (same_fs a.ok hg)⟩, okC⟩, one_fromB k1⟩
      · repeat first|(refine BG ?_;first|(refine BH ?_;first|(refine BI ?_;refine BM ?_)|(refine BJ ?_;first|refine BN ?_|refine BO ?_)|refine BV (v_seq_f rfl rfl hsc) ?_|refine BP ?_)|(refine BK ?_;first|refine BS rfl rfl ?_|refine BT rfl rfl ?_|refine BU rfl ?_)|(refine BL ?_;first|refine BQ ?_)|(refine BR ?_;try simp only [setS]))|refine AA ?_|refine AC ?_|refine AD ?_|refine AF rfl rfl ?_|refine AG rfl rfl ?_|refine AH ?_|refine AI ?_|refine AJ ?_|refine AK ?_|refine AL ?_|refine AM ?_|refine AN ?_|refine AO ?_|refine AP ?_|refine AQ rfl ?_|refine AR ?_|refine AS ?_|refine AT rfl ?_|refine AU rfl ?_
        repeat first|(refine BG ?_;first|(refine BH ?_;first|(refine BI ?_;refine BM ?_)|(refine BJ ?_;first|refine BN ?_|refine BO ?_)|refine BV (v_bx b1 rfl rfl) ?_|refine BP ?_)|(refine BK ?_;first|refine BS rfl rfl ?_|refine BT rfl rfl ?_|refine BU rfl ?_)|(refine BL ?_;first|refine BQ ?_)|(refine BR ?_;try simp only [setS]))|(refine BX ?_;first|refine BY rfl ?_|(refine BZ ?_;refine CA ?_)|refine CB (v_bx b1 rfl rfl) ?_|refine CC ?_|(refine CD ?_;try simp only [setS]))|refine AA ?_|refine AC ?_|refine AD ?_|refine AE ?_|refine AF rfl rfl ?_|refine AG rfl rfl ?_|refine AH ?_|refine AI ?_|refine AJ ?_|refine AK ?_|refine AL ?_|refine AM ?_|refine AN ?_|refine AO ?_|refine AP ?_|refine AQ rfl ?_|refine AR ?_|refine AS ?_|refine AT rfl ?_|refine AU rfl ?_
        have kp : Keep NoB h1 (h1.push (.rw [.str [], .snil, .int .i64 0])) := Keep.push _ _ _
        have bp := b1.up kp
        have bxp : Bx (h1.push (.rw [.str [], .snil, .int .i64 0])) h1.n [.str [], .snil, .int .i64 0] := bx_push
        refine wd_alloc_s (by (try simp only [List.nil_append, List.cons_append]);repeat first|exact chk_nil|(apply chk_at;(focus exact rfl);first|exact pa_skp|(refine pa_mov ?_;first|exact (v_bx bp rfl rfl)|exact rfl))) ?_
        simp only [setS]
        repeat first|(refine BG ?_;first|(refine BH ?_;first|(refine BI ?_;refine BM ?_)|(refine BJ ?_;first|refine BN ?_|refine BO ?_)|refine BP ?_)|(refine BK ?_;first|refine BS rfl rfl ?_|refine BT rfl rfl ?_|refine BU rfl ?_)|(refine BL ?_;first|refine BQ ?_)|(refine BR ?_;try simp only [setS]))|(refine BX ?_;first|refine BY rfl ?_|(refine BZ ?_;refine CA ?_)|refine CC ?_|(refine CD ?_;try simp only [setS]))|refine AA ?_|refine AC ?_|refine AD ?_|refine AE ?_|refine AF rfl rfl ?_|refine AG rfl rfl ?_|refine AH ?_|refine AI ?_|refine AJ ?_|refine AK ?_|refine AL ?_|refine AM ?_|refine AN ?_|refine AO ?_|refine AP ?_|refine AQ rfl ?_|refine AR ?_|refine AS ?_|refine AT rfl ?_|refine AU rfl ?_
        refine wd_calls_e rfl ((rat_ok hE T.at_ bp (l1.up kp) (by omega) s).mono fun x h2 ⟨e1, e2⟩ => ?_)
        obtain ⟨i2, q2, hq2, hqs2, e3, hfq2⟩ := rat_some hp a.ok hg e2
        subst e3
        subst e1
        refine ⟨(by (try simp only [List.nil_append, List.cons_append]);repeat first|exact chk_nil|(apply chk_at;(focus exact rfl);first|exact pa_skp|exact (pa_alc bxp.get)|(refine pa_mov ?_;first|exact (v_bx bp rfl rfl)|exact rfl))), ?_⟩
        obtain ⟨g, o, ca, c0, c1, c2, c3, _⟩ := (l1.up kp).atk hq2
        have hrow := l1.row q2 (List.mem_of_getElem? hq2)
        repeat first|(refine BG ?_;first|(refine BH ?_;first|(refine BI ?_;refine BM ?_)|(refine BJ ?_;first|refine BN ?_|refine BO ?_)|refine BV (ca rfl rfl) ?_|refine BV (c3 (Keep.refl _ _) rfl) ?_|refine BP ?_)|(refine BK ?_;first|refine BS rfl rfl ?_|refine BT rfl rfl ?_|refine BU rfl ?_)|(refine BL ?_;first|refine BQ ?_)|(refine BR ?_;try simp only [setS]))|(refine BX ?_;first|refine BY rfl ?_|(refine BZ ?_;refine CA ?_)|refine CB (ca rfl rfl) ?_|refine CB (c3 (Keep.refl _ _) rfl) ?_|refine CC ?_|(refine CD ?_;try simp only [setS]))|refine AA ?_|refine AC ?_|refine AD ?_|refine AE ?_|refine AF rfl rfl ?_|refine AG rfl rfl ?_|refine AH ?_|refine AI ?_|refine AJ ?_|refine AK ?_|refine AL ?_|refine AM ?_|refine AN ?_|refine AO ?_|refine AP ?_|refine AQ rfl ?_|refine AR ?_|refine AS ?_|refine AT rfl ?_|refine AU rfl ?_
        refine wd_ef (ef_bxn bxp rfl rfl (one_all3 rfl hrow.1.one.2 rfl) rfl (Nat.le_refl _)) chk_nil ?_
        have hn1 := b1.lt
        refine wd_heap (h' := (h1.push (.rw [.str [], .snil, .int .i64 0])).put h1.n (.rw q2.cells)) rfl ?_
        have kb : Keep (OneB h1.n) (h1.push (.rw [.str [], .snil, .int .i64 0])) ((h1.push (.rw [.str [], .snil, .int .i64 0])).put h1.n (.rw q2.cells)) := Keep.put _ _ _ rfl
        have k3 : Keep NoB h1 ((h1.push (.rw [.str [], .snil, .int .i64 0])).put h1.n (.rw q2.cells)) := kp.own kb (fun k q => by have q : k = h1.n := q; omega)
        have x3 : Bx ((h1.push (.rw [.str [], .snil, .int .i64 0])).put h1.n (.rw q2.cells)) h1.n q2.cells := bxp.put
        generalize (h1.push (.rw [.str [], .snil, .int .i64 0])).put h1.n (.rw q2.cells) = h3 at *
        have n3 := x3.lt
        have hw1 : (qs.filter fun q => q.name != s).length ≤ qs.length := List.length_filter_le ..
        have hw2 : ((qs.filter fun q => q.name != s).filter fun q => q.name != c).length ≤ (qs.filter fun q => q.name != s).length := List.length_filter_le ..
        repeat first|(refine BG ?_;first|(refine BH ?_;first|(refine BI ?_;refine BM ?_)|(refine BJ ?_;first|refine BN ?_|refine BO ?_)|refine BP ?_)|(refine BK ?_;first|refine BS rfl rfl ?_|refine BT rfl rfl ?_|refine BU rfl ?_)|(refine BL ?_;first|refine BQ ?_)|(refine BR ?_;try simp only [setS]))|(refine BX ?_;first|refine BY rfl ?_|(refine BZ ?_;refine CA ?_)|refine CC ?_|(refine CD ?_;try simp only [setS]))|refine AA ?_|refine AC ?_|refine AD ?_|refine AF rfl rfl ?_|refine AG rfl rfl ?_|refine AH ?_|refine AI ?_|refine AJ ?_|refine AK ?_|refine AL ?_|refine AM ?_|refine AN ?_|refine AO ?_|refine AP ?_|refine AQ rfl ?_|refine AR ?_|refine AS ?_|refine AT rfl ?_|refine AU rfl ?_
        refine wr_call_e rfl ((rwithout_ok hE T.without (b1.up k3) (l1.up k3) (by omega) s).mono fun x h4 ⟨v4, b4, l4, lo4, k4⟩ => ?_)
        have n4 := k4.n
        repeat first|(refine BG ?_;first|(refine BH ?_;first|(refine BI ?_;refine BM ?_)|(refine BJ ?_;first|refine BN ?_|refine BO ?_)|refine BP ?_)|(refine BK ?_;first|refine BS rfl rfl ?_|refine BT rfl rfl ?_|refine BU rfl ?_)|(refine BL ?_;first|refine BQ ?_)|(refine BR ?_;try simp only [setS]))|refine AA ?_|refine AC ?_|refine AD ?_|refine AF rfl rfl ?_|refine AG rfl rfl ?_|refine AH ?_|refine AI ?_|refine AJ ?_|refine AK ?_|refine AL ?_|refine AM ?_|refine AN ?_|refine AO ?_|refine AP ?_|refine AQ rfl ?_|refine AR ?_|refine AS ?_|refine AT rfl ?_|refine AU rfl ?_
        refine wr_call_e rfl ((rwithout_ok hE T.without b4 l4 (by omega) c).mono fun x h5 ⟨v5, b5, l5, lo5, k5⟩ => ?_)
        have n5 := k5.n
        have x5 := (x3.keep k4 (fun q => by have q : h1.n = r := q; omega)).keep k5 (fun q => by have q : h1.n = r := q; omega)
        repeat first|(refine BG ?_;first|(refine BH ?_;first|(refine BI ?_;refine BM ?_)|(refine BJ ?_;first|refine BN ?_|refine BO ?_)|refine BP ?_)|(refine BK ?_;first|refine BS rfl rfl ?_|refine BT rfl rfl ?_|refine BU rfl ?_)|(refine BL ?_;first|refine BW (ef_bx x5 rfl rfl ⟨rfl, rfl⟩ (by exact Nat.le_of_ble_eq_true rfl)) ?_|refine BQ ?_)|(refine BR ?_;try simp only [setS]))|refine AA ?_|refine AC ?_|refine AD ?_|refine AF rfl rfl ?_|refine AG rfl rfl ?_|refine AH ?_|refine AI ?_|refine AJ ?_|refine AK ?_|refine AL ?_|refine AM ?_|refine AN ?_|refine AO ?_|refine AP ?_|refine AQ rfl ?_|refine AR ?_|refine AS ?_|refine AT rfl ?_|refine AU rfl ?_
        refine wb_hq (h' := h5.put h1.n (.rw (QF.cells ⟨c, q2.v, q2.b, q2.sy⟩))) rfl ?_
        have k6 : Keep (OneB h1.n) h5 (h5.put h1.n (.rw (QF.cells ⟨c, q2.v, q2.b, q2.sy⟩))) := Keep.put _ _ _ rfl
        have x6 : Bx (h5.put h1.n (.rw (QF.cells ⟨c, q2.v, q2.b, q2.sy⟩))) h1.n (QF.cells ⟨c, q2.v, q2.b, q2.sy⟩) := x5.put
        have b6 := b5.keep k6 (fun q => by have q : r = h1.n := q; omega)
        have hx5 : ∀ k, blk v5 k → k ≠ h1.n := fun k q => by have := lo5 k q; omega
        have hrl := hrow.1.lt
        have l6 : LF (h5.put h1.n (.rw (QF.cells ⟨c, q2.v, q2.b, q2.sy⟩))) v5 ((qs.filter fun q => q.name != s).filter fun q => q.name != c) r :=
          ⟨l5.arr.keep k6 (fun k q1 q2 => hx5 k q1 q2), l5.fro, fun w hw => ⟨(l5.row w hw).1.keep k6 (fun k q1 q2 => by
            have hw1 := l1.row w (List.mem_filter.1 (List.mem_filter.1 hw).1).1
            have := hw1.1.lt k q1
            have q2 : k = h1.n := q2
            omega), (l5.row w hw).2⟩⟩
        have hr6 := (((hrow.1.up k3).keep k4 (fun k q1 q2 => by have := (hrow.2 k q1).1; have q2 : k = r := q2; omega)).keep k5 (fun k q1 q2 => by have := (hrow.2 k q1).1; have q2 : k = r := q2; omega)).keep k6 (fun k q1 q2 => by have := hrl k q1; have q2 : k = h1.n := q2; omega)
        have K5 : Keep (FromB r) h00 h5 := (((one_fromB k1).trans k3 (fun _ _ q => q.elim)).trans (one_fromB k4) (fun _ _ q => q)).trans (one_fromB k5) (fun _ _ q => q)
        have K6 : Keep (FromB r) h00 (h5.put h1.n (.rw (QF.cells ⟨c, q2.v, q2.b, q2.sy⟩))) := K5.trans k6 (fun k _ q => by have q : k = h1.n := q; show r ≤ k; omega)
        have n6 := k6.n
        generalize h5.put h1.n (.rw (QF.cells ⟨c, q2.v, q2.b, q2.sy⟩)) = h6 at *
        obtain ⟨p1, p2, p3⟩ := l6.next (q := ⟨c, q2.v, q2.b, q2.sy⟩) hr6 (fun k hk => ⟨(hrow.2 k hk).1, fun q => by have := hrl k hk; have := lo5 k q; omega⟩) (by omega)
        repeat first|(refine BG ?_;first|(refine BH ?_;first|(refine BI ?_;refine BM ?_)|(refine BJ ?_;first|refine BN ?_|refine BO ?_)|refine BV (v_bx b6 rfl rfl) ?_|refine BV (v_bxn x6 rfl (Nat.le_refl _)) ?_|refine BP ?_)|(refine BK ?_;first|refine BS rfl rfl ?_|refine BT rfl rfl ?_|refine BU rfl ?_)|(refine BL ?_;first|refine BQ ?_)|(refine BR ?_;try simp only [setS]))|(refine BX ?_;first|refine BY rfl ?_|(refine BZ ?_;refine CA ?_)|refine CB (v_bx b6 rfl rfl) ?_|refine CB (v_bxn x6 rfl (Nat.le_refl _)) ?_|refine CC ?_|(refine CD ?_;try simp only [setS]))|refine AA ?_|refine AC ?_|refine AD ?_|refine AE ?_|refine AF rfl rfl ?_|refine AG rfl rfl ?_|refine AH ?_|refine AI ?_|refine AJ ?_|refine AK ?_|refine AL ?_|refine AM ?_|refine AN ?_|refine AO ?_|refine AP ?_|refine AQ rfl ?_|refine AR ?_|refine AS ?_|refine AT rfl ?_|refine AU rfl ?_
        have kq : Keep NoB h6 (h6.push (.rw (QF.cells ⟨c, q2.v, q2.b, q2.sy⟩))) := Keep.push _ _ _
        have bq := b6.up kq
        have xq := x6.up kq
        refine wd_alc (cs := QF.cells ⟨c, q2.v, q2.b, q2.sy⟩) (ef_bsQ (q := ⟨c, q2.v, q2.b, q2.sy⟩) rfl hrow.1.one.2) (by (try simp only [List.nil_append, List.cons_append]);repeat first|exact chk_nil|(apply chk_at;(focus exact rfl);first|exact pa_skp|(refine pa_mov ?_;first|exact (v_bx bq rfl rfl)|exact (v_bxn xq rfl (Nat.le_refl _))|exact rfl))) ?_
        repeat first|(refine BG ?_;first|(refine BH ?_;first|(refine BI ?_;refine BM ?_)|(refine BJ ?_;first|refine BN ?_|refine BO ?_)|refine BP ?_)|(refine BK ?_;first|refine BS rfl rfl ?_|refine BT rfl rfl ?_|refine BU rfl ?_)|(refine BL ?_;first|refine BQ ?_)|(refine BR ?_;try simp only [setS]))|(refine BX ?_;first|refine BY rfl ?_|(refine BZ ?_;refine CA ?_)|refine CC ?_|(refine CD ?_;try simp only [setS]))|refine AA ?_|refine AC ?_|refine AD ?_|refine AE ?_|refine AF rfl rfl ?_|refine AG rfl rfl ?_|refine AH ?_|refine AI ?_|refine AJ ?_|refine AK ?_|refine AL ?_|refine AM ?_|refine AN ?_|refine AO ?_|refine AP ?_|refine AQ rfl ?_|refine AR ?_|refine AS ?_|refine AT rfl ?_|refine AU rfl ?_
        refine wd_app rfl rfl p1 (by decide) p2 (by omega) (by omega) fun v' h' a1 a2 a3 => ?_
        obtain ⟨p4, p5⟩ := p3 v' h' a1 a2 a3
        have b7 := b6.keep p5 (fun q => by have := lo5 r q; omega)
        refine ⟨(by (try simp only [List.nil_append, List.cons_append]);repeat first|exact chk_nil|(apply chk_at;(focus exact rfl);first|exact pa_skp|(refine pa_mov ?_;first|exact (v_bx b7 rfl rfl)|exact rfl))), ?_⟩
        repeat first|(refine BG ?_;first|(refine BH ?_;first|(refine BI ?_;refine BM ?_)|(refine BJ ?_;first|refine BN ?_|refine BO ?_)|refine BV (v_bx b7 rfl rfl) ?_|refine BP ?_)|(refine BK ?_;first|refine BS rfl rfl ?_|refine BT rfl rfl ?_|refine BU rfl ?_)|(refine BL ?_;first|refine BQ ?_)|(refine BR ?_;try simp only [setS]))|(refine BX ?_;first|refine BY rfl ?_|(refine BZ ?_;refine CA ?_)|refine CB (v_bx b7 rfl rfl) ?_|refine CC ?_|(refine CD ?_;try simp only [setS]))|refine AA ?_|refine AC ?_|refine AD ?_|refine AE ?_|refine AF rfl rfl ?_|refine AG rfl rfl ?_|refine AH ?_|refine AI ?_|refine AJ ?_|refine AK ?_|refine AL ?_|refine AM ?_|refine AN ?_|refine AO ?_|refine AP ?_|refine AQ rfl ?_|refine AR ?_|refine AS ?_|refine AT rfl ?_|refine AU rfl ?_
        refine wd_ef (ef_bx b7 rfl rfl p4.arr.one (by exact Nat.le_of_ble_eq_true rfl)) chk_nil ?_
        repeat first|(refine BG ?_;first|(refine BH ?_;first|(refine BI ?_;refine BM ?_)|(refine BJ ?_;first|refine BN ?_|refine BO ?_)|refine BP ?_)|(refine BK ?_;first|refine BS rfl rfl ?_|refine BT rfl rfl ?_|refine BU rfl ?_)|(refine BL ?_;first|refine BQ ?_)|(refine BR ?_;try simp only [setS]))|(refine BX ?_;first|refine BY rfl ?_|(refine BZ ?_;refine CA ?_)|refine CC ?_|(refine CD ?_;try simp only [setS]))|refine AA ?_|refine AC ?_|refine AD ?_|refine AE ?_|refine AF rfl rfl ?_|refine AG rfl rfl ?_|refine AH ?_|refine AI ?_|refine AJ ?_|refine AK ?_|refine AL ?_|refine AM ?_|refine AN ?_|refine AO ?_|refine AP ?_|refine AQ rfl ?_|refine AR ?_|refine AS ?_|refine AT rfl ?_|refine AU rfl ?_
        have tl := rd_tail (m' := X) b7 p4 (by rw [← hX]) (by rw [← hX]) (by rw [← hX]) (by
          rw [← hX, hfq2]
          exact q_put (m := { m with fs := dropL MF.name m.fs s }) (q := ⟨c, q2.v, q2.b, q2.sy⟩) (q_drop hp s) c rfl) okC
        exact ⟨rfl, tl.1, (K6.trans (p5.mono (fun g _ q => (Nat.le_of_lt (l6.fro g q) : FromB r g))) (fun _ _ q => q)).trans (one_fromB tl.2) (fun _ _ q => q)⟩
end
end Am
end Go.Proofs.Ythgcdoahoechhaa
