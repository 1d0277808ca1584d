/- Package wal: Open, Add, Sync, Count, Name. Chapter 5: batches that are drawn: keep.Cut, keep.Entries, batches. Chapter 5: batches, laid. Chapter 8's own Same; layer 5's same. Layer 5's same, fresh, on. Package wal: Add, Sync, Count, Name. -/
import Derived.Test.YthgcdoahoechhaaMK
set_option linter.unusedVariables false
set_option linter.unusedSimpArgs false
namespace Go.Proofs.Ythgcdoahoechhaa
namespace Am
open Go.RowKit
set_option maxRecDepth 100000
def b_walBegin : BF := ⟨31, [0, 1, 4, 5, 6, 7, 19, 26], (.seq (.reg [.mk none (.slot 2) (.mov (.mv (.const .snil))), .mk none (.slot 3) (.mov (.mv (.const (.int .i64 0))))]) (.seq (.seq (.reg [.mk none (.env 8) (.mov (.mv (.slot 0))), .mk none (.env 9) (.mov (.bin .eql .ptr (.env 8) (.const .nilp))), .mk none (.env 10) (.mov (.mv (.env 9))), .mk (some ((.env 10), false)) (.env 11) (.mov (.mv (.slot 1))), .mk (some ((.env 10), false)) (.env 12) (.mov (.lens (.env 11))), .mk (some ((.env 10), false)) (.env 13) (.mov (.bin .lss .no (.env 12) (.const (.int .i64 1)))), .mk none (.env 14) (.mov (.pick (.env 10) (.const (.bool true)) (.env 13))), .mk none (.env 15) (.mov (.mv (.env 14))), .mk (some ((.env 15), false)) (.env 16) (.mov (.mv (.slot 1))), .mk (some ((.env 15), false)) (.env 17) (.mov (.lens (.env 16))), .mk (some ((.env 15), false)) (.env 18) (.mov (.bin .gtr .no (.env 17) (.const (.int .i64 32)))), .mk none (.slot 6) (.mov (.pick (.env 15) (.const (.bool true)) (.env 18)))]) (.cond (.slot 6) (.seq (.reg [.mk none (.slot 2) (.mov (.mv (.const .snil))), .mk none (.slot 3) (.mov (.mv (.const (.int .i64 1))))]) .ret) .skip)) (.seq (.seq (.reg [.mk none (.env 21) (.mov (.mv (.slot 0))), .mk none (.env 22) (.mov (.mv (.slot 1))), .mk none (.env 23) (.call 32 [(.env 21), (.env 22)]), .mk none (.env 20) (.mov (.mv (.env 23))), .mk none (.env 24) (.mov (.ext 0 (.env 20))), .mk none (.env 25) (.mov (.ext 1 (.env 20))), .mk none (.slot 4) (.mov (.mv (.env 24))), .mk none (.slot 5) (.mov (.mv (.env 25)))]) (.seq (.reg [.mk none (.slot 7) (.mov (.mv (.slot 5)))]) (.cond (.slot 7) (.seq (.reg [.mk none (.env 27) (.mov (.mv (.slot 4))), .mk none (.slot 2) (.mov (.mv (.env 27))), .mk none (.slot 3) (.mov (.mv (.const (.int .i64 0))))]) .ret) .skip))) (.seq (.reg [.mk none (.env 28) (.mov (.mv (.slot 0))), .mk none (.env 29) (.mov (.mv (.slot 1))), .mk none (.env 30) (.call 51 [(.env 28), (.env 29)]), .mk none (.slot 2) (.mov (.mv (.const .snil))), .mk none (.slot 3) (.mov (.mv (.env 30)))]) .ret)))), [.slot (.slot 2), .slot (.slot 3)]⟩
def b_walOpen : BF := ⟨71, [0, 1, 4, 5, 6, 7, 8, 9, 10, 11, 12, 14, 15, 16, 24, 33, 38, 44, 46, 47, 48, 49, 58], (.seq (.reg [.mk none (.slot 2) (.mov (.mv (.const .nilp))), .mk none (.slot 3) (.mov (.mv (.const .snil))), .mk none (.slot 4) (.mov (.mv (.const (.int .i64 0))))]) (.seq (.reg [.mk none (.env 18) (.mov (.mv (.slot 0))), .mk none (.env 19) (.mov (.mv (.slot 1))), .mk none (.env 20) (.call 73 [(.env 18), (.env 19)]), .mk none (.env 17) (.mov (.mv (.env 20))), .mk none (.env 21) (.mov (.ext 0 (.env 17))), .mk none (.env 22) (.mov (.ext 1 (.env 17))), .mk none (.slot 5) (.mov (.mv (.env 21))), .mk none (.slot 6) (.mov (.mv (.env 22)))]) (.seq (.seq (.reg [.mk none (.env 23) (.mov (.mv (.slot 6))), .mk none (.slot 14) (.mov (.bin .neq .no (.env 23) (.const (.int .i64 0))))]) (.cond (.slot 14) (.seq (.reg [.mk none (.env 25) (.mov (.mv (.slot 6))), .mk none (.slot 2) (.mov (.mv (.const .nilp))), .mk none (.slot 3) (.mov (.mv (.const .snil))), .mk none (.slot 4) (.mov (.mv (.env 25)))]) .ret) .skip)) (.seq (.reg [.mk none (.env 27) (.mov (.mv (.slot 5))), .mk none (.env 28) (.call 74 [(.env 27)]), .mk none (.env 26) (.mov (.mv (.env 28))), .mk none (.env 29) (.mov (.ext 0 (.env 26))), .mk none (.env 30) (.mov (.ext 1 (.env 26))), .mk none (.env 31) (.mov (.ext 2 (.env 26))), .mk none (.slot 7) (.mov (.mv (.env 29))), .mk none (.slot 8) (.mov (.mv (.env 30))), .mk none (.slot 6) (.mov (.mv (.env 31)))]) (.seq (.seq (.reg [.mk none (.env 32) (.mov (.mv (.slot 6))), .mk none (.slot 15) (.mov (.bin .neq .no (.env 32) (.const (.int .i64 0))))]) (.cond (.slot 15) (.seq (.reg [.mk none (.env 34) (.mov (.mv (.slot 6))), .mk none (.slot 2) (.mov (.mv (.const .nilp))), .mk none (.slot 3) (.mov (.mv (.const .snil))), .mk none (.slot 4) (.mov (.mv (.env 34)))]) .ret) .skip)) (.seq (.seq (.reg [.mk none (.env 35) (.mov (.mv (.slot 8))), .mk none (.env 36) (.mov (.mv (.slot 5))), .mk none (.env 37) (.mov (.lenv (.env 36))), .mk none (.slot 16) (.mov (.bin .lss .no (.env 35) (.env 37)))]) (.cond (.slot 16) (.seq (.reg [.mk none (.env 39) (.mov (.mv (.slot 0))), .mk none (.env 40) (.mov (.mv (.slot 1))), .mk none (.env 41) (.mov (.mv (.slot 8))), .mk none (.env 42) (.call 57 [(.env 39), (.env 40), (.env 41)]), .mk none (.slot 9) (.mov (.mv (.env 42)))]) (.seq (.reg [.mk none (.env 43) (.mov (.mv (.slot 9))), .mk none (.slot 17) (.mov (.bin .neq .no (.env 43) (.const (.int .i64 0))))]) (.cond (.slot 17) (.seq (.reg [.mk none (.env 45) (.mov (.mv (.slot 9))), .mk none (.slot 2) (.mov (.mv (.const .nilp))), .mk none (.slot 3) (.mov (.mv (.const .snil))), .mk none (.slot 4) (.mov (.mv (.env 45)))]) .ret) .skip))) .skip)) (.seq (.reg [.mk none (.slot 10) (.mov (.mv (.const .snil)))]) (.seq (.seq (.reg [.mk none (.slot 18) (.mov (.mv (.slot 7))), .mk none (.slot 19) (.mov (.lenv (.slot 18))), .mk none (.slot 20) (.mov (.mv (.const (.int .i64 0))))]) (.block 0 (.loop (.seq (.reg [.mk none (.slot 21) (.mov (.bin .lss .no (.slot 20) (.slot 19)))]) (.seq (.cond (.slot 21) .skip (.exit 0)) (.seq (.block 1 (.seq (.reg [.mk none (.env 50) (.mov (.iaddr 1 (.slot 18) (.slot 20))), .mk none (.env 51) (.mov (.ld1 (.env 50))), .mk none (.slot 11) (.mov (.mv (.env 51)))]) (.seq (.reg [.mk none (.env 53) (.mov (.mv (.slot 11))), .mk none (.env 54) (.call 75 [(.env 53)]), .mk none (.env 52) (.mov (.mv (.env 54))), .mk none (.env 55) (.mov (.ext 0 (.env 52))), .mk none (.env 56) (.mov (.ext 1 (.env 52))), .mk none (.slot 12) (.mov (.mv (.env 55))), .mk none (.slot 13) (.mov (.mv (.env 56)))]) (.seq (.seq (.reg [.mk none (.env 57) (.mov (.mv (.slot 13))), .mk none (.slot 22) (.mov (.bin .neq .no (.env 57) (.const (.int .i64 0))))]) (.cond (.slot 22) (.seq (.reg [.mk none (.slot 2) (.mov (.mv (.const .nilp))), .mk none (.slot 3) (.mov (.mv (.const .snil))), .mk none (.slot 4) (.mov (.mv (.const (.int .i64 14))))]) .ret) .skip)) (.reg [.mk none (.env 59) (.mov (.mv (.slot 10))), .mk none (.env 60) (.mov (.mv (.slot 12))), .mk none (.env 61) (.eff (.bslice 1 1 [.snil] [(0, 1, (.env 60))])), .mk none (.env 62) (.eff (.append 1 24 (.env 59) (.env 61))), .mk none (.slot 10) (.mov (.mv (.env 62)))]))))) (.reg [.mk none (.env 63) (.mov (.bin .add .no (.slot 20) (.const (.int .i64 1)))), .mk none (.slot 20) (.mov (.mv (.env 63)))]))))))) (.seq (.reg [.mk none (.env 64) (.mov (.mv (.slot 0))), .mk none (.env 65) (.mov (.mv (.slot 1))), .mk none (.env 66) (.mov (.mv (.slot 10))), .mk none (.env 67) (.mov (.lenv (.env 66))), .mk none (.env 68) (.mov (.bld [.nilp, (.str []), (.int .i64 0)] [(0, 1, (.env 64)), (1, 1, (.env 65)), (2, 1, (.env 67))])), .mk none (.env 69) (.eff (.box (.env 68))), .mk none (.env 70) (.mov (.mv (.slot 10))), .mk none (.slot 2) (.mov (.mv (.env 69))), .mk none (.slot 3) (.mov (.mv (.env 70))), .mk none (.slot 4) (.mov (.mv (.const (.int .i64 0))))]) .ret))))))))), [.slot (.slot 2), .slot (.slot 3), .slot (.slot 4)]⟩
def b_walAdd : BF := ⟨46, [0, 1, 4, 5, 6, 7, 8, 15, 23, 37], (.seq (.reg [.mk none (.slot 2) (.mov (.mv (.const (.int .i64 0))))]) (.seq (.reg [.mk none (.env 10) (.mov (.mv (.slot 1))), .mk none (.env 11) (.call 76 [(.env 10)]), .mk none (.env 9) (.mov (.mv (.env 11))), .mk none (.env 12) (.mov (.ext 0 (.env 9))), .mk none (.env 13) (.mov (.ext 1 (.env 9))), .mk none (.slot 3) (.mov (.mv (.env 12))), .mk none (.slot 4) (.mov (.mv (.env 13)))]) (.seq (.seq (.reg [.mk none (.env 14) (.mov (.mv (.slot 4))), .mk none (.slot 7) (.mov (.bin .neq .no (.env 14) (.const (.int .i64 0))))]) (.cond (.slot 7) (.seq (.reg [.mk none (.env 16) (.mov (.mv (.slot 4))), .mk none (.slot 2) (.mov (.mv (.env 16)))]) .ret) .skip)) (.seq (.reg [.mk none (.env 18) (.mov (.mv (.slot 3))), .mk none (.env 19) (.call 77 [(.const .snil), (.env 18)]), .mk none (.env 17) (.mov (.mv (.env 19))), .mk none (.env 20) (.mov (.ext 0 (.env 17))), .mk none (.env 21) (.mov (.ext 1 (.env 17))), .mk none (.slot 5) (.mov (.mv (.env 20))), .mk none (.slot 4) (.mov (.mv (.env 21)))]) (.seq (.seq (.reg [.mk none (.env 22) (.mov (.mv (.slot 4))), .mk none (.slot 8) (.mov (.bin .neq .no (.env 22) (.const (.int .i64 0))))]) (.cond (.slot 8) (.seq (.reg [.mk none (.env 24) (.mov (.mv (.slot 4))), .mk none (.slot 2) (.mov (.mv (.env 24)))]) .ret) .skip)) (.seq (.seq (.dreg [(.mk none (.env 25) (.mov (.mv (.slot 0))), []), (.mk none (.env 26) (.mov (.nilc (.env 25))), []), (.mk none (.env 27) (.mov (.faddr 0 (.env 26))), []), (.mk none (.env 28) (.mov (.ld1 (.env 27))), []), (.mk none (.env 29) (.mov (.mv (.slot 0))), []), (.mk none (.env 30) (.mov (.nilc (.env 29))), []), (.mk none (.env 31) (.mov (.faddr 1 (.env 30))), []), (.mk none (.env 32) (.mov (.ld1 (.env 31))), []), (.mk none (.env 33) (.mov (.mv (.slot 5))), []), (.mk none (.env 34) (.call 78 [(.env 33)]), [0, 1, 2, 3, 4, 5, 6, 7]), (.mk none (.env 35) (.call 53 [(.env 28), (.env 32), (.env 34)]), []), (.mk none (.slot 6) (.mov (.mv (.env 35))), [])]) (.seq (.reg [.mk none (.env 36) (.mov (.mv (.slot 6))), .mk none (.slot 9) (.mov (.bin .neq .no (.env 36) (.const (.int .i64 0))))]) (.cond (.slot 9) (.seq (.reg [.mk none (.env 38) (.mov (.mv (.slot 6))), .mk none (.slot 2) (.mov (.mv (.env 38)))]) .ret) .skip))) (.seq (.reg [.mk none (.env 39) (.mov (.mv (.slot 0))), .mk none (.env 40) (.mov (.nilc (.env 39))), .mk none (.env 41) (.mov (.faddr 2 (.env 40))), .mk none (.env 42) (.mov (.ld1 (.env 41))), .mk none (.env 43) (.mov (.bin .add .no (.env 42) (.const (.int .i64 1)))), .mk none (.env 44) (.mov (.nilc (.env 39))), .mk none (.env 45) (.mov (.faddr 2 (.env 44))), .mk none .none (.eff (.store 1 (.env 45) (.env 43)))]) (.seq (.reg [.mk none (.slot 2) (.mov (.mv (.const (.int .i64 0))))]) .ret)))))))), [.slot (.slot 2)]⟩
def b_clipB : BF := ⟨9, [0, 2], (.seq (.reg [.mk none (.slot 1) (.mov (.mv (.const .snil)))]) (.seq (.reg [.mk none (.env 3) (.mov (.mv (.slot 0))), .mk none (.env 4) (.mov (.mv (.slot 0))), .mk none (.env 5) (.mov (.lenv (.env 4))), .mk none (.env 6) (.mov (.mv (.slot 0))), .mk none (.env 7) (.mov (.lenv (.env 6))), .mk none (.env 8) (.mov (.sl 1 (.env 3) none (some (.env 5)) (some (.env 7)))), .mk none (.slot 1) (.mov (.mv (.env 8)))]) .ret)), [.slot (.slot 1)]⟩
def b_walSync : BF := ⟨12, [0, 2], (.seq (.reg [.mk none (.slot 1) (.mov (.mv (.const (.int .i64 0))))]) (.seq (.dreg [(.mk none (.env 3) (.mov (.mv (.slot 0))), []), (.mk none (.env 4) (.mov (.nilc (.env 3))), []), (.mk none (.env 5) (.mov (.faddr 0 (.env 4))), []), (.mk none (.env 6) (.mov (.ld1 (.env 5))), []), (.mk none (.env 7) (.mov (.mv (.slot 0))), []), (.mk none (.env 8) (.mov (.nilc (.env 7))), []), (.mk none (.env 9) (.mov (.faddr 1 (.env 8))), []), (.mk none (.env 10) (.mov (.ld1 (.env 9))), []), (.mk none (.env 11) (.call 55 [(.env 6), (.env 10)]), []), (.mk none (.slot 1) (.mov (.mv (.env 11))), [])]) .ret)), [.slot (.slot 1)]⟩
def b_walCount : BF := ⟨7, [0, 2], (.seq (.reg [.mk none (.slot 1) (.mov (.mv (.const (.int .i64 0))))]) (.seq (.reg [.mk none (.env 3) (.mov (.mv (.slot 0))), .mk none (.env 4) (.mov (.nilc (.env 3))), .mk none (.env 5) (.mov (.faddr 2 (.env 4))), .mk none (.env 6) (.mov (.ld1 (.env 5))), .mk none (.slot 1) (.mov (.mv (.env 6)))]) .ret)), [.slot (.slot 1)]⟩
def b_walName : BF := ⟨7, [0, 2], (.seq (.reg [.mk none (.slot 1) (.mov (.mv (.const (.str []))))]) (.seq (.reg [.mk none (.env 3) (.mov (.mv (.slot 0))), .mk none (.env 4) (.mov (.nilc (.env 3))), .mk none (.env 5) (.mov (.faddr 1 (.env 4))), .mk none (.env 6) (.mov (.ld1 (.env 5))), .mk none (.slot 1) (.mov (.mv (.env 6)))]) .ret)), [.slot (.slot 1)]⟩
def allE : List (List UInt8) → Option (List (List EM))
  | [] => some []
  | r :: l => match frE r with
    | none => none
    | some e => (allE l).map (e :: ·)
def beginF (x : MD) (s : List UInt8) : List UInt8 × Int × MD := match x.get s with
  | some f => (f.b, 0, x)
  | none => ([], (x.create s).1, (x.create s).2)
def cutF (x : MD) (s : List UInt8) (b : List UInt8) : Int × MD := if (allG (b.length + 1) b).2.1 < b.length then x.cut s (allG (b.length + 1) b).2.1 else (0, x)
def openF (x : MD) (s : List UInt8) : Except Int (List (List EM)) × MD :=
  if (beginF x s).2.1 ≠ 0 then (.error (beginF x s).2.1, (beginF x s).2.2)
  else if (allG ((beginF x s).1.length + 1) (beginF x s).1).2.2 = false then (.error 14, (beginF x s).2.2)
  else if (cutF (beginF x s).2.2 s (beginF x s).1).1 ≠ 0 then (.error (cutF (beginF x s).2.2 s (beginF x s).1).1, (cutF (beginF x s).2.2 s (beginF x s).1).2)
  else match allE (allG ((beginF x s).1.length + 1) (beginF x s).1).1 with
    | none => (.error 14, (cutF (beginF x s).2.2 s (beginF x s).1).2)
    | some ls => (.ok ls, (cutF (beginF x s).2.2 s (beginF x s).1).2)
structure WaW (E : Nat → Option (Ent MD)) : Prop extends WaN E where
  begin_ : E 73 = some (.bc b_walBegin)
  open_ : E 19 = some (.bc b_walOpen)
  add : E 20 = some (.bc b_walAdd)
  clip : E 78 = some (.bc b_clipB)
  wsync : E 21 = some (.bc b_walSync)
  count : E 31 = some (.bc b_walCount)
  wname : E 80 = some (.bc b_walName)
  frall : E 74 = some (.bc b_frAll)
  frlength : E 104 = some (.bc b_frLength)
  frput : E 77 = some (.bc b_frPut)
  create : E 51 = some (.nat (n_name MD.create))
  append : E 53 = some (.nat n_append)
  sync : E 55 = some (.nat (n_name MD.sync))
  dcut : E 57 = some (.nat n_cut)
  dread : E 32 = some (.nat n_read)
section
variable {E : Nat → Option (Ent MD)}
def BegPost (h : Hp MD) (d : Nat) (x : MD) (s : List UInt8) (r : AV) (h' : Hp MD) : Prop := ∃ v, r = .tup [v, .int .i64 (beginF x s).2.1] ∧ RS h' 1 v (beginF x s).1.length ((beginF x s).1.map ub) ∧ Ob h' d (beginF x s).2.2 ∧ Keep (OneB d) h h'
theorem begin_ok (hE : ∀ f e, E f = some e → e.plain) (T : WaW E) {h : Hp MD} {d : Nat} {x : MD} {s : List UInt8} (hd : Ob h d x) (hn : x.fs.length ≤ 1099511627775) (h1 : 1 ≤ s.length) (h2 : s.length ≤ 32) :
    WF (lim E) 73 [.ptr d 0, .str s] h fun r h' => BegPost h d x s r h' := by
  refine wf_bc hE T.begin_ rfl ?_
  simp only [b_walBegin, List.map, getS]
  repeat first|(refine BG ?_;first|(refine BH ?_;first|(refine BI ?_;refine BM ?_)|(refine BJ ?_;first|refine BN ?_|refine BO ?_)|refine BV (v_pnil rfl) ?_|refine BV (v_lens rfl) ?_|refine BP ?_)|(refine BK ?_;first|refine BS rfl rfl ?_|refine BT rfl rfl ?_|refine BU rfl ?_)|(refine BL ?_;first|refine BQ ?_)|(refine BR ?_;try simp only [setS]))|refine AA ?_|refine AC ?_|refine AD ?_|refine AE ?_|refine AF rfl rfl ?_|refine AG rfl rfl ?_|refine AH ?_|refine AI ?_|refine AJ ?_|refine AK ?_|refine AL ?_|refine AM ?_|refine AN ?_|refine AO ?_|refine AP ?_|refine AQ rfl ?_|refine AR ?_|refine AS ?_|refine AT rfl ?_|refine AU rfl ?_
  cases hg : x.get s with
  | none =>
    refine wr_call_e rfl ((w_read_none hE T.dread hd hn hg).mono fun r h1 ⟨e1, e2⟩ => ?_)
    subst e1 e2
    repeat first|(refine BG ?_;first|(refine BH ?_;first|(refine BI ?_;refine BM ?_)|(refine BJ ?_;first|refine BN ?_|refine BO ?_)|refine BP ?_)|(refine BK ?_;first|refine BS rfl rfl ?_|refine BT rfl rfl ?_|refine BU rfl ?_)|(refine BL ?_;first|refine BQ ?_)|(refine BR ?_;try simp only [setS]))|refine AA ?_|refine AC ?_|refine AD ?_|refine AE ?_|refine AF rfl rfl ?_|refine AG rfl rfl ?_|refine AH ?_|refine AI ?_|refine AJ ?_|refine AK ?_|refine AL ?_|refine AM ?_|refine AN ?_|refine AO ?_|refine AP ?_|refine AQ rfl ?_|refine AR ?_|refine AS ?_|refine AT rfl ?_|refine AU rfl ?_
    refine wr_call_e rfl ((w_name hE T.create hd hn s).mono fun r h2 ⟨e2, o2, k2⟩ => ?_)
    subst e2
    have e : beginF x s = ([], (x.create s).1, (x.create s).2) := by unfold beginF; rw [hg]
    repeat first|(refine BG ?_;first|(refine BH ?_;first|(refine BI ?_;refine BM ?_)|(refine BJ ?_;first|refine BN ?_|refine BO ?_)|refine BP ?_)|(refine BK ?_;first|refine BS rfl rfl ?_|refine BT rfl rfl ?_|refine BU rfl ?_)|(refine BL ?_;first|refine BQ ?_)|(refine BR ?_;try simp only [setS]))|refine AA ?_|refine AC ?_|refine AD ?_|refine AE ?_|refine AF rfl rfl ?_|refine AG rfl rfl ?_|refine AH ?_|refine AI ?_|refine AJ ?_|refine AK ?_|refine AL ?_|refine AM ?_|refine AN ?_|refine AO ?_|refine AP ?_|refine AQ rfl ?_|refine AR ?_|refine AS ?_|refine AT rfl ?_|refine AU rfl ?_
    refine ⟨.snil, by rw [e]; rfl, by rw [e]; exact ⟨rfl, rfl⟩, by rw [e]; exact o2, k2⟩
  | some f =>
    refine wr_call_e rfl ((w_read hE T.dread hd hn hg).mono fun r h1 ⟨v, e1, k1, r1, _⟩ => ?_)
    subst e1
    have e : beginF x s = (f.b, 0, x) := by unfold beginF; rw [hg]
    repeat first|(refine BG ?_;first|(refine BH ?_;first|(refine BI ?_;refine BM ?_)|(refine BJ ?_;first|refine BN ?_|refine BO ?_)|refine BP ?_)|(refine BK ?_;first|refine BS rfl rfl ?_|refine BT rfl rfl ?_|refine BU rfl ?_)|(refine BL ?_;first|refine BQ ?_)|(refine BR ?_;try simp only [setS]))|refine AA ?_|refine AC ?_|refine AD ?_|refine AE ?_|refine AF rfl rfl ?_|refine AG rfl rfl ?_|refine AH ?_|refine AI ?_|refine AJ ?_|refine AK ?_|refine AL ?_|refine AM ?_|refine AN ?_|refine AO ?_|refine AP ?_|refine AQ rfl ?_|refine AR ?_|refine AS ?_|refine AT rfl ?_|refine AU rfl ?_
    refine ⟨v, by rw [e]; rfl, by rw [e]; exact r1, by rw [e]; exact hd.up k1, k1.any⟩
structure midR (P : List AV → Hp MD → Prop) (S : R MD → Prop) (r : R MD) : Prop where
  out : match r with | .norm t h => P t h | r => S r
theorem mid_norm {P : List AV → Hp MD → Prop} {S : R MD → Prop} {t : List AV} {h : Hp MD} (q : P t h) : midR P S (.norm t h) := ⟨q⟩
theorem mid_ret {P : List AV → Hp MD → Prop} {S : R MD → Prop} {t : List AV} {h : Hp MD} (q : S (.ret t h)) : midR P S (.ret t h) := ⟨q⟩
theorem wb_mid {D : Dp MD} {t : List AV} {h : Hp MD} {c b : BC} {Q : R MD → Prop} (P : List AV → Hp MD → Prop) (H : WB D c t h (midR P (thenR D b Q))) (H2 : ∀ t' h', P t' h' → WB D b t' h' Q) : WB D c t h (thenR D b Q) := by
  have key : ∀ r, midR P (thenR D b Q) r → thenR D b Q r := fun r q => by
    cases r with
    | norm t h => exact ⟨H2 _ _ q.out⟩
    | _ => exact q.out
  exact WB.mono H key
theorem allG_len : ∀ (k : Nat) (bs : List UInt8), (allG k bs).1.length ≤ bs.length ∧ (allG k bs).2.1 ≤ bs.length
  | 0, bs => by simp [allG]
  | k + 1, bs => by
    rw [allG]
    split
    · simp
    · split
      · simp
      · rename_i c1 c2
        have ih := allG_len k (bs.drop (6 + (lenF bs).1))
        rw [List.length_drop] at ih
        have c3 : (lenF bs).2 = true := by simpa using c2
        have c4 : ¬ (bs.length < 6) ∧ ¬ (bs.length - 6 < (lenF bs).1) := ⟨fun q => c1 (.inl q), fun q => c1 (.inr ⟨c3, q⟩)⟩
        simp only [List.length_cons]
        omega
def OpenPost (h : Hp MD) (d : Nat) (s : List UInt8) (o : Except Int (List (List EM)) × MD) (r : AV) (h' : Hp MD) : Prop := Keep (OneB d) h h' ∧ Ob h' d o.2 ∧ match o.1 with
  | .error e => r = .tup [.nilp, .snil, .int .i64 e]
  | .ok ls => ∃ g m, r = .tup [.ptr g 0, m, .int .i64 0] ∧ h.n ≤ g ∧ Bx h' g [.ptr d 0, .str s, .int .i64 ls.length] ∧ Bats h' m ls (fun k => h.n ≤ k ∧ k < g)
theorem allE_none : ∀ {l : List (List UInt8)} {i : Nat} {r : List UInt8}, l[i]? = some r → frE r = none → allE l = none
  | [], i, r, h, _ => by simp at h
  | a :: l, 0, r, h, hf => by
    simp at h; subst h
    unfold allE
    rw [hf]
  | a :: l, i + 1, r, h, hf => by
    simp at h
    unfold allE
    cases hx : frE a with
    | none => rfl
    | some e => simp only; rw [allE_none h hf]; rfl
theorem allE_some : ∀ {l : List (List UInt8)} {ls : List (List EM)}, ls.length = l.length → (∀ (i : Nat) r e, l[i]? = some r → ls[i]? = some e → frE r = some e) → allE l = some ls
  | [], ls, h, _ => by rw [List.eq_nil_of_length_eq_zero h]; rfl
  | a :: l, [], h, _ => by simp at h
  | a :: l, e :: ls, h, H => by
    unfold allE
    rw [H 0 a e rfl rfl]
    simp only
    rw [allE_some (by simpa using h) (fun i r e q1 q2 => H (i + 1) r e (by simpa using q1) (by simpa using q2))]
    rfl
theorem fl_cut (m : MD) (s : Bs) (n : Int) : (m.cut s n).2.fs.length = m.fs.length := by
  unfold MD.cut
  split
  · rfl
  · split
    · rfl
    · split
      · rw [MD.count_fs]
      · exact MD.length_set _ _ _
set_option maxHeartbeats 8000000 in
theorem open_ok (hE : ∀ f e, E f = some e → e.plain) (T : WaW E) {h : Hp MD} {d : Nat} {x : MD} {s : List UInt8} (hd : Ob h d x) (hn : x.fs.length ≤ 1000000) (h1 : 1 ≤ s.length) (h2 : s.length ≤ 32) (hb : (beginF x s).1.length ≤ 1099511627776) :
    WF (lim E) 19 [.ptr d 0, .str s] h fun r h' => OpenPost h d s (openF x s) r h' := by
  refine wf_bc hE T.open_ rfl ?_
  simp only [b_walOpen, List.map, getS]
  have hmx : (maxLen : Nat) = 9223372036854775807 := rfl
  have hdn := hd.lt
  repeat first|(refine BG ?_;first|(refine BH ?_;first|(refine BI ?_;refine BM ?_)|(refine BJ ?_;first|refine BN ?_|refine BO ?_)|refine BP ?_)|(refine BK ?_;first|refine BS rfl rfl ?_|refine BT rfl rfl ?_|refine BU rfl ?_)|(refine BL ?_;first|refine BQ ?_)|(refine BR ?_;try simp only [setS]))|refine AA ?_|refine AC ?_|refine AD ?_|refine AE ?_|refine AF rfl rfl ?_|refine AG rfl rfl ?_|refine AH ?_|refine AI ?_|refine AJ ?_|refine AK ?_|refine AL ?_|refine AM ?_|refine AN ?_|refine AO ?_|refine AP ?_|refine AQ rfl ?_|refine AR ?_|refine AS ?_|refine AT rfl ?_|refine AU rfl ?_
  refine wr_call_e rfl ((begin_ok hE T hd (by omega) h1 h2).mono fun r g1 ⟨v, e1, r1, o1, k1⟩ => ?_)
  subst e1
  have hbn : (beginF x s).2.2.fs.length ≤ 1000001 := by
    unfold beginF
    cases x.get s with
    | none => have := fl_create x s; simp only; omega
    | some f => simp only; omega
  unfold openF
  generalize beginF x s = B at *
  obtain ⟨bs, e0, x1⟩ := B
  simp only at r1 o1 hb hbn ⊢
  by_cases c0 : e0 ≠ 0
  · repeat first|(refine BG ?_;first|(refine BH ?_;first|(refine BI ?_;refine BM ?_)|(refine BJ ?_;first|refine BN ?_|refine BO ?_)|refine BP ?_)|(refine BK ?_;first|refine BS rfl rfl ?_|refine BT rfl rfl ?_|refine BU rfl ?_)|(refine BL ?_;first|refine BQ ?_)|(refine BR ?_;try simp only [setS]))|refine AA ?_|refine AC ?_|refine AD ?_|refine AE ?_|refine AF rfl rfl ?_|refine AG rfl rfl ?_|refine AH ?_|refine AI ?_|refine AJ ?_|refine AK ?_|refine AL ?_|refine AM ?_|refine AN ?_|refine AO ?_|refine AP ?_|refine AQ rfl ?_|refine AR ?_|refine AS ?_|refine AT rfl ?_|refine AU rfl ?_
    rw [if_pos c0]
    exact ⟨k1, o1, rfl⟩
  rw [if_neg c0]
  have c0 : e0 = 0 := by omega
  subst c0
  repeat first|(refine BG ?_;first|(refine BH ?_;first|(refine BI ?_;refine BM ?_)|(refine BJ ?_;first|refine BN ?_|refine BO ?_)|refine BP ?_)|(refine BK ?_;first|refine BS rfl rfl ?_|refine BT rfl rfl ?_|refine BU rfl ?_)|(refine BL ?_;first|refine BQ ?_)|(refine BR ?_;try simp only [setS]))|refine AA ?_|refine AC ?_|refine AD ?_|refine AE ?_|refine AF rfl rfl ?_|refine AG rfl rfl ?_|refine AH ?_|refine AI ?_|refine AJ ?_|refine AK ?_|refine AL ?_|refine AM ?_|refine AN ?_|refine AO ?_|refine AP ?_|refine AQ rfl ?_|refine AR ?_|refine AS ?_|refine AT rfl ?_|refine AU rfl ?_
  refine wr_call_e rfl ((frAll_ok hE T.frall T.frlength T.rd.get T.rd.clone r1 hb).mono fun r g2 ⟨o, e2, k2, rc⟩ => ?_)
  subst e2
  have r2 := r1.up k2
  have o2 := o1.up k2
  have K2 := k1.and k2
  have hal := allG_len (bs.length + 1) bs
  have har := allG_le (bs.length + 1) bs
  unfold cutF
  generalize allG (bs.length + 1) bs = A at *
  obtain ⟨recs, en, ok⟩ := A
  simp only at rc hal har ⊢
  cases ok with
  | false =>
    repeat first|(refine BG ?_;first|(refine BH ?_;first|(refine BI ?_;refine BM ?_)|(refine BJ ?_;first|refine BN ?_|refine BO ?_)|refine BP ?_)|(refine BK ?_;first|refine BS rfl rfl ?_|refine BT rfl rfl ?_|refine BU rfl ?_)|(refine BL ?_;first|refine BQ ?_)|(refine BR ?_;try simp only [setS]))|refine AA ?_|refine AC ?_|refine AD ?_|refine AE ?_|refine AF rfl rfl ?_|refine AG rfl rfl ?_|refine AH ?_|refine AI ?_|refine AJ ?_|refine AK ?_|refine AL ?_|refine AM ?_|refine AN ?_|refine AO ?_|refine AP ?_|refine AQ rfl ?_|refine AR ?_|refine AS ?_|refine AT rfl ?_|refine AU rfl ?_
    exact ⟨K2, o2, rfl⟩
  | true =>
    rw [if_pos rfl, if_neg (by decide)]
    repeat first|(refine BG ?_;first|(refine BH ?_;first|(refine BI ?_;refine BM ?_)|(refine BJ ?_;first|refine BN ?_|refine BO ?_)|refine BV (r2.lenv (by rfl)) ?_|refine BP ?_)|(refine BK ?_;first|refine BS rfl rfl ?_|refine BT rfl rfl ?_|refine BU rfl ?_)|(refine BL ?_;first|refine BQ ?_)|(refine BR ?_;try simp only [setS]))|refine AA ?_|refine AC ?_|refine AD ?_|refine AE ?_|refine AF rfl rfl ?_|refine AG rfl rfl ?_|refine AH ?_|refine AI ?_|refine AJ ?_|refine AK ?_|refine AL ?_|refine AM ?_|refine AN ?_|refine AO ?_|refine AP ?_|refine AQ rfl ?_|refine AR ?_|refine AS ?_|refine AT rfl ?_|refine AU rfl ?_
    have hren := hal.2
    refine wb_mid (fun t' g3 => ∃ s9 s16 s17, (if en < bs.length then x1.cut s en else (0, x1)).1 = 0 ∧ Ob g3 d (if en < bs.length then x1.cut s en else (0, x1)).2 ∧ Keep (OneB d) g2 g3 ∧ t' = [.ptr d 0, .str s, .nilp, .snil, .int .i64 0, v, .int .i64 0, o, .int .i64 en, s9, .bot, .bot, .bot, .bot, .bool false, .bool false, s16, s17, .bot, .bot, .bot, .bot, .bot]) ?_ ?_
    · by_cases hlt : en < bs.length
      · rw [if_pos hlt]
        have fc := fl_cut x1 s en
        refine AF rfl (decide_eq_true (by omega)) ?_
        repeat first|(refine BG ?_;first|(refine BH ?_;first|(refine BI ?_;refine BM ?_)|(refine BJ ?_;first|refine BN ?_|refine BO ?_)|refine BP ?_)|(refine BK ?_;first|refine BS rfl rfl ?_|refine BT rfl rfl ?_|refine BU rfl ?_)|(refine BL ?_;first|refine BQ ?_)|(refine BR ?_;try simp only [setS]))|refine AA ?_|refine AC ?_|refine AD ?_|refine AE ?_|refine AF rfl rfl ?_|refine AG rfl rfl ?_|refine AH ?_|refine AI ?_|refine AJ ?_|refine AK ?_|refine AL ?_|refine AM ?_|refine AN ?_|refine AO ?_|refine AP ?_|refine AQ rfl ?_|refine AR ?_|refine AS ?_|refine AT rfl ?_|refine AU rfl ?_
        refine wr_call_e rfl ((w_cut hE T.dcut o2 (by omega) s en).mono fun r g3 ⟨e3, o3, k3⟩ => ?_)
        subst e3
        generalize x1.cut s en = C at *
        obtain ⟨ec, x2⟩ := C
        simp only at o3 ⊢
        by_cases c1 : ec ≠ 0
        · repeat first|(refine BG ?_;first|(refine BH ?_;first|(refine BI ?_;refine BM ?_)|(refine BJ ?_;first|refine BN ?_|refine BO ?_)|refine BP ?_)|(refine BK ?_;first|refine BS rfl rfl ?_|refine BT rfl rfl ?_|refine BU rfl ?_)|(refine BL ?_;first|refine BQ ?_)|(refine BR ?_;try simp only [setS]))|refine AA ?_|refine AC ?_|refine AD ?_|refine AE ?_|refine AF rfl rfl ?_|refine AG rfl rfl ?_|refine AH ?_|refine AI ?_|refine AJ ?_|refine AK ?_|refine AL ?_|refine AM ?_|refine AN ?_|refine AO ?_|refine AP ?_|refine AQ rfl ?_|refine AR ?_|refine AS ?_|refine AT rfl ?_|refine AU rfl ?_
          refine mid_ret ?_
          repeat first|(refine BG ?_;first|(refine BH ?_;first|(refine BI ?_;refine BM ?_)|(refine BJ ?_;first|refine BN ?_|refine BO ?_)|refine BP ?_)|(refine BK ?_;first|refine BS rfl rfl ?_|refine BT rfl rfl ?_|refine BU rfl ?_)|(refine BL ?_;first|refine BQ ?_)|(refine BR ?_;try simp only [setS]))|refine AA ?_|refine AC ?_|refine AD ?_|refine AE ?_|refine AF rfl rfl ?_|refine AG rfl rfl ?_|refine AH ?_|refine AI ?_|refine AJ ?_|refine AK ?_|refine AL ?_|refine AM ?_|refine AN ?_|refine AO ?_|refine AP ?_|refine AQ rfl ?_|refine AR ?_|refine AS ?_|refine AT rfl ?_|refine AU rfl ?_
          rw [if_pos c1]
          exact ⟨K2.trans k3 (fun _ _ q => q), o3, rfl⟩
        · have c1 : ec = 0 := by omega
          subst c1
          repeat first|(refine BG ?_;first|(refine BH ?_;first|(refine BI ?_;refine BM ?_)|(refine BJ ?_;first|refine BN ?_|refine BO ?_)|refine BP ?_)|(refine BK ?_;first|refine BS rfl rfl ?_|refine BT rfl rfl ?_|refine BU rfl ?_)|(refine BL ?_;first|refine BQ ?_)|(refine BR ?_;try simp only [setS]))|refine AA ?_|refine AC ?_|refine AD ?_|refine AE ?_|refine AF rfl rfl ?_|refine AG rfl rfl ?_|refine AH ?_|refine AI ?_|refine AJ ?_|refine AK ?_|refine AL ?_|refine AM ?_|refine AN ?_|refine AO ?_|refine AP ?_|refine AQ rfl ?_|refine AR ?_|refine AS ?_|refine AT rfl ?_|refine AU rfl ?_
          exact mid_norm ⟨_, _, _, (by simp), o3, k3, rfl⟩
      · rw [if_neg hlt]
        refine AG rfl (decide_eq_false (by omega)) ?_
        repeat first|(refine BG ?_;first|(refine BH ?_;first|(refine BI ?_;refine BM ?_)|(refine BJ ?_;first|refine BN ?_|refine BO ?_)|refine BP ?_)|(refine BK ?_;first|refine BS rfl rfl ?_|refine BT rfl rfl ?_|refine BU rfl ?_)|(refine BL ?_;first|refine BQ ?_)|(refine BR ?_;try simp only [setS]))|refine AA ?_|refine AC ?_|refine AD ?_|refine AE ?_|refine AF rfl rfl ?_|refine AG rfl rfl ?_|refine AH ?_|refine AI ?_|refine AJ ?_|refine AK ?_|refine AL ?_|refine AM ?_|refine AN ?_|refine AO ?_|refine AP ?_|refine AQ rfl ?_|refine AR ?_|refine AS ?_|refine AT rfl ?_|refine AU rfl ?_
        exact mid_norm ⟨_, _, _, rfl, o2, Keep.refl _ _, rfl⟩
    rintro t' g3 ⟨s9, s16, s17, c1, o3, k3, rfl⟩
    generalize (if en < bs.length then x1.cut s en else (0, x1)) = C at *
    obtain ⟨ec, x2⟩ := C
    simp only at c1 o3 ⊢
    subst c1
    rw [if_neg (by simp)]
    obtain ⟨cells, ro, lo, hrc⟩ := rc
    have n1 := k1.n
    have n2 := k2.n
    have n3 := k3.n
    have ro3 := ro.keep k3 (fun k q1 q2 => by have := lo k q1; have q2 : k = d := q2; omega)
    have K3 : Keep (OneB d) h g3 := K2.trans k3 (fun _ _ q => q)
    repeat first|(refine BG ?_;first|(refine BH ?_;first|(refine BI ?_;refine BM ?_)|(refine BJ ?_;first|refine BN ?_|refine BO ?_)|refine BV (ro3.rs.lenv (by rfl)) ?_|refine BP ?_)|(refine BK ?_;first|refine BS rfl rfl ?_|refine BT rfl rfl ?_|refine BU rfl ?_)|(refine BL ?_;first|refine BQ ?_)|(refine BR ?_;try simp only [setS]))|refine AA ?_|refine AC ?_|refine AD ?_|refine AE ?_|refine AF rfl rfl ?_|refine AG rfl rfl ?_|refine AH ?_|refine AI ?_|refine AJ ?_|refine AK ?_|refine AL ?_|refine AM ?_|refine AN ?_|refine AO ?_|refine AP ?_|refine AQ rfl ?_|refine AR ?_|refine AS ?_|refine AT rfl ?_|refine AU rfl ?_
    refine wb_loop (fun n t hh => ∃ (i : Nat) (done : List (List EM)) (bv s11 s12 s13 s21 s22 : AV), i ≤ recs.length ∧ done.length = i ∧ n = recs.length - i ∧ Keep NoB g3 hh ∧ OB hh bv done g3.n (fun k => g3.n ≤ k) ∧ (∀ (j : Nat) r e, recs[j]? = some r → done[j]? = some e → frE r = some e) ∧
      t = [.ptr d 0, .str s, .nilp, .snil, .int .i64 0, v, .int .i64 0, o, .int .i64 en, s9, bv, s11, s12, s13, .bool false, .bool false, s16, s17, o, .int .i64 recs.length, .int .i64 i, s21, s22]) ?_ recs.length _ _ ⟨0, [], .snil, _, _, _, _, _, by omega, rfl, by omega, Keep.refl _ _, OB.nil, by simp, rfl⟩
    rintro n t hh ⟨i, done, bv, s11, s12, s13, s21, s22, hi, hdl, hm, K, ob, hdone, rfl⟩
    have nK := K.n
    have o5 := o3.up K
    by_cases hlt : i < recs.length
    · obtain ⟨r, he⟩ : ∃ r, recs[i]? = some r := ⟨_, List.getElem?_eq_getElem hlt⟩
      obtain ⟨c, hc, hcs, rcc, hcb⟩ := hrc i r he
      have rc3 := (rcc.keep k3 (fun k q1 q2 => by have := (hcb k q1).1; have q2 : k = d := q2; omega)).up K
      have ro5 := (ro3.up K).rs
      obtain ⟨g, og, pa, la⟩ := ro5.at2 hlt
      have lc : ∀ {e : En} {t : List AV} {x : Od}, x.ev e t = .ptr g og → (Mv.ld1 x).ev e t hh = some c := fun {_ _ _} hx => by rw [la (Keep.refl NoB hh) (fun _ _ q => q) hx]; exact hc
      have hrb := har r (List.mem_of_getElem? he)
      repeat first|(refine BG ?_;first|(refine BH ?_;first|(refine BI ?_;refine BM ?_)|(refine BJ ?_;first|refine BN ?_|refine BO ?_)|refine BV (pa rfl rfl) ?_|refine BV (lc rfl) ?_|refine BP ?_)|(refine BK ?_;first|refine BS rfl rfl ?_|refine BT rfl rfl ?_|refine BU rfl ?_)|(refine BL ?_;first|refine BQ ?_)|(refine BR ?_;try simp only [setS]))|refine AA ?_|refine AC ?_|refine AD ?_|refine AE ?_|refine AF rfl rfl ?_|refine AG rfl rfl ?_|refine AH ?_|refine AI ?_|refine AJ ?_|refine AK ?_|refine AL ?_|refine AM ?_|refine AN ?_|refine AO ?_|refine AP ?_|refine AQ rfl ?_|refine AR ?_|refine AS ?_|refine AT rfl ?_|refine AU rfl ?_
      refine wr_call_e rfl ((frEntries_ok hE T.toWaN rc3 hcs (by omega)).mono fun w g6 ⟨k6, e6⟩ => ?_)
      cases hf : frE r with
      | none =>
        rw [hf] at e6
        have e6 : w = .tup [.snil, .int .i64 12] := e6
        subst e6
        repeat first|(refine BG ?_;first|(refine BH ?_;first|(refine BI ?_;refine BM ?_)|(refine BJ ?_;first|refine BN ?_|refine BO ?_)|refine BP ?_)|(refine BK ?_;first|refine BS rfl rfl ?_|refine BT rfl rfl ?_|refine BU rfl ?_)|(refine BL ?_;first|refine BQ ?_)|(refine BR ?_;try simp only [setS]))|refine AA ?_|refine AC ?_|refine AD ?_|refine AE ?_|refine AF rfl rfl ?_|refine AG rfl rfl ?_|refine AH ?_|refine AI ?_|refine AJ ?_|refine AK ?_|refine AL ?_|refine AM ?_|refine AN ?_|refine AO ?_|refine AP ?_|refine AQ rfl ?_|refine AR ?_|refine AS ?_|refine AT rfl ?_|refine AU rfl ?_
        rw [allE_none he hf]
        exact ⟨(K3.and K).and k6, o5.up k6, rfl⟩
      | some l =>
        rw [hf] at e6
        obtain ⟨u, e6, ef⟩ : ∃ u, w = .tup [u, .int .i64 0] ∧ EntsF g6 u l (fun k => hh.n ≤ k) := e6
        subst e6
        have oln := ob.lt
        have olo := ob.lo
        have n6 := k6.n
        have ef2 : EntsF g6 u l (fun k => g3.n ≤ k ∧ ¬ blk bv k) := ef.on (fun k q => ⟨by omega, fun q2 => by have := oln k q2; omega⟩)
        obtain ⟨cs, p1, p2, p3⟩ := (ob.up k6).next ef2 (by omega)
        repeat first|(refine BG ?_;first|(refine BH ?_;first|(refine BI ?_;refine BM ?_)|(refine BJ ?_;first|refine BN ?_|refine BO ?_)|refine BP ?_)|(refine BK ?_;first|refine BS rfl rfl ?_|refine BT rfl rfl ?_|refine BU rfl ?_)|(refine BL ?_;first|refine BW (ef_bs1' rfl ef2.one.1 ef2.one.2) ?_|refine BQ ?_)|(refine BR ?_;try simp only [setS]))|refine AA ?_|refine AC ?_|refine AD ?_|refine AE ?_|refine AF rfl rfl ?_|refine AG rfl rfl ?_|refine AH ?_|refine AI ?_|refine AJ ?_|refine AK ?_|refine AL ?_|refine AM ?_|refine AN ?_|refine AO ?_|refine AP ?_|refine AQ rfl ?_|refine AR ?_|refine AS ?_|refine AT rfl ?_|refine AU rfl ?_
        refine wr_app_e rfl rfl p1 (by decide) p2 (by omega) (by omega) fun v' h' a1 a2 a3 => ?_
        obtain ⟨p4, p5⟩ := p3 v' h' a1 a2 a3
        repeat first|(refine BG ?_;first|(refine BH ?_;first|(refine BI ?_;refine BM ?_)|(refine BJ ?_;first|refine BN ?_|refine BO ?_)|refine BP ?_)|(refine BK ?_;first|refine BS rfl rfl ?_|refine BT rfl rfl ?_|refine BU rfl ?_)|(refine BL ?_;first|refine BQ ?_)|(refine BR ?_;try simp only [setS]))|refine AA ?_|refine AC ?_|refine AD ?_|refine AE ?_|refine AF rfl rfl ?_|refine AG rfl rfl ?_|refine AH ?_|refine AI ?_|refine AJ ?_|refine AK ?_|refine AL ?_|refine AM ?_|refine AN ?_|refine AO ?_|refine AP ?_|refine AQ rfl ?_|refine AR ?_|refine AS ?_|refine AT rfl ?_|refine AU rfl ?_
        rw [show ((i : Int) + 1) = ((i + 1 : Nat) : Int) by omega]
        refine round_norm (n - 1) (by omega) ⟨i + 1, done ++ [l], v', _, _, _, _, _, by omega, by rw [List.length_append]; simp [hdl], by omega, (K.and k6).own p5 olo, p4, ?_, rfl⟩
        intro j r' e' h1 h2
        by_cases hj : j < done.length
        · rw [List.getElem?_append_left hj] at h2
          exact hdone j r' e' h1 h2
        · have h3 := (List.getElem?_eq_some_iff.1 h2).1
          rw [List.length_append, List.length_singleton] at h3
          have h4 : j = done.length := by omega
          subst h4
          rw [List.getElem?_append_right (Nat.le_refl _), Nat.sub_self] at h2
          simp at h2
          subst h2
          rw [hdl, he] at h1
          cases h1
          exact hf
    · obtain ⟨cd, rsd⟩ := ob.rs
      have e : i = recs.length := by omega
      have kp : Keep NoB hh (hh.push (.rw [.ptr d 0, .str s, .int .i64 done.length])) := Keep.push _ _ _
      repeat first|(refine BG ?_;first|(refine BH ?_;first|(refine BI ?_;refine BM ?_)|(refine BJ ?_;first|refine BN ?_|refine BO ?_)|refine BV (rsd.lenv (by rfl)) ?_|refine BV (v_bld3 rfl rfl rfl rfl rfl rfl) ?_|refine BP ?_)|(refine BK ?_;first|refine BS rfl rfl ?_|refine BT rfl rfl ?_|refine BU rfl ?_)|(refine BL ?_;first|refine BW (ef_box rfl rfl) ?_|refine BQ ?_)|(refine BR ?_;try simp only [setS]))|refine AA ?_|refine AC ?_|refine AD ?_|refine AE ?_|refine AF rfl rfl ?_|refine AG rfl rfl ?_|refine AH ?_|refine AI ?_|refine AJ ?_|refine AK ?_|refine AL ?_|refine AM ?_|refine AN ?_|refine AO ?_|refine AP ?_|refine AQ rfl ?_|refine AR ?_|refine AS ?_|refine AT rfl ?_|refine AU rfl ?_
      rw [allE_some (by omega) hdone]
      refine ⟨(K3.and K).and kp, o5.up kp, hh.n, bv, rfl, by omega, bx_push, ?_⟩
      exact ((ob.bats (G := fun k => g3.n ≤ k) (fun k q1 _ => q1) (fun k q => q)).lt.up kp).on (fun k q => by omega)
end
end Am
end Go.Proofs.Ythgcdoahoechhaa
namespace Go.Proofs.Ythgcdoahoechhaa
namespace Am
open Go.RowKit
set_option maxRecDepth 100000
def b_keepEntries : BF := ⟨58, [0, 1, 2, 3, 8, 9, 10, 11, 20, 39, 44], (.seq (.reg [.mk none (.slot 4) (.mov (.mv (.const .snil)))]) (.seq (.reg [.mk none (.slot 5) (.mov (.mv (.const .snil)))]) (.seq (.seq (.reg [.mk none (.slot 6) (.mov (.mv (.const (.int .i64 0))))]) (.block 0 (.loop (.seq (.seq (.reg [.mk none (.env 12) (.mov (.mv (.slot 6))), .mk none (.env 13) (.mov (.mv (.slot 0))), .mk none (.env 14) (.mov (.lenv (.env 13))), .mk none (.env 15) (.mov (.bin .lss .no (.env 12) (.env 14))), .mk none (.env 16) (.mov (.mv (.env 15))), .mk (some ((.env 16), true)) (.env 17) (.mov (.mv (.slot 6))), .mk (some ((.env 16), true)) (.env 18) (.mov (.mv (.slot 1))), .mk (some ((.env 16), true)) (.env 19) (.mov (.bin .lss .no (.env 17) (.env 18))), .mk none (.slot 8) (.mov (.pick (.env 16) (.env 19) (.const (.bool false))))]) (.cond (.slot 8) .skip (.exit 0))) (.seq (.block 1 (.seq (.dreg [(.mk none (.env 23) (.mov (.mv (.slot 0))), []), (.mk none (.env 24) (.mov (.mv (.slot 6))), []), (.mk none (.env 25) (.mov (.iaddr 3 (.env 23) (.env 24))), []), (.mk none (.env 26) (.mov (.faddr 0 (.env 25))), []), (.mk none (.env 27) (.mov (.ld1 (.env 26))), []), (.mk none (.env 28) (.mov (.mv (.slot 2))), []), (.mk none (.env 30) (.mov (.mv (.slot 0))), []), (.mk none (.env 31) (.mov (.mv (.slot 6))), []), (.mk none (.env 32) (.mov (.iaddr 3 (.env 30) (.env 31))), []), (.mk none (.env 33) (.mov (.faddr 2 (.env 32))), []), (.mk none (.env 34) (.mov (.ld1 (.env 33))), []), (.mk none (.slot 7) (.eff (.alloc [.snil, .snil, (.bool false)])), [0, 1, 2, 3, 4, 5, 6, 7, 8, 9, 10]), (.mk none (.env 29) (.call 27 [(.env 27), (.env 28)]), [6, 7, 8, 9, 10, 11]), (.mk none (.env 35) (.mov (.bld [.snil, .snil, (.bool false)] [(0, 1, (.env 29)), (2, 1, (.env 34))])), []), (.mk none .none (.eff (.store 3 (.slot 7) (.env 35))), [])]) (.seq (.seq (.reg [.mk none (.env 36) (.mov (.faddr 0 (.slot 7))), .mk none (.env 37) (.mov (.ld1 (.env 36))), .mk none (.env 38) (.mov (.lenv (.env 37))), .mk none (.slot 9) (.mov (.bin .eql .no (.env 38) (.const (.int .i64 0))))]) (.cond (.slot 9) (.reg [.mk none (.env 40) (.eff (.bslice 1 1 [(.int .u8 0)] [(0, 1, (.const (.int .u8 107)))])), .mk none (.env 41) (.mov (.faddr 0 (.slot 7))), .mk none .none (.eff (.store 1 (.env 41) (.env 40)))]) .skip)) (.seq (.seq (.reg [.mk none (.env 42) (.mov (.faddr 2 (.slot 7))), .mk none (.env 43) (.mov (.ld1 (.env 42))), .mk none (.slot 10) (.mov (.notb (.env 43)))]) (.cond (.slot 10) (.reg [.mk none (.env 45) (.mov (.mv (.slot 0))), .mk none (.env 46) (.mov (.mv (.slot 6))), .mk none (.env 47) (.mov (.iaddr 3 (.env 45) (.env 46))), .mk none (.env 48) (.mov (.faddr 1 (.env 47))), .mk none (.env 49) (.mov (.ld1 (.env 48))), .mk none (.env 50) (.mov (.mv (.slot 3))), .mk none (.env 51) (.call 27 [(.env 49), (.env 50)]), .mk none (.env 52) (.mov (.faddr 1 (.slot 7))), .mk none .none (.eff (.store 1 (.env 52) (.env 51)))]) .skip)) (.reg [.mk none (.env 53) (.mov (.mv (.slot 5))), .mk none (.env 54) (.mov (.ldn 3 (.slot 7))), .mk none (.env 55) (.eff (.bslice 3 1 [.snil, .snil, (.bool false)] [(0, 3, (.env 54))])), .mk none (.env 56) (.eff (.append 3 56 (.env 53) (.env 55))), .mk none (.slot 5) (.mov (.mv (.env 56)))]))))) (.reg [.mk none (.env 21) (.mov (.mv (.slot 6))), .mk none (.env 22) (.mov (.bin .add .no (.env 21) (.const (.int .i64 1)))), .mk none (.slot 6) (.mov (.mv (.env 22)))])))))) (.seq (.reg [.mk none (.env 57) (.mov (.mv (.slot 5))), .mk none (.slot 4) (.mov (.mv (.env 57)))]) .ret)))), [.slot (.slot 4)]⟩
def b_w5batches : BF := ⟨27, [0, 1, 4, 5, 6, 15], (.seq (.reg [.mk none (.slot 2) (.mov (.mv (.const .snil)))]) (.seq (.reg [.mk none (.slot 3) (.mov (.mv (.const .snil)))]) (.seq (.seq (.reg [.mk none (.slot 4) (.mov (.mv (.const (.int .i64 0))))]) (.block 0 (.loop (.seq (.seq (.reg [.mk none (.env 7) (.mov (.mv (.slot 4))), .mk none (.env 8) (.mov (.mv (.slot 0))), .mk none (.env 9) (.mov (.lenv (.env 8))), .mk none (.env 10) (.mov (.bin .lss .no (.env 7) (.env 9))), .mk none (.env 11) (.mov (.mv (.env 10))), .mk (some ((.env 11), true)) (.env 12) (.mov (.mv (.slot 4))), .mk (some ((.env 11), true)) (.env 13) (.mov (.mv (.slot 1))), .mk (some ((.env 11), true)) (.env 14) (.mov (.bin .lss .no (.env 12) (.env 13))), .mk none (.slot 5) (.mov (.pick (.env 11) (.env 14) (.const (.bool false))))]) (.cond (.slot 5) .skip (.exit 0))) (.seq (.block 1 (.reg [.mk none (.env 18) (.mov (.mv (.slot 3))), .mk none (.env 19) (.mov (.mv (.slot 0))), .mk none (.env 20) (.mov (.mv (.slot 4))), .mk none (.env 21) (.mov (.iaddr 1 (.env 19) (.env 20))), .mk none (.env 22) (.mov (.ld1 (.env 21))), .mk none (.env 23) (.call 72 [(.env 22), (.const (.int .i64 5)), (.const (.int .i64 20)), (.const (.int .i64 30))]), .mk none (.env 24) (.eff (.bslice 1 1 [.snil] [(0, 1, (.env 23))])), .mk none (.env 25) (.eff (.append 1 24 (.env 18) (.env 24))), .mk none (.slot 3) (.mov (.mv (.env 25)))])) (.reg [.mk none (.env 16) (.mov (.mv (.slot 4))), .mk none (.env 17) (.mov (.bin .add .no (.env 16) (.const (.int .i64 1)))), .mk none (.slot 4) (.mov (.mv (.env 17)))])))))) (.seq (.reg [.mk none (.env 26) (.mov (.mv (.slot 3))), .mk none (.slot 2) (.mov (.mv (.env 26)))]) .ret)))), [.slot (.slot 2)]⟩
def keepE (kl vl : Nat) (e : EM) : EM := ⟨(if (e.key.take kl).length = 0 then [107] else e.key.take kl), (if e.gone then [] else e.val.take vl), e.gone⟩
def keepL (n kl vl : Nat) (l : List EM) : List EM := (l.take n).map (keepE kl vl)
theorem take_map_s {α β : Type} {f : α → β} {l : List α} {i : Nat} {e : α} (he : l[i]? = some e) : (l.take (i + 1)).map f = (l.take i).map f ++ [f e] := by
  rw [List.take_add_one, he, List.map_append]
  rfl
section
variable {X : Type} {E : Nat → Option (Ent X)}
theorem v_bld02 {e : En} {t : List AV} {h : Hp X} {z0 z1 z2 : AV} {x z : Od} {a c : AV} (hx : x.ev e t = a) (hz : z.ev e t = c) (ha : cellsOf a = some [a]) (hc : cellsOf c = some [c]) :
    (Mv.bld [z0, z1, z2] [(0, 1, x), (2, 1, z)]).ev e t h = some (.agg [a, z1, c]) := by
  simp only [Mv.ev, List.map, hx, hz, fillA, ha, hc]
  rfl
structure WaK (E : Nat → Option (Ent X)) : Prop where
  cut : E 27 = some (.bc b_keepCut)
  ents : E 72 = some (.bc b_keepEntries)
  bats : E 17 = some (.bc b_w5batches)
set_option maxHeartbeats 8000000 in
theorem keep_ok (hE : ∀ f e, E f = some e → e.plain) (T : WaK E) {h : Hp X} {v : AV} {l : List EM} {n kl vl : Nat} {F : Nat → Prop} (ha : EntsF h v l F) (hn : n ≤ 1000000) (hk : kl ≤ 1000000) (hv : vl ≤ 1000000) (hll : l.length ≤ maxLen) :
    WF (lim E) 72 [v, .int .i64 n, .int .i64 kl, .int .i64 vl] h fun r h' => Keep NoB h h' ∧ OE h' r (keepL n kl vl l) h.n (fun k => F k ∨ h.n ≤ k) := by
  obtain ⟨tri, hr, htl, hq, _, hF⟩ := ha.out
  refine wf_bc hE T.ents rfl ?_
  simp only [b_keepEntries, List.map, getS]
  have hmx : (maxLen : Nat) = 9223372036854775807 := rfl
  repeat first|(refine BG ?_;first|(refine BH ?_;first|(refine BI ?_;refine BM ?_)|(refine BJ ?_;first|refine BN ?_|refine BO ?_)|refine BP ?_)|(refine BK ?_;first|refine BS rfl rfl ?_|refine BT rfl rfl ?_|refine BU rfl ?_)|(refine BL ?_;first|refine BQ ?_)|(refine BR ?_;try simp only [setS]))|refine AA ?_|refine AC ?_|refine AD ?_|refine AE ?_|refine AF rfl rfl ?_|refine AG rfl rfl ?_|refine AH ?_|refine AI ?_|refine AJ ?_|refine AK ?_|refine AL ?_|refine AM ?_|refine AN ?_|refine AO ?_|refine AP ?_|refine AQ rfl ?_|refine AR ?_|refine AS ?_|refine AT rfl ?_|refine AU rfl ?_
  refine wb_loop (fun m t hh => ∃ (i : Nat) (bv s7 s8 s9 s10 : AV), i ≤ l.length ∧ i ≤ n ∧ m = l.length - i ∧ Keep NoB h hh ∧ OE hh bv ((l.take i).map (keepE kl vl)) h.n (fun k => F k ∨ h.n ≤ k) ∧
    t = [v, .int .i64 n, .int .i64 kl, .int .i64 vl, .snil, bv, .int .i64 i, s7, s8, s9, s10]) ?_ l.length _ _ ⟨0, .snil, _, _, _, _, by omega, by omega, by omega, Keep.refl _ _, OE.nil, rfl⟩
  rintro m t hh ⟨i, bv, s7, s8, s9, s10, hi, hin, hm, K, oe, rfl⟩
  have hr' := hr.up K
  by_cases hlt : i < l.length
  · by_cases hlt2 : i < n
    · obtain ⟨e, he⟩ : ∃ e, l[i]? = some e := ⟨_, List.getElem?_eq_getElem hlt⟩
      obtain ⟨q, hqi⟩ : ∃ q, tri[i]? = some q := ⟨_, List.getElem?_eq_getElem (by omega)⟩
      have hv0 := (hq i q e hqi he).up K
      have hv0l := (hq i q e hqi he).lt
      obtain ⟨ga, oa, pa, la, na⟩ := hr.at3 hqi
      obtain ⟨kv, vv, gb⟩ := q
      have hgb := hv0.gone
      have hkv := hv0.key
      have hvv := hv0.val
      simp only at hgb hkv hvv
      subst hgb
      have l0 : ∀ {g' : Hp X}, Keep NoB hh g' → ∀ {e' : En} {t : List AV} {x : Od}, x.ev e' t = .ptr ga oa → (Mv.ld1 x).ev e' t g' = some kv := fun {_} kk {_ _ _} hx => la (S := NoB) (K.and kk) (fun _ _ q => q) (j := 0) hx (by decide)
      have l1 : ∀ {g' : Hp X}, Keep NoB hh g' → ∀ {e' : En} {t : List AV} {x : Od}, x.ev e' t = .ptr ga (oa + 1) → (Mv.ld1 x).ev e' t g' = some vv := fun {_} kk {_ _ _} hx => la (S := NoB) (K.and kk) (fun _ _ q => q) (j := 1) hx (by decide)
      have l2 : ∀ {g' : Hp X}, Keep NoB hh g' → ∀ {e' : En} {t : List AV} {x : Od}, x.ev e' t = .ptr ga (oa + 2) → (Mv.ld1 x).ev e' t g' = some (.bool e.gone) := fun {_} kk {_ _ _} hx => la (S := NoB) (K.and kk) (fun _ _ q => q) (j := 2) hx (by decide)
      have r0 := Keep.refl NoB hh
      repeat first|(refine BG ?_;first|(refine BH ?_;first|(refine BI ?_;refine BM ?_)|(refine BJ ?_;first|refine BN ?_|refine BO ?_)|refine BV (hr'.lenv (by rfl)) ?_|refine BP ?_)|(refine BK ?_;first|refine BS rfl rfl ?_|refine BT rfl rfl ?_|refine BU rfl ?_)|(refine BL ?_;first|refine BQ ?_)|(refine BR ?_;try simp only [setS]))|refine AA ?_|refine AC ?_|refine AD ?_|refine AE ?_|refine AF rfl rfl ?_|refine AG rfl rfl ?_|refine AH ?_|refine AI ?_|refine AJ ?_|refine AK ?_|refine AL ?_|refine AM ?_|refine AN ?_|refine AO ?_|refine AP ?_|refine AQ rfl ?_|refine AR ?_|refine AS ?_|refine AT rfl ?_|refine AU rfl ?_
      repeat first|(refine BG ?_;first|(refine BH ?_;first|(refine BI ?_;refine BM ?_)|(refine BJ ?_;first|refine BN ?_|refine BO ?_)|refine BV (pa rfl rfl) ?_|refine BV (l0 r0 rfl) ?_|refine BV (l2 r0 rfl) ?_|refine BP ?_)|(refine BK ?_;first|refine BS rfl rfl ?_|refine BT rfl rfl ?_|refine BU rfl ?_)|(refine BL ?_;first|refine BQ ?_)|(refine BR ?_;try simp only [setS]))|(refine BX ?_;first|refine BY rfl ?_|(refine BZ ?_;refine CA ?_)|refine CB (pa rfl rfl) ?_|refine CB (l0 r0 rfl) ?_|refine CB (l2 r0 rfl) ?_|refine CC ?_|(refine CD ?_;try simp only [setS]))|refine AA ?_|refine AC ?_|refine AD ?_|refine AE ?_|refine AF rfl rfl ?_|refine AG rfl rfl ?_|refine AH ?_|refine AI ?_|refine AJ ?_|refine AK ?_|refine AL ?_|refine AM ?_|refine AN ?_|refine AO ?_|refine AP ?_|refine AQ rfl ?_|refine AR ?_|refine AS ?_|refine AT rfl ?_|refine AU rfl ?_
      have b1 : Bx (hh.push (.rw [.snil, .snil, .bool false])) hh.n _ := bx_push
      have k1 : Keep NoB hh (hh.push (.rw [.snil, .snil, .bool false])) := Keep.push _ _ _
      refine wd_alloc_s (chk_mov rfl rfl (chk_mov rfl rfl (chk_mov rfl (pa rfl rfl) (chk_mov rfl rfl (chk_mov rfl (l0 k1 rfl) (chk_mov rfl rfl (chk_mov rfl rfl (chk_mov rfl rfl (chk_mov rfl (pa rfl rfl) (chk_mov rfl rfl (chk_mov rfl (l2 k1 rfl) chk_nil))))))))))) ?_
      simp only [setS]
      refine wd_calls_e rfl ((cut_ok hE T.cut (hkv.up k1) hk).mono fun kc h2 ⟨e2, rk, bk, _⟩ => ?_)
      subst e2
      refine ⟨(chk_mov rfl rfl (chk_mov rfl rfl (chk_mov rfl (pa rfl rfl) (chk_mov rfl rfl (chk_mov rfl (l2 k1 rfl) (chk_alc rfl b1.get chk_nil)))))), ?_⟩
      have hall : allOne [kc, .snil, .bool e.gone] = true := one_all3 rk.one.2 rfl rfl
      repeat first|(refine BG ?_;first|(refine BH ?_;first|(refine BI ?_;refine BM ?_)|(refine BJ ?_;first|refine BN ?_|refine BO ?_)|refine BV (v_bld02 rfl rfl rk.one.1 rfl) ?_|refine BP ?_)|(refine BK ?_;first|refine BS rfl rfl ?_|refine BT rfl rfl ?_|refine BU rfl ?_)|(refine BL ?_;first|refine BQ ?_)|(refine BR ?_;try simp only [setS]))|(refine BX ?_;first|refine BY rfl ?_|(refine BZ ?_;refine CA ?_)|refine CB (v_bld02 rfl rfl rk.one.1 rfl) ?_|refine CC ?_|(refine CD ?_;try simp only [setS]))|refine AA ?_|refine AC ?_|refine AD ?_|refine AE ?_|refine AF rfl rfl ?_|refine AG rfl rfl ?_|refine AH ?_|refine AI ?_|refine AJ ?_|refine AK ?_|refine AL ?_|refine AM ?_|refine AN ?_|refine AO ?_|refine AP ?_|refine AQ rfl ?_|refine AR ?_|refine AS ?_|refine AT rfl ?_|refine AU rfl ?_
      refine wd_ef (ef_bxn b1 rfl rfl hall rfl (Nat.le_refl _)) chk_nil ?_
      obtain ⟨h2, hh2⟩ : ∃ h2 : Hp X, h2 = (hh.push (.rw [.snil, .snil, .bool false])).put hh.n (.rw [kc, .snil, .bool e.gone]) := ⟨_, rfl⟩
      refine wd_heap (h' := h2) (by rw [hh2]; rfl) ?_
      have b2 : Bx h2 hh.n [kc, .snil, .bool e.gone] := by rw [hh2]; exact b1.put
      have kq : Keep (OneB hh.n) (hh.push (.rw [.snil, .snil, .bool false])) h2 := by rw [hh2]; exact Keep.put _ _ _ rfl
      have k2 : Keep NoB hh h2 := k1.own kq (fun k q => by have q : k = hh.n := q; omega)
      have rk2 := rk.keep kq (fun k q1 q2 => by have := hkv.lt k (bk k q1); have q2 : k = hh.n := q2; omega)
      have n2 : h2.n = hh.n + 1 := by rw [hh2]; rfl
      clear hh2
      have oln := oe.lt
      have olo := oe.lo
      have nK := K.n
      have fin : ∀ {h4 : Hp X} {kx vx : AV}, Keep NoB hh h4 → RS h4 1 kx (keepE kl vl e).key.length ((keepE kl vl e).key.map ub) → RS h4 1 vx (keepE kl vl e).val.length ((keepE kl vl e).val.map ub) → (∀ k, blk kx k ∨ blk vx k → (F k ∨ h.n ≤ k) ∧ ¬ blk bv k) →
          ∃ cells, OS (h4.push (.rw [kx, vx, .bool e.gone])) 3 bv ((l.take i).map (keepE kl vl)).length cells ∧ RS (h4.push (.rw [kx, vx, .bool e.gone])) 3 (.slice 3 h4.n 0 1 (some 1)) 1 [kx, vx, .bool e.gone] ∧ ∀ v' h', OS h' 3 v' (((l.take i).map (keepE kl vl)).length + 1) (cells ++ [kx, vx, .bool e.gone]) → Keep (blk bv) (h4.push (.rw [kx, vx, .bool e.gone])) h' → (∀ g, blk v' g → blk bv g ∨ (h4.push (.rw [kx, vx, .bool e.gone])).n ≤ g) → OE h' v' ((l.take (i + 1)).map (keepE kl vl)) h.n (fun k => F k ∨ h.n ≤ k) ∧ Keep NoB h h' := fun {h4 kx vx} kk a b c => by
        have kn := K.n
        have kn4 := kk.n
        obtain ⟨cells, o1, o2, o3⟩ := (oe.up kk).next (q := (kx, vx, e.gone)) (e := keepE kl vl e) ⟨rfl, a, b⟩ c (by omega)
        refine ⟨cells, o1, o2, fun v' h' a1 a2 a3 => ?_⟩
        obtain ⟨p1, p2⟩ := o3 v' h' a1 a2 a3
        rw [take_map_s he]
        exact ⟨p1, (K.and kk).own p2 oe.lo⟩
      have hlm : ((l.take i).map (keepE kl vl)).length = i := by rw [List.length_map, List.length_take]; omega
      have hkE : (keepE kl vl e).key = if (e.key.take kl).length = 0 then [107] else e.key.take kl := rfl
      have hvE : (keepE kl vl e).val = if e.gone then [] else e.val.take vl := rfl
      have vv2 := hvv.up k2
      have bkn : ∀ k, blk kc k → (F k ∨ h.n ≤ k) ∧ ¬ blk bv k := fun k hk => ⟨.inl (hF _ (List.mem_of_getElem? hqi) k (.inl (bk k hk))), fun q => by have := hv0l k (.inl (bk k hk)); have := olo k q; omega⟩
      have bvn : ∀ k, blk vv k → (F k ∨ h.n ≤ k) ∧ ¬ blk bv k := fun k hk => ⟨.inl (hF _ (List.mem_of_getElem? hqi) k (.inr hk)), fun q => by have := hv0l k (.inr hk); have := olo k q; omega⟩
      have fin2 : ∀ {a b c d : AV} {h' : Hp X} {v' : AV}, OE h' v' ((l.take (i + 1)).map (keepE kl vl)) h.n (fun k => F k ∨ h.n ≤ k) ∧ Keep NoB h h' → ∃ (j : Nat) (bv s7 s8 s9 s10 : AV), j ≤ l.length ∧ j ≤ n ∧ m - 1 = l.length - j ∧ Keep NoB h h' ∧ OE h' bv ((l.take j).map (keepE kl vl)) h.n (fun k => F k ∨ h.n ≤ k) ∧
          [v, .int .i64 n, .int .i64 kl, .int .i64 vl, .snil, v', .int .i64 ((i : Int) + 1), a, b, c, d] = [v, .int .i64 n, .int .i64 kl, .int .i64 vl, .snil, bv, .int .i64 j, s7, s8, s9, s10] := fun {a b c d h' v'} p => by
        rw [show ((i : Int) + 1) = ((i + 1 : Nat) : Int) by omega]
        exact ⟨i + 1, v', _, _, _, _, by omega, by omega, by omega, p.2, p.1, rfl⟩
      by_cases hz : (e.key.take kl).length = 0
      · rw [if_pos hz] at hkE
        have hz0 : kc = kc := rfl
        have k3 : Keep NoB h2 (h2.push (.rw [.int .u8 107])) := Keep.push _ _ _
        have b3 := b2.up k3
        have k4 : Keep (OneB hh.n) (h2.push (.rw [.int .u8 107])) ((h2.push (.rw [.int .u8 107])).put hh.n (.rw [.slice 1 h2.n 0 1 (some 1), .snil, .bool e.gone])) := Keep.put _ _ _ rfl
        have b4 : Bx ((h2.push (.rw [.int .u8 107])).put hh.n (.rw [.slice 1 h2.n 0 1 (some 1), .snil, .bool e.gone])) hh.n [.slice 1 h2.n 0 1 (some 1), .snil, .bool e.gone] := b3.put
        have rk4 : RS ((h2.push (.rw [.int .u8 107])).put hh.n (.rw [.slice 1 h2.n 0 1 (some 1), .snil, .bool e.gone])) 1 (.slice 1 h2.n 0 1 (some 1)) (keepE kl vl e).key.length ((keepE kl vl e).key.map ub) := by
          rw [hkE]
          exact (rs_push (n := 1) (z := 1) (l := [.int .u8 107]) rfl).keep k4 (fun k q1 q2 => by have q1 : k = h2.n := q1; have q2 : k = hh.n := q2; omega)
        have K4 := (k2.and k3).own k4 (fun k q => by have q : k = hh.n := q; omega)
        have vv4 := hvv.up K4
        have bs4 : ∀ k, blk (.slice 1 h2.n 0 1 (some 1)) k → (F k ∨ h.n ≤ k) ∧ ¬ blk bv k := fun k hk => ⟨.inr (by have hk : k = h2.n := hk; omega), fun q => by have hk : k = h2.n := hk; have := oln k q; omega⟩
        obtain ⟨h4, hh4⟩ : ∃ h4 : Hp X, h4 = (h2.push (.rw [.int .u8 107])).put hh.n (.rw [.slice 1 h2.n 0 1 (some 1), .snil, .bool e.gone]) := ⟨_, rfl⟩
        rw [← hh4] at b4 rk4 K4 vv4
        repeat first|(refine BG ?_;first|(refine BH ?_;first|(refine BI ?_;refine BM ?_)|(refine BJ ?_;first|refine BN ?_|refine BO ?_)|refine BV (v_bx b2 rfl rfl) ?_|refine BV (rk2.lenv (by rfl)) ?_|refine BP ?_)|(refine BK ?_;first|refine BS rfl rfl ?_|refine BT rfl rfl ?_|refine BU rfl ?_)|(refine BL ?_;first|refine BW (ef_bs1 rfl) ?_|refine BW (ef_bx b3 rfl rfl ⟨rfl, rfl⟩ (Nat.zero_lt_succ _)) ?_|refine BQ ?_)|(refine BR ?_;try simp only [setS]))|(refine BX ?_;first|refine BY rfl ?_|(refine BZ ?_;refine CA ?_)|refine CB (v_bx b2 rfl rfl) ?_|refine CB (rk2.lenv (by rfl)) ?_|refine CC ?_|(refine CD ?_;try simp only [setS]))|refine AA ?_|refine AC ?_|refine AD ?_|refine AE ?_|refine AF rfl rfl ?_|refine AG rfl rfl ?_|refine AH ?_|refine AI ?_|refine AJ ?_|refine AK ?_|refine AL ?_|refine AM ?_|refine AN ?_|refine AO ?_|refine AP ?_|refine AQ rfl ?_|refine AR ?_|refine AS ?_|refine AT rfl ?_|refine AU rfl ?_
        refine wr_heap (h' := h4) (by rw [hh4]; rfl) ?_
        clear hh4 k4 b3 k3
        cases hg : e.gone with
        | true =>
          rw [hg] at b4 hvE
          obtain ⟨cells, o1, o2, o3⟩ := fin (kx := .slice 1 h2.n 0 1 (some 1)) (vx := .snil) K4 rk4 (by rw [hvE]; exact ⟨rfl, rfl⟩) (fun k hk => hk.elim (bs4 k) (fun q => q.elim))
          rw [hg] at o1 o2 o3
          repeat first|(refine BG ?_;first|(refine BH ?_;first|(refine BI ?_;refine BM ?_)|(refine BJ ?_;first|refine BN ?_|refine BO ?_)|refine BV (v_bx b4 rfl rfl) ?_|refine BV (v_bxn b4 rfl (Nat.le_refl _)) ?_|refine BP ?_)|(refine BK ?_;first|refine BS rfl rfl ?_|refine BT rfl rfl ?_|refine BU rfl ?_)|(refine BL ?_;first|refine BW (ef_bsN rfl rfl rfl) ?_|refine BQ ?_)|(refine BR ?_;try simp only [setS]))|refine AA ?_|refine AC ?_|refine AD ?_|refine AE ?_|refine AF rfl rfl ?_|refine AG rfl rfl ?_|refine AH ?_|refine AI ?_|refine AJ ?_|refine AK ?_|refine AL ?_|refine AM ?_|refine AN ?_|refine AO ?_|refine AP ?_|refine AQ rfl ?_|refine AR ?_|refine AS ?_|refine AT rfl ?_|refine AU rfl ?_
          refine wr_app_e rfl rfl o1 (by decide) o2 (by omega) (by omega) fun v' h' a1 a2 a3 => ?_
          repeat first|(refine BG ?_;first|(refine BH ?_;first|(refine BI ?_;refine BM ?_)|(refine BJ ?_;first|refine BN ?_|refine BO ?_)|refine BP ?_)|(refine BK ?_;first|refine BS rfl rfl ?_|refine BT rfl rfl ?_|refine BU rfl ?_)|(refine BL ?_;first|refine BQ ?_)|(refine BR ?_;try simp only [setS]))|refine AA ?_|refine AC ?_|refine AD ?_|refine AE ?_|refine AF rfl rfl ?_|refine AG rfl rfl ?_|refine AH ?_|refine AI ?_|refine AJ ?_|refine AK ?_|refine AL ?_|refine AM ?_|refine AN ?_|refine AO ?_|refine AP ?_|refine AQ rfl ?_|refine AR ?_|refine AS ?_|refine AT rfl ?_|refine AU rfl ?_
          exact round_norm (m - 1) (by omega) (fin2 (o3 v' h' a1 a2 a3))
        | false =>
          rw [hg] at b4 hvE
          repeat first|(refine BG ?_;first|(refine BH ?_;first|(refine BI ?_;refine BM ?_)|(refine BJ ?_;first|refine BN ?_|refine BO ?_)|refine BV (v_bx b4 rfl rfl) ?_|refine BV (pa rfl rfl) ?_|refine BV (l1 K4 rfl) ?_|refine BP ?_)|(refine BK ?_;first|refine BS rfl rfl ?_|refine BT rfl rfl ?_|refine BU rfl ?_)|(refine BL ?_;first|refine BQ ?_)|(refine BR ?_;try simp only [setS]))|refine AA ?_|refine AC ?_|refine AD ?_|refine AE ?_|refine AF rfl rfl ?_|refine AG rfl rfl ?_|refine AH ?_|refine AI ?_|refine AJ ?_|refine AK ?_|refine AL ?_|refine AM ?_|refine AN ?_|refine AO ?_|refine AP ?_|refine AQ rfl ?_|refine AR ?_|refine AS ?_|refine AT rfl ?_|refine AU rfl ?_
          refine wr_call_e rfl ((cut_ok hE T.cut vv4 hv).mono fun vc h5 ⟨e5, rv, bv5, _⟩ => ?_)
          have e5 := e5.symm; subst e5
          have k5 : Keep (OneB hh.n) h4 (h4.put hh.n (.rw [.slice 1 h2.n 0 1 (some 1), vc, .bool false])) := Keep.put _ _ _ rfl
          have b5 : Bx (h4.put hh.n (.rw [.slice 1 h2.n 0 1 (some 1), vc, .bool false])) hh.n [.slice 1 h2.n 0 1 (some 1), vc, .bool false] := b4.put
          have rk5 := rk4.keep k5 (fun k q1 q2 => by have q1 : k = h2.n := q1; have q2 : k = hh.n := q2; omega)
          have rv5 := rv.keep k5 (fun k q1 q2 => by have := hvv.lt k (bv5 k q1); have q2 : k = hh.n := q2; omega)
          obtain ⟨cells, o1, o2, o3⟩ := fin (kx := .slice 1 h2.n 0 1 (some 1)) (vx := vc) (K4.own k5 (fun k q => by have q : k = hh.n := q; omega)) rk5 (by rw [hvE]; exact rv5) (fun k hk => hk.elim (bs4 k) (fun q => bvn k (bv5 k q)))
          rw [hg] at o1 o2 o3
          repeat first|(refine BG ?_;first|(refine BH ?_;first|(refine BI ?_;refine BM ?_)|(refine BJ ?_;first|refine BN ?_|refine BO ?_)|refine BV (v_bx b5 rfl rfl) ?_|refine BV (v_bxn b5 rfl (Nat.le_refl _)) ?_|refine BP ?_)|(refine BK ?_;first|refine BS rfl rfl ?_|refine BT rfl rfl ?_|refine BU rfl ?_)|(refine BL ?_;first|refine BW (ef_bx b4 rfl rfl rv.one (Nat.succ_lt_succ (Nat.zero_lt_succ _))) ?_|refine BW (ef_bsN rfl rfl rv.one.2) ?_|refine BQ ?_)|(refine BR ?_;try simp only [setS]))|refine AA ?_|refine AC ?_|refine AD ?_|refine AE ?_|refine AF rfl rfl ?_|refine AG rfl rfl ?_|refine AH ?_|refine AI ?_|refine AJ ?_|refine AK ?_|refine AL ?_|refine AM ?_|refine AN ?_|refine AO ?_|refine AP ?_|refine AQ rfl ?_|refine AR ?_|refine AS ?_|refine AT rfl ?_|refine AU rfl ?_
          refine wr_app_e rfl rfl o1 (by decide) o2 (by omega) (by omega) fun v' h' a1 a2 a3 => ?_
          repeat first|(refine BG ?_;first|(refine BH ?_;first|(refine BI ?_;refine BM ?_)|(refine BJ ?_;first|refine BN ?_|refine BO ?_)|refine BP ?_)|(refine BK ?_;first|refine BS rfl rfl ?_|refine BT rfl rfl ?_|refine BU rfl ?_)|(refine BL ?_;first|refine BQ ?_)|(refine BR ?_;try simp only [setS]))|refine AA ?_|refine AC ?_|refine AD ?_|refine AE ?_|refine AF rfl rfl ?_|refine AG rfl rfl ?_|refine AH ?_|refine AI ?_|refine AJ ?_|refine AK ?_|refine AL ?_|refine AM ?_|refine AN ?_|refine AO ?_|refine AP ?_|refine AQ rfl ?_|refine AR ?_|refine AS ?_|refine AT rfl ?_|refine AU rfl ?_
          exact round_norm (m - 1) (by omega) (fin2 (o3 v' h' a1 a2 a3))
      · rw [if_neg hz] at hkE
        cases hg : e.gone with
        | true =>
          rw [hg] at b2 hvE
          obtain ⟨cells, o1, o2, o3⟩ := fin (kx := kc) (vx := .snil) k2 (by rw [hkE]; exact rk2) (by rw [hvE]; exact ⟨rfl, rfl⟩) (fun k hk => hk.elim (bkn k) (fun q => q.elim))
          rw [hg] at o1 o2 o3
          repeat first|(refine BG ?_;first|(refine BH ?_;first|(refine BI ?_;refine BM ?_)|(refine BJ ?_;first|refine BN ?_|refine BO ?_)|refine BV (v_bx b2 rfl rfl) ?_|refine BV (rk2.lenv (by rfl)) ?_|refine BV (v_bxn b2 rfl (Nat.le_refl _)) ?_|refine BP ?_)|(refine BK ?_;first|refine BS rfl rfl ?_|refine BT rfl rfl ?_|refine BU rfl ?_)|(refine BL ?_;first|refine BW (ef_bsN rfl rk2.one.2 rfl) ?_|refine BQ ?_)|(refine BR ?_;try simp only [setS]))|(refine BX ?_;first|refine BY rfl ?_|(refine BZ ?_;refine CA ?_)|refine CB (v_bx b2 rfl rfl) ?_|refine CB (rk2.lenv (by rfl)) ?_|refine CB (v_bxn b2 rfl (Nat.le_refl _)) ?_|refine CC ?_|(refine CD ?_;try simp only [setS]))|refine AA ?_|refine AC ?_|refine AD ?_|refine AE ?_|refine AF rfl rfl ?_|refine AG rfl rfl ?_|refine AH ?_|refine AI ?_|refine AJ ?_|refine AK ?_|refine AL ?_|refine AM ?_|refine AN ?_|refine AO ?_|refine AP ?_|refine AQ rfl ?_|refine AR ?_|refine AS ?_|refine AT rfl ?_|refine AU rfl ?_
          refine wr_app_e rfl rfl o1 (by decide) o2 (by omega) (by omega) fun v' h' a1 a2 a3 => ?_
          repeat first|(refine BG ?_;first|(refine BH ?_;first|(refine BI ?_;refine BM ?_)|(refine BJ ?_;first|refine BN ?_|refine BO ?_)|refine BP ?_)|(refine BK ?_;first|refine BS rfl rfl ?_|refine BT rfl rfl ?_|refine BU rfl ?_)|(refine BL ?_;first|refine BQ ?_)|(refine BR ?_;try simp only [setS]))|refine AA ?_|refine AC ?_|refine AD ?_|refine AE ?_|refine AF rfl rfl ?_|refine AG rfl rfl ?_|refine AH ?_|refine AI ?_|refine AJ ?_|refine AK ?_|refine AL ?_|refine AM ?_|refine AN ?_|refine AO ?_|refine AP ?_|refine AQ rfl ?_|refine AR ?_|refine AS ?_|refine AT rfl ?_|refine AU rfl ?_
          exact round_norm (m - 1) (by omega) (fin2 (o3 v' h' a1 a2 a3))
        | false =>
          rw [hg] at b2 hvE
          repeat first|(refine BG ?_;first|(refine BH ?_;first|(refine BI ?_;refine BM ?_)|(refine BJ ?_;first|refine BN ?_|refine BO ?_)|refine BV (v_bx b2 rfl rfl) ?_|refine BV (rk2.lenv (by rfl)) ?_|refine BV (pa rfl rfl) ?_|refine BV (l1 k2 rfl) ?_|refine BP ?_)|(refine BK ?_;first|refine BS rfl rfl ?_|refine BT rfl rfl ?_|refine BU rfl ?_)|(refine BL ?_;first|refine BQ ?_)|(refine BR ?_;try simp only [setS]))|(refine BX ?_;first|refine BY rfl ?_|(refine BZ ?_;refine CA ?_)|refine CB (v_bx b2 rfl rfl) ?_|refine CB (rk2.lenv (by rfl)) ?_|refine CB (pa rfl rfl) ?_|refine CB (l1 k2 rfl) ?_|refine CC ?_|(refine CD ?_;try simp only [setS]))|refine AA ?_|refine AC ?_|refine AD ?_|refine AE ?_|refine AF rfl rfl ?_|refine AG rfl rfl ?_|refine AH ?_|refine AI ?_|refine AJ ?_|refine AK ?_|refine AL ?_|refine AM ?_|refine AN ?_|refine AO ?_|refine AP ?_|refine AQ rfl ?_|refine AR ?_|refine AS ?_|refine AT rfl ?_|refine AU rfl ?_
          refine wr_call_e rfl ((cut_ok hE T.cut vv2 hv).mono fun vc h5 ⟨e5, rv, bv5, _⟩ => ?_)
          have e5 := e5.symm; subst e5
          have k5 : Keep (OneB hh.n) h2 (h2.put hh.n (.rw [kc, vc, .bool false])) := Keep.put _ _ _ rfl
          have b5 : Bx (h2.put hh.n (.rw [kc, vc, .bool false])) hh.n [kc, vc, .bool false] := b2.put
          have rk5 := rk2.keep k5 (fun k q1 q2 => by have := hkv.lt k (bk k q1); have q2 : k = hh.n := q2; omega)
          have rv5 := rv.keep k5 (fun k q1 q2 => by have := hvv.lt k (bv5 k q1); have q2 : k = hh.n := q2; omega)
          obtain ⟨cells, o1, o2, o3⟩ := fin (kx := kc) (vx := vc) (k2.own k5 (fun k q => by have q : k = hh.n := q; omega)) (by rw [hkE]; exact rk5) (by rw [hvE]; exact rv5) (fun k hk => hk.elim (bkn k) (fun q => bvn k (bv5 k q)))
          rw [hg] at o1 o2 o3
          repeat first|(refine BG ?_;first|(refine BH ?_;first|(refine BI ?_;refine BM ?_)|(refine BJ ?_;first|refine BN ?_|refine BO ?_)|refine BV (v_bx b5 rfl rfl) ?_|refine BV (v_bxn b5 rfl (Nat.le_refl _)) ?_|refine BP ?_)|(refine BK ?_;first|refine BS rfl rfl ?_|refine BT rfl rfl ?_|refine BU rfl ?_)|(refine BL ?_;first|refine BW (ef_bx b2 rfl rfl rv.one (Nat.succ_lt_succ (Nat.zero_lt_succ _))) ?_|refine BW (ef_bsN rfl rk2.one.2 rv.one.2) ?_|refine BQ ?_)|(refine BR ?_;try simp only [setS]))|refine AA ?_|refine AC ?_|refine AD ?_|refine AE ?_|refine AF rfl rfl ?_|refine AG rfl rfl ?_|refine AH ?_|refine AI ?_|refine AJ ?_|refine AK ?_|refine AL ?_|refine AM ?_|refine AN ?_|refine AO ?_|refine AP ?_|refine AQ rfl ?_|refine AR ?_|refine AS ?_|refine AT rfl ?_|refine AU rfl ?_
          refine wr_app_e rfl rfl o1 (by decide) o2 (by omega) (by omega) fun v' h' a1 a2 a3 => ?_
          repeat first|(refine BG ?_;first|(refine BH ?_;first|(refine BI ?_;refine BM ?_)|(refine BJ ?_;first|refine BN ?_|refine BO ?_)|refine BP ?_)|(refine BK ?_;first|refine BS rfl rfl ?_|refine BT rfl rfl ?_|refine BU rfl ?_)|(refine BL ?_;first|refine BQ ?_)|(refine BR ?_;try simp only [setS]))|refine AA ?_|refine AC ?_|refine AD ?_|refine AE ?_|refine AF rfl rfl ?_|refine AG rfl rfl ?_|refine AH ?_|refine AI ?_|refine AJ ?_|refine AK ?_|refine AL ?_|refine AM ?_|refine AN ?_|refine AO ?_|refine AP ?_|refine AQ rfl ?_|refine AR ?_|refine AS ?_|refine AT rfl ?_|refine AU rfl ?_
          exact round_norm (m - 1) (by omega) (fin2 (o3 v' h' a1 a2 a3))
    · repeat first|(refine BG ?_;first|(refine BH ?_;first|(refine BI ?_;refine BM ?_)|(refine BJ ?_;first|refine BN ?_|refine BO ?_)|refine BV (hr'.lenv (by rfl)) ?_|refine BP ?_)|(refine BK ?_;first|refine BS rfl rfl ?_|refine BT rfl rfl ?_|refine BU rfl ?_)|(refine BL ?_;first|refine BQ ?_)|(refine BR ?_;try simp only [setS]))|refine AA ?_|refine AC ?_|refine AD ?_|refine AE ?_|refine AF rfl rfl ?_|refine AG rfl rfl ?_|refine AH ?_|refine AI ?_|refine AJ ?_|refine AK ?_|refine AL ?_|refine AM ?_|refine AN ?_|refine AO ?_|refine AP ?_|refine AQ rfl ?_|refine AR ?_|refine AS ?_|refine AT rfl ?_|refine AU rfl ?_
      rw [keepL, List.take_eq_take_iff.2 (show min n l.length = min i l.length by omega)]
      exact ⟨K, oe⟩
  · repeat first|(refine BG ?_;first|(refine BH ?_;first|(refine BI ?_;refine BM ?_)|(refine BJ ?_;first|refine BN ?_|refine BO ?_)|refine BV (hr'.lenv (by rfl)) ?_|refine BP ?_)|(refine BK ?_;first|refine BS rfl rfl ?_|refine BT rfl rfl ?_|refine BU rfl ?_)|(refine BL ?_;first|refine BQ ?_)|(refine BR ?_;try simp only [setS]))|refine AA ?_|refine AC ?_|refine AD ?_|refine AE ?_|refine AF rfl rfl ?_|refine AG rfl rfl ?_|refine AH ?_|refine AI ?_|refine AJ ?_|refine AK ?_|refine AL ?_|refine AM ?_|refine AN ?_|refine AO ?_|refine AP ?_|refine AQ rfl ?_|refine AR ?_|refine AS ?_|refine AT rfl ?_|refine AU rfl ?_
    rw [keepL, List.take_eq_take_iff.2 (show min n l.length = min i l.length by omega)]
    exact ⟨K, oe⟩
end
end Am
end Go.Proofs.Ythgcdoahoechhaa
namespace Go.Proofs.Ythgcdoahoechhaa
namespace Am
open Go.RowKit
set_option maxRecDepth 100000
def b_w5laid : BF := ⟨19, [0, 2, 3, 4, 8], (.seq (.reg [.mk none (.slot 1) (.mov (.mv (.const .snil)))]) (.seq (.reg [.mk none (.slot 2) (.mov (.mv (.const .snil)))]) (.seq (.seq (.reg [.mk none (.slot 3) (.mov (.mv (.const (.int .i64 0))))]) (.block 0 (.loop (.seq (.seq (.reg [.mk none (.env 5) (.mov (.mv (.slot 3))), .mk none (.env 6) (.mov (.mv (.slot 0))), .mk none (.env 7) (.mov (.lenv (.env 6))), .mk none (.slot 4) (.mov (.bin .lss .no (.env 5) (.env 7)))]) (.cond (.slot 4) .skip (.exit 0))) (.seq (.block 1 (.reg [.mk none (.env 11) (.mov (.mv (.slot 2))), .mk none (.env 12) (.mov (.mv (.slot 0))), .mk none (.env 13) (.mov (.mv (.slot 3))), .mk none (.env 14) (.mov (.iaddr 1 (.env 12) (.env 13))), .mk none (.env 15) (.mov (.ld1 (.env 14))), .mk none (.env 16) (.call 81 [(.env 15)]), .mk none (.env 17) (.call 42 [(.env 11), (.env 16)]), .mk none (.slot 2) (.mov (.mv (.env 17)))])) (.reg [.mk none (.env 9) (.mov (.mv (.slot 3))), .mk none (.env 10) (.mov (.bin .add .no (.env 9) (.const (.int .i64 1)))), .mk none (.slot 3) (.mov (.mv (.env 10)))])))))) (.seq (.reg [.mk none (.env 18) (.mov (.mv (.slot 2))), .mk none (.slot 1) (.mov (.mv (.env 18)))]) .ret)))), [.slot (.slot 1)]⟩
def laidB (ls : List (List EM)) : List UInt8 := ls.flatMap fun l => recB (batB l)
theorem laidB_s {ls : List (List EM)} {i : Nat} {l : List EM} (he : ls[i]? = some l) : laidB (ls.take (i + 1)) = laidB (ls.take i) ++ recB (batB l) := by
  unfold laidB
  rw [List.take_add_one, he, List.flatMap_append]
  simp
theorem batB_le {l : List EM} (hm : mayB l = true) : (batB l).length ≤ 2 + 5000 * l.length := by
  have h0 : ∀ e ∈ l, okE e = true := by
    unfold mayB at hm
    simp only [Bool.and_eq_true, List.all_eq_true] at hm
    exact hm.2
  have h1 : ∀ l : List EM, (∀ e ∈ l, okE e = true) → (l.flatMap entB).length ≤ 5000 * l.length := fun l => by
    induction l with
    | nil => intro _; simp
    | cons e l ih =>
      intro hh
      have h2 := ih fun e he => hh e (List.mem_cons_of_mem _ he)
      have h3 := hh e (List.mem_cons_self ..)
      have h4 := entB_len e
      unfold okE at h3
      simp only [Bool.and_eq_true, decide_eq_true_eq] at h3
      rw [List.flatMap_cons, List.length_append, List.length_cons]
      omega
  unfold batB
  rw [List.length_append, encB_len]
  have := h1 l h0
  omega
section
variable {X : Type} {E : Nat → Option (Ent X)}
set_option maxHeartbeats 4000000 in
theorem batches_ok (hE : ∀ f e, E f = some e → e.plain) (T : WaK E) {h : Hp X} {v : AV} {ls : List (List EM)} {n : Nat} (ha : Bats h v ls (fun _ => True)) (hn : n ≤ 1000000) (hl : ls.length ≤ maxLen) (hl2 : ∀ l ∈ ls, l.length ≤ maxLen) :
    WF (lim E) 17 [v, .int .i64 n] h fun r h' => Keep NoB h h' ∧ OB h' r ((ls.take n).map (keepL 5 20 30)) h.n (fun _ => True) := by
  obtain ⟨cells, hr, hF, hq⟩ := ha.lt.out
  refine wf_bc hE T.bats rfl ?_
  simp only [b_w5batches, List.map, getS]
  have hmx : (maxLen : Nat) = 9223372036854775807 := rfl
  repeat first|(refine BG ?_;first|(refine BH ?_;first|(refine BI ?_;refine BM ?_)|(refine BJ ?_;first|refine BN ?_|refine BO ?_)|refine BP ?_)|(refine BK ?_;first|refine BS rfl rfl ?_|refine BT rfl rfl ?_|refine BU rfl ?_)|(refine BL ?_;first|refine BQ ?_)|(refine BR ?_;try simp only [setS]))|refine AA ?_|refine AC ?_|refine AD ?_|refine AE ?_|refine AF rfl rfl ?_|refine AG rfl rfl ?_|refine AH ?_|refine AI ?_|refine AJ ?_|refine AK ?_|refine AL ?_|refine AM ?_|refine AN ?_|refine AO ?_|refine AP ?_|refine AQ rfl ?_|refine AR ?_|refine AS ?_|refine AT rfl ?_|refine AU rfl ?_
  refine wb_loop (fun m t hh => ∃ (i : Nat) (bv s5 : AV), i ≤ ls.length ∧ i ≤ n ∧ m = ls.length - i ∧ Keep NoB h hh ∧ OB hh bv ((ls.take i).map (keepL 5 20 30)) h.n (fun _ => True) ∧
    t = [v, .int .i64 n, .snil, bv, .int .i64 i, s5]) ?_ ls.length _ _ ⟨0, .snil, _, by omega, by omega, by omega, Keep.refl _ _, OB.nil, rfl⟩
  rintro m t hh ⟨i, bv, s5, hi, hin, hm, K, ob, rfl⟩
  have hr' := hr.up K
  by_cases hlt : i < ls.length
  · by_cases hlt2 : i < n
    · obtain ⟨l, he⟩ : ∃ l, ls[i]? = some l := ⟨_, List.getElem?_eq_getElem hlt⟩
      obtain ⟨c, hc, ef⟩ := hq i l he
      obtain ⟨g, o, pa, la⟩ := hr'.at2 hlt
      have lc : ∀ {e : En} {t : List AV} {x : Od}, x.ev e t = .ptr g o → (Mv.ld1 x).ev e t hh = some c := fun {_ _ _} hx => by rw [la (Keep.refl NoB hh) (fun _ _ q => q) hx]; exact hc
      repeat first|(refine BG ?_;first|(refine BH ?_;first|(refine BI ?_;refine BM ?_)|(refine BJ ?_;first|refine BN ?_|refine BO ?_)|refine BV (hr'.lenv (by rfl)) ?_|refine BV (pa rfl rfl) ?_|refine BV (lc rfl) ?_|refine BP ?_)|(refine BK ?_;first|refine BS rfl rfl ?_|refine BT rfl rfl ?_|refine BU rfl ?_)|(refine BL ?_;first|refine BQ ?_)|(refine BR ?_;try simp only [setS]))|refine AA ?_|refine AC ?_|refine AD ?_|refine AE ?_|refine AF rfl rfl ?_|refine AG rfl rfl ?_|refine AH ?_|refine AI ?_|refine AJ ?_|refine AK ?_|refine AL ?_|refine AM ?_|refine AN ?_|refine AO ?_|refine AP ?_|refine AQ rfl ?_|refine AR ?_|refine AS ?_|refine AT rfl ?_|refine AU rfl ?_
      refine wr_call_e rfl ((keep_ok hE T (ef.up K) (by omega) (by omega) (by omega) (n := 5) (kl := 20) (vl := 30) (hl2 l (List.mem_of_getElem? he))).mono fun r h2 ⟨k2, oe⟩ => ?_)
      have nK := K.n
      have n2 := k2.n
      have oln := ob.lt
      have olo := ob.lo
      have ef2 : EntsF h2 r (keepL 5 20 30 l) (fun k => True ∧ ¬ blk bv k) := oe.entsF.on (fun k q => ⟨trivial, fun q2 => by
        have h3 := oln k q2
        have h4 := olo k q2
        rcases q with (q | q) | q
        · have := q.2; omega
        · omega
        · omega⟩)
      obtain ⟨cs, o1, o2, o3⟩ := (ob.up k2).next ef2 (by omega)
      have hlm : ((ls.take i).map (keepL 5 20 30)).length = i := by rw [List.length_map, List.length_take]; omega
      repeat first|(refine BG ?_;first|(refine BH ?_;first|(refine BI ?_;refine BM ?_)|(refine BJ ?_;first|refine BN ?_|refine BO ?_)|refine BP ?_)|(refine BK ?_;first|refine BS rfl rfl ?_|refine BT rfl rfl ?_|refine BU rfl ?_)|(refine BL ?_;first|refine BW (ef_bs1' rfl ef2.one.1 ef2.one.2) ?_|refine BQ ?_)|(refine BR ?_;try simp only [setS]))|refine AA ?_|refine AC ?_|refine AD ?_|refine AE ?_|refine AF rfl rfl ?_|refine AG rfl rfl ?_|refine AH ?_|refine AI ?_|refine AJ ?_|refine AK ?_|refine AL ?_|refine AM ?_|refine AN ?_|refine AO ?_|refine AP ?_|refine AQ rfl ?_|refine AR ?_|refine AS ?_|refine AT rfl ?_|refine AU rfl ?_
      refine wr_app_e rfl rfl o1 (by decide) o2 (by omega) (by omega) fun v' h' a1 a2 a3 => ?_
      obtain ⟨p1, p2⟩ := o3 v' h' a1 a2 a3
      repeat first|(refine BG ?_;first|(refine BH ?_;first|(refine BI ?_;refine BM ?_)|(refine BJ ?_;first|refine BN ?_|refine BO ?_)|refine BP ?_)|(refine BK ?_;first|refine BS rfl rfl ?_|refine BT rfl rfl ?_|refine BU rfl ?_)|(refine BL ?_;first|refine BQ ?_)|(refine BR ?_;try simp only [setS]))|refine AA ?_|refine AC ?_|refine AD ?_|refine AE ?_|refine AF rfl rfl ?_|refine AG rfl rfl ?_|refine AH ?_|refine AI ?_|refine AJ ?_|refine AK ?_|refine AL ?_|refine AM ?_|refine AN ?_|refine AO ?_|refine AP ?_|refine AQ rfl ?_|refine AR ?_|refine AS ?_|refine AT rfl ?_|refine AU rfl ?_
      rw [show ((i : Int) + 1) = ((i + 1 : Nat) : Int) by omega]
      refine round_norm (m - 1) (by omega) ⟨i + 1, v', _, by omega, by omega, by omega, (K.and k2).own p2 olo, ?_, rfl⟩
      rw [take_map_s he]
      exact p1
    · repeat first|(refine BG ?_;first|(refine BH ?_;first|(refine BI ?_;refine BM ?_)|(refine BJ ?_;first|refine BN ?_|refine BO ?_)|refine BV (hr'.lenv (by rfl)) ?_|refine BP ?_)|(refine BK ?_;first|refine BS rfl rfl ?_|refine BT rfl rfl ?_|refine BU rfl ?_)|(refine BL ?_;first|refine BQ ?_)|(refine BR ?_;try simp only [setS]))|refine AA ?_|refine AC ?_|refine AD ?_|refine AE ?_|refine AF rfl rfl ?_|refine AG rfl rfl ?_|refine AH ?_|refine AI ?_|refine AJ ?_|refine AK ?_|refine AL ?_|refine AM ?_|refine AN ?_|refine AO ?_|refine AP ?_|refine AQ rfl ?_|refine AR ?_|refine AS ?_|refine AT rfl ?_|refine AU rfl ?_
      rw [List.take_eq_take_iff.2 (show min n ls.length = min i ls.length by omega)]
      exact ⟨K, ob⟩
  · repeat first|(refine BG ?_;first|(refine BH ?_;first|(refine BI ?_;refine BM ?_)|(refine BJ ?_;first|refine BN ?_|refine BO ?_)|refine BV (hr'.lenv (by rfl)) ?_|refine BP ?_)|(refine BK ?_;first|refine BS rfl rfl ?_|refine BT rfl rfl ?_|refine BU rfl ?_)|(refine BL ?_;first|refine BQ ?_)|(refine BR ?_;try simp only [setS]))|refine AA ?_|refine AC ?_|refine AD ?_|refine AE ?_|refine AF rfl rfl ?_|refine AG rfl rfl ?_|refine AH ?_|refine AI ?_|refine AJ ?_|refine AK ?_|refine AL ?_|refine AM ?_|refine AN ?_|refine AO ?_|refine AP ?_|refine AQ rfl ?_|refine AR ?_|refine AS ?_|refine AT rfl ?_|refine AU rfl ?_
    rw [List.take_eq_take_iff.2 (show min n ls.length = min i ls.length by omega)]
    exact ⟨K, ob⟩
structure WaL (E : Nat → Option (Ent X)) : Prop where
  laid : E 25 = some (.bc b_w5laid)
  r4put : E 42 = some (.bc b_ref4Put)
  rput : E 86 = some (.bc b_ref2Put)
  r4batch : E 81 = some (.bc b_ref4Batch)
set_option maxHeartbeats 4000000 in
theorem laid_ok (hE : ∀ f e, E f = some e → e.plain) (T : WaL E) {h : Hp X} {v : AV} {ls : List (List EM)} {F : Nat → Prop} (ha : Bats h v ls F) (hl : ls.length ≤ 1000) (hm : ∀ l ∈ ls, mayB l = true ∧ l.length ≤ 100) :
    WF (lim E) 25 [v] h fun r h' => Own1 h h' r ∧ OS h' 1 r (laidB ls).length ((laidB ls).map ub) := by
  obtain ⟨cells, hr, hF, hq⟩ := ha.out
  refine wf_bc hE T.laid rfl ?_
  simp only [b_w5laid, List.map, getS]
  have hmx : (maxLen : Nat) = 9223372036854775807 := rfl
  repeat first|(refine BG ?_;first|(refine BH ?_;first|(refine BI ?_;refine BM ?_)|(refine BJ ?_;first|refine BN ?_|refine BO ?_)|refine BP ?_)|(refine BK ?_;first|refine BS rfl rfl ?_|refine BT rfl rfl ?_|refine BU rfl ?_)|(refine BL ?_;first|refine BQ ?_)|(refine BR ?_;try simp only [setS]))|refine AA ?_|refine AC ?_|refine AD ?_|refine AE ?_|refine AF rfl rfl ?_|refine AG rfl rfl ?_|refine AH ?_|refine AI ?_|refine AJ ?_|refine AK ?_|refine AL ?_|refine AM ?_|refine AN ?_|refine AO ?_|refine AP ?_|refine AQ rfl ?_|refine AR ?_|refine AS ?_|refine AT rfl ?_|refine AU rfl ?_
  refine wb_loop (fun m t hh => ∃ (i : Nat) (bv s4 : AV), i ≤ ls.length ∧ m = ls.length - i ∧ Own1 h hh bv ∧ OS hh 1 bv (laidB (ls.take i)).length ((laidB (ls.take i)).map ub) ∧ (laidB (ls.take i)).length ≤ 1000000 * i ∧
    t = [v, .snil, bv, .int .i64 i, s4]) ?_ ls.length _ _ ⟨0, .snil, _, by omega, by omega, ⟨Keep.refl _ _, fun k q => q.elim⟩, ⟨rfl, rfl⟩, by simp [laidB], rfl⟩
  rintro m t hh ⟨i, bv, s4, hi, hmm, ⟨K, lo⟩, ob, hlen, rfl⟩
  have hr' := hr.up K
  by_cases hlt : i < ls.length
  · obtain ⟨l, he⟩ : ∃ l, ls[i]? = some l := ⟨_, List.getElem?_eq_getElem hlt⟩
    obtain ⟨c, hc, ef⟩ := hq i l he
    obtain ⟨g, o, pa, la⟩ := hr'.at2 hlt
    have lc : ∀ {e : En} {t : List AV} {x : Od}, x.ev e t = .ptr g o → (Mv.ld1 x).ev e t hh = some c := fun {_ _ _} hx => by rw [la (Keep.refl NoB hh) (fun _ _ q => q) hx]; exact hc
    obtain ⟨hm1, hm2⟩ := hm l (List.mem_of_getElem? he)
    have hbl := batB_le hm1
    repeat first|(refine BG ?_;first|(refine BH ?_;first|(refine BI ?_;refine BM ?_)|(refine BJ ?_;first|refine BN ?_|refine BO ?_)|refine BV (hr'.lenv (by rfl)) ?_|refine BV (pa rfl rfl) ?_|refine BV (lc rfl) ?_|refine BP ?_)|(refine BK ?_;first|refine BS rfl rfl ?_|refine BT rfl rfl ?_|refine BU rfl ?_)|(refine BL ?_;first|refine BQ ?_)|(refine BR ?_;try simp only [setS]))|refine AA ?_|refine AC ?_|refine AD ?_|refine AE ?_|refine AF rfl rfl ?_|refine AG rfl rfl ?_|refine AH ?_|refine AI ?_|refine AJ ?_|refine AK ?_|refine AL ?_|refine AM ?_|refine AN ?_|refine AO ?_|refine AP ?_|refine AQ rfl ?_|refine AR ?_|refine AS ?_|refine AT rfl ?_|refine AU rfl ?_
    refine wr_call_e rfl ((rbatch_ok hE ⟨T.r4batch, T.rput⟩ (ef.up K).ents hm1).mono fun x h2 ⟨⟨k2, x2⟩, o2⟩ => ?_)
    have ob2 := ob.up k2
    repeat first|(refine BG ?_;first|(refine BH ?_;first|(refine BI ?_;refine BM ?_)|(refine BJ ?_;first|refine BN ?_|refine BO ?_)|refine BP ?_)|(refine BK ?_;first|refine BS rfl rfl ?_|refine BT rfl rfl ?_|refine BU rfl ?_)|(refine BL ?_;first|refine BQ ?_)|(refine BR ?_;try simp only [setS]))|refine AA ?_|refine AC ?_|refine AD ?_|refine AE ?_|refine AF rfl rfl ?_|refine AG rfl rfl ?_|refine AH ?_|refine AI ?_|refine AJ ?_|refine AK ?_|refine AL ?_|refine AM ?_|refine AN ?_|refine AO ?_|refine AP ?_|refine AQ rfl ?_|refine AR ?_|refine AS ?_|refine AT rfl ?_|refine AU rfl ?_
    refine wr_call_e rfl ((r4put_ok hE T.r4put T.rput ob2.rs o2.rs (by omega) (by omega)).mono fun y h3 ⟨⟨k3, x3⟩, o3⟩ => ?_)
    repeat first|(refine BG ?_;first|(refine BH ?_;first|(refine BI ?_;refine BM ?_)|(refine BJ ?_;first|refine BN ?_|refine BO ?_)|refine BP ?_)|(refine BK ?_;first|refine BS rfl rfl ?_|refine BT rfl rfl ?_|refine BU rfl ?_)|(refine BL ?_;first|refine BQ ?_)|(refine BR ?_;try simp only [setS]))|refine AA ?_|refine AC ?_|refine AD ?_|refine AE ?_|refine AF rfl rfl ?_|refine AG rfl rfl ?_|refine AH ?_|refine AI ?_|refine AJ ?_|refine AK ?_|refine AL ?_|refine AM ?_|refine AN ?_|refine AO ?_|refine AP ?_|refine AQ rfl ?_|refine AR ?_|refine AS ?_|refine AT rfl ?_|refine AU rfl ?_
    rw [show ((i : Int) + 1) = ((i + 1 : Nat) : Int) by omega]
    have nK := K.n
    have n2 := k2.n
    have hb6 := recB_len (batB l)
    refine round_norm (m - 1) (by omega) ⟨i + 1, y, _, by omega, by omega, ⟨(K.and k2).and k3, fun k q => by have := x3 k q; omega⟩, ?_, ?_, rfl⟩
    · rw [laidB_s he]
      exact o3
    · rw [laidB_s he, List.length_append]
      omega
  · repeat first|(refine BG ?_;first|(refine BH ?_;first|(refine BI ?_;refine BM ?_)|(refine BJ ?_;first|refine BN ?_|refine BO ?_)|refine BV (hr'.lenv (by rfl)) ?_|refine BP ?_)|(refine BK ?_;first|refine BS rfl rfl ?_|refine BT rfl rfl ?_|refine BU rfl ?_)|(refine BL ?_;first|refine BQ ?_)|(refine BR ?_;try simp only [setS]))|refine AA ?_|refine AC ?_|refine AD ?_|refine AE ?_|refine AF rfl rfl ?_|refine AG rfl rfl ?_|refine AH ?_|refine AI ?_|refine AJ ?_|refine AK ?_|refine AL ?_|refine AM ?_|refine AN ?_|refine AO ?_|refine AP ?_|refine AQ rfl ?_|refine AR ?_|refine AS ?_|refine AT rfl ?_|refine AU rfl ?_
    have e : i = ls.length := by omega
    subst e
    rw [List.take_length] at ob
    exact ⟨⟨K, lo⟩, ob⟩
end
end Am
end Go.Proofs.Ythgcdoahoechhaa
namespace Go.Proofs.Ythgcdoahoechhaa
namespace Am
open Go.RowKit
set_option maxRecDepth 100000
def b_ref8Same : BF := ⟨66, [0, 1, 4, 5, 10, 14, 65], (.seq (.reg [.mk none (.slot 2) (.mov (.mv (.const (.bool false))))]) (.seq (.seq (.reg [.mk none (.env 6) (.mov (.mv (.slot 0))), .mk none (.env 7) (.mov (.lenv (.env 6))), .mk none (.env 8) (.mov (.mv (.slot 1))), .mk none (.env 9) (.mov (.lenv (.env 8))), .mk none (.slot 4) (.mov (.bin .neq .no (.env 7) (.env 9)))]) (.cond (.slot 4) (.seq (.reg [.mk none (.slot 2) (.mov (.mv (.const (.bool false))))]) .ret) .skip)) (.seq (.seq (.reg [.mk none (.slot 3) (.mov (.mv (.const (.int .i64 0))))]) (.block 0 (.loop (.seq (.seq (.reg [.mk none (.env 11) (.mov (.mv (.slot 3))), .mk none (.env 12) (.mov (.mv (.slot 0))), .mk none (.env 13) (.mov (.lenv (.env 12))), .mk none (.slot 5) (.mov (.bin .lss .no (.env 11) (.env 13)))]) (.cond (.slot 5) .skip (.exit 0))) (.seq (.block 1 (.seq (.dreg [(.mk none (.env 17) (.mov (.mv (.slot 0))), []), (.mk none (.env 18) (.mov (.mv (.slot 3))), []), (.mk none (.env 19) (.mov (.iaddr 3 (.env 17) (.env 18))), []), (.mk none (.env 20) (.mov (.faddr 0 (.env 19))), []), (.mk none (.env 21) (.mov (.ld1 (.env 20))), []), (.mk none (.env 22) (.mov (.b2s (.env 21))), []), (.mk none (.env 23) (.mov (.mv (.slot 1))), []), (.mk none (.env 24) (.mov (.mv (.slot 3))), []), (.mk none (.env 25) (.mov (.iaddr 3 (.env 23) (.env 24))), []), (.mk none (.env 26) (.mov (.faddr 0 (.env 25))), []), (.mk none (.env 27) (.mov (.ld1 (.env 26))), []), (.mk none (.env 28) (.mov (.b2s (.env 27))), []), (.mk none (.env 29) (.mov (.bin .neq .no (.env 22) (.env 28))), []), (.mk none (.env 30) (.mov (.mv (.env 29))), []), (.mk (some ((.env 30), false)) (.env 31) (.mov (.mv (.slot 0))), []), (.mk (some ((.env 30), false)) (.env 32) (.mov (.mv (.slot 3))), []), (.mk (some ((.env 30), false)) (.env 33) (.mov (.iaddr 3 (.env 31) (.env 32))), []), (.mk (some ((.env 30), false)) (.env 34) (.mov (.faddr 2 (.env 33))), []), (.mk (some ((.env 30), false)) (.env 35) (.mov (.ld1 (.env 34))), []), (.mk (some ((.env 30), false)) (.env 36) (.mov (.mv (.slot 1))), []), (.mk (some ((.env 30), false)) (.env 37) (.mov (.mv (.slot 3))), []), (.mk (some ((.env 30), false)) (.env 38) (.mov (.iaddr 3 (.env 36) (.env 37))), []), (.mk (some ((.env 30), false)) (.env 39) (.mov (.faddr 2 (.env 38))), []), (.mk (some ((.env 30), false)) (.env 40) (.mov (.ld1 (.env 39))), []), (.mk (some ((.env 30), false)) (.env 41) (.mov (.bin .neq .bool (.env 35) (.env 40))), []), (.mk none (.env 42) (.mov (.pick (.env 30) (.const (.bool true)) (.env 41))), []), (.mk none (.env 43) (.mov (.mv (.env 42))), []), (.mk (some ((.env 43), false)) (.env 44) (.mov (.mv (.slot 0))), []), (.mk (some ((.env 43), false)) (.env 45) (.mov (.mv (.slot 3))), []), (.mk (some ((.env 43), false)) (.env 46) (.mov (.iaddr 3 (.env 44) (.env 45))), []), (.mk (some ((.env 43), false)) (.env 47) (.mov (.faddr 2 (.env 46))), []), (.mk (some ((.env 43), false)) (.env 48) (.mov (.ld1 (.env 47))), []), (.mk (some ((.env 43), false)) (.env 49) (.mov (.notb (.env 48))), []), (.mk (some ((.env 43), false)) (.env 50) (.mov (.mv (.env 49))), []), (.mk (some ((.env 50), true)) (.env 51) (.mov (.mv (.slot 0))), []), (.mk (some ((.env 50), true)) (.env 52) (.mov (.mv (.slot 3))), []), (.mk (some ((.env 50), true)) (.env 53) (.mov (.iaddr 3 (.env 51) (.env 52))), []), (.mk (some ((.env 50), true)) (.env 54) (.mov (.faddr 1 (.env 53))), []), (.mk (some ((.env 50), true)) (.env 55) (.mov (.ld1 (.env 54))), []), (.mk (some ((.env 50), true)) (.env 56) (.mov (.b2s (.env 55))), []), (.mk (some ((.env 50), true)) (.env 57) (.mov (.mv (.slot 1))), []), (.mk (some ((.env 50), true)) (.env 58) (.mov (.mv (.slot 3))), []), (.mk (some ((.env 50), true)) (.env 59) (.mov (.iaddr 3 (.env 57) (.env 58))), []), (.mk (some ((.env 50), true)) (.env 60) (.mov (.faddr 1 (.env 59))), []), (.mk (some ((.env 50), true)) (.env 61) (.mov (.ld1 (.env 60))), []), (.mk (some ((.env 50), true)) (.env 62) (.mov (.b2s (.env 61))), []), (.mk (some ((.env 50), true)) (.env 63) (.mov (.bin .neq .no (.env 56) (.env 62))), []), (.mk (some ((.env 43), false)) (.env 64) (.mov (.pick (.env 50) (.env 63) (.const (.bool false)))), []), (.mk none (.slot 6) (.mov (.pick (.env 43) (.const (.bool true)) (.env 64))), [])]) (.cond (.slot 6) (.seq (.reg [.mk none (.slot 2) (.mov (.mv (.const (.bool false))))]) .ret) .skip))) (.reg [.mk none (.env 15) (.mov (.mv (.slot 3))), .mk none (.env 16) (.mov (.bin .add .no (.env 15) (.const (.int .i64 1)))), .mk none (.slot 3) (.mov (.mv (.env 16)))])))))) (.seq (.reg [.mk none (.slot 2) (.mov (.mv (.const (.bool true))))]) .ret)))), [.slot (.slot 2)]⟩
def b_w5same : BF := ⟨27, [0, 1, 4, 5, 10, 14, 26], (.seq (.reg [.mk none (.slot 2) (.mov (.mv (.const (.bool false))))]) (.seq (.seq (.reg [.mk none (.env 6) (.mov (.mv (.slot 0))), .mk none (.env 7) (.mov (.lenv (.env 6))), .mk none (.env 8) (.mov (.mv (.slot 1))), .mk none (.env 9) (.mov (.lenv (.env 8))), .mk none (.slot 4) (.mov (.bin .neq .no (.env 7) (.env 9)))]) (.cond (.slot 4) (.seq (.reg [.mk none (.slot 2) (.mov (.mv (.const (.bool false))))]) .ret) .skip)) (.seq (.seq (.reg [.mk none (.slot 3) (.mov (.mv (.const (.int .i64 0))))]) (.block 0 (.loop (.seq (.seq (.reg [.mk none (.env 11) (.mov (.mv (.slot 3))), .mk none (.env 12) (.mov (.mv (.slot 0))), .mk none (.env 13) (.mov (.lenv (.env 12))), .mk none (.slot 5) (.mov (.bin .lss .no (.env 11) (.env 13)))]) (.cond (.slot 5) .skip (.exit 0))) (.seq (.block 1 (.seq (.dreg [(.mk none (.env 17) (.mov (.mv (.slot 0))), []), (.mk none (.env 18) (.mov (.mv (.slot 3))), []), (.mk none (.env 19) (.mov (.iaddr 1 (.env 17) (.env 18))), []), (.mk none (.env 20) (.mov (.ld1 (.env 19))), []), (.mk none (.env 21) (.mov (.mv (.slot 1))), []), (.mk none (.env 22) (.mov (.mv (.slot 3))), []), (.mk none (.env 23) (.mov (.iaddr 1 (.env 21) (.env 22))), []), (.mk none (.env 24) (.mov (.ld1 (.env 23))), []), (.mk none (.env 25) (.call 79 [(.env 20), (.env 24)]), []), (.mk none (.slot 6) (.mov (.notb (.env 25))), [])]) (.cond (.slot 6) (.seq (.reg [.mk none (.slot 2) (.mov (.mv (.const (.bool false))))]) .ret) .skip))) (.reg [.mk none (.env 15) (.mov (.mv (.slot 3))), .mk none (.env 16) (.mov (.bin .add .no (.env 15) (.const (.int .i64 1)))), .mk none (.slot 3) (.mov (.mv (.env 16)))])))))) (.seq (.reg [.mk none (.slot 2) (.mov (.mv (.const (.bool true))))]) .ret)))), [.slot (.slot 2)]⟩
def eqE (a b : EM) : Bool := a.key == b.key && (a.gone == b.gone && (a.gone || a.val == b.val))
def eqL (a b : List EM) : Bool := decide (a.length = b.length) && (List.range a.length).all fun i => match a[i]?, b[i]? with | some x, some y => eqE x y | _, _ => true
def eqLL (a b : List (List EM)) : Bool := decide (a.length = b.length) && (List.range a.length).all fun i => match a[i]?, b[i]? with | some x, some y => eqL x y | _, _ => true
section
variable {X : Type} {D : Dp X} {l : Dr} {past : List (Pa X)} {e e' : En} {t t' : List AV} {h : Hp X} {Q : R X → Prop}
theorem wd_gf {g : Od × Bool} {d : Ds} {o : Op1} {chk : List Nat} (hg : gdv (some g) e t = some false) (H : WD D l (past ++ [.skip]) e' t' h Q) (he : putE d (.tup []) e = e' := by conv => lhs; whnf) (ht : putT d (.tup []) t = t' := by conv => lhs; whnf) : WD D ((.mk (some g) d o, chk) :: l) past e t h Q := by
  subst he ht
  obtain ⟨t', h', h1, h2⟩ := H.out
  refine ⟨⟨t', h', ?_, h2⟩⟩
  simp only [drGo, St1.g, St1.o, St1.d, hg] at h1 ⊢
  exact h1
theorem v_bne_c {e : En} {t : List AV} {h : Hp X} {x y : Od} {a b c : Bool} (hx : x.ev e t = .bool a) (hy : y.ev e t = .bool b) (hc : (a == b) = c) : (Mv.bin .neq .bool x y).ev e t h = some (.bool (!c)) := by
  rw [v_bne hx hy, ← hc]
  rfl
end
section
variable {X : Type} {E : Nat → Option (Ent X)}
structure WaS (E : Nat → Option (Ent X)) : Prop where
  r8same : E 79 = some (.bc b_ref8Same)
  same : E 23 = some (.bc b_w5same)
set_option maxHeartbeats 8000000 in
theorem r8same_ok (hE : ∀ f e, E f = some e → e.plain) (T : WaS E) {h : Hp X} {v w : AV} {a b : List EM} (ha : Ents h v a) (hb : Ents h w b) (hl : a.length ≤ maxLen) :
    WF (lim E) 79 [v, w] h fun r h' => r = .bool (eqL a b) ∧ h' = h := by
  obtain ⟨tri, hr, htl, hq⟩ := ha.out
  obtain ⟨tri2, hr2, htl2, hq2⟩ := hb.out
  refine wf_bc hE T.r8same rfl ?_
  simp only [b_ref8Same, List.map, getS]
  have hmx : (maxLen : Nat) = 9223372036854775807 := rfl
  by_cases hab : (a.length : Int) = b.length
  · repeat first|(refine BG ?_;first|(refine BH ?_;first|(refine BI ?_;refine BM ?_)|(refine BJ ?_;first|refine BN ?_|refine BO ?_)|refine BV (hr.lenv (by rfl)) ?_|refine BV (hr2.lenv (by rfl)) ?_|refine BP ?_)|(refine BK ?_;first|refine BS rfl rfl ?_|refine BT rfl rfl ?_|refine BU rfl ?_)|(refine BL ?_;first|refine BQ ?_)|(refine BR ?_;try simp only [setS]))|refine AA ?_|refine AC ?_|refine AD ?_|refine AE ?_|refine AF rfl rfl ?_|refine AG rfl rfl ?_|refine AH ?_|refine AI ?_|refine AJ ?_|refine AK ?_|refine AL ?_|refine AM ?_|refine AN ?_|refine AO ?_|refine AP ?_|refine AQ rfl ?_|refine AR ?_|refine AS ?_|refine AT rfl ?_|refine AU rfl ?_
    refine wb_loop (fun m t hh => ∃ (i : Nat) (s5 s6 : AV), i ≤ a.length ∧ m = a.length - i ∧ hh = h ∧ (∀ (j : Nat) x y, j < i → a[j]? = some x → b[j]? = some y → eqE x y = true) ∧
      t = [v, w, .bool false, .int .i64 i, .bool false, s5, s6]) ?_ a.length _ _ ⟨0, _, _, by omega, by omega, rfl, fun j x y q => by omega, rfl⟩
    rintro m t hh ⟨i, s5, s6, hi, hm, rfl, hall, rfl⟩
    by_cases hlt : i < a.length
    · obtain ⟨x, hx⟩ : ∃ x, a[i]? = some x := ⟨_, List.getElem?_eq_getElem hlt⟩
      obtain ⟨y, hy⟩ : ∃ y, b[i]? = some y := ⟨_, List.getElem?_eq_getElem (by omega)⟩
      obtain ⟨q, hqi⟩ : ∃ q, tri[i]? = some q := ⟨_, List.getElem?_eq_getElem (by omega)⟩
      obtain ⟨q2, hqi2⟩ : ∃ q, tri2[i]? = some q := ⟨_, List.getElem?_eq_getElem (by omega)⟩
      have e1 := hq i q x hqi hx
      have e2 := hq2 i q2 y hqi2 hy
      obtain ⟨g1, o1, pa, la, _⟩ := hr.at3 hqi
      obtain ⟨g2, o2, pb, lb, _⟩ := hr2.at3 hqi2
      have la := @la NoB hh (Keep.refl _ _) (fun _ _ q => q)
      have lb := @lb NoB hh (Keep.refl _ _) (fun _ _ q => q)
      obtain ⟨kv, vv, gb⟩ := q
      obtain ⟨kw, vw, gc⟩ := q2
      obtain ⟨hg1, hk1, hv1⟩ := e1
      obtain ⟨hg2, hk2, hv2⟩ := e2
      simp only at hg1 hk1 hv1 hg2 hk2 hv2
      subst hg1 hg2
      have a0 : ∀ {e' : En} {t : List AV} {x : Od}, x.ev e' t = .ptr g1 o1 → (Mv.ld1 x).ev e' t hh = some kv := fun {_ _ _} hx => la (j := 0) hx (by decide)
      have a1 : ∀ {e' : En} {t : List AV} {x : Od}, x.ev e' t = .ptr g1 (o1 + 1) → (Mv.ld1 x).ev e' t hh = some vv := fun {_ _ _} hx => la (j := 1) hx (by decide)
      have a2 : ∀ {e' : En} {t : List AV} {x : Od}, x.ev e' t = .ptr g1 (o1 + 2) → (Mv.ld1 x).ev e' t hh = some (.bool _) := fun {_ _ _} hx => la (j := 2) hx (by decide)
      have b0 : ∀ {e' : En} {t : List AV} {x : Od}, x.ev e' t = .ptr g2 o2 → (Mv.ld1 x).ev e' t hh = some kw := fun {_ _ _} hx => lb (j := 0) hx (by decide)
      have b1 : ∀ {e' : En} {t : List AV} {x : Od}, x.ev e' t = .ptr g2 (o2 + 1) → (Mv.ld1 x).ev e' t hh = some vw := fun {_ _ _} hx => lb (j := 1) hx (by decide)
      have b2 : ∀ {e' : En} {t : List AV} {x : Od}, x.ev e' t = .ptr g2 (o2 + 2) → (Mv.ld1 x).ev e' t hh = some (.bool _) := fun {_ _ _} hx => lb (j := 2) hx (by decide)
      have bad : eqE x y = false → eqL a b = false := fun hf => by
        unfold eqL
        rw [Bool.and_eq_false_iff]
        right
        rw [List.all_eq_false]
        exact ⟨i, List.mem_range.2 hlt, by rw [hx, hy]; simp [hf]⟩
      have good : eqE x y = true → ∀ (j : Nat) x y, j < i + 1 → a[j]? = some x → b[j]? = some y → eqE x y = true := fun hf j x' y' hj h1 h2 => by
        by_cases hj2 : j < i
        · exact hall j x' y' hj2 h1 h2
        · obtain rfl : j = i := by omega
          rw [hx] at h1
          rw [hy] at h2
          cases h1
          cases h2
          exact hf
      have hq : eqE x y = (x.key == y.key && (x.gone == y.gone && (x.gone || x.val == y.val))) := rfl
      by_cases c1 : x.key = y.key
      · cases c2 : x.gone == y.gone with
        | false =>
          rw [c2] at hq
          have hf : eqE x y = false := by rw [hq]; simp
          repeat first|(refine BG ?_;first|(refine BH ?_;first|(refine BI ?_;refine BM ?_)|(refine BJ ?_;first|refine BN ?_|refine BO ?_)|refine BV (hr.lenv (by rfl)) ?_|refine BP ?_)|(refine BK ?_;first|refine BS rfl rfl ?_|refine BT rfl rfl ?_|refine BU rfl ?_)|(refine BL ?_;first|refine BQ ?_)|(refine BR ?_;try simp only [setS]))|refine AA ?_|refine AC ?_|refine AD ?_|refine AE ?_|refine AF rfl rfl ?_|refine AG rfl rfl ?_|refine AH ?_|refine AI ?_|refine AJ ?_|refine AK ?_|refine AL ?_|refine AM ?_|refine AN ?_|refine AO ?_|refine AP ?_|refine AQ rfl ?_|refine AR ?_|refine AS ?_|refine AT rfl ?_|refine AU rfl ?_
          repeat first|(refine BG ?_;first|(refine BH ?_;first|(refine BI ?_;refine BM ?_)|(refine BJ ?_;first|refine BN ?_|refine BO ?_)|refine BV (pa rfl rfl) ?_|refine BV (pb rfl rfl) ?_|refine BV (a0 rfl) ?_|refine BV (b0 rfl) ?_|refine BV (a2 rfl) ?_|refine BV (b2 rfl) ?_|refine BV (v_b2s rfl hk1) ?_|refine BV (v_b2s rfl hk2) ?_|refine BV (v_sne_f rfl rfl c1) ?_|refine BV (v_bne_c rfl rfl c2) ?_|refine BP ?_)|(refine BK ?_;first|refine BS rfl rfl ?_|refine BT rfl rfl ?_|refine BU rfl ?_)|(refine BL ?_;first|refine BQ ?_)|(refine BR ?_;try simp only [setS]))|(refine BX ?_;first|refine BY rfl ?_|refine (wd_gf rfl) ?_|(refine BZ ?_;refine CA ?_)|refine CB (pa rfl rfl) ?_|refine CB (pb rfl rfl) ?_|refine CB (a0 rfl) ?_|refine CB (b0 rfl) ?_|refine CB (a2 rfl) ?_|refine CB (b2 rfl) ?_|refine CB (v_b2s rfl hk1) ?_|refine CB (v_b2s rfl hk2) ?_|refine CB (v_sne_f rfl rfl c1) ?_|refine CB (v_bne_c rfl rfl c2) ?_|refine CC ?_|(refine CD ?_;try simp only [setS]))|refine AA ?_|refine AC ?_|refine AD ?_|refine AE ?_|refine AF rfl rfl ?_|refine AG rfl rfl ?_|refine AH ?_|refine AI ?_|refine AJ ?_|refine AK ?_|refine AL ?_|refine AM ?_|refine AN ?_|refine AO ?_|refine AP ?_|refine AQ rfl ?_|refine AR ?_|refine AS ?_|refine AT rfl ?_|refine AU rfl ?_
          rw [bad hf]
          exact ⟨rfl, rfl⟩
        | true =>
          rw [c2, Bool.true_and] at hq
          cases c3 : x.gone with
          | true =>
            have hf : eqE x y = true := by rw [hq, c3, c1]; simp
            rw [c3] at a2 c2
            repeat first|(refine BG ?_;first|(refine BH ?_;first|(refine BI ?_;refine BM ?_)|(refine BJ ?_;first|refine BN ?_|refine BO ?_)|refine BV (hr.lenv (by rfl)) ?_|refine BP ?_)|(refine BK ?_;first|refine BS rfl rfl ?_|refine BT rfl rfl ?_|refine BU rfl ?_)|(refine BL ?_;first|refine BQ ?_)|(refine BR ?_;try simp only [setS]))|refine AA ?_|refine AC ?_|refine AD ?_|refine AE ?_|refine AF rfl rfl ?_|refine AG rfl rfl ?_|refine AH ?_|refine AI ?_|refine AJ ?_|refine AK ?_|refine AL ?_|refine AM ?_|refine AN ?_|refine AO ?_|refine AP ?_|refine AQ rfl ?_|refine AR ?_|refine AS ?_|refine AT rfl ?_|refine AU rfl ?_
            repeat first|(refine BG ?_;first|(refine BH ?_;first|(refine BI ?_;refine BM ?_)|(refine BJ ?_;first|refine BN ?_|refine BO ?_)|refine BV (pa rfl rfl) ?_|refine BV (pb rfl rfl) ?_|refine BV (a0 rfl) ?_|refine BV (b0 rfl) ?_|refine BV (a2 rfl) ?_|refine BV (b2 rfl) ?_|refine BV (v_b2s rfl hk1) ?_|refine BV (v_b2s rfl hk2) ?_|refine BV (v_sne_f rfl rfl c1) ?_|refine BV (v_bne_c rfl rfl c2) ?_|refine BP ?_)|(refine BK ?_;first|refine BS rfl rfl ?_|refine BT rfl rfl ?_|refine BU rfl ?_)|(refine BL ?_;first|refine BQ ?_)|(refine BR ?_;try simp only [setS]))|(refine BX ?_;first|refine BY rfl ?_|refine (wd_gf rfl) ?_|(refine BZ ?_;refine CA ?_)|refine CB (pa rfl rfl) ?_|refine CB (pb rfl rfl) ?_|refine CB (a0 rfl) ?_|refine CB (b0 rfl) ?_|refine CB (a2 rfl) ?_|refine CB (b2 rfl) ?_|refine CB (v_b2s rfl hk1) ?_|refine CB (v_b2s rfl hk2) ?_|refine CB (v_sne_f rfl rfl c1) ?_|refine CB (v_bne_c rfl rfl c2) ?_|refine CC ?_|(refine CD ?_;try simp only [setS]))|refine AA ?_|refine AC ?_|refine AD ?_|refine AE ?_|refine AF rfl rfl ?_|refine AG rfl rfl ?_|refine AH ?_|refine AI ?_|refine AJ ?_|refine AK ?_|refine AL ?_|refine AM ?_|refine AN ?_|refine AO ?_|refine AP ?_|refine AQ rfl ?_|refine AR ?_|refine AS ?_|refine AT rfl ?_|refine AU rfl ?_
            rw [show ((i : Int) + 1) = ((i + 1 : Nat) : Int) by omega]
            exact round_norm (m - 1) (by omega) ⟨i + 1, _, _, by omega, by omega, rfl, good hf, rfl⟩
          | false =>
            rw [c3, Bool.false_or] at hq
            rw [c3] at a2 c2
            by_cases c4 : x.val = y.val
            · have hf : eqE x y = true := by rw [hq, c1, c4]; simp
              repeat first|(refine BG ?_;first|(refine BH ?_;first|(refine BI ?_;refine BM ?_)|(refine BJ ?_;first|refine BN ?_|refine BO ?_)|refine BV (hr.lenv (by rfl)) ?_|refine BP ?_)|(refine BK ?_;first|refine BS rfl rfl ?_|refine BT rfl rfl ?_|refine BU rfl ?_)|(refine BL ?_;first|refine BQ ?_)|(refine BR ?_;try simp only [setS]))|refine AA ?_|refine AC ?_|refine AD ?_|refine AE ?_|refine AF rfl rfl ?_|refine AG rfl rfl ?_|refine AH ?_|refine AI ?_|refine AJ ?_|refine AK ?_|refine AL ?_|refine AM ?_|refine AN ?_|refine AO ?_|refine AP ?_|refine AQ rfl ?_|refine AR ?_|refine AS ?_|refine AT rfl ?_|refine AU rfl ?_
              repeat first|(refine BG ?_;first|(refine BH ?_;first|(refine BI ?_;refine BM ?_)|(refine BJ ?_;first|refine BN ?_|refine BO ?_)|refine BV (pa rfl rfl) ?_|refine BV (pb rfl rfl) ?_|refine BV (a0 rfl) ?_|refine BV (b0 rfl) ?_|refine BV (a1 rfl) ?_|refine BV (b1 rfl) ?_|refine BV (a2 rfl) ?_|refine BV (b2 rfl) ?_|refine BV (v_b2s rfl hk1) ?_|refine BV (v_b2s rfl hk2) ?_|refine BV (v_b2s rfl hv1) ?_|refine BV (v_b2s rfl hv2) ?_|refine BV (v_sne_f rfl rfl c1) ?_|refine BV (v_sne_f rfl rfl c4) ?_|refine BV (v_bne_c rfl rfl c2) ?_|refine BP ?_)|(refine BK ?_;first|refine BS rfl rfl ?_|refine BT rfl rfl ?_|refine BU rfl ?_)|(refine BL ?_;first|refine BQ ?_)|(refine BR ?_;try simp only [setS]))|(refine BX ?_;first|refine BY rfl ?_|refine (wd_gf rfl) ?_|(refine BZ ?_;refine CA ?_)|refine CB (pa rfl rfl) ?_|refine CB (pb rfl rfl) ?_|refine CB (a0 rfl) ?_|refine CB (b0 rfl) ?_|refine CB (a1 rfl) ?_|refine CB (b1 rfl) ?_|refine CB (a2 rfl) ?_|refine CB (b2 rfl) ?_|refine CB (v_b2s rfl hk1) ?_|refine CB (v_b2s rfl hk2) ?_|refine CB (v_b2s rfl hv1) ?_|refine CB (v_b2s rfl hv2) ?_|refine CB (v_sne_f rfl rfl c1) ?_|refine CB (v_sne_f rfl rfl c4) ?_|refine CB (v_bne_c rfl rfl c2) ?_|refine CC ?_|(refine CD ?_;try simp only [setS]))|refine AA ?_|refine AC ?_|refine AD ?_|refine AE ?_|refine AF rfl rfl ?_|refine AG rfl rfl ?_|refine AH ?_|refine AI ?_|refine AJ ?_|refine AK ?_|refine AL ?_|refine AM ?_|refine AN ?_|refine AO ?_|refine AP ?_|refine AQ rfl ?_|refine AR ?_|refine AS ?_|refine AT rfl ?_|refine AU rfl ?_
              rw [show ((i : Int) + 1) = ((i + 1 : Nat) : Int) by omega]
              exact round_norm (m - 1) (by omega) ⟨i + 1, _, _, by omega, by omega, rfl, good hf, rfl⟩
            · have hf : eqE x y = false := by rw [hq, beq_false_of_ne c4]; simp
              repeat first|(refine BG ?_;first|(refine BH ?_;first|(refine BI ?_;refine BM ?_)|(refine BJ ?_;first|refine BN ?_|refine BO ?_)|refine BV (hr.lenv (by rfl)) ?_|refine BP ?_)|(refine BK ?_;first|refine BS rfl rfl ?_|refine BT rfl rfl ?_|refine BU rfl ?_)|(refine BL ?_;first|refine BQ ?_)|(refine BR ?_;try simp only [setS]))|refine AA ?_|refine AC ?_|refine AD ?_|refine AE ?_|refine AF rfl rfl ?_|refine AG rfl rfl ?_|refine AH ?_|refine AI ?_|refine AJ ?_|refine AK ?_|refine AL ?_|refine AM ?_|refine AN ?_|refine AO ?_|refine AP ?_|refine AQ rfl ?_|refine AR ?_|refine AS ?_|refine AT rfl ?_|refine AU rfl ?_
              repeat first|(refine BG ?_;first|(refine BH ?_;first|(refine BI ?_;refine BM ?_)|(refine BJ ?_;first|refine BN ?_|refine BO ?_)|refine BV (pa rfl rfl) ?_|refine BV (pb rfl rfl) ?_|refine BV (a0 rfl) ?_|refine BV (b0 rfl) ?_|refine BV (a1 rfl) ?_|refine BV (b1 rfl) ?_|refine BV (a2 rfl) ?_|refine BV (b2 rfl) ?_|refine BV (v_b2s rfl hk1) ?_|refine BV (v_b2s rfl hk2) ?_|refine BV (v_b2s rfl hv1) ?_|refine BV (v_b2s rfl hv2) ?_|refine BV (v_sne_f rfl rfl c1) ?_|refine BV (v_sne_t rfl rfl c4) ?_|refine BV (v_bne_c rfl rfl c2) ?_|refine BP ?_)|(refine BK ?_;first|refine BS rfl rfl ?_|refine BT rfl rfl ?_|refine BU rfl ?_)|(refine BL ?_;first|refine BQ ?_)|(refine BR ?_;try simp only [setS]))|(refine BX ?_;first|refine BY rfl ?_|refine (wd_gf rfl) ?_|(refine BZ ?_;refine CA ?_)|refine CB (pa rfl rfl) ?_|refine CB (pb rfl rfl) ?_|refine CB (a0 rfl) ?_|refine CB (b0 rfl) ?_|refine CB (a1 rfl) ?_|refine CB (b1 rfl) ?_|refine CB (a2 rfl) ?_|refine CB (b2 rfl) ?_|refine CB (v_b2s rfl hk1) ?_|refine CB (v_b2s rfl hk2) ?_|refine CB (v_b2s rfl hv1) ?_|refine CB (v_b2s rfl hv2) ?_|refine CB (v_sne_f rfl rfl c1) ?_|refine CB (v_sne_t rfl rfl c4) ?_|refine CB (v_bne_c rfl rfl c2) ?_|refine CC ?_|(refine CD ?_;try simp only [setS]))|refine AA ?_|refine AC ?_|refine AD ?_|refine AE ?_|refine AF rfl rfl ?_|refine AG rfl rfl ?_|refine AH ?_|refine AI ?_|refine AJ ?_|refine AK ?_|refine AL ?_|refine AM ?_|refine AN ?_|refine AO ?_|refine AP ?_|refine AQ rfl ?_|refine AR ?_|refine AS ?_|refine AT rfl ?_|refine AU rfl ?_
              rw [bad hf]
              exact ⟨rfl, rfl⟩
      · have hf : eqE x y = false := by rw [hq, beq_false_of_ne c1]; simp
        repeat first|(refine BG ?_;first|(refine BH ?_;first|(refine BI ?_;refine BM ?_)|(refine BJ ?_;first|refine BN ?_|refine BO ?_)|refine BV (hr.lenv (by rfl)) ?_|refine BP ?_)|(refine BK ?_;first|refine BS rfl rfl ?_|refine BT rfl rfl ?_|refine BU rfl ?_)|(refine BL ?_;first|refine BQ ?_)|(refine BR ?_;try simp only [setS]))|refine AA ?_|refine AC ?_|refine AD ?_|refine AE ?_|refine AF rfl rfl ?_|refine AG rfl rfl ?_|refine AH ?_|refine AI ?_|refine AJ ?_|refine AK ?_|refine AL ?_|refine AM ?_|refine AN ?_|refine AO ?_|refine AP ?_|refine AQ rfl ?_|refine AR ?_|refine AS ?_|refine AT rfl ?_|refine AU rfl ?_
        repeat first|(refine BG ?_;first|(refine BH ?_;first|(refine BI ?_;refine BM ?_)|(refine BJ ?_;first|refine BN ?_|refine BO ?_)|refine BV (pa rfl rfl) ?_|refine BV (pb rfl rfl) ?_|refine BV (a0 rfl) ?_|refine BV (b0 rfl) ?_|refine BV (v_b2s rfl hk1) ?_|refine BV (v_b2s rfl hk2) ?_|refine BV (v_sne_t rfl rfl c1) ?_|refine BP ?_)|(refine BK ?_;first|refine BS rfl rfl ?_|refine BT rfl rfl ?_|refine BU rfl ?_)|(refine BL ?_;first|refine BQ ?_)|(refine BR ?_;try simp only [setS]))|(refine BX ?_;first|refine BY rfl ?_|refine (wd_gf rfl) ?_|(refine BZ ?_;refine CA ?_)|refine CB (pa rfl rfl) ?_|refine CB (pb rfl rfl) ?_|refine CB (a0 rfl) ?_|refine CB (b0 rfl) ?_|refine CB (v_b2s rfl hk1) ?_|refine CB (v_b2s rfl hk2) ?_|refine CB (v_sne_t rfl rfl c1) ?_|refine CC ?_|(refine CD ?_;try simp only [setS]))|refine AA ?_|refine AC ?_|refine AD ?_|refine AE ?_|refine AF rfl rfl ?_|refine AG rfl rfl ?_|refine AH ?_|refine AI ?_|refine AJ ?_|refine AK ?_|refine AL ?_|refine AM ?_|refine AN ?_|refine AO ?_|refine AP ?_|refine AQ rfl ?_|refine AR ?_|refine AS ?_|refine AT rfl ?_|refine AU rfl ?_
        rw [bad hf]
        exact ⟨rfl, rfl⟩
    · have : i = a.length := by omega
      subst this
      repeat first|(refine BG ?_;first|(refine BH ?_;first|(refine BI ?_;refine BM ?_)|(refine BJ ?_;first|refine BN ?_|refine BO ?_)|refine BV (hr.lenv (by rfl)) ?_|refine BP ?_)|(refine BK ?_;first|refine BS rfl rfl ?_|refine BT rfl rfl ?_|refine BU rfl ?_)|(refine BL ?_;first|refine BQ ?_)|(refine BR ?_;try simp only [setS]))|refine AA ?_|refine AC ?_|refine AD ?_|refine AE ?_|refine AF rfl rfl ?_|refine AG rfl rfl ?_|refine AH ?_|refine AI ?_|refine AJ ?_|refine AK ?_|refine AL ?_|refine AM ?_|refine AN ?_|refine AO ?_|refine AP ?_|refine AQ rfl ?_|refine AR ?_|refine AS ?_|refine AT rfl ?_|refine AU rfl ?_
      have e : eqL a b = true := by
        unfold eqL
        rw [decide_eq_true (by omega), Bool.true_and, List.all_eq_true]
        intro j hj
        have hj := List.mem_range.1 hj
        rw [List.getElem?_eq_getElem hj, List.getElem?_eq_getElem (show j < b.length by omega)]
        exact hall j _ _ hj (List.getElem?_eq_getElem hj) (List.getElem?_eq_getElem (show j < b.length by omega))
      rw [e]
      exact ⟨rfl, rfl⟩
  · repeat first|(refine BG ?_;first|(refine BH ?_;first|(refine BI ?_;refine BM ?_)|(refine BJ ?_;first|refine BN ?_|refine BO ?_)|refine BV (hr.lenv (by rfl)) ?_|refine BV (hr2.lenv (by rfl)) ?_|refine BP ?_)|(refine BK ?_;first|refine BS rfl rfl ?_|refine BT rfl rfl ?_|refine BU rfl ?_)|(refine BL ?_;first|refine BQ ?_)|(refine BR ?_;try simp only [setS]))|refine AA ?_|refine AC ?_|refine AD ?_|refine AE ?_|refine AF rfl rfl ?_|refine AG rfl rfl ?_|refine AH ?_|refine AI ?_|refine AJ ?_|refine AK ?_|refine AL ?_|refine AM ?_|refine AN ?_|refine AO ?_|refine AP ?_|refine AQ rfl ?_|refine AR ?_|refine AS ?_|refine AT rfl ?_|refine AU rfl ?_
    have e : eqL a b = false := by unfold eqL; rw [decide_eq_false (by omega), Bool.false_and]
    rw [e]
    exact ⟨rfl, rfl⟩
end
end Am
end Go.Proofs.Ythgcdoahoechhaa
namespace Go.Proofs.Ythgcdoahoechhaa
namespace Am
open Go.RowKit
set_option maxRecDepth 100000
section
variable {X : Type} {E : Nat → Option (Ent X)}
theorem w5same_ok (hE : ∀ f e, E f = some e → e.plain) (T : WaS E) {h : Hp X} {v w : AV} {a b : List (List EM)} {F G : Nat → Prop} (ha : Bats h v a F) (hb : Bats h w b G) (hl : a.length ≤ maxLen) (hl2 : ∀ l ∈ a, l.length ≤ maxLen) :
    WF (lim E) 23 [v, w] h fun r h' => r = .bool (eqLL a b) ∧ h' = h := by
  obtain ⟨ca, hr, _, hq⟩ := ha.out
  obtain ⟨cb, hr2, _, hq2⟩ := hb.out
  refine wf_bc hE T.same rfl ?_
  simp only [b_w5same, List.map, getS]
  have hmx : (maxLen : Nat) = 9223372036854775807 := rfl
  by_cases hab : (a.length : Int) = b.length
  · repeat first|(refine BG ?_;first|(refine BH ?_;first|(refine BI ?_;refine BM ?_)|(refine BJ ?_;first|refine BN ?_|refine BO ?_)|refine BV (hr.lenv (by rfl)) ?_|refine BV (hr2.lenv (by rfl)) ?_|refine BP ?_)|(refine BK ?_;first|refine BS rfl rfl ?_|refine BT rfl rfl ?_|refine BU rfl ?_)|(refine BL ?_;first|refine BQ ?_)|(refine BR ?_;try simp only [setS]))|refine AA ?_|refine AC ?_|refine AD ?_|refine AE ?_|refine AF rfl rfl ?_|refine AG rfl rfl ?_|refine AH ?_|refine AI ?_|refine AJ ?_|refine AK ?_|refine AL ?_|refine AM ?_|refine AN ?_|refine AO ?_|refine AP ?_|refine AQ rfl ?_|refine AR ?_|refine AS ?_|refine AT rfl ?_|refine AU rfl ?_
    refine wb_loop (fun m t hh => ∃ (i : Nat) (s5 s6 : AV), i ≤ a.length ∧ m = a.length - i ∧ hh = h ∧ (∀ (j : Nat) x y, j < i → a[j]? = some x → b[j]? = some y → eqL x y = true) ∧
      t = [v, w, .bool false, .int .i64 i, .bool false, s5, s6]) ?_ a.length _ _ ⟨0, _, _, by omega, by omega, rfl, fun j x y q => by omega, rfl⟩
    rintro m t hh ⟨i, s5, s6, hi, hm, rfl, hall, rfl⟩
    by_cases hlt : i < a.length
    · obtain ⟨x, hx⟩ : ∃ x, a[i]? = some x := ⟨_, List.getElem?_eq_getElem hlt⟩
      obtain ⟨y, hy⟩ : ∃ y, b[i]? = some y := ⟨_, List.getElem?_eq_getElem (by omega)⟩
      obtain ⟨c1, hc1, e1⟩ := hq i x hx
      obtain ⟨c2, hc2, e2⟩ := hq2 i y hy
      obtain ⟨g1, o1, pa, la⟩ := hr.at2 hlt
      obtain ⟨g2, o2, pb, lb⟩ := hr2.at2 (show i < b.length by omega)
      have a0 : ∀ {e : En} {t : List AV} {x : Od}, x.ev e t = .ptr g1 o1 → (Mv.ld1 x).ev e t hh = some c1 := fun {_ _ _} hx => by rw [la (Keep.refl NoB hh) (fun _ _ q => q) hx]; exact hc1
      have b0 : ∀ {e : En} {t : List AV} {x : Od}, x.ev e t = .ptr g2 o2 → (Mv.ld1 x).ev e t hh = some c2 := fun {_ _ _} hx => by rw [lb (Keep.refl NoB hh) (fun _ _ q => q) hx]; exact hc2
      repeat first|(refine BG ?_;first|(refine BH ?_;first|(refine BI ?_;refine BM ?_)|(refine BJ ?_;first|refine BN ?_|refine BO ?_)|refine BV (hr.lenv (by rfl)) ?_|refine BP ?_)|(refine BK ?_;first|refine BS rfl rfl ?_|refine BT rfl rfl ?_|refine BU rfl ?_)|(refine BL ?_;first|refine BQ ?_)|(refine BR ?_;try simp only [setS]))|refine AA ?_|refine AC ?_|refine AD ?_|refine AE ?_|refine AF rfl rfl ?_|refine AG rfl rfl ?_|refine AH ?_|refine AI ?_|refine AJ ?_|refine AK ?_|refine AL ?_|refine AM ?_|refine AN ?_|refine AO ?_|refine AP ?_|refine AQ rfl ?_|refine AR ?_|refine AS ?_|refine AT rfl ?_|refine AU rfl ?_
      repeat first|(refine BG ?_;first|(refine BH ?_;first|(refine BI ?_;refine BM ?_)|(refine BJ ?_;first|refine BN ?_|refine BO ?_)|refine BV (pa rfl rfl) ?_|refine BV (pb rfl rfl) ?_|refine BV (a0 rfl) ?_|refine BV (b0 rfl) ?_|refine BP ?_)|(refine BK ?_;first|refine BS rfl rfl ?_|refine BT rfl rfl ?_|refine BU rfl ?_)|(refine BL ?_;first|refine BQ ?_)|(refine BR ?_;try simp only [setS]))|(refine BX ?_;first|refine BY rfl ?_|(refine BZ ?_;refine CA ?_)|refine CB (pa rfl rfl) ?_|refine CB (pb rfl rfl) ?_|refine CB (a0 rfl) ?_|refine CB (b0 rfl) ?_|refine CC ?_|(refine CD ?_;try simp only [setS]))|refine AA ?_|refine AC ?_|refine AD ?_|refine AE ?_|refine AF rfl rfl ?_|refine AG rfl rfl ?_|refine AH ?_|refine AI ?_|refine AJ ?_|refine AK ?_|refine AL ?_|refine AM ?_|refine AN ?_|refine AO ?_|refine AP ?_|refine AQ rfl ?_|refine AR ?_|refine AS ?_|refine AT rfl ?_|refine AU rfl ?_
      refine wd_calls_e rfl ((r8same_ok hE T e1.ents e2.ents (hl2 x (List.mem_of_getElem? hx))).mono fun r h2 ⟨er, eh⟩ => ?_)
      subst er eh
      refine ⟨chk_nil, ?_⟩
      cases hf : eqL x y with
      | false =>
        repeat first|(refine BG ?_;first|(refine BH ?_;first|(refine BI ?_;refine BM ?_)|(refine BJ ?_;first|refine BN ?_|refine BO ?_)|refine BP ?_)|(refine BK ?_;first|refine BS rfl rfl ?_|refine BT rfl rfl ?_|refine BU rfl ?_)|(refine BL ?_;first|refine BQ ?_)|(refine BR ?_;try simp only [setS]))|(refine BX ?_;first|refine BY rfl ?_|(refine BZ ?_;refine CA ?_)|refine CC ?_|(refine CD ?_;try simp only [setS]))|refine AA ?_|refine AC ?_|refine AD ?_|refine AE ?_|refine AF rfl rfl ?_|refine AG rfl rfl ?_|refine AH ?_|refine AI ?_|refine AJ ?_|refine AK ?_|refine AL ?_|refine AM ?_|refine AN ?_|refine AO ?_|refine AP ?_|refine AQ rfl ?_|refine AR ?_|refine AS ?_|refine AT rfl ?_|refine AU rfl ?_
        have e : eqLL a b = false := by
          unfold eqLL
          rw [Bool.and_eq_false_iff]
          right
          rw [List.all_eq_false]
          exact ⟨i, List.mem_range.2 hlt, by rw [hx, hy]; simp [hf]⟩
        rw [e]
        exact ⟨rfl, rfl⟩
      | true =>
        repeat first|(refine BG ?_;first|(refine BH ?_;first|(refine BI ?_;refine BM ?_)|(refine BJ ?_;first|refine BN ?_|refine BO ?_)|refine BP ?_)|(refine BK ?_;first|refine BS rfl rfl ?_|refine BT rfl rfl ?_|refine BU rfl ?_)|(refine BL ?_;first|refine BQ ?_)|(refine BR ?_;try simp only [setS]))|(refine BX ?_;first|refine BY rfl ?_|(refine BZ ?_;refine CA ?_)|refine CC ?_|(refine CD ?_;try simp only [setS]))|refine AA ?_|refine AC ?_|refine AD ?_|refine AE ?_|refine AF rfl rfl ?_|refine AG rfl rfl ?_|refine AH ?_|refine AI ?_|refine AJ ?_|refine AK ?_|refine AL ?_|refine AM ?_|refine AN ?_|refine AO ?_|refine AP ?_|refine AQ rfl ?_|refine AR ?_|refine AS ?_|refine AT rfl ?_|refine AU rfl ?_
        rw [show ((i : Int) + 1) = ((i + 1 : Nat) : Int) by omega]
        refine round_norm (m - 1) (by omega) ⟨i + 1, _, _, by omega, by omega, rfl, fun j x' y' hj h1 h2 => ?_, rfl⟩
        by_cases hj2 : j < i
        · exact hall j x' y' hj2 h1 h2
        · obtain rfl : j = i := by omega
          rw [hx] at h1
          rw [hy] at h2
          cases h1
          cases h2
          exact hf
    · have : i = a.length := by omega
      subst this
      repeat first|(refine BG ?_;first|(refine BH ?_;first|(refine BI ?_;refine BM ?_)|(refine BJ ?_;first|refine BN ?_|refine BO ?_)|refine BV (hr.lenv (by rfl)) ?_|refine BP ?_)|(refine BK ?_;first|refine BS rfl rfl ?_|refine BT rfl rfl ?_|refine BU rfl ?_)|(refine BL ?_;first|refine BQ ?_)|(refine BR ?_;try simp only [setS]))|refine AA ?_|refine AC ?_|refine AD ?_|refine AE ?_|refine AF rfl rfl ?_|refine AG rfl rfl ?_|refine AH ?_|refine AI ?_|refine AJ ?_|refine AK ?_|refine AL ?_|refine AM ?_|refine AN ?_|refine AO ?_|refine AP ?_|refine AQ rfl ?_|refine AR ?_|refine AS ?_|refine AT rfl ?_|refine AU rfl ?_
      have e : eqLL a b = true := by
        unfold eqLL
        rw [decide_eq_true (by omega), Bool.true_and, List.all_eq_true]
        intro j hj
        have hj := List.mem_range.1 hj
        rw [List.getElem?_eq_getElem hj, List.getElem?_eq_getElem (show j < b.length by omega)]
        exact hall j _ _ hj (List.getElem?_eq_getElem hj) (List.getElem?_eq_getElem (show j < b.length by omega))
      rw [e]
      exact ⟨rfl, rfl⟩
  · repeat first|(refine BG ?_;first|(refine BH ?_;first|(refine BI ?_;refine BM ?_)|(refine BJ ?_;first|refine BN ?_|refine BO ?_)|refine BV (hr.lenv (by rfl)) ?_|refine BV (hr2.lenv (by rfl)) ?_|refine BP ?_)|(refine BK ?_;first|refine BS rfl rfl ?_|refine BT rfl rfl ?_|refine BU rfl ?_)|(refine BL ?_;first|refine BQ ?_)|(refine BR ?_;try simp only [setS]))|refine AA ?_|refine AC ?_|refine AD ?_|refine AE ?_|refine AF rfl rfl ?_|refine AG rfl rfl ?_|refine AH ?_|refine AI ?_|refine AJ ?_|refine AK ?_|refine AL ?_|refine AM ?_|refine AN ?_|refine AO ?_|refine AP ?_|refine AQ rfl ?_|refine AR ?_|refine AS ?_|refine AT rfl ?_|refine AU rfl ?_
    have e : eqLL a b = false := by unfold eqLL; rw [decide_eq_false (by omega), Bool.false_and]
    rw [e]
    exact ⟨rfl, rfl⟩
end
end Am
end Go.Proofs.Ythgcdoahoechhaa
namespace Go.Proofs.Ythgcdoahoechhaa
namespace Am
open Go.RowKit
set_option maxRecDepth 100000
section
variable {X : Type}
theorem RS.clip {h : Hp X} {n : Nat} {v : AV} {cells : List AV} (a : RS h 1 v n cells) : ∃ v', RS h 1 v' n cells ∧ (∀ g, blk v' g → blk v g) ∧
    ∀ {hh : Hp X} {e : En} {t : List AV} {x y z : Od} {j k : IntKind}, x.ev e t = v → y.ev e t = .int j (n : Int) → z.ev e t = .int k (n : Int) → (Mv.sl 1 x none (some y) (some z)).ev e t hh = some v' := by
  cases v <;> first | exact a.elim | skip
  · rename_i z' g o n' cap
    obtain ⟨rfl, rfl, hg, l, hl, hle, rfl⟩ := a
    refine ⟨.slice 1 g (o + 0 * 1) (n' - 0) (some (n' - 0)), ⟨rfl, by omega, hg, l, hl, by omega, by simp⟩, fun g hg => hg, fun {hh e t x y z j k} hx hy hz => ?_⟩
    have hc : capB hh 1 g o n' cap n' = true := by unfold capB; rw [ble_t (Nat.le_refl _)]; rfl
    simp only [Mv.ev, hx, slB, Nat.beq_refl, Bool.not_true, cond_false, oev, hz, hy, nOf_nat, hc, cond_true, ble_t (Nat.le_refl n')]
  · obtain ⟨rfl, rfl⟩ := a
    refine ⟨.snil, ⟨rfl, by simp⟩, fun g hg => hg, fun {hh e t x y z j k} hx hy hz => ?_⟩
    simp only [Mv.ev, hx, slB, oev, hy, hz]
    rfl
  · obtain ⟨rfl, rfl⟩ := a
    refine ⟨.semp, ⟨rfl, by simp⟩, fun g hg => hg, fun {hh e t x y z j k} hx hy hz => ?_⟩
    simp only [Mv.ev, hx, slB, oev, hy, hz]
    rfl
end
section
variable {E : Nat → Option (Ent MD)}
theorem count_ok (hE : ∀ f e, E f = some e → e.plain) (T : WaW E) {h : Hp MD} {d g : Nat} {s : List UInt8} {n : Int} (hb : Bx h g [.ptr d 0, .str s, .int .i64 n]) :
    WF (lim E) 31 [.ptr g 0] h fun r h' => r = .int .i64 n ∧ h' = h := by
  refine wf_bc hE T.count rfl ?_
  simp only [b_walCount, List.map, getS]
  repeat first|(refine BG ?_;first|(refine BH ?_;first|(refine BI ?_;refine BM ?_)|(refine BJ ?_;first|refine BN ?_|refine BO ?_)|refine BV (v_nilc rfl) ?_|refine BV (v_bx hb rfl rfl) ?_|refine BP ?_)|(refine BK ?_;first|refine BS rfl rfl ?_|refine BT rfl rfl ?_|refine BU rfl ?_)|(refine BL ?_;first|refine BQ ?_)|(refine BR ?_;try simp only [setS]))|refine AA ?_|refine AC ?_|refine AD ?_|refine AE ?_|refine AF rfl rfl ?_|refine AG rfl rfl ?_|refine AH ?_|refine AI ?_|refine AJ ?_|refine AK ?_|refine AL ?_|refine AM ?_|refine AN ?_|refine AO ?_|refine AP ?_|refine AQ rfl ?_|refine AR ?_|refine AS ?_|refine AT rfl ?_|refine AU rfl ?_
  exact ⟨rfl, rfl⟩
end
end Am
end Go.Proofs.Ythgcdoahoechhaa
