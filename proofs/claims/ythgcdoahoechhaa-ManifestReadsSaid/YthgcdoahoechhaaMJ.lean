/- Chapter 10: both ways to read a list tell the same. No program. Package manifest: Write, Read told. Numbers brought within bounds; layer 10's lists as they are made. Numbers as texts: manifest's and chapter 1's digits are the same. Chapter 4's own Put, All; layer 10's helpers. Layer 10's helpers: a fresh disk, a disk with a file; encodes, decodes. Layer 10: what its laws share. -/
import Derived.Test.YthgcdoahoechhaaMI
import Derived.Test.YthgcdoahoechhaaAm36
set_option linter.unusedVariables false
set_option linter.unusedSimpArgs false
namespace Go.Proofs.Ythgcdoahoechhaa
namespace Am
open Go.RowKit
set_option maxRecDepth 100000
theorem numF_ok {bs : List UInt8} {bad : Bool} {n : Nat} (h : n ≤ bs.length) : numF bs bad n = ((be (bs.take n) : Int), bs.drop n, bad) := by unfold numF; rw [if_pos h]
theorem numF_no {bs : List UInt8} {bad : Bool} {n : Nat} (h : bs.length < n) : numF bs bad n = (0, [], true) := by unfold numF; rw [if_neg (by omega)]
theorem numsR_ok : ∀ {k : Nat} {bs : List UInt8} {bad : Bool}, 3 * k ≤ bs.length → numsR k bs bad = (nums k bs, bs.drop (3 * k), bad)
  | 0, bs, bad, _ => by simp [numsR, nums]
  | k + 1, bs, bad, h => by
    rw [numsR, numF_ok (by omega)]
    simp only
    rw [numsR_ok (by rw [List.length_drop]; omega), nums, List.drop_drop]
    simp only
    rw [show 3 + 3 * k = 3 * (k + 1) by omega]
theorem numsR_bad : ∀ (k : Nat), (numsR k [] true).2 = ([], true)
  | 0 => rfl
  | k + 1 => by rw [numsR, numF_no (by simp)]; exact numsR_bad k
theorem numsR_no : ∀ {k : Nat} {bs : List UInt8} {bad : Bool}, bs.length < 3 * k → (numsR k bs bad).2 = ([], true)
  | 0, bs, bad, h => by omega
  | k + 1, bs, bad, h => by
    rw [numsR]
    simp only
    by_cases h3 : 3 ≤ bs.length
    · rw [numF_ok h3]
      exact numsR_no (by rw [List.length_drop]; omega)
    · rw [numF_no (by omega)]
      exact numsR_bad k
theorem nums_pre : ∀ (c d : Nat) (bs : List UInt8), (nums (c + d) bs).take c = nums c bs
  | 0, d, bs => by simp [nums]
  | c + 1, d, bs => by
    rw [show c + 1 + d = (c + d) + 1 by omega, nums, nums, List.take_succ_cons, nums_pre c d]
theorem nums_getD {k : Nat} {bs : List UInt8} {i : Nat} (h : i < k) : (nums k bs).getD i 0 = (be ((bs.drop (3 * i)).take 3) : Int) := by
  rw [List.getD_eq_getElem?_getD, nums_at h]; rfl
theorem dec_eq (bs : List UInt8) : rdecF bs = decP bs := by
  unfold rdecF
  cases bs with
  | nil =>
    have e : decP [] = none := by unfold decP; rw [if_pos (.inl (by simp))]
    rw [e, numF_no (by simp)]
    rfl
  | cons b r =>
    have hbe : be ((b :: r).take 1) = b.toNat := by simp [be]
    have hg : ((b :: r).getD 0 0).toNat = b.toNat := by simp
    rw [numF_ok (by simp)]
    simp only [hbe, Int.toNat_natCast]
    rw [show (b :: r).drop 1 = r from rfl]
    unfold decP
    rw [hg, show (b :: r).drop 1 = r from rfl]
    generalize b.toNat = c
    rw [show (b :: r).length = r.length + 1 from rfl]
    by_cases h1 : r.length = 3 * (c + 2)
    · rw [if_neg (c := r.length + 1 < 1 ∨ r.length + 1 ≠ 1 + 3 * (c + 2)) (by omega), numsR_ok (k := c) (bs := r) (by omega)]
      simp only
      rw [numF_ok (bs := r.drop (3 * c)) (n := 3) (by rw [List.length_drop]; omega)]
      simp only
      rw [numF_ok (bs := (r.drop (3 * c)).drop 3) (n := 3) (by rw [List.length_drop, List.length_drop]; omega)]
      simp only
      rw [nums_pre c 2, nums_getD (by omega), nums_getD (by omega)]
      simp only [List.drop_drop, show 3 * c + 3 = 3 * (c + 1) by omega]
      have hl : ¬ 0 < (List.drop (3 * (c + 1) + 3) r).length := by rw [List.length_drop]; omega
      cases hm : mayF (nums c r) (be ((r.drop (3 * c)).take 3) : Int) (be ((r.drop (3 * (c + 1))).take 3) : Int) with
      | true => rw [if_neg (by rintro (q | q | q); cases q; exact hl q; cases q)]; rfl
      | false => rw [if_pos (.inr (.inr (by trivial)))]; rfl
    · rw [if_pos (show r.length + 1 < 1 ∨ r.length + 1 ≠ 1 + 3 * (c + 2) from .inr (by omega))]
      by_cases h2 : r.length < 3 * c
      · rw [numsR_no h2]
        rw [numF_no (bs := []) (n := 3) (by simp)]
        simp only
        rw [numF_no (bs := []) (n := 3) (by simp)]
        exact if_pos (.inl rfl)
      · rw [numsR_ok (k := c) (bs := r) (by omega)]
        simp only
        by_cases h3 : r.length < 3 * c + 3
        · rw [numF_no (bs := r.drop (3 * c)) (n := 3) (by rw [List.length_drop]; omega)]
          simp only
          rw [numF_no (bs := []) (n := 3) (by simp)]
          exact if_pos (.inl rfl)
        · rw [numF_ok (bs := r.drop (3 * c)) (n := 3) (by rw [List.length_drop]; omega)]
          simp only
          by_cases h4 : r.length < 3 * c + 6
          · rw [numF_no (bs := (r.drop (3 * c)).drop 3) (n := 3) (by rw [List.length_drop, List.length_drop]; omega)]
            exact if_pos (.inl rfl)
          · rw [numF_ok (bs := (r.drop (3 * c)).drop 3) (n := 3) (by rw [List.length_drop, List.length_drop]; omega)]
            simp only
            exact if_pos (.inr (.inl (by rw [List.length_drop, List.length_drop, List.length_drop]; omega)))
end Am
end Go.Proofs.Ythgcdoahoechhaa
namespace Go.Proofs.Ythgcdoahoechhaa
namespace Am
open Go.RowKit
set_option maxRecDepth 100000
def b_mfWrite : BF := ⟨45, [0, 1, 3, 4, 5, 6, 7, 9, 10, 11, 18, 21, 30, 36, 41], (.seq (.reg [.mk none (.slot 2) (.eff (.box (.slot 1))), .mk none (.slot 3) (.mov (.mv (.const (.int .i64 0))))]) (.seq (.reg [.mk none (.env 13) (.mov (.ldn 3 (.slot 2))), .mk none (.env 14) (.call 87 [(.env 13)]), .mk none (.env 12) (.mov (.mv (.env 14))), .mk none (.env 15) (.mov (.ext 0 (.env 12))), .mk none (.env 16) (.mov (.ext 1 (.env 12))), .mk none (.slot 4) (.mov (.mv (.env 15))), .mk none (.slot 5) (.mov (.mv (.env 16)))]) (.seq (.seq (.reg [.mk none (.env 17) (.mov (.mv (.slot 5))), .mk none (.slot 10) (.mov (.bin .neq .no (.env 17) (.const (.int .i64 0))))]) (.cond (.slot 10) (.seq (.reg [.mk none (.env 19) (.mov (.mv (.slot 5))), .mk none (.slot 3) (.mov (.mv (.env 19)))]) .ret) .skip)) (.seq (.seq (.reg [.mk none (.env 20) (.mov (.mv (.slot 0))), .mk none (.slot 11) (.mov (.bin .eql .ptr (.env 20) (.const .nilp)))]) (.cond (.slot 11) (.seq (.reg [.mk none (.slot 3) (.mov (.mv (.const (.int .i64 1))))]) .ret) .skip)) (.seq (.reg [.mk none (.env 23) (.mov (.mv (.slot 4))), .mk none (.env 24) (.call 77 [(.const .snil), (.env 23)]), .mk none (.env 22) (.mov (.mv (.env 24))), .mk none (.env 25) (.mov (.ext 0 (.env 22))), .mk none (.env 26) (.mov (.ext 1 (.env 22))), .mk none (.slot 6) (.mov (.mv (.env 25))), .mk none (.env 8) (.mov (.mv (.env 26)))]) (.seq (.seq (.reg [.mk none (.env 27) (.mov (.mv (.slot 0))), .mk none (.env 28) (.call 51 [(.env 27), (.const (.str [110, 101, 119]))]), .mk none (.slot 7) (.mov (.mv (.env 28)))]) (.seq (.reg [.mk none (.env 29) (.mov (.mv (.slot 7))), .mk none (.slot 12) (.mov (.bin .neq .no (.env 29) (.const (.int .i64 0))))]) (.cond (.slot 12) (.seq (.reg [.mk none (.env 31) (.mov (.mv (.slot 7))), .mk none (.slot 3) (.mov (.mv (.env 31)))]) .ret) .skip))) (.seq (.seq (.reg [.mk none (.env 32) (.mov (.mv (.slot 0))), .mk none (.env 33) (.mov (.mv (.slot 6))), .mk none (.env 34) (.call 53 [(.env 32), (.const (.str [110, 101, 119])), (.env 33)]), .mk none (.slot 8) (.mov (.mv (.env 34)))]) (.seq (.reg [.mk none (.env 35) (.mov (.mv (.slot 8))), .mk none (.slot 13) (.mov (.bin .neq .no (.env 35) (.const (.int .i64 0))))]) (.cond (.slot 13) (.seq (.reg [.mk none (.env 37) (.mov (.mv (.slot 8))), .mk none (.slot 3) (.mov (.mv (.env 37)))]) .ret) .skip))) (.seq (.seq (.reg [.mk none (.env 38) (.mov (.mv (.slot 0))), .mk none (.env 39) (.call 55 [(.env 38), (.const (.str [110, 101, 119]))]), .mk none (.slot 9) (.mov (.mv (.env 39)))]) (.seq (.reg [.mk none (.env 40) (.mov (.mv (.slot 9))), .mk none (.slot 14) (.mov (.bin .neq .no (.env 40) (.const (.int .i64 0))))]) (.cond (.slot 14) (.seq (.reg [.mk none (.env 42) (.mov (.mv (.slot 9))), .mk none (.slot 3) (.mov (.mv (.env 42)))]) .ret) .skip))) (.seq (.reg [.mk none (.env 43) (.mov (.mv (.slot 0))), .mk none (.env 44) (.call 59 [(.env 43), (.const (.str [110, 101, 119])), (.const (.str [108, 105, 115, 116]))]), .mk none (.slot 3) (.mov (.mv (.env 44)))]) .ret))))))))), [.slot (.slot 3)]⟩
def b_mfRead : BF := ⟨53, [0, 2, 3, 4, 5, 6, 7, 8, 9, 10, 12, 20, 40, 50], (.seq (.reg [.mk none (.slot 1) (.eff (.alloc [.snil, (.int .i64 0), (.int .i64 0)])), .mk none (.slot 2) (.mov (.mv (.const (.bool false)))), .mk none (.slot 3) (.mov (.mv (.const (.int .i64 0))))]) (.seq (.seq (.reg [.mk none (.env 11) (.mov (.mv (.slot 0))), .mk none (.slot 10) (.mov (.bin .eql .ptr (.env 11) (.const .nilp)))]) (.cond (.slot 10) (.seq (.reg [.mk none (.env 13) (.mov (.bld [.snil, (.int .i64 0), (.int .i64 0)] [])), .mk none .none (.eff (.store 3 (.slot 1) (.env 13))), .mk none (.slot 2) (.mov (.mv (.const (.bool false)))), .mk none (.slot 3) (.mov (.mv (.const (.int .i64 1))))]) .ret) .skip)) (.seq (.reg [.mk none (.env 15) (.mov (.mv (.slot 0))), .mk none (.env 16) (.call 32 [(.env 15), (.const (.str [108, 105, 115, 116]))]), .mk none (.env 14) (.mov (.mv (.env 16))), .mk none (.env 17) (.mov (.ext 0 (.env 14))), .mk none (.env 18) (.mov (.ext 1 (.env 14))), .mk none (.slot 4) (.mov (.mv (.env 17))), .mk none (.slot 5) (.mov (.mv (.env 18)))]) (.seq (.seq (.reg [.mk none (.env 19) (.mov (.mv (.slot 5))), .mk none (.slot 11) (.mov (.notb (.env 19)))]) (.cond (.slot 11) (.seq (.reg [.mk none (.env 21) (.mov (.bld [.snil, (.int .i64 0), (.int .i64 0)] [])), .mk none .none (.eff (.store 3 (.slot 1) (.env 21))), .mk none (.slot 2) (.mov (.mv (.const (.bool false)))), .mk none (.slot 3) (.mov (.mv (.const (.int .i64 0))))]) .ret) .skip)) (.seq (.reg [.mk none (.env 23) (.mov (.mv (.slot 4))), .mk none (.env 24) (.call 74 [(.env 23)]), .mk none (.env 22) (.mov (.mv (.env 24))), .mk none (.env 25) (.mov (.ext 0 (.env 22))), .mk none (.env 26) (.mov (.ext 1 (.env 22))), .mk none (.env 27) (.mov (.ext 2 (.env 22))), .mk none (.slot 6) (.mov (.mv (.env 25))), .mk none (.slot 7) (.mov (.mv (.env 26))), .mk none (.slot 8) (.mov (.mv (.env 27)))]) (.seq (.seq (.reg [.mk none (.env 28) (.mov (.mv (.slot 8))), .mk none (.env 29) (.mov (.bin .neq .no (.env 28) (.const (.int .i64 0)))), .mk none (.env 30) (.mov (.mv (.env 29))), .mk (some ((.env 30), false)) (.env 31) (.mov (.mv (.slot 6))), .mk (some ((.env 30), false)) (.env 32) (.mov (.lenv (.env 31))), .mk (some ((.env 30), false)) (.env 33) (.mov (.bin .neq .no (.env 32) (.const (.int .i64 1)))), .mk none (.env 34) (.mov (.pick (.env 30) (.const (.bool true)) (.env 33))), .mk none (.env 35) (.mov (.mv (.env 34))), .mk (some ((.env 35), false)) (.env 36) (.mov (.mv (.slot 7))), .mk (some ((.env 35), false)) (.env 37) (.mov (.mv (.slot 4))), .mk (some ((.env 35), false)) (.env 38) (.mov (.lenv (.env 37))), .mk (some ((.env 35), false)) (.env 39) (.mov (.bin .neq .no (.env 36) (.env 38))), .mk none (.slot 12) (.mov (.pick (.env 35) (.const (.bool true)) (.env 39)))]) (.cond (.slot 12) (.seq (.reg [.mk none (.env 41) (.mov (.bld [.snil, (.int .i64 0), (.int .i64 0)] [])), .mk none .none (.eff (.store 3 (.slot 1) (.env 41))), .mk none (.slot 2) (.mov (.mv (.const (.bool false)))), .mk none (.slot 3) (.mov (.mv (.const (.int .i64 14))))]) .ret) .skip)) (.seq (.reg [.mk none (.env 43) (.mov (.mv (.slot 6))), .mk none (.env 44) (.mov (.iaddr 1 (.env 43) (.const (.int .i64 0)))), .mk none (.env 45) (.mov (.ld1 (.env 44))), .mk none (.env 46) (.call 89 [(.env 45)]), .mk none (.env 42) (.mov (.mv (.env 46))), .mk none (.env 47) (.mov (.ext 0 (.env 42))), .mk none (.env 48) (.mov (.ext 1 (.env 42))), .mk none (.slot 9) (.eff (.alloc [.snil, (.int .i64 0), (.int .i64 0)])), .mk none .none (.eff (.store 3 (.slot 9) (.env 47))), .mk none (.slot 8) (.mov (.mv (.env 48)))]) (.seq (.seq (.reg [.mk none (.env 49) (.mov (.mv (.slot 8))), .mk none (.slot 13) (.mov (.bin .neq .no (.env 49) (.const (.int .i64 0))))]) (.cond (.slot 13) (.seq (.reg [.mk none (.env 51) (.mov (.bld [.snil, (.int .i64 0), (.int .i64 0)] [])), .mk none .none (.eff (.store 3 (.slot 1) (.env 51))), .mk none (.slot 2) (.mov (.mv (.const (.bool false)))), .mk none (.slot 3) (.mov (.mv (.const (.int .i64 14))))]) .ret) .skip)) (.seq (.reg [.mk none (.env 52) (.mov (.ldn 3 (.slot 9))), .mk none .none (.eff (.store 3 (.slot 1) (.env 52))), .mk none (.slot 2) (.mov (.mv (.const (.bool true)))), .mk none (.slot 3) (.mov (.mv (.const (.int .i64 0))))]) .ret))))))))), [.celln 3 (.slot 1), .slot (.slot 2), .slot (.slot 3)]⟩
theorem fl_create (m : MD) (s : Bs) : (m.create s).2.fs.length ≤ m.fs.length + 1 := by
  unfold MD.create
  split
  · exact Nat.le_succ _
  · split
    · rw [MD.count_fs]; exact Nat.le_succ _
    · refine Nat.le_trans (MD.length_put _ _) ?_
      rw [MD.count_fs]; exact Nat.le_refl _
theorem fl_append (m : MD) (s b : Bs) : (m.append s b).2.fs.length = m.fs.length := by
  unfold MD.append
  split
  · rfl
  · split
    · rw [MD.count_fs]
    · exact MD.length_set _ _ _
theorem fl_sync (m : MD) (s : Bs) : (m.sync s).2.fs.length = m.fs.length := by
  unfold MD.sync
  split
  · rfl
  · split
    · rw [MD.count_fs]
    · exact MD.length_set _ _ _
theorem fl_rename (m : MD) (a c : Bs) : (m.rename a c).2.fs.length ≤ m.fs.length + 1 := by
  unfold MD.rename
  split
  · exact Nat.le_succ _
  · split
    · exact Nat.le_succ _
    · split
      · rw [MD.count_fs]; exact Nat.le_succ _
      · refine Nat.le_trans (MD.length_put _ _) ?_
        have := MD.length_drop m.fs a
        omega
def recB (b : List UInt8) : List UInt8 := encB b.length 3 ++ encB (b.length ^^^ 16777215) 3 ++ b
theorem recB_len (b : List UInt8) : (recB b).length = 6 + b.length := by simp [recB, encB_len]; omega
theorem recC_map (n : Nat) : recC n = (encB n 3 ++ encB (n ^^^ 16777215) 3).map ub := by
  unfold recC
  rw [encK_map, encK_map, List.map_append]
theorem frPut_b {X : Type} {E : Nat → Option (Ent X)} (hE : ∀ f e, E f = some e → e.plain) (hf : E 77 = some (.bc b_frPut)) (hg : E 106 = some (.bc b_octPut)) (hc : E 85 = some (.bc b_clone)) {h : Hp X} {v r : AV} {pre b : List UInt8} (hv : RS h 1 v pre.length (pre.map ub)) (hs : v ≠ .semp) (hr : RS h 1 r b.length (b.map ub)) (hn : pre.length ≤ 70368744177664) (hm : b.length ≤ 1048576) :
    WF (lim E) 77 [v, r] h fun x h' => ∃ o, x = .tup [o, .int .i64 0] ∧ Own1 h h' o ∧ OS h' 1 o (pre ++ recB b).length ((pre ++ recB b).map ub) := by
  refine (frPut_ok hE hf hg hc hv hs hr hn hm).mono fun x h' ⟨o, e1, e2, e3⟩ => ⟨o, e1, e2, ?_⟩
  rw [recC_map] at e3
  have e : (pre ++ recB b).length = pre.length + 6 + b.length := by rw [List.length_append, recB_len]; omega
  rw [e]
  unfold recB
  simpa only [List.map_append, List.append_assoc] using e3
theorem allG_le : ∀ (k : Nat) (bs : List UInt8), ∀ r ∈ (allG k bs).1, r.length ≤ bs.length
  | 0, bs, r, h => by simp [allG] at h
  | k + 1, bs, r, h => by
    rw [allG] at h
    split at h
    · simp at h
    · split at h
      · simp at h
      · rcases List.mem_cons.1 h with rfl | h
        · rw [List.length_take, List.length_drop]; omega
        · have := allG_le k _ r h
          rw [List.length_drop] at this
          omega
def nNew : List UInt8 := [110, 101, 119]
def nList : List UInt8 := [108, 105, 115, 116]
noncomputable def writeF (x : MD) (l : List Int) (w n : Int) : Int × MD :=
  if mayF l w n = false then (1, x) else
  if (x.create nNew).1 ≠ 0 then x.create nNew else
  if ((x.create nNew).2.append nNew (recB (encM l w n))).1 ≠ 0 then (x.create nNew).2.append nNew (recB (encM l w n)) else
  if (((x.create nNew).2.append nNew (recB (encM l w n))).2.sync nNew).1 ≠ 0 then ((x.create nNew).2.append nNew (recB (encM l w n))).2.sync nNew else
  (((x.create nNew).2.append nNew (recB (encM l w n))).2.sync nNew).2.rename nNew nList
noncomputable def readF (o : Option (List UInt8)) : Int × Option (List Int × Int × Int) := match o with
  | none => (0, none)
  | some b => if (allG (b.length + 1) b).2.2 = false ∨ (allG (b.length + 1) b).1.length ≠ 1 ∨ (allG (b.length + 1) b).2.1 ≠ b.length then (14, none) else
    match decP ((allG (b.length + 1) b).1.getD 0 []) with
    | none => (14, none)
    | some q => (0, some q)
section
variable {E : Nat → Option (Ent MD)}
structure MfIO (E : Nat → Option (Ent MD)) : Prop extends MfE E, MfD E where
  frPut : E 77 = some (.bc b_frPut)
  frAll : E 74 = some (.bc b_frAll)
  frLength : E 104 = some (.bc b_frLength)
  create : E 51 = some (.nat (n_name MD.create))
  sync : E 55 = some (.nat (n_name MD.sync))
  append : E 53 = some (.nat n_append)
  rename : E 59 = some (.nat n_rename)
  dread : E 32 = some (.nat n_read)
  write : E 49 = some (.bc b_mfWrite)
  read : E 44 = some (.bc b_mfRead)
theorem write_ok (hE : ∀ f e, E f = some e → e.plain) (T : MfIO E) {h : Hp MD} {g : Nat} {x : MD} (hg : Ob h g x) (hx : x.fs.length ≤ 1000000) {v : AV} {l : List Int} {w n : Int} (hr : RS h 1 v l.length (l.map iv)) (hlen : l.length ≤ 1000000) :
    WF (lim E) 49 [.ptr g 0, LsV v w n] h fun r h' => r = .int .i64 (writeF x l w n).1 ∧ Ob h' g (writeF x l w n).2 ∧ Keep (OneB g) h h' := by
  refine wf_bc hE T.write rfl ?_
  simp only [b_mfWrite, List.map, getS]
  have hmx : (maxLen : Nat) = 9223372036854775807 := rfl
  refine AC (AD (wr_eff_s (ef_box rfl (all3 hr.one.2)) rfl ?_))
  have K1 : Keep NoB h (h.push (.rw [v, .int .i64 w, .int .i64 n])) := Keep.push _ _ _
  have hr1 := hr.up K1
  have hg1 := hg.up K1
  have hb1 : Bx (h.push (.rw [v, .int .i64 w, .int .i64 n])) h.n [v, .int .i64 w, .int .i64 n] := bx_push
  generalize h.push (.rw [v, .int .i64 w, .int .i64 n]) = h1 at K1 hr1 hg1 hb1 ⊢
  simp only [setS]
  unfold writeF
  repeat first|(refine BG ?_;first|(refine BH ?_;first|(refine BI ?_;refine BM ?_)|(refine BJ ?_;first|refine BN ?_|refine BO ?_)|refine BV (v_bxn hb1 rfl (Nat.le_refl _)) ?_|refine BP ?_)|(refine BK ?_;first|refine BS rfl rfl ?_|refine BT rfl rfl ?_|refine BU rfl ?_)|(refine BL ?_;first|refine BQ ?_)|(refine BR ?_;try simp only [setS]))|refine AA ?_|refine AC ?_|refine AD ?_|refine AE ?_|refine AF rfl rfl ?_|refine AG rfl rfl ?_|refine AH ?_|refine AI ?_|refine AJ ?_|refine AK ?_|refine AL ?_|refine AM ?_|refine AN ?_|refine AO ?_|refine AP ?_|refine AQ rfl ?_|refine AR ?_|refine AS ?_|refine AT rfl ?_|refine AU rfl ?_
  cases hm : mayF l w n with
  | false =>
    refine wr_call_e rfl ((encode_no hE T.toMfE hr1 (by omega) hm).mono fun r h2 ⟨k2, e2⟩ => ?_)
    subst e2
    repeat first|(refine BG ?_;first|(refine BH ?_;first|(refine BI ?_;refine BM ?_)|(refine BJ ?_;first|refine BN ?_|refine BO ?_)|refine BP ?_)|(refine BK ?_;first|refine BS rfl rfl ?_|refine BT rfl rfl ?_|refine BU rfl ?_)|(refine BL ?_;first|refine BQ ?_)|(refine BR ?_;try simp only [setS]))|refine AA ?_|refine AC ?_|refine AD ?_|refine AE ?_|refine AF rfl rfl ?_|refine AG rfl rfl ?_|refine AH ?_|refine AI ?_|refine AJ ?_|refine AK ?_|refine AL ?_|refine AM ?_|refine AN ?_|refine AO ?_|refine AP ?_|refine AQ rfl ?_|refine AR ?_|refine AS ?_|refine AT rfl ?_|refine AU rfl ?_
    exact ⟨rfl, hg1.up k2, (K1.and k2).any⟩
  | true =>
    have hM := mayF_iff.1 hm
    have hel := encM_len l w n
    have hl := hM.len
    refine wr_call_e rfl ((encode_ok hE T.toMfE hr1 hM).mono fun r h2 ⟨o, e2, ⟨k2, b2⟩, o2⟩ => ?_)
    subst e2
    repeat first|(refine BG ?_;first|(refine BH ?_;first|(refine BI ?_;refine BM ?_)|(refine BJ ?_;first|refine BN ?_|refine BO ?_)|refine BV (v_pnil rfl) ?_|refine BP ?_)|(refine BK ?_;first|refine BS rfl rfl ?_|refine BT rfl rfl ?_|refine BU rfl ?_)|(refine BL ?_;first|refine BQ ?_)|(refine BR ?_;try simp only [setS]))|refine AA ?_|refine AC ?_|refine AD ?_|refine AE ?_|refine AF rfl rfl ?_|refine AG rfl rfl ?_|refine AH ?_|refine AI ?_|refine AJ ?_|refine AK ?_|refine AL ?_|refine AM ?_|refine AN ?_|refine AO ?_|refine AP ?_|refine AQ rfl ?_|refine AR ?_|refine AS ?_|refine AT rfl ?_|refine AU rfl ?_
    refine wr_call_e rfl ((frPut_b hE T.frPut T.put T.clone (pre := []) (h := h2) (v := .snil) ⟨rfl, rfl⟩ (by intro q; cases q) o2.rs (by simp) (by omega)).mono fun r h3 ⟨o3, e3, ⟨k3, b3⟩, s3⟩ => ?_)
    subst e3
    rw [List.nil_append] at s3
    have K3 := (K1.and k2).and k3
    have g3 := (hg1.up k2).up k3
    repeat first|(refine BG ?_;first|(refine BH ?_;first|(refine BI ?_;refine BM ?_)|(refine BJ ?_;first|refine BN ?_|refine BO ?_)|refine BP ?_)|(refine BK ?_;first|refine BS rfl rfl ?_|refine BT rfl rfl ?_|refine BU rfl ?_)|(refine BL ?_;first|refine BQ ?_)|(refine BR ?_;try simp only [setS]))|refine AA ?_|refine AC ?_|refine AD ?_|refine AE ?_|refine AF rfl rfl ?_|refine AG rfl rfl ?_|refine AH ?_|refine AI ?_|refine AJ ?_|refine AK ?_|refine AL ?_|refine AM ?_|refine AN ?_|refine AO ?_|refine AP ?_|refine AQ rfl ?_|refine AR ?_|refine AS ?_|refine AT rfl ?_|refine AU rfl ?_
    refine wr_call_e rfl ((w_name hE T.create g3 (by omega) nNew).mono fun r h4 ⟨e4, g4, k4⟩ => ?_)
    subst e4
    have l4 := fl_create x nNew
    have s4 := s3.keep k4 (fun k q1 q2 => by have := b3 k q1; have q2 : k = g := q2; have := hg.lt; have := K1.n; have := k2.n; omega)
    have K4 : Keep (OneB g) h h4 := K3.any.trans k4 (fun _ _ q => q)
    rw [if_neg (show ¬ true = false by decide)]
    generalize x.create nNew = c at *
    by_cases hc : c.1 = 0
    · rw [if_neg (by simp [hc])]
      repeat first|(refine BG ?_;first|(refine BH ?_;first|(refine BI ?_;refine BM ?_)|(refine BJ ?_;first|refine BN ?_|refine BO ?_)|refine BP ?_)|(refine BK ?_;first|refine BS rfl rfl ?_|refine BT rfl rfl ?_|refine BU rfl ?_)|(refine BL ?_;first|refine BQ ?_)|(refine BR ?_;try simp only [setS]))|refine AA ?_|refine AC ?_|refine AD ?_|refine AE ?_|refine AF rfl rfl ?_|refine AG rfl rfl ?_|refine AH ?_|refine AI ?_|refine AJ ?_|refine AK ?_|refine AL ?_|refine AM ?_|refine AN ?_|refine AO ?_|refine AP ?_|refine AQ rfl ?_|refine AR ?_|refine AS ?_|refine AT rfl ?_|refine AU rfl ?_
      refine wr_call_e rfl ((w_append hE T.append g4 (by omega) nNew s4.rs).mono fun r h5 ⟨e5, g5, k5⟩ => ?_)
      subst e5
      have l5 := fl_append c.2 nNew (recB (encM l w n))
      have K5 := K4.trans k5 (fun _ _ q => q)
      generalize c.2.append nNew (recB (encM l w n)) = a at *
      by_cases ha : a.1 = 0
      · rw [if_neg (by simp [ha])]
        repeat first|(refine BG ?_;first|(refine BH ?_;first|(refine BI ?_;refine BM ?_)|(refine BJ ?_;first|refine BN ?_|refine BO ?_)|refine BP ?_)|(refine BK ?_;first|refine BS rfl rfl ?_|refine BT rfl rfl ?_|refine BU rfl ?_)|(refine BL ?_;first|refine BQ ?_)|(refine BR ?_;try simp only [setS]))|refine AA ?_|refine AC ?_|refine AD ?_|refine AE ?_|refine AF rfl rfl ?_|refine AG rfl rfl ?_|refine AH ?_|refine AI ?_|refine AJ ?_|refine AK ?_|refine AL ?_|refine AM ?_|refine AN ?_|refine AO ?_|refine AP ?_|refine AQ rfl ?_|refine AR ?_|refine AS ?_|refine AT rfl ?_|refine AU rfl ?_
        refine wr_call_e rfl ((w_name hE T.sync g5 (by omega) nNew).mono fun r h6 ⟨e6, g6, k6⟩ => ?_)
        subst e6
        have l6 := fl_sync a.2 nNew
        have K6 := K5.trans k6 (fun _ _ q => q)
        generalize a.2.sync nNew = s at *
        by_cases hs : s.1 = 0
        · rw [if_neg (by simp [hs])]
          repeat first|(refine BG ?_;first|(refine BH ?_;first|(refine BI ?_;refine BM ?_)|(refine BJ ?_;first|refine BN ?_|refine BO ?_)|refine BP ?_)|(refine BK ?_;first|refine BS rfl rfl ?_|refine BT rfl rfl ?_|refine BU rfl ?_)|(refine BL ?_;first|refine BQ ?_)|(refine BR ?_;try simp only [setS]))|refine AA ?_|refine AC ?_|refine AD ?_|refine AE ?_|refine AF rfl rfl ?_|refine AG rfl rfl ?_|refine AH ?_|refine AI ?_|refine AJ ?_|refine AK ?_|refine AL ?_|refine AM ?_|refine AN ?_|refine AO ?_|refine AP ?_|refine AQ rfl ?_|refine AR ?_|refine AS ?_|refine AT rfl ?_|refine AU rfl ?_
          refine wr_call_e rfl ((w_rename hE T.rename g6 (by omega) nNew nList).mono fun r h7 ⟨e7, g7, k7⟩ => ?_)
          subst e7
          repeat first|(refine BG ?_;first|(refine BH ?_;first|(refine BI ?_;refine BM ?_)|(refine BJ ?_;first|refine BN ?_|refine BO ?_)|refine BP ?_)|(refine BK ?_;first|refine BS rfl rfl ?_|refine BT rfl rfl ?_|refine BU rfl ?_)|(refine BL ?_;first|refine BQ ?_)|(refine BR ?_;try simp only [setS]))|refine AA ?_|refine AC ?_|refine AD ?_|refine AE ?_|refine AF rfl rfl ?_|refine AG rfl rfl ?_|refine AH ?_|refine AI ?_|refine AJ ?_|refine AK ?_|refine AL ?_|refine AM ?_|refine AN ?_|refine AO ?_|refine AP ?_|refine AQ rfl ?_|refine AR ?_|refine AS ?_|refine AT rfl ?_|refine AU rfl ?_
          exact ⟨rfl, g7, K6.trans k7 (fun _ _ q => q)⟩
        · rw [if_pos hs]
          repeat first|(refine BG ?_;first|(refine BH ?_;first|(refine BI ?_;refine BM ?_)|(refine BJ ?_;first|refine BN ?_|refine BO ?_)|refine BP ?_)|(refine BK ?_;first|refine BS rfl rfl ?_|refine BT rfl rfl ?_|refine BU rfl ?_)|(refine BL ?_;first|refine BQ ?_)|(refine BR ?_;try simp only [setS]))|refine AA ?_|refine AC ?_|refine AD ?_|refine AE ?_|refine AF rfl rfl ?_|refine AG rfl rfl ?_|refine AH ?_|refine AI ?_|refine AJ ?_|refine AK ?_|refine AL ?_|refine AM ?_|refine AN ?_|refine AO ?_|refine AP ?_|refine AQ rfl ?_|refine AR ?_|refine AS ?_|refine AT rfl ?_|refine AU rfl ?_
          exact ⟨rfl, g6, K6⟩
      · rw [if_pos ha]
        repeat first|(refine BG ?_;first|(refine BH ?_;first|(refine BI ?_;refine BM ?_)|(refine BJ ?_;first|refine BN ?_|refine BO ?_)|refine BP ?_)|(refine BK ?_;first|refine BS rfl rfl ?_|refine BT rfl rfl ?_|refine BU rfl ?_)|(refine BL ?_;first|refine BQ ?_)|(refine BR ?_;try simp only [setS]))|refine AA ?_|refine AC ?_|refine AD ?_|refine AE ?_|refine AF rfl rfl ?_|refine AG rfl rfl ?_|refine AH ?_|refine AI ?_|refine AJ ?_|refine AK ?_|refine AL ?_|refine AM ?_|refine AN ?_|refine AO ?_|refine AP ?_|refine AQ rfl ?_|refine AR ?_|refine AS ?_|refine AT rfl ?_|refine AU rfl ?_
        exact ⟨rfl, g5, K5⟩
    · rw [if_pos hc]
      repeat first|(refine BG ?_;first|(refine BH ?_;first|(refine BI ?_;refine BM ?_)|(refine BJ ?_;first|refine BN ?_|refine BO ?_)|refine BP ?_)|(refine BK ?_;first|refine BS rfl rfl ?_|refine BT rfl rfl ?_|refine BU rfl ?_)|(refine BL ?_;first|refine BQ ?_)|(refine BR ?_;try simp only [setS]))|refine AA ?_|refine AC ?_|refine AD ?_|refine AE ?_|refine AF rfl rfl ?_|refine AG rfl rfl ?_|refine AH ?_|refine AI ?_|refine AJ ?_|refine AK ?_|refine AL ?_|refine AM ?_|refine AN ?_|refine AO ?_|refine AP ?_|refine AQ rfl ?_|refine AR ?_|refine AS ?_|refine AT rfl ?_|refine AU rfl ?_
      exact ⟨rfl, g4, K4⟩
def ReadPost' (h : Hp MD) (o : Int × Option (List Int × Int × Int)) (r : AV) (h' : Hp MD) : Prop := Keep NoB h h' ∧ match o with
  | (e, none) => r = .tup [LsV .snil 0 0, .bool false, .int .i64 e]
  | (_, some (ts, w, n)) => ∃ tv, r = .tup [LsV tv w n, .bool true, .int .i64 0] ∧ OS h' 1 tv ts.length (ts.map iv) ∧ ∀ k, blk tv k → h.n ≤ k
theorem res_ldn3 {n g o : Nat} {x y z : Od} {t : List AV} {h : Hp MD} {l : List AV} {v u : AV} (hx : x.ev [] t = .ptr g o) (hg : Bx h g l) (ho : o + n ≤ l.length) (hy : y.ev [] t = v) (hz : z.ev [] t = u) : resV t h [.celln n x, .slot y, .slot z] = some [.agg ((l.drop o).take n), v, u] := by
  unfold resV
  rw [show (Rs.celln n x).ev t h = some (.agg ((l.drop o).take n)) from v_ldn hx hg.get ho]
  unfold resV
  rw [show (Rs.slot y).ev t h = some v from congrArg some hy]
  unfold resV
  rw [show (Rs.slot z).ev t h = some u from congrArg some hz]
  rfl
set_option maxHeartbeats 4000000 in
theorem read_ok (hE : ∀ f e, E f = some e → e.plain) (T : MfIO E) {h : Hp MD} {g : Nat} {x : MD} (hg : Ob h g x) (hx : x.fs.length ≤ 1000000) (hb : ∀ m, x.get nList = some m → m.b.length ≤ 1099511627776) :
    WF (lim E) 44 [.ptr g 0] h fun r h' => ReadPost' h (readF ((x.get nList).map MF.b)) r h' := by
  refine wf_bc hE T.read rfl ?_
  simp only [b_mfRead, List.map, getS]
  have K1 : Keep NoB h (h.push (.rw [.snil, .int .i64 0, .int .i64 0])) := Keep.push _ _ _
  have hg1 := hg.up K1
  have hb1 : Bx (h.push (.rw [.snil, .int .i64 0, .int .i64 0])) h.n [.snil, .int .i64 0, .int .i64 0] := bx_push
  repeat first|(refine BG ?_;first|(refine BH ?_;first|(refine BI ?_;refine BM ?_)|(refine BJ ?_;first|refine BN ?_|refine BO ?_)|refine BV (v_pnil rfl) ?_|refine BP ?_)|(refine BK ?_;first|refine BS rfl rfl ?_|refine BT rfl rfl ?_|refine BU rfl ?_)|(refine BL ?_;first|refine BQ ?_)|(refine BR ?_;try simp only [setS]))|refine AA ?_|refine AC ?_|refine AD ?_|refine AE ?_|refine AF rfl rfl ?_|refine AG rfl rfl ?_|refine AH ?_|refine AI ?_|refine AJ ?_|refine AK ?_|refine AL ?_|refine AM ?_|refine AN ?_|refine AO ?_|refine AP ?_|refine AQ rfl ?_|refine AR ?_|refine AS ?_|refine AT rfl ?_|refine AU rfl ?_
  generalize h.push (.rw [.snil, .int .i64 0, .int .i64 0]) = h1 at K1 hg1 hb1
  have bad : ∀ {hh : Hp MD}, Keep NoB h1 hh → Keep NoB h (hh.put h.n (.rw [.snil, .int .i64 0, .int .i64 0])) := fun {hh} k => (K1.and k).own (Keep.put (S := OneB h.n) _ _ _ rfl) (fun k q => by have q : k = h.n := q; omega)
  cases hs : x.get nList with
  | none =>
    refine wr_call_e rfl ((w_read_none hE T.dread hg1 (by omega) hs).mono fun r h2 ⟨e2, e3⟩ => ?_)
    subst e2 e3
    repeat first|(refine BG ?_;first|(refine BH ?_;first|(refine BI ?_;refine BM ?_)|(refine BJ ?_;first|refine BN ?_|refine BO ?_)|refine BP ?_)|(refine BK ?_;first|refine BS rfl rfl ?_|refine BT rfl rfl ?_|refine BU rfl ?_)|(refine BL ?_;first|refine BW (ef_bxn hb1 rfl rfl rfl rfl (Nat.le_refl _)) ?_|refine BQ ?_)|(refine BR ?_;try simp only [setS]))|refine AA ?_|refine AC ?_|refine AD ?_|refine AE ?_|refine AF rfl rfl ?_|refine AG rfl rfl ?_|refine AH ?_|refine AI ?_|refine AJ ?_|refine AK ?_|refine AL ?_|refine AM ?_|refine AN ?_|refine AO ?_|refine AP ?_|refine AQ rfl ?_|refine AR ?_|refine AS ?_|refine AT rfl ?_|refine AU rfl ?_
    exact AT (res_ldn3 rfl hb1.put (Nat.le_refl _) rfl rfl) ⟨bad (Keep.refl _ _), rfl⟩
  | some m =>
    have hmb := hb m hs
    refine wr_call_e rfl ((w_read hE T.dread hg1 (by omega) hs).mono fun r h2 ⟨v, e2, k2, r2, b2⟩ => ?_)
    subst e2
    repeat first|(refine BG ?_;first|(refine BH ?_;first|(refine BI ?_;refine BM ?_)|(refine BJ ?_;first|refine BN ?_|refine BO ?_)|refine BP ?_)|(refine BK ?_;first|refine BS rfl rfl ?_|refine BT rfl rfl ?_|refine BU rfl ?_)|(refine BL ?_;first|refine BQ ?_)|(refine BR ?_;try simp only [setS]))|refine AA ?_|refine AC ?_|refine AD ?_|refine AE ?_|refine AF rfl rfl ?_|refine AG rfl rfl ?_|refine AH ?_|refine AI ?_|refine AJ ?_|refine AK ?_|refine AL ?_|refine AM ?_|refine AN ?_|refine AO ?_|refine AP ?_|refine AQ rfl ?_|refine AR ?_|refine AS ?_|refine AT rfl ?_|refine AU rfl ?_
    refine wr_call_e rfl ((frAll_ok hE T.frAll T.frLength T.get T.clone r2 hmb).mono fun r h3 ⟨rv, e3, k3, ⟨cells, o3, b3, i3⟩⟩ => ?_)
    subst e3
    unfold readF
    simp only [Option.map]
    have hrl := allG_le (m.b.length + 1) m.b
    generalize allG (m.b.length + 1) m.b = A at *
    obtain ⟨recs, en, fine⟩ := A
    simp only at o3 i3 hrl ⊢
    have r3 := r2.up k3
    have bx3 := (hb1.up k2).up k3
    have K3 := k2.and k3
    cases fine with
    | false =>
      repeat first|(refine BG ?_;first|(refine BH ?_;first|(refine BI ?_;refine BM ?_)|(refine BJ ?_;first|refine BN ?_|refine BO ?_)|refine BP ?_)|(refine BK ?_;first|refine BS rfl rfl ?_|refine BT rfl rfl ?_|refine BU rfl ?_)|(refine BL ?_;first|refine BW (ef_bxn bx3 rfl rfl rfl rfl (Nat.le_refl _)) ?_|refine BQ ?_)|(refine BR ?_;try simp only [setS]))|refine AA ?_|refine AC ?_|refine AD ?_|refine AE ?_|refine AF rfl rfl ?_|refine AG rfl rfl ?_|refine AH ?_|refine AI ?_|refine AJ ?_|refine AK ?_|refine AL ?_|refine AM ?_|refine AN ?_|refine AO ?_|refine AP ?_|refine AQ rfl ?_|refine AR ?_|refine AS ?_|refine AT rfl ?_|refine AU rfl ?_
      exact AT (res_ldn3 rfl bx3.put (Nat.le_refl _) rfl rfl) ⟨bad K3, by rw [if_pos (.inl (by trivial))]; rfl⟩
    | true =>
      by_cases hr1 : recs.length = 1
      · have h1' : ¬ ((recs.length : Int) ≠ 1) := by omega
        by_cases h2 : en = m.b.length
        · have h2' : ¬ ((en : Int) ≠ (m.b.length : Int)) := by omega
          obtain ⟨q, hq⟩ : ∃ q, recs[0]? = some q := ⟨recs[0]'(by omega), List.getElem?_eq_getElem (by omega)⟩
          obtain ⟨c, c1, c2, c3, c4⟩ := i3 0 q hq
          have hql := hrl q (List.mem_of_getElem? hq)
          obtain ⟨gg, oo, ca, cl⟩ := o3.rs.at2 (i := 0) (by omega)
          rw [c1] at cl
          have cl := @cl NoB _ (Keep.refl _ _) (fun _ _ q => q)
          have hq0 : recs.getD 0 [] = q := by rw [List.getD_eq_getElem?_getD, hq]; rfl
          rw [hq0]
          rw [if_neg (show ¬ (true = false ∨ recs.length ≠ 1 ∨ en ≠ m.b.length) by simp [hr1, h2])]
          repeat first|(refine BG ?_;first|(refine BH ?_;first|(refine BI ?_;refine BM ?_)|(refine BJ ?_;first|refine BN ?_|refine BO ?_)|refine BV (o3.rs.lenv (by rfl)) ?_|refine BV (r3.lenv (by rfl)) ?_|refine BV (ca rfl rfl) ?_|refine BV (cl rfl) ?_|refine BP ?_)|(refine BK ?_;first|refine BS rfl rfl ?_|refine BT rfl rfl ?_|refine BU rfl ?_)|(refine BL ?_;first|refine BQ ?_)|(refine BR ?_;try simp only [setS]))|refine AA ?_|refine AC ?_|refine AD ?_|refine AE ?_|refine AF rfl rfl ?_|refine AG rfl rfl ?_|refine AH ?_|refine AI ?_|refine AJ ?_|refine AK ?_|refine AL ?_|refine AM ?_|refine AN ?_|refine AO ?_|refine AP ?_|refine AQ rfl ?_|refine AR ?_|refine AS ?_|refine AT rfl ?_|refine AU rfl ?_
          refine wr_call_e rfl ((decode_ok hE T.toMfD c3 (by omega)).mono fun r h4 ⟨k4, d4⟩ => ?_)
          have bx4 := bx3.up k4
          have K4 := K3.and k4
          have hn4 := K4.n
          have hn1 := hb1.lt
          have b5 : Bx (h4.push (.rw [.snil, .int .i64 0, .int .i64 0])) h.n _ := bx4.up (Keep.push _ _ _)
          have b6 : Bx (h4.push (.rw [.snil, .int .i64 0, .int .i64 0])) h4.n _ := bx_push
          have K5 : Keep NoB h1 (h4.push (.rw [.snil, .int .i64 0, .int .i64 0])) := K4.and (Keep.push _ _ _)
          have hz4 : h.n ≠ h4.n := by omega
          cases hd : decP q with
          | none =>
            rw [hd] at d4
            simp only at d4
            subst d4
            have b7 := b5.put_ne (c := .rw [.snil, .int .i64 0, .int .i64 0]) hz4
            repeat first|(refine BG ?_;first|(refine BH ?_;first|(refine BI ?_;refine BM ?_)|(refine BJ ?_;first|refine BN ?_|refine BO ?_)|refine BP ?_)|(refine BK ?_;first|refine BS rfl rfl ?_|refine BT rfl rfl ?_|refine BU rfl ?_)|(refine BL ?_;first|refine BW (ef_bxn b6 rfl rfl rfl rfl (Nat.le_refl _)) ?_|refine BW (ef_bxn b7 rfl rfl rfl rfl (Nat.le_refl _)) ?_|refine BQ ?_)|(refine BR ?_;try simp only [setS]))|refine AA ?_|refine AC ?_|refine AD ?_|refine AE ?_|refine AF rfl rfl ?_|refine AG rfl rfl ?_|refine AH ?_|refine AI ?_|refine AJ ?_|refine AK ?_|refine AL ?_|refine AM ?_|refine AN ?_|refine AO ?_|refine AP ?_|refine AQ rfl ?_|refine AR ?_|refine AS ?_|refine AT rfl ?_|refine AU rfl ?_
            exact AT (res_ldn3 rfl b7.put (Nat.le_refl _) rfl rfl) ⟨bad (K5.own (Keep.put (S := OneB h4.n) _ _ _ rfl) (fun k q => by have q : k = h4.n := q; omega)), rfl⟩
          | some z =>
            obtain ⟨ts, w, n⟩ := z
            rw [hd] at d4
            obtain ⟨tv, e5, o5, lo5⟩ := d4
            subst e5
            have hall := one_all3 (b := .int .i64 w) (c := .int .i64 n) o5.one.2 rfl rfl
            have b7 := b5.put_ne (c := .rw [tv, .int .i64 w, .int .i64 n]) hz4
            have b8 := b6.put (r := [tv, .int .i64 w, .int .i64 n])
            have k8 : Keep (OneB h4.n) (h4.push (.rw [.snil, .int .i64 0, .int .i64 0])) ((h4.push (.rw [.snil, .int .i64 0, .int .i64 0])).put h4.n (.rw [tv, .int .i64 w, .int .i64 n])) := Keep.put _ _ _ rfl
            have o8 := (o5.up (Keep.push NoB h4 (.rw [.snil, .int .i64 0, .int .i64 0]))).keep k8 (fun k q1 q2 => by have := o5.lt k q1; have q2 : k = h4.n := q2; omega)
            repeat first|(refine BG ?_;first|(refine BH ?_;first|(refine BI ?_;refine BM ?_)|(refine BJ ?_;first|refine BN ?_|refine BO ?_)|refine BV (v_bxn b8 rfl (Nat.le_refl _)) ?_|refine BP ?_)|(refine BK ?_;first|refine BS rfl rfl ?_|refine BT rfl rfl ?_|refine BU rfl ?_)|(refine BL ?_;first|refine BW (ef_bxn b6 rfl rfl hall rfl (Nat.le_refl _)) ?_|refine BW (ef_bxn b7 rfl rfl hall rfl (Nat.le_refl _)) ?_|refine BQ ?_)|(refine BR ?_;try simp only [setS]))|refine AA ?_|refine AC ?_|refine AD ?_|refine AE ?_|refine AF rfl rfl ?_|refine AG rfl rfl ?_|refine AH ?_|refine AI ?_|refine AJ ?_|refine AK ?_|refine AL ?_|refine AM ?_|refine AN ?_|refine AO ?_|refine AP ?_|refine AQ rfl ?_|refine AR ?_|refine AS ?_|refine AT rfl ?_|refine AU rfl ?_
            have k9 : Keep (OneB h.n) ((h4.push (.rw [.snil, .int .i64 0, .int .i64 0])).put h4.n (.rw [tv, .int .i64 w, .int .i64 n])) _ := Keep.put _ _ (.rw [tv, .int .i64 w, .int .i64 n]) rfl
            refine AT (res_ldn3 rfl b7.put (Nat.le_refl _) rfl rfl) ⟨(K1.and (K5.own k8 (fun k q => by have q : k = h4.n := q; omega))).own k9 (fun k q => by have q : k = h.n := q; omega), tv, rfl, o8.keep k9 (fun k q1 q2 => ?_), fun k q1 => ?_⟩
            · have := lo5 k q1; have q2 : k = h.n := q2; have := K3.n; omega
            · have := lo5 k q1; have := K3.n; omega
        · have h2' : ((en : Int) ≠ (m.b.length : Int)) := by omega
          repeat first|(refine BG ?_;first|(refine BH ?_;first|(refine BI ?_;refine BM ?_)|(refine BJ ?_;first|refine BN ?_|refine BO ?_)|refine BV (o3.rs.lenv (by rfl)) ?_|refine BV (r3.lenv (by rfl)) ?_|refine BP ?_)|(refine BK ?_;first|refine BS rfl rfl ?_|refine BT rfl rfl ?_|refine BU rfl ?_)|(refine BL ?_;first|refine BW (ef_bxn bx3 rfl rfl rfl rfl (Nat.le_refl _)) ?_|refine BQ ?_)|(refine BR ?_;try simp only [setS]))|refine AA ?_|refine AC ?_|refine AD ?_|refine AE ?_|refine AF rfl rfl ?_|refine AG rfl rfl ?_|refine AH ?_|refine AI ?_|refine AJ ?_|refine AK ?_|refine AL ?_|refine AM ?_|refine AN ?_|refine AO ?_|refine AP ?_|refine AQ rfl ?_|refine AR ?_|refine AS ?_|refine AT rfl ?_|refine AU rfl ?_
          exact AT (res_ldn3 rfl bx3.put (Nat.le_refl _) rfl rfl) ⟨bad K3, by rw [if_pos (.inr (.inr h2))]; rfl⟩
      · have h1' : ((recs.length : Int) ≠ 1) := by omega
        repeat first|(refine BG ?_;first|(refine BH ?_;first|(refine BI ?_;refine BM ?_)|(refine BJ ?_;first|refine BN ?_|refine BO ?_)|refine BV (o3.rs.lenv (by rfl)) ?_|refine BP ?_)|(refine BK ?_;first|refine BS rfl rfl ?_|refine BT rfl rfl ?_|refine BU rfl ?_)|(refine BL ?_;first|refine BW (ef_bxn bx3 rfl rfl rfl rfl (Nat.le_refl _)) ?_|refine BQ ?_)|(refine BR ?_;try simp only [setS]))|refine AA ?_|refine AC ?_|refine AD ?_|refine AE ?_|refine AF rfl rfl ?_|refine AG rfl rfl ?_|refine AH ?_|refine AI ?_|refine AJ ?_|refine AK ?_|refine AL ?_|refine AM ?_|refine AN ?_|refine AO ?_|refine AP ?_|refine AQ rfl ?_|refine AR ?_|refine AS ?_|refine AT rfl ?_|refine AU rfl ?_
        exact AT (res_ldn3 rfl bx3.put (Nat.le_refl _) rfl rfl) ⟨bad K3, by rw [if_pos (.inr (.inl hr1))]; rfl⟩
end
end Am
end Go.Proofs.Ythgcdoahoechhaa
namespace Go.Proofs.Ythgcdoahoechhaa
namespace Am
open Go.RowKit
set_option maxRecDepth 100000
def b_Within : BF := ⟨33, [0, 1, 2, 6, 14, 23], (.seq (.reg [.mk none (.slot 3) (.mov (.mv (.const (.int .i64 0))))]) (.seq (.seq (.reg [.mk none (.env 7) (.mov (.mv (.slot 0))), .mk none (.env 8) (.mov (.mv (.slot 1))), .mk none (.env 9) (.mov (.bin .geq .no (.env 7) (.env 8))), .mk none (.env 10) (.mov (.mv (.env 9))), .mk (some ((.env 10), true)) (.env 11) (.mov (.mv (.slot 0))), .mk (some ((.env 10), true)) (.env 12) (.mov (.mv (.slot 2))), .mk (some ((.env 10), true)) (.env 13) (.mov (.bin .leq .no (.env 11) (.env 12))), .mk none (.slot 4) (.mov (.pick (.env 10) (.env 13) (.const (.bool false))))]) (.cond (.slot 4) (.seq (.reg [.mk none (.env 15) (.mov (.mv (.slot 0))), .mk none (.slot 3) (.mov (.mv (.env 15)))]) .ret) .skip)) (.seq (.reg [.mk none (.env 16) (.mov (.mv (.slot 0))), .mk none (.env 17) (.mov (.mv (.slot 2))), .mk none (.env 18) (.mov (.mv (.slot 1))), .mk none (.env 19) (.mov (.bin .sub .no (.env 17) (.env 18))), .mk none (.env 20) (.mov (.bin .add .no (.env 19) (.const (.int .i64 1)))), .mk none (.env 21) (.mov (.bin .rem .no (.env 16) (.env 20))), .mk none (.slot 0) (.mov (.mv (.env 21)))]) (.seq (.seq (.reg [.mk none (.env 22) (.mov (.mv (.slot 0))), .mk none (.slot 5) (.mov (.bin .lss .no (.env 22) (.const (.int .i64 0))))]) (.cond (.slot 5) (.reg [.mk none (.env 24) (.mov (.mv (.slot 0))), .mk none (.env 25) (.mov (.mv (.slot 2))), .mk none (.env 26) (.mov (.bin .add .no (.env 24) (.env 25))), .mk none (.env 27) (.mov (.mv (.slot 1))), .mk none (.env 28) (.mov (.bin .sub .no (.env 26) (.env 27))), .mk none (.env 29) (.mov (.bin .add .no (.env 28) (.const (.int .i64 1)))), .mk none (.slot 0) (.mov (.mv (.env 29)))]) .skip)) (.seq (.reg [.mk none (.env 30) (.mov (.mv (.slot 1))), .mk none (.env 31) (.mov (.mv (.slot 0))), .mk none (.env 32) (.mov (.bin .add .no (.env 30) (.env 31))), .mk none (.slot 3) (.mov (.mv (.env 32)))]) .ret))))), [.slot (.slot 3)]⟩
def b_keepCut : BF := ⟨13, [0, 1, 4, 8], (.seq (.reg [.mk none (.slot 2) (.mov (.mv (.const .snil)))]) (.seq (.seq (.reg [.mk none (.env 5) (.mov (.mv (.slot 0))), .mk none (.env 6) (.mov (.lenv (.env 5))), .mk none (.env 7) (.mov (.mv (.slot 1))), .mk none (.slot 3) (.mov (.bin .gtr .no (.env 6) (.env 7)))]) (.cond (.slot 3) (.seq (.reg [.mk none (.env 9) (.mov (.mv (.slot 0))), .mk none (.env 10) (.mov (.mv (.slot 1))), .mk none (.env 11) (.mov (.sl 1 (.env 9) none (some (.env 10)) none)), .mk none (.slot 2) (.mov (.mv (.env 11)))]) .ret) .skip)) (.seq (.reg [.mk none (.env 12) (.mov (.mv (.slot 0))), .mk none (.slot 2) (.mov (.mv (.env 12)))]) .ret))), [.slot (.slot 2)]⟩
def b_mfMade : BF := ⟨66, [0, 1, 2, 6, 7, 8, 9, 10, 11, 12, 24, 36, 50], (.seq (.reg [.mk none (.slot 3) (.eff (.alloc [.snil, (.int .i64 0), (.int .i64 0)]))]) (.seq (.reg [.mk none (.slot 4) (.eff (.alloc [.snil, (.int .i64 0), (.int .i64 0)]))]) (.seq (.reg [.mk none (.env 13) (.mov (.mv (.slot 1))), .mk none (.env 14) (.call 12 [(.env 13), (.const (.int .i64 0)), (.const (.int .i64 1000))]), .mk none (.slot 5) (.mov (.mv (.env 14)))]) (.seq (.reg [.mk none (.env 15) (.mov (.mv (.slot 5))), .mk none (.env 16) (.mov (.faddr 1 (.slot 4))), .mk none .none (.eff (.store 1 (.env 16) (.env 15)))]) (.seq (.seq (.reg [.mk none (.slot 6) (.mov (.mv (.const (.int .i64 0))))]) (.block 0 (.loop (.seq (.seq (.reg [.mk none (.env 17) (.mov (.mv (.slot 6))), .mk none (.env 18) (.mov (.mv (.slot 0))), .mk none (.env 19) (.mov (.lenv (.env 18))), .mk none (.env 20) (.mov (.bin .lss .no (.env 17) (.env 19))), .mk none (.env 21) (.mov (.mv (.env 20))), .mk (some ((.env 21), true)) (.env 22) (.mov (.mv (.slot 6))), .mk (some ((.env 21), true)) (.env 23) (.mov (.bin .lss .no (.env 22) (.const (.int .i64 12)))), .mk none (.slot 10) (.mov (.pick (.env 21) (.env 23) (.const (.bool false))))]) (.cond (.slot 10) .skip (.exit 0))) (.seq (.block 1 (.seq (.reg [.mk none (.env 27) (.mov (.mv (.slot 0))), .mk none (.env 28) (.mov (.mv (.slot 6))), .mk none (.env 29) (.mov (.iaddr 1 (.env 27) (.env 28))), .mk none (.env 30) (.mov (.ld1 (.env 29))), .mk none (.env 31) (.call 12 [(.env 30), (.const (.int .i64 0)), (.const (.int .i64 5000))]), .mk none (.slot 7) (.mov (.mv (.env 31)))]) (.seq (.reg [.mk none (.slot 8) (.mov (.mv (.const (.bool false))))]) (.seq (.seq (.reg [.mk none (.slot 9) (.mov (.mv (.const (.int .i64 0))))]) (.block 2 (.loop (.seq (.seq (.reg [.mk none (.env 32) (.mov (.mv (.slot 9))), .mk none (.env 33) (.mov (.faddr 0 (.slot 4))), .mk none (.env 34) (.mov (.ld1 (.env 33))), .mk none (.env 35) (.mov (.lenv (.env 34))), .mk none (.slot 11) (.mov (.bin .lss .no (.env 32) (.env 35)))]) (.cond (.slot 11) .skip (.exit 2))) (.seq (.block 3 (.reg [.mk none (.env 39) (.mov (.mv (.slot 8))), .mk none (.env 40) (.mov (.mv (.env 39))), .mk (some ((.env 40), false)) (.env 41) (.mov (.faddr 0 (.slot 4))), .mk (some ((.env 40), false)) (.env 42) (.mov (.ld1 (.env 41))), .mk (some ((.env 40), false)) (.env 43) (.mov (.mv (.slot 9))), .mk (some ((.env 40), false)) (.env 44) (.mov (.iaddr 1 (.env 42) (.env 43))), .mk (some ((.env 40), false)) (.env 45) (.mov (.ld1 (.env 44))), .mk (some ((.env 40), false)) (.env 46) (.mov (.mv (.slot 7))), .mk (some ((.env 40), false)) (.env 47) (.mov (.bin .eql .no (.env 45) (.env 46))), .mk none (.env 48) (.mov (.pick (.env 40) (.const (.bool true)) (.env 47))), .mk none (.slot 8) (.mov (.mv (.env 48)))])) (.reg [.mk none (.env 37) (.mov (.mv (.slot 9))), .mk none (.env 38) (.mov (.bin .add .no (.env 37) (.const (.int .i64 1)))), .mk none (.slot 9) (.mov (.mv (.env 38)))])))))) (.seq (.seq (.reg [.mk none (.env 49) (.mov (.mv (.slot 8))), .mk none (.slot 12) (.mov (.notb (.env 49)))]) (.cond (.slot 12) (.reg [.mk none (.env 51) (.mov (.faddr 0 (.slot 4))), .mk none (.env 52) (.mov (.ld1 (.env 51))), .mk none (.env 53) (.mov (.mv (.slot 7))), .mk none (.env 54) (.eff (.bslice 1 1 [(.int .i64 0)] [(0, 1, (.env 53))])), .mk none (.env 55) (.eff (.append 1 8 (.env 52) (.env 54))), .mk none (.env 56) (.mov (.faddr 0 (.slot 4))), .mk none .none (.eff (.store 1 (.env 56) (.env 55)))]) .skip)) (.reg [.mk none (.env 57) (.mov (.mv (.slot 5))), .mk none (.env 58) (.mov (.mv (.slot 7))), .mk none (.env 59) (.mov (.maxv (.env 57) (.env 58))), .mk none (.slot 5) (.mov (.mv (.env 59)))])))))) (.reg [.mk none (.env 25) (.mov (.mv (.slot 6))), .mk none (.env 26) (.mov (.bin .add .no (.env 25) (.const (.int .i64 1)))), .mk none (.slot 6) (.mov (.mv (.env 26)))])))))) (.seq (.reg [.mk none (.env 60) (.mov (.mv (.slot 5))), .mk none (.env 61) (.mov (.mv (.slot 2))), .mk none (.env 62) (.call 12 [(.env 61), (.const (.int .i64 1)), (.const (.int .i64 9))]), .mk none (.env 63) (.mov (.bin .add .no (.env 60) (.env 62))), .mk none (.env 64) (.mov (.faddr 2 (.slot 4))), .mk none .none (.eff (.store 1 (.env 64) (.env 63)))]) (.seq (.reg [.mk none (.env 65) (.mov (.ldn 3 (.slot 4))), .mk none .none (.eff (.store 3 (.slot 3) (.env 65)))]) .ret))))))), [.celln 3 (.slot 3)]⟩
def withinF (n lo hi : Int) : Int := if lo ≤ n ∧ n ≤ hi then n else lo + (if n.tmod (hi - lo + 1) < 0 then n.tmod (hi - lo + 1) + hi - lo + 1 else n.tmod (hi - lo + 1))
theorem tmod_bounds {n m : Int} (hm : 0 < m) : -m < n.tmod m ∧ n.tmod m < m := by
  have h1 := Int.tmod_lt_of_pos n hm
  have h2 : -m < n.tmod m := by
    have := Int.tmod_lt_of_pos (-n) hm
    rw [Int.neg_tmod] at this
    omega
  exact ⟨h2, h1⟩
theorem withinF_in {n lo hi : Int} (h : lo ≤ hi) : lo ≤ withinF n lo hi ∧ withinF n lo hi ≤ hi := by
  unfold withinF
  split
  · assumption
  · have := tmod_bounds (n := n) (m := hi - lo + 1) (by omega)
    split <;> omega
section
variable {e : En} {t : List AV} {X : Type} {h : Hp X}
theorem v_rem {q : Eq} {x y : Od} {k : IntKind} {a b : Int} (hx : x.ev e t = .int k a) (hy : y.ev e t = .int k b) (hb : b ≠ 0) : (Mv.bin .rem q x y).ev e t h = some (.int k (a.tmod b)) := by
  simp [Mv.ev, hx, hy, Am.bin, AV.onInt, intOp, isShift, hb]
theorem v_addu {q : Eq} {x y : Od} {a b : Nat} (hx : x.ev e t = .int .u64 (a : Int)) (hy : y.ev e t = .int .u64 (b : Int)) (hc : a + b < 18446744073709551616) : (Mv.bin .add q x y).ev e t h = some (.int .u64 ((a + b : Nat) : Int)) := by
  have e4 : wr .u64 ((a : Int) + (b : Int)) = ((a + b : Nat) : Int) := by
    have e3 : ((a : Int) + (b : Int)) % 2 ^ 64 = ((a + b : Nat) : Int) := by omega
    simp only [wr, IntKind.wrap, IntKind.signed, IntKind.bits, e3]
    simp
  simp [Mv.ev, hx, hy, Am.bin, AV.onInt, intOp, isShift, e4]
theorem v_subu {q : Eq} {x y : Od} {a b : Nat} (hx : x.ev e t = .int .u64 (a : Int)) (hy : y.ev e t = .int .u64 (b : Int)) (hc : b ≤ a) (ha : a < 18446744073709551616) : (Mv.bin .sub q x y).ev e t h = some (.int .u64 ((a - b : Nat) : Int)) := by
  have e4 : wr .u64 ((a : Int) - (b : Int)) = ((a - b : Nat) : Int) := by
    have e3 : ((a : Int) - (b : Int)) % 2 ^ 64 = ((a - b : Nat) : Int) := by omega
    simp only [wr, IntKind.wrap, IntKind.signed, IntKind.bits, e3]
    simp
  simp [Mv.ev, hx, hy, Am.bin, AV.onInt, intOp, isShift, e4]
end
section
variable {X : Type} {E : Nat → Option (Ent X)}
theorem within_ok (hE : ∀ f e, E f = some e → e.plain) (hf : E 12 = some (.bc b_Within)) {h : Hp X} {n lo hi : Int} (hn : I64 n) (h1 : -1000000000 ≤ lo) (h2 : lo ≤ hi) (h3 : hi ≤ 1000000000) :
    WF (lim E) 12 [.int .i64 n, .int .i64 lo, .int .i64 hi] h fun r h' => h' = h ∧ r = .int .i64 (withinF n lo hi) := by
  refine wf_bc hE hf rfl ?_
  simp only [b_Within, List.map, getS]
  obtain ⟨n1, n2⟩ := hn
  unfold withinF
  by_cases c1 : lo ≤ n
  · by_cases c2 : n ≤ hi
    · rw [if_pos ⟨c1, c2⟩]
      repeat first|(refine BG ?_;first|(refine BH ?_;first|(refine BI ?_;refine BM ?_)|(refine BJ ?_;first|refine BN ?_|refine BO ?_)|refine BP ?_)|(refine BK ?_;first|refine BS rfl rfl ?_|refine BT rfl rfl ?_|refine BU rfl ?_)|(refine BL ?_;first|refine BQ ?_)|(refine BR ?_;try simp only [setS]))|refine AA ?_|refine AC ?_|refine AD ?_|refine AE ?_|refine AF rfl rfl ?_|refine AG rfl rfl ?_|refine AH ?_|refine AI ?_|refine AJ ?_|refine AK ?_|refine AL ?_|refine AM ?_|refine AN ?_|refine AO ?_|refine AP ?_|refine AQ rfl ?_|refine AR ?_|refine AS ?_|refine AT rfl ?_|refine AU rfl ?_
      exact ⟨rfl, rfl⟩
    · rw [if_neg (fun q => c2 q.2)]
      have := tmod_bounds (n := n) (m := hi - lo + 1) (by omega)
      by_cases c3 : n.tmod (hi - lo + 1) < 0
      · rw [if_pos c3]
        repeat first|(refine BG ?_;first|(refine BH ?_;first|(refine BI ?_;refine BM ?_)|(refine BJ ?_;first|refine BN ?_|refine BO ?_)|refine BV (v_rem rfl rfl (by omega)) ?_|refine BP ?_)|(refine BK ?_;first|refine BS rfl rfl ?_|refine BT rfl rfl ?_|refine BU rfl ?_)|(refine BL ?_;first|refine BQ ?_)|(refine BR ?_;try simp only [setS]))|refine AA ?_|refine AC ?_|refine AD ?_|refine AE ?_|refine AF rfl rfl ?_|refine AG rfl rfl ?_|refine AH ?_|refine AI ?_|refine AJ ?_|refine AK ?_|refine AL ?_|refine AM ?_|refine AN ?_|refine AO ?_|refine AP ?_|refine AQ rfl ?_|refine AR ?_|refine AS ?_|refine AT rfl ?_|refine AU rfl ?_
        exact ⟨rfl, rfl⟩
      · rw [if_neg c3]
        repeat first|(refine BG ?_;first|(refine BH ?_;first|(refine BI ?_;refine BM ?_)|(refine BJ ?_;first|refine BN ?_|refine BO ?_)|refine BV (v_rem rfl rfl (by omega)) ?_|refine BP ?_)|(refine BK ?_;first|refine BS rfl rfl ?_|refine BT rfl rfl ?_|refine BU rfl ?_)|(refine BL ?_;first|refine BQ ?_)|(refine BR ?_;try simp only [setS]))|refine AA ?_|refine AC ?_|refine AD ?_|refine AE ?_|refine AF rfl rfl ?_|refine AG rfl rfl ?_|refine AH ?_|refine AI ?_|refine AJ ?_|refine AK ?_|refine AL ?_|refine AM ?_|refine AN ?_|refine AO ?_|refine AP ?_|refine AQ rfl ?_|refine AR ?_|refine AS ?_|refine AT rfl ?_|refine AU rfl ?_
        exact ⟨rfl, rfl⟩
  · rw [if_neg (fun q => c1 q.1)]
    have := tmod_bounds (n := n) (m := hi - lo + 1) (by omega)
    by_cases c3 : n.tmod (hi - lo + 1) < 0
    · rw [if_pos c3]
      repeat first|(refine BG ?_;first|(refine BH ?_;first|(refine BI ?_;refine BM ?_)|(refine BJ ?_;first|refine BN ?_|refine BO ?_)|refine BV (v_rem rfl rfl (by omega)) ?_|refine BP ?_)|(refine BK ?_;first|refine BS rfl rfl ?_|refine BT rfl rfl ?_|refine BU rfl ?_)|(refine BL ?_;first|refine BQ ?_)|(refine BR ?_;try simp only [setS]))|refine AA ?_|refine AC ?_|refine AD ?_|refine AE ?_|refine AF rfl rfl ?_|refine AG rfl rfl ?_|refine AH ?_|refine AI ?_|refine AJ ?_|refine AK ?_|refine AL ?_|refine AM ?_|refine AN ?_|refine AO ?_|refine AP ?_|refine AQ rfl ?_|refine AR ?_|refine AS ?_|refine AT rfl ?_|refine AU rfl ?_
      exact ⟨rfl, rfl⟩
    · rw [if_neg c3]
      repeat first|(refine BG ?_;first|(refine BH ?_;first|(refine BI ?_;refine BM ?_)|(refine BJ ?_;first|refine BN ?_|refine BO ?_)|refine BV (v_rem rfl rfl (by omega)) ?_|refine BP ?_)|(refine BK ?_;first|refine BS rfl rfl ?_|refine BT rfl rfl ?_|refine BU rfl ?_)|(refine BL ?_;first|refine BQ ?_)|(refine BR ?_;try simp only [setS]))|refine AA ?_|refine AC ?_|refine AD ?_|refine AE ?_|refine AF rfl rfl ?_|refine AG rfl rfl ?_|refine AH ?_|refine AI ?_|refine AJ ?_|refine AK ?_|refine AL ?_|refine AM ?_|refine AN ?_|refine AO ?_|refine AP ?_|refine AQ rfl ?_|refine AR ?_|refine AS ?_|refine AT rfl ?_|refine AU rfl ?_
      exact ⟨rfl, rfl⟩
theorem cut_ok (hE : ∀ f e, E f = some e → e.plain) (hf : E 27 = some (.bc b_keepCut)) {h : Hp X} {v : AV} {bs : List UInt8} (hr : RS h 1 v bs.length (bs.map ub)) {n : Nat} (hn : n ≤ 1000000) :
    WF (lim E) 27 [v, .int .i64 n] h fun r h' => h' = h ∧ RS h 1 r (bs.take n).length ((bs.take n).map ub) ∧ (∀ k, blk r k → blk v k) ∧ (v ≠ .semp → r ≠ .semp) := by
  refine wf_bc hE hf rfl ?_
  simp only [b_keepCut, List.map, getS]
  by_cases hc : (n : Int) < bs.length
  · obtain ⟨v2, q1, q2, q3, q4⟩ := hr.bytes (lo := 0) (hi := n) (Nat.zero_le _) (by omega)
    rw [List.drop_zero, Nat.sub_zero] at q1
    repeat first|(refine BG ?_;first|(refine BH ?_;first|(refine BI ?_;refine BM ?_)|(refine BJ ?_;first|refine BN ?_|refine BO ?_)|refine BV (hr.lenv (by rfl)) ?_|refine BV (q4 (by rfl) (.inl ⟨rfl, rfl⟩) (.inr ⟨_, _, rfl, rfl⟩)) ?_|refine BP ?_)|(refine BK ?_;first|refine BS rfl rfl ?_|refine BT rfl rfl ?_|refine BU rfl ?_)|(refine BL ?_;first|refine BQ ?_)|(refine BR ?_;try simp only [setS]))|refine AA ?_|refine AC ?_|refine AD ?_|refine AE ?_|refine AF rfl rfl ?_|refine AG rfl rfl ?_|refine AH ?_|refine AI ?_|refine AJ ?_|refine AK ?_|refine AL ?_|refine AM ?_|refine AN ?_|refine AO ?_|refine AP ?_|refine AQ rfl ?_|refine AR ?_|refine AS ?_|refine AT rfl ?_|refine AU rfl ?_
    exact ⟨rfl, q1, q2, q3⟩
  · repeat first|(refine BG ?_;first|(refine BH ?_;first|(refine BI ?_;refine BM ?_)|(refine BJ ?_;first|refine BN ?_|refine BO ?_)|refine BV (hr.lenv (by rfl)) ?_|refine BP ?_)|(refine BK ?_;first|refine BS rfl rfl ?_|refine BT rfl rfl ?_|refine BU rfl ?_)|(refine BL ?_;first|refine BQ ?_)|(refine BR ?_;try simp only [setS]))|refine AA ?_|refine AC ?_|refine AD ?_|refine AE ?_|refine AF rfl rfl ?_|refine AG rfl rfl ?_|refine AH ?_|refine AI ?_|refine AJ ?_|refine AK ?_|refine AL ?_|refine AM ?_|refine AN ?_|refine AO ?_|refine AP ?_|refine AQ rfl ?_|refine AR ?_|refine AS ?_|refine AT rfl ?_|refine AU rfl ?_
    refine ⟨rfl, ?_, fun k q => q, fun q => q⟩
    rw [List.take_of_length_le (by omega)]
    exact hr
def goM : List Int → List Int → Int → List Int × Int
  | [], tabs, top => (tabs, top)
  | x :: r, tabs, top => goM r (if withinF x 0 5000 ∈ tabs then tabs else tabs ++ [withinF x 0 5000]) (max top (withinF x 0 5000))
def madeF (l : List Int) (wal more : Int) : List Int × Int × Int :=
  ((goM (l.take 12) [] (withinF wal 0 1000)).1, withinF wal 0 1000, (goM (l.take 12) [] (withinF wal 0 1000)).2 + withinF more 1 9)
structure GoI (tabs : List Int) (top : Int) (k : Nat) : Prop where
  len : tabs.length ≤ k
  lo : 0 ≤ top
  hi : top ≤ 5000
  all : ∀ x ∈ tabs, 0 ≤ x ∧ x ≤ top
  nd : tabs.Nodup
theorem goM_ok : ∀ {r tabs : List Int} {top : Int} {k : Nat}, GoI tabs top k → GoI (goM r tabs top).1 (goM r tabs top).2 (k + r.length) ∧ top ≤ (goM r tabs top).2
  | [], tabs, top, k, h => ⟨h, Int.le_refl _⟩
  | x :: r, tabs, top, k, h => by
    have hw := withinF_in (n := x) (lo := 0) (hi := 5000) (by omega)
    have h1 := h.lo; have h2 := h.hi; have h3 := h.len
    have step : GoI (if withinF x 0 5000 ∈ tabs then tabs else tabs ++ [withinF x 0 5000]) (max top (withinF x 0 5000)) (k + 1) := by
      refine ⟨?_, by omega, by omega, fun y hy => ?_, ?_⟩
      · split
        · omega
        · rw [List.length_append]; simp; omega
      · split at hy
        · have := h.all y hy; omega
        · rcases List.mem_append.1 hy with hy | hy
          · have := h.all y hy; omega
          · simp at hy; omega
      · split
        · exact h.nd
        · rename_i hm
          rw [List.nodup_append]
          refine ⟨h.nd, by simp, fun a ha b hb e => ?_⟩
          simp at hb
          subst hb
          exact hm (e ▸ ha)
    obtain ⟨i1, i2⟩ := goM_ok (r := r) step
    rw [goM]
    refine ⟨?_, by omega⟩
    have e : k + (x :: r).length = k + 1 + r.length := by simp; omega
    rw [e]
    exact i1
theorem madeF_may (l : List Int) (wal more : Int) : MayP (madeF l wal more).1 (madeF l wal more).2.1 (madeF l wal more).2.2 := by
  have h1 := withinF_in (n := wal) (lo := 0) (hi := 1000) (by omega)
  have h2 := withinF_in (n := more) (lo := 1) (hi := 9) (by omega)
  obtain ⟨g, hm⟩ := goM_ok (r := l.take 12) (tabs := []) (top := withinF wal 0 1000) (k := 0) ⟨by simp, by omega, by omega, by simp, by simp⟩
  have hl : (l.take 12).length ≤ 12 := by rw [List.length_take]; omega
  have := g.len; have := g.hi
  unfold madeF
  exact ⟨by simp only; omega, by simp only; omega, by simp only; omega, by simp only; omega, fun x hx => by have := g.all x hx; simp only; omega, g.nd⟩
theorem goM_take {l : List Int} {i : Nat} (hi : i < l.length) (tabs : List Int) (top : Int) : goM (l.drop i) tabs top = goM (l.drop (i + 1)) (if withinF (l.getD i 0) 0 5000 ∈ tabs then tabs else tabs ++ [withinF (l.getD i 0) 0 5000]) (max top (withinF (l.getD i 0) 0 5000)) := by
  rw [List.drop_eq_getElem_cons hi, List.getD_eq_getElem?_getD, List.getElem?_eq_getElem hi]
  rfl
theorem max_ite (a b : Int) : (if b > a then b else a) = max a b := by split <;> omega
set_option maxHeartbeats 4000000 in
theorem made_ok (hE : ∀ f e, E f = some e → e.plain) (hf : E 34 = some (.bc b_mfMade)) (hw : E 12 = some (.bc b_Within)) {h : Hp X} {v : AV} {l : List Int} {wal more : Int} (hr : RS h 1 v l.length (l.map iv)) (hl : ∀ x ∈ l, I64 x) (hlen : l.length ≤ maxLen) (h1 : I64 wal) (hmore : I64 more) :
    WF (lim E) 34 [v, .int .i64 wal, .int .i64 more] h fun r h' => ∃ tv, r = LsV tv (madeF l wal more).2.1 (madeF l wal more).2.2 ∧ Keep NoB h h' ∧ OS h' 1 tv (madeF l wal more).1.length ((madeF l wal more).1.map iv) ∧ ∀ k, blk tv k → h.n ≤ k := by
  refine wf_bc hE hf rfl ?_
  simp only [b_mfMade, List.map, getS]
  have hmx : (maxLen : Nat) = 9223372036854775807 := rfl
  have hw1 := withinF_in (n := wal) (lo := 0) (hi := 1000) (by omega)
  have hw2 := withinF_in (n := more) (lo := 1) (hi := 9) (by omega)
  repeat first|(refine BG ?_;first|(refine BH ?_;first|(refine BI ?_;refine BM ?_)|(refine BJ ?_;first|refine BN ?_|refine BO ?_)|refine BP ?_)|(refine BK ?_;first|refine BS rfl rfl ?_|refine BT rfl rfl ?_|refine BU rfl ?_)|(refine BL ?_;first|refine BQ ?_)|(refine BR ?_;try simp only [setS]))|refine AA ?_|refine AC ?_|refine AD ?_|refine AE ?_|refine AF rfl rfl ?_|refine AG rfl rfl ?_|refine AH ?_|refine AI ?_|refine AJ ?_|refine AK ?_|refine AL ?_|refine AM ?_|refine AN ?_|refine AO ?_|refine AP ?_|refine AQ rfl ?_|refine AR ?_|refine AS ?_|refine AT rfl ?_|refine AU rfl ?_
  refine wr_call_e rfl ((within_ok hE hw h1 (lo := 0) (hi := 1000) (by omega) (by omega) (by omega)).mono fun r h2 ⟨e2, e3⟩ => ?_)
  subst e3
  have B3 : Bx h2 h.n [.snil, .int .i64 0, .int .i64 0] := by rw [e2]; exact bx_push.up (Keep.push _ _ _)
  have B4 : Bx h2 (h.n + 1) [.snil, .int .i64 0, .int .i64 0] := by rw [e2]; exact bx_push
  have K2 : Keep NoB h h2 := by rw [e2]; exact (Keep.push _ _ _).and (Keep.push _ _ _)
  clear e2
  simp only [push_n]
  unfold madeF
  generalize withinF wal 0 1000 = w0 at *
  generalize hm0 : withinF more 1 9 = m0 at *
  repeat first|(refine BG ?_;first|(refine BH ?_;first|(refine BI ?_;refine BM ?_)|(refine BJ ?_;first|refine BN ?_|refine BO ?_)|refine BP ?_)|(refine BK ?_;first|refine BS rfl rfl ?_|refine BT rfl rfl ?_|refine BU rfl ?_)|(refine BL ?_;first|refine BW (ef_bx B4 rfl rfl ⟨rfl, rfl⟩ (Nat.succ_lt_succ (Nat.zero_lt_succ _))) ?_|refine BQ ?_)|(refine BR ?_;try simp only [setS]))|refine AA ?_|refine AC ?_|refine AD ?_|refine AE ?_|refine AF rfl rfl ?_|refine AG rfl rfl ?_|refine AH ?_|refine AI ?_|refine AJ ?_|refine AK ?_|refine AL ?_|refine AM ?_|refine AN ?_|refine AO ?_|refine AP ?_|refine AQ rfl ?_|refine AR ?_|refine AS ?_|refine AT rfl ?_|refine AU rfl ?_
  have k3 : Keep (OneB (h.n + 1)) h2 (h2.put (h.n + 1) (.rw [.snil, .int .i64 w0, .int .i64 0])) := Keep.put _ _ _ rfl
  have hLl : (l.take 12).length ≤ 12 := by rw [List.length_take]; omega
  have hLl2 : (l.take 12).length ≤ l.length := by rw [List.length_take]; omega
  have hLl3 : (l.take 12).length = 12 ∨ (l.take 12).length = l.length := by rw [List.length_take]; omega
  have hLg : ∀ i, i < (l.take 12).length → (l.take 12).getD i 0 = l.getD i 0 := fun i hi => by
    rw [List.getD_eq_getElem?_getD, List.getElem?_take_of_lt (by omega), List.getD_eq_getElem?_getD]
  have hLx : ∀ i, i < (l.take 12).length → I64 (l.getD i 0) := fun i hi => hl _ (by rw [List.getD_eq_getElem?_getD, List.getElem?_eq_getElem (by omega)]; exact List.getElem_mem _)
  generalize l.take 12 = L at *
  obtain ⟨Q, hQ⟩ : ∃ Q, goM L [] w0 = Q := ⟨_, rfl⟩
  rw [hQ]
  have hQ0 : goM (L.drop 0) [] w0 = Q := by rw [List.drop_zero]; exact hQ
  refine wb_loop (fun n t h' => ∃ (i : Nat) (tv s7 s8 s9 s10 s11 s12 : AV) (tabs : List Int) (top : Int), i ≤ L.length ∧ n = L.length - i ∧ Keep NoB h h' ∧ Bx h' h.n [.snil, .int .i64 0, .int .i64 0] ∧ Bx h' (h.n + 1) [tv, .int .i64 w0, .int .i64 0] ∧ OS h' 1 tv tabs.length (tabs.map iv) ∧ (∀ j, blk tv j → h.n + 1 < j) ∧ tabs.length ≤ i ∧ 0 ≤ top ∧ top ≤ 5000 ∧ goM (L.drop i) tabs top = Q ∧
    t = [v, .int .i64 wal, .int .i64 more, .ptr h.n 0, .ptr (h.n + 1) 0, .int .i64 top, .int .i64 i, s7, s8, s9, s10, s11, s12]) ?_ L.length _ _
    ⟨0, .snil, _, _, _, _, _, _, [], w0, by omega, by omega, K2.own k3 (fun k q => by have q : k = h.n + 1 := q; omega), B3.put_ne (by omega), B4.put, ⟨rfl, rfl⟩, (fun j q => q.elim), by simp, by omega, by omega, hQ0, rfl⟩
  rintro n t h' ⟨i, tv, s7, s8, s9, s10, s11, s12, tabs, top, hi, hn, K, b3, b4, ot, lo, htl, t0, t1, hg, rfl⟩
  have hr' := hr.up K
  by_cases hlt : i < L.length
  · obtain ⟨gg, oo, ca, cl⟩ := hr'.at2 (i := i) (by omega)
    have hmi := map_at (l := l) (i := (i : Int)) (by omega) (by omega)
    rw [Int.toNat_natCast] at hmi
    rw [hmi] at cl
    have cl := @cl NoB _ (Keep.refl _ _) (fun _ _ q => q)
    rw [goM_take hlt, hLg i hlt] at hg
    have hx := hLx i hlt
    generalize l.getD i 0 = x at *
    repeat first|(refine BG ?_;first|(refine BH ?_;first|(refine BI ?_;refine BM ?_)|(refine BJ ?_;first|refine BN ?_|refine BO ?_)|refine BV (hr'.lenv (by rfl)) ?_|refine BV (ca rfl rfl) ?_|refine BV (cl rfl) ?_|refine BP ?_)|(refine BK ?_;first|refine BS rfl rfl ?_|refine BT rfl rfl ?_|refine BU rfl ?_)|(refine BL ?_;first|refine BQ ?_)|(refine BR ?_;try simp only [setS]))|refine AA ?_|refine AC ?_|refine AD ?_|refine AE ?_|refine AF rfl rfl ?_|refine AG rfl rfl ?_|refine AH ?_|refine AI ?_|refine AJ ?_|refine AK ?_|refine AL ?_|refine AM ?_|refine AN ?_|refine AO ?_|refine AP ?_|refine AQ rfl ?_|refine AR ?_|refine AS ?_|refine AT rfl ?_|refine AU rfl ?_
    refine wr_call_e rfl ((within_ok hE hw hx (lo := 0) (hi := 5000) (by omega) (by omega) (by omega)).mono fun r h4 ⟨e4, e5⟩ => ?_)
    subst e4 e5
    have hy := withinF_in (n := x) (lo := 0) (hi := 5000) (by omega)
    generalize withinF x 0 5000 = y at *
    repeat first|(refine BG ?_;first|(refine BH ?_;first|(refine BI ?_;refine BM ?_)|(refine BJ ?_;first|refine BN ?_|refine BO ?_)|refine BP ?_)|(refine BK ?_;first|refine BS rfl rfl ?_|refine BT rfl rfl ?_|refine BU rfl ?_)|(refine BL ?_;first|refine BQ ?_)|(refine BR ?_;try simp only [setS]))|refine AA ?_|refine AC ?_|refine AD ?_|refine AE ?_|refine AF rfl rfl ?_|refine AG rfl rfl ?_|refine AH ?_|refine AI ?_|refine AJ ?_|refine AK ?_|refine AL ?_|refine AM ?_|refine AN ?_|refine AO ?_|refine AP ?_|refine AQ rfl ?_|refine AR ?_|refine AS ?_|refine AT rfl ?_|refine AU rfl ?_
    refine wb_loop (fun m t h5 => h5 = h4 ∧ ∃ (k : Nat) (s11' : AV), k ≤ tabs.length ∧ m = tabs.length - k ∧
      t = [v, .int .i64 wal, .int .i64 more, .ptr h.n 0, .ptr (h.n + 1) 0, .int .i64 top, .int .i64 i, .int .i64 y, .bool (decide (y ∈ tabs.take k)), .int .i64 k, .bool true, s11', s12]) ?_ tabs.length _ _ ⟨rfl, 0, _, by omega, by omega, by simp; rfl⟩
    rintro m t h5 ⟨rfl, k, s11', hk, hm, rfl⟩
    by_cases hkl : k < tabs.length
    · obtain ⟨ga, oa, da, dl⟩ := ot.rs.at2 (i := k) hkl
      have hmk := map_at (l := tabs) (i := (k : Int)) (by omega) (by omega)
      rw [Int.toNat_natCast] at hmk
      rw [hmk] at dl
      have dl := @dl NoB _ (Keep.refl _ _) (fun _ _ q => q)
      have hts : tabs.take (k + 1) = tabs.take k ++ [tabs.getD k 0] := by
        rw [List.take_succ_eq_append_getElem hkl, List.getD_eq_getElem?_getD, List.getElem?_eq_getElem hkl]; rfl
      have hdn : decide (y ∈ tabs.take (k + 1)) = (decide (y ∈ tabs.take k) || decide (tabs.getD k 0 = y)) := by
        rw [hts]
        simp only [List.mem_append, List.mem_singleton, Bool.decide_or, eq_comm]
      have rest : ∀ (Q : R X → Prop) (c : Bool), c = decide (y ∈ tabs.take (k + 1)) → ∀ s11'' : AV, roundR (fun m t h5' => h5' = h5 ∧ ∃ (k : Nat) (s11' : AV), k ≤ tabs.length ∧ m = tabs.length - k ∧
          t = [v, .int .i64 wal, .int .i64 more, .ptr h.n 0, .ptr (h.n + 1) 0, .int .i64 top, .int .i64 i, .int .i64 y, .bool (decide (y ∈ tabs.take k)), .int .i64 k, .bool true, s11', s12]) m Q
          (.norm [v, .int .i64 wal, .int .i64 more, .ptr h.n 0, .ptr (h.n + 1) 0, .int .i64 top, .int .i64 i, .int .i64 y, .bool c, .int .i64 ((k : Int) + 1), .bool true, s11'', s12] h5) := fun Q c hc s11'' =>
        round_norm (m - 1) (by omega) ⟨rfl, k + 1, s11'', by omega, by omega, by rw [hc]; rfl⟩
      cases hb : decide (y ∈ tabs.take k) with
      | true =>
        repeat first|(refine BG ?_;first|(refine BH ?_;first|(refine BI ?_;refine BM ?_)|(refine BJ ?_;first|refine BN ?_|refine BO ?_)|refine BV (v_bx b4 rfl rfl) ?_|refine BV (ot.rs.lenv (by rfl)) ?_|refine BP ?_)|(refine BK ?_;first|refine BS rfl rfl ?_|refine BT rfl rfl ?_|refine BU rfl ?_)|(refine BL ?_;first|refine BQ ?_)|(refine BR ?_;try simp only [setS]))|refine AA ?_|refine AC ?_|refine AD ?_|refine AE ?_|refine AF rfl rfl ?_|refine AG rfl rfl ?_|refine AH ?_|refine AI ?_|refine AJ ?_|refine AK ?_|refine AL ?_|refine AM ?_|refine AN ?_|refine AO ?_|refine AP ?_|refine AQ rfl ?_|refine AR ?_|refine AS ?_|refine AT rfl ?_|refine AU rfl ?_
        exact rest _ true (by rw [hdn, hb]; rfl) _
      | false =>
        by_cases he : tabs.getD k 0 = y
        · repeat first|(refine BG ?_;first|(refine BH ?_;first|(refine BI ?_;refine BM ?_)|(refine BJ ?_;first|refine BN ?_|refine BO ?_)|refine BV (v_bx b4 rfl rfl) ?_|refine BV (ot.rs.lenv (by rfl)) ?_|refine BV (da rfl rfl) ?_|refine BV (dl rfl) ?_|refine BP ?_)|(refine BK ?_;first|refine BS rfl rfl ?_|refine BT rfl rfl ?_|refine BU rfl ?_)|(refine BL ?_;first|refine BQ ?_)|(refine BR ?_;try simp only [setS]))|refine AA ?_|refine AC ?_|refine AD ?_|refine AE ?_|refine AF rfl rfl ?_|refine AG rfl rfl ?_|refine AH ?_|refine AI ?_|refine AJ ?_|refine AK ?_|refine AL ?_|refine AM ?_|refine AN ?_|refine AO ?_|refine AP ?_|refine AQ rfl ?_|refine AR ?_|refine AS ?_|refine AT rfl ?_|refine AU rfl ?_
          exact rest _ true (by rw [hdn, hb, decide_eq_true he]; rfl) _
        · repeat first|(refine BG ?_;first|(refine BH ?_;first|(refine BI ?_;refine BM ?_)|(refine BJ ?_;first|refine BN ?_|refine BO ?_)|refine BV (v_bx b4 rfl rfl) ?_|refine BV (ot.rs.lenv (by rfl)) ?_|refine BV (da rfl rfl) ?_|refine BV (dl rfl) ?_|refine BP ?_)|(refine BK ?_;first|refine BS rfl rfl ?_|refine BT rfl rfl ?_|refine BU rfl ?_)|(refine BL ?_;first|refine BQ ?_)|(refine BR ?_;try simp only [setS]))|refine AA ?_|refine AC ?_|refine AD ?_|refine AE ?_|refine AF rfl rfl ?_|refine AG rfl rfl ?_|refine AH ?_|refine AI ?_|refine AJ ?_|refine AK ?_|refine AL ?_|refine AM ?_|refine AN ?_|refine AO ?_|refine AP ?_|refine AQ rfl ?_|refine AR ?_|refine AS ?_|refine AT rfl ?_|refine AU rfl ?_
          exact rest _ false (by rw [hdn, hb, decide_eq_false he]; rfl) _
    · have hke : k = tabs.length := by omega
      subst hke
      rw [List.take_length]
      cases hb : decide (y ∈ tabs) with
      | true =>
        rw [if_pos (of_decide_eq_true hb)] at hg
        repeat first|(refine BG ?_;first|(refine BH ?_;first|(refine BI ?_;refine BM ?_)|(refine BJ ?_;first|refine BN ?_|refine BO ?_)|refine BV (v_bx b4 rfl rfl) ?_|refine BV (ot.rs.lenv (by rfl)) ?_|refine BV (v_max rfl rfl) ?_|refine BP ?_)|(refine BK ?_;first|refine BS rfl rfl ?_|refine BT rfl rfl ?_|refine BU rfl ?_)|(refine BL ?_;first|refine BQ ?_)|(refine BR ?_;try simp only [setS]))|refine AA ?_|refine AC ?_|refine AD ?_|refine AE ?_|refine AF rfl rfl ?_|refine AG rfl rfl ?_|refine AH ?_|refine AI ?_|refine AJ ?_|refine AK ?_|refine AL ?_|refine AM ?_|refine AN ?_|refine AO ?_|refine AP ?_|refine AQ rfl ?_|refine AR ?_|refine AS ?_|refine AT rfl ?_|refine AU rfl ?_
        rw [show ((i : Int) + 1) = ((i + 1 : Nat) : Int) by omega]
        exact round_norm (n - 1) (by omega) ⟨i + 1, tv, _, _, _, _, _, _, tabs, max top y, by omega, by omega, K, b3, b4, ot, lo, by omega, by omega, by omega, hg, rfl⟩
      | false =>
        rw [if_neg (of_decide_eq_false hb)] at hg
        repeat first|(refine BG ?_;first|(refine BH ?_;first|(refine BI ?_;refine BM ?_)|(refine BJ ?_;first|refine BN ?_|refine BO ?_)|refine BV (v_bx b4 rfl rfl) ?_|refine BV (ot.rs.lenv (by rfl)) ?_|refine BP ?_)|(refine BK ?_;first|refine BS rfl rfl ?_|refine BT rfl rfl ?_|refine BU rfl ?_)|(refine BL ?_;first|refine BW (ef_bs1 rfl) ?_|refine BQ ?_)|(refine BR ?_;try simp only [setS]))|refine AA ?_|refine AC ?_|refine AD ?_|refine AE ?_|refine AF rfl rfl ?_|refine AG rfl rfl ?_|refine AH ?_|refine AI ?_|refine AJ ?_|refine AK ?_|refine AL ?_|refine AM ?_|refine AN ?_|refine AO ?_|refine AP ?_|refine AQ rfl ?_|refine AR ?_|refine AS ?_|refine AT rfl ?_|refine AU rfl ?_
        have kp : Keep NoB h5 (h5.push (.rw [.int .i64 y])) := Keep.push _ _ _
        refine wr_app_e rfl rfl (ot.up kp) Nat.zero_lt_one (rs_push (l := [_]) rfl) (by omega) (by omega) fun nv h6 a1 a2 a3 => ?_
        have b4' := (b4.up kp).keep a2 (fun q => by have := lo _ q; omega)
        have b3' := (b3.up kp).keep a2 (fun q => by have := lo _ q; omega)
        have K6 := (K.and kp).own a2 (fun j q => by have := lo j q; omega)
        have h5n := K.n
        have h4l := b4.lt
        have nlo : ∀ j, blk nv j → h.n + 1 < j := fun j q => by
          rcases a3 j q with q | q
          · exact lo j q
          · simp only [push_n] at q; omega
        repeat first|(refine BG ?_;first|(refine BH ?_;first|(refine BI ?_;refine BM ?_)|(refine BJ ?_;first|refine BN ?_|refine BO ?_)|refine BV (v_max rfl rfl) ?_|refine BP ?_)|(refine BK ?_;first|refine BS rfl rfl ?_|refine BT rfl rfl ?_|refine BU rfl ?_)|(refine BL ?_;first|refine BW (ef_bx b4' rfl rfl a1.one (Nat.zero_lt_succ _)) ?_|refine BQ ?_)|(refine BR ?_;try simp only [setS]))|refine AA ?_|refine AC ?_|refine AD ?_|refine AE ?_|refine AF rfl rfl ?_|refine AG rfl rfl ?_|refine AH ?_|refine AI ?_|refine AJ ?_|refine AK ?_|refine AL ?_|refine AM ?_|refine AN ?_|refine AO ?_|refine AP ?_|refine AQ rfl ?_|refine AR ?_|refine AS ?_|refine AT rfl ?_|refine AU rfl ?_
        have k7 : Keep (OneB (h.n + 1)) h6 (h6.put (h.n + 1) (.rw [nv, .int .i64 w0, .int .i64 0])) := Keep.put _ _ _ rfl
        rw [show ((i : Int) + 1) = ((i + 1 : Nat) : Int) by omega]
        refine round_norm (n - 1) (by omega) ⟨i + 1, nv, _, _, _, _, _, _, tabs ++ [y], max top y, by omega, by omega, K6.own k7 (fun k q => by have q : k = h.n + 1 := q; omega), b3'.put_ne (by omega), b4'.put, ?_, nlo, by rw [List.length_append]; simp; omega, by omega, by omega, hg, rfl⟩
        rw [List.length_append, List.map_append]
        exact a1.keep k7 (fun j q1 q2 => by have := nlo j q1; have q2 : j = h.n + 1 := q2; omega)
  · have hie : i = L.length := by omega
    subst hie
    rw [List.drop_length] at hg
    simp only [goM] at hg
    subst hg
    rcases Classical.em ((L.length : Int) < l.length) with hc | hc
    all_goals
      repeat first|(refine BG ?_;first|(refine BH ?_;first|(refine BI ?_;refine BM ?_)|(refine BJ ?_;first|refine BN ?_|refine BO ?_)|refine BV (hr'.lenv (by rfl)) ?_|refine BP ?_)|(refine BK ?_;first|refine BS rfl rfl ?_|refine BT rfl rfl ?_|refine BU rfl ?_)|(refine BL ?_;first|refine BQ ?_)|(refine BR ?_;try simp only [setS]))|refine AA ?_|refine AC ?_|refine AD ?_|refine AE ?_|refine AF rfl rfl ?_|refine AG rfl rfl ?_|refine AH ?_|refine AI ?_|refine AJ ?_|refine AK ?_|refine AL ?_|refine AM ?_|refine AN ?_|refine AO ?_|refine AP ?_|refine AQ rfl ?_|refine AR ?_|refine AS ?_|refine AT rfl ?_|refine AU rfl ?_
      refine wr_call_e rfl ((within_ok hE hw hmore (lo := 1) (hi := 9) (by omega) (by omega) (by omega)).mono fun r h6 ⟨e6, e7⟩ => ?_)
      subst e6 e7
      rw [hm0]
      have b5 : Bx (h6.put (h.n + 1) (.rw [tv, .int .i64 w0, .int .i64 (top + m0)])) (h.n + 1) _ := b4.put
      have b6 : Bx (h6.put (h.n + 1) (.rw [tv, .int .i64 w0, .int .i64 (top + m0)])) h.n _ := b3.put_ne (by omega)
      repeat first|(refine BG ?_;first|(refine BH ?_;first|(refine BI ?_;refine BM ?_)|(refine BJ ?_;first|refine BN ?_|refine BO ?_)|refine BV (v_bx b4 rfl rfl) ?_|refine BV (v_bxn b5 rfl (Nat.le_refl _)) ?_|refine BP ?_)|(refine BK ?_;first|refine BS rfl rfl ?_|refine BT rfl rfl ?_|refine BU rfl ?_)|(refine BL ?_;first|refine BW (ef_bx b4 rfl rfl ⟨rfl, rfl⟩ (Nat.lt_succ_self 2)) ?_|refine BW (ef_bxn b6 rfl rfl (all3 ot.one.2) rfl (Nat.le_refl _)) ?_|refine BQ ?_)|(refine BR ?_;try simp only [setS]))|refine AA ?_|refine AC ?_|refine AD ?_|refine AE ?_|refine AF rfl rfl ?_|refine AG rfl rfl ?_|refine AH ?_|refine AI ?_|refine AJ ?_|refine AK ?_|refine AL ?_|refine AM ?_|refine AN ?_|refine AO ?_|refine AP ?_|refine AQ rfl ?_|refine AR ?_|refine AS ?_|refine AT rfl ?_|refine AU rfl ?_
      have k5 : Keep (OneB (h.n + 1)) h6 (h6.put (h.n + 1) (.rw [tv, .int .i64 w0, .int .i64 (top + m0)])) := Keep.put _ _ _ rfl
      have k6 : Keep (OneB h.n) (h6.put (h.n + 1) (.rw [tv, .int .i64 w0, .int .i64 (top + m0)])) ((h6.put (h.n + 1) (.rw [tv, .int .i64 w0, .int .i64 (top + m0)])).put h.n (.rw [tv, .int .i64 w0, .int .i64 (top + m0)])) := Keep.put _ _ _ rfl
      refine AT (res_ldn rfl (Hp.put_self _ _ _) (Nat.le_refl _)) ⟨tv, rfl, (K.own k5 (fun k q => by have q : k = h.n + 1 := q; omega)).own k6 (fun k q => by have q : k = h.n := q; omega), ?_, fun k q => by have := lo k q; omega⟩
      exact (ot.keep k5 (fun j q1 q2 => by have := lo j q1; have q2 : j = h.n + 1 := q2; omega)).keep k6 (fun j q1 q2 => by have := lo j q1; have q2 : j = h.n := q2; omega)
end
end Am
end Go.Proofs.Ythgcdoahoechhaa
namespace Go.Proofs.Ythgcdoahoechhaa
namespace Am
open Go.RowKit
set_option maxRecDepth 100000
def b_mfDigits : BF := ⟨30, [0, 2, 3, 4, 11, 26], (.seq (.reg [.mk none (.slot 1) (.mov (.mv (.const (.str []))))]) (.seq (.reg [.mk none (.slot 2) (.mov (.mv (.const (.str []))))]) (.seq (.seq (.reg [.mk none (.env 5) (.mov (.mv (.slot 0))), .mk none (.slot 3) (.mov (.mv (.env 5)))]) (.block 0 (.loop (.seq (.seq (.reg [.mk none (.env 6) (.mov (.mv (.slot 2))), .mk none (.env 7) (.mov (.bin .eql .no (.env 6) (.const (.str [])))), .mk none (.env 8) (.mov (.mv (.env 7))), .mk (some ((.env 8), false)) (.env 9) (.mov (.mv (.slot 3))), .mk (some ((.env 8), false)) (.env 10) (.mov (.bin .neq .no (.env 9) (.const (.int .i64 0)))), .mk none (.slot 4) (.mov (.pick (.env 8) (.const (.bool true)) (.env 10)))]) (.cond (.slot 4) .skip (.exit 0))) (.seq (.block 1 (.reg [.mk none (.env 14) (.mov (.mv (.slot 3))), .mk none (.env 15) (.mov (.bin .rem .no (.env 14) (.const (.int .i64 10)))), .mk none (.env 16) (.mov (.mv (.slot 3))), .mk none (.env 17) (.mov (.bin .rem .no (.env 16) (.const (.int .i64 10)))), .mk none (.env 18) (.mov (.neg (.env 17))), .mk none (.env 19) (.mov (.maxv (.env 15) (.env 18))), .mk none (.env 20) (.mov (.bin .add .no (.const (.int .i64 48)) (.env 19))), .mk none (.env 21) (.mov (.conv .i32 (.env 20))), .mk none (.env 22) (.mov (.i2s (.env 21))), .mk none (.env 23) (.mov (.mv (.slot 2))), .mk none (.env 24) (.mov (.bin .add .no (.env 22) (.env 23))), .mk none (.slot 2) (.mov (.mv (.env 24)))])) (.reg [.mk none (.env 12) (.mov (.mv (.slot 3))), .mk none (.env 13) (.mov (.bin .quo .no (.env 12) (.const (.int .i64 10)))), .mk none (.slot 3) (.mov (.mv (.env 13)))])))))) (.seq (.seq (.reg [.mk none (.env 25) (.mov (.mv (.slot 0))), .mk none (.slot 5) (.mov (.bin .lss .no (.env 25) (.const (.int .i64 0))))]) (.cond (.slot 5) (.seq (.reg [.mk none (.env 27) (.mov (.mv (.slot 2))), .mk none (.env 28) (.mov (.bin .add .no (.const (.str [45])) (.env 27))), .mk none (.slot 1) (.mov (.mv (.env 28)))]) .ret) .skip)) (.seq (.reg [.mk none (.env 29) (.mov (.mv (.slot 2))), .mk none (.slot 1) (.mov (.mv (.env 29)))]) .ret))))), [.slot (.slot 1)]⟩
def b_mfTable : BF := ⟨6, [0, 2], (.seq (.reg [.mk none (.slot 1) (.mov (.mv (.const (.str []))))]) (.seq (.reg [.mk none (.env 3) (.mov (.mv (.slot 0))), .mk none (.env 4) (.call 90 [(.env 3)]), .mk none (.env 5) (.mov (.bin .add .no (.const (.str [116])) (.env 4))), .mk none (.slot 1) (.mov (.mv (.env 5)))]) .ret)), [.slot (.slot 1)]⟩
def b_mfWal : BF := ⟨6, [0, 2], (.seq (.reg [.mk none (.slot 1) (.mov (.mv (.const (.str []))))]) (.seq (.reg [.mk none (.env 3) (.mov (.mv (.slot 0))), .mk none (.env 4) (.call 90 [(.env 3)]), .mk none (.env 5) (.mov (.bin .add .no (.const (.str [119])) (.env 4))), .mk none (.slot 1) (.mov (.mv (.env 5)))]) .ret)), [.slot (.slot 1)]⟩
def b_ref1parts : BF := ⟨11, [0, 2, 3, 5], (.seq (.reg [.mk none (.slot 1) (.mov (.mv (.const (.bool false)))), .mk none (.slot 2) (.mov (.mv (.const (.int .u64 0))))]) (.seq (.seq (.reg [.mk none (.env 4) (.mov (.mv (.slot 0))), .mk none (.slot 3) (.mov (.bin .lss .no (.env 4) (.const (.int .i64 0))))]) (.cond (.slot 3) (.seq (.reg [.mk none (.env 6) (.mov (.mv (.slot 0))), .mk none (.env 7) (.mov (.conv .u64 (.env 6))), .mk none (.env 8) (.mov (.neg (.env 7))), .mk none (.slot 1) (.mov (.mv (.const (.bool true)))), .mk none (.slot 2) (.mov (.mv (.env 8)))]) .ret) .skip)) (.seq (.reg [.mk none (.env 9) (.mov (.mv (.slot 0))), .mk none (.env 10) (.mov (.conv .u64 (.env 9))), .mk none (.slot 1) (.mov (.mv (.const (.bool false)))), .mk none (.slot 2) (.mov (.mv (.env 10)))]) .ret))), [.slot (.slot 1), .slot (.slot 2)]⟩
def b_ref1Whole : BF := ⟨30, [0, 2, 3, 4, 5, 16, 26], (.seq (.reg [.mk none (.slot 1) (.mov (.mv (.const (.str []))))]) (.seq (.reg [.mk none (.env 7) (.mov (.mv (.slot 0))), .mk none (.env 8) (.call 91 [(.env 7)]), .mk none (.env 6) (.mov (.mv (.env 8))), .mk none (.env 9) (.mov (.ext 0 (.env 6))), .mk none (.env 10) (.mov (.ext 1 (.env 6))), .mk none (.slot 2) (.mov (.mv (.env 9))), .mk none (.slot 3) (.mov (.mv (.env 10)))]) (.seq (.reg [.mk none (.slot 4) (.mov (.mv (.const (.str []))))]) (.seq (.block 0 (.loop (.seq (.seq (.reg [.mk none (.env 11) (.mov (.mv (.slot 3))), .mk none (.env 12) (.mov (.bin .gtr .no (.env 11) (.const (.int .u64 0)))), .mk none (.env 13) (.mov (.mv (.env 12))), .mk (some ((.env 13), false)) (.env 14) (.mov (.mv (.slot 4))), .mk (some ((.env 13), false)) (.env 15) (.mov (.bin .eql .no (.env 14) (.const (.str [])))), .mk none (.slot 5) (.mov (.pick (.env 13) (.const (.bool true)) (.env 15)))]) (.cond (.slot 5) .skip (.exit 0))) (.block 1 (.seq (.reg [.mk none (.env 17) (.mov (.mv (.slot 3))), .mk none (.env 18) (.mov (.bin .rem .no (.env 17) (.const (.int .u64 10)))), .mk none (.env 19) (.mov (.bin .add .no (.const (.int .u64 48)) (.env 18))), .mk none (.env 20) (.mov (.conv .i32 (.env 19))), .mk none (.env 21) (.mov (.i2s (.env 20))), .mk none (.env 22) (.mov (.mv (.slot 4))), .mk none (.env 23) (.mov (.bin .add .no (.env 21) (.env 22))), .mk none (.slot 4) (.mov (.mv (.env 23)))]) (.reg [.mk none (.env 24) (.mov (.mv (.slot 3))), .mk none (.env 25) (.mov (.bin .quo .no (.env 24) (.const (.int .u64 10)))), .mk none (.slot 3) (.mov (.mv (.env 25)))])))))) (.seq (.seq (.reg [.mk none (.slot 6) (.mov (.mv (.slot 2)))]) (.cond (.slot 6) (.reg [.mk none (.env 27) (.mov (.mv (.slot 4))), .mk none (.env 28) (.mov (.bin .add .no (.const (.str [45])) (.env 27))), .mk none (.slot 4) (.mov (.mv (.env 28)))]) .skip)) (.seq (.reg [.mk none (.env 29) (.mov (.mv (.slot 4))), .mk none (.slot 1) (.mov (.mv (.env 29)))]) .ret)))))), [.slot (.slot 1)]⟩
def dacc : Nat → Nat → List UInt8 → List UInt8
  | 0, _, s => s
  | k + 1, r, s => if s = [] ∨ r ≠ 0 then dacc k (r / 10) (UInt8.ofNat (48 + r % 10) :: s) else s
def digF (n : Nat) : List UInt8 := dacc 9 n []
theorem dacc_len : ∀ (k r : Nat) (s : List UInt8), (dacc k r s).length ≤ k + s.length
  | 0, _, s => by simp [dacc]
  | k + 1, r, s => by
    rw [dacc]
    by_cases hc : s = [] ∨ r ≠ 0
    · rw [if_pos hc]
      refine Nat.le_trans (dacc_len k _ _) ?_
      rw [List.length_cons]
      exact Nat.le_of_eq (Nat.succ_add_eq_add_succ k s.length).symm
    · rw [if_neg hc]
      exact Nat.le_add_left _ _
section
variable {e : En} {t : List AV} {X : Type} {h : Hp X}
theorem v_rem10 {q : Eq} {x y : Od} {k : IntKind} {r : Nat} (hx : x.ev e t = .int k (r : Int)) (hy : y.ev e t = .int k 10) : (Mv.bin .rem q x y).ev e t h = some (.int k ((r % 10 : Nat) : Int)) :=
  (v_rem hx hy (by decide)).trans rfl
theorem v_quo10 {q : Eq} {x y : Od} {k : IntKind} {r : Nat} (hx : x.ev e t = .int k (r : Int)) (hy : y.ev e t = .int k 10) (hk : k = .i64 ∨ k = .u64) (hr : r < 4611686018427387904) : (Mv.bin .quo q x y).ev e t h = some (.int k ((r / 10 : Nat) : Int)) := by
  have e1 : (r : Int).tdiv 10 = ((r / 10 : Nat) : Int) := rfl
  have e2 : wr k ((r / 10 : Nat) : Int) = ((r / 10 : Nat) : Int) := by
    rcases hk with rfl | rfl
    · exact wr64 (by omega)
    · have e3 : ((r / 10 : Nat) : Int) % 2 ^ 64 = ((r / 10 : Nat) : Int) := by omega
      simp only [wr, IntKind.wrap, IntKind.signed, IntKind.bits, e3]
      simp
  simp only [Mv.ev, hx, hy, Am.bin, AV.onInt, isShift, intOp]
  simp only [Bool.false_or, decide_true, cond_true]
  rw [if_neg (by decide), e1, e2]
theorem v_neg {x : Od} {a : Int} (hx : x.ev e t = .int .i64 a) (ha : -9223372036854775807 ≤ a ∧ a < 9223372036854775808) : (Mv.neg x).ev e t h = some (.int .i64 (-a)) := by
  simp only [Mv.ev, hx, AV.onInt]
  rw [show 0 - a = -a by omega, wr64 (by omega)]
theorem v_maxl {x y : Od} {k k' : IntKind} {a b : Int} (hx : x.ev e t = .int k a) (hy : y.ev e t = .int k' b) (hb : b ≤ a) : (Mv.maxv x y).ev e t h = some (.int k a) := by
  rw [v_max hx hy, Int.max_eq_left hb]
theorem v_conv_i32 {x : Od} {k : IntKind} {a : Int} (hx : x.ev e t = .int k a) (hb : 0 ≤ a ∧ a < 2147483648) : (Mv.conv .i32 x).ev e t h = some (.int .i32 a) := by
  have : wr .i32 a = a := by
    have e : a % 2 ^ 32 = a := by omega
    simp only [wr, IntKind.wrap, IntKind.signed, IntKind.bits, e]
    simp
    omega
  simp [Mv.ev, hx, AV.onInt, this]
theorem utf8_dig : ∀ d : Nat, d < 10 → (Utf8.encode (48 + (d : Int))).data.toList = [UInt8.ofNat (48 + d)]
  | 0, _ => rfl | 1, _ => rfl | 2, _ => rfl | 3, _ => rfl | 4, _ => rfl | 5, _ => rfl | 6, _ => rfl | 7, _ => rfl | 8, _ => rfl | 9, _ => rfl
  | n + 10, h => by omega
theorem v_dig {x : Od} {k : IntKind} {a : Int} {d : Nat} (hx : x.ev e t = .int k a) (ha : a = 48 + (d : Int)) (hd : d < 10) : (Mv.i2s x).ev e t h = some (.str [UInt8.ofNat (48 + d)]) := by
  simp only [Mv.ev, hx, AV.onInt, ha, utf8_dig d hd]
end
section
variable {X : Type} {E : Nat → Option (Ent X)}
theorem digits_ok (hE : ∀ f e, E f = some e → e.plain) (hf : E 90 = some (.bc b_mfDigits)) {h : Hp X} {n : Nat} (hn : n < 100000000) :
    WF (lim E) 90 [.int .i64 n] h fun r h' => h' = h ∧ r = .str (digF n) := by
  refine wf_bc hE hf rfl ?_
  simp only [b_mfDigits, List.map, getS]
  repeat first|(refine BG ?_;first|(refine BH ?_;first|(refine BI ?_;refine BM ?_)|(refine BJ ?_;first|refine BN ?_|refine BO ?_)|refine BP ?_)|(refine BK ?_;first|refine BS rfl rfl ?_|refine BT rfl rfl ?_|refine BU rfl ?_)|(refine BL ?_;first|refine BQ ?_)|(refine BR ?_;try simp only [setS]))|refine AA ?_|refine AC ?_|refine AD ?_|refine AE ?_|refine AF rfl rfl ?_|refine AG rfl rfl ?_|refine AH ?_|refine AI ?_|refine AJ ?_|refine AK ?_|refine AL ?_|refine AM ?_|refine AN ?_|refine AO ?_|refine AP ?_|refine AQ rfl ?_|refine AR ?_|refine AS ?_|refine AT rfl ?_|refine AU rfl ?_
  obtain ⟨D, hD⟩ : ∃ D, digF n = D := ⟨_, rfl⟩
  rw [hD]
  unfold digF at hD
  refine wb_loop (fun k t h' => h' = h ∧ ∃ (r : Nat) (s : List UInt8) (s4 s5 : AV), dacc k r s = D ∧ s.length + k = 9 ∧ r < 10 ^ (k - 1) ∧ t = [.int .i64 n, .str [], .str s, .int .i64 r, s4, s5]) ?_ 9 _ _ ⟨rfl, n, [], _, _, hD, rfl, hn, rfl⟩
  rintro k t h' ⟨rfl, r, s, s4, s5, hd, hk, hr, rfl⟩
  have hr8 : r < 100000000 := by
    rcases Nat.eq_zero_or_pos k with rfl | h0
    · have hr : r < 1 := hr
      omega
    · exact Nat.lt_of_lt_of_le hr (Nat.le_trans (Nat.pow_le_pow_right (by omega) (show k - 1 ≤ 8 by omega)) (by decide))
  have hmod : r % 10 < 10 := Nat.mod_lt _ (by omega)
  have h48 : 48 + r % 10 < 18446744073709551616 := by omega
  have h49 : ((48 + r % 10 : Nat) : Int) = 48 + ((r % 10 : Nat) : Int) := by omega
  have h50 : 0 ≤ ((48 + r % 10 : Nat) : Int) ∧ ((48 + r % 10 : Nat) : Int) < 2147483648 := by omega
  have step : ∀ (hc : s = [] ∨ r ≠ 0), ∃ k', k = k' + 1 ∧ dacc k' (r / 10) (UInt8.ofNat (48 + r % 10) :: s) = D ∧ (UInt8.ofNat (48 + r % 10) :: s).length + k' = 9 ∧ r / 10 < 10 ^ (k' - 1) := fun hc => by
    cases k with
    | zero =>
      exfalso
      rcases hc with rfl | hc
      · simp at hk
      · have hr : r < 1 := hr
        omega
    | succ k =>
      rw [dacc, if_pos hc] at hd
      refine ⟨k, rfl, hd, by simp; omega, ?_⟩
      rw [Nat.add_sub_cancel] at hr
      cases k with
      | zero => have hr : r < 1 := hr; simp; omega
      | succ k =>
        rw [Nat.pow_succ] at hr
        rw [Nat.add_sub_cancel]
        omega
  cases s with
  | nil =>
    obtain ⟨k', e1, e2, e3, e4⟩ := step (.inl rfl)
    repeat first|(refine BG ?_;first|(refine BH ?_;first|(refine BI ?_;refine BM ?_)|(refine BJ ?_;first|refine BN ?_|refine BO ?_)|refine BV (v_seql rfl rfl) ?_|refine BV (v_rem10 rfl rfl) ?_|refine BV (v_neg rfl (by omega)) ?_|refine BV (v_maxl rfl rfl (by omega)) ?_|refine BV (v_conv_i32 rfl (by omega)) ?_|refine BV (v_dig rfl rfl hmod) ?_|refine BV (v_sadd rfl rfl (by simp)) ?_|refine BV (v_quo10 rfl rfl (.inl rfl) (by omega)) ?_|refine BP ?_)|(refine BK ?_;first|refine BS rfl rfl ?_|refine BT rfl rfl ?_|refine BU rfl ?_)|(refine BL ?_;first|refine BQ ?_)|(refine BR ?_;try simp only [setS]))|refine AA ?_|refine AC ?_|refine AD ?_|refine AE ?_|refine AF rfl rfl ?_|refine AG rfl rfl ?_|refine AH ?_|refine AI ?_|refine AJ ?_|refine AK ?_|refine AL ?_|refine AM ?_|refine AN ?_|refine AO ?_|refine AP ?_|refine AQ rfl ?_|refine AR ?_|refine AS ?_|refine AT rfl ?_|refine AU rfl ?_
    exact round_norm k' (by omega) ⟨rfl, r / 10, _, _, _, e2, e3, e4, rfl⟩
  | cons c s =>
    by_cases h0 : (r : Int) = 0
    · have h0' : r = 0 := by omega
      repeat first|(refine BG ?_;first|(refine BH ?_;first|(refine BI ?_;refine BM ?_)|(refine BJ ?_;first|refine BN ?_|refine BO ?_)|refine BV (v_seql rfl rfl) ?_|refine BP ?_)|(refine BK ?_;first|refine BS rfl rfl ?_|refine BT rfl rfl ?_|refine BU rfl ?_)|(refine BL ?_;first|refine BQ ?_)|(refine BR ?_;try simp only [setS]))|refine AA ?_|refine AC ?_|refine AD ?_|refine AE ?_|refine AF rfl rfl ?_|refine AG rfl rfl ?_|refine AH ?_|refine AI ?_|refine AJ ?_|refine AK ?_|refine AL ?_|refine AM ?_|refine AN ?_|refine AO ?_|refine AP ?_|refine AQ rfl ?_|refine AR ?_|refine AS ?_|refine AT rfl ?_|refine AU rfl ?_
      refine ⟨rfl, ?_⟩
      cases k with
      | zero => rw [← hd]; rfl
      | succ k => rw [dacc, if_neg (by rintro (q | q); cases q; exact q h0')] at hd; rw [← hd]; rfl
    · obtain ⟨k', e1, e2, e3, e4⟩ := step (.inr (by omega))
      have hsl : s.length + 1 + k = 9 := by simpa using hk
      repeat first|(refine BG ?_;first|(refine BH ?_;first|(refine BI ?_;refine BM ?_)|(refine BJ ?_;first|refine BN ?_|refine BO ?_)|refine BV (v_seql rfl rfl) ?_|refine BV (v_rem10 rfl rfl) ?_|refine BV (v_neg rfl (by omega)) ?_|refine BV (v_maxl rfl rfl (by omega)) ?_|refine BV (v_conv_i32 rfl (by omega)) ?_|refine BV (v_dig rfl rfl hmod) ?_|refine BV (v_sadd rfl rfl (by simp; omega)) ?_|refine BV (v_quo10 rfl rfl (.inl rfl) (by omega)) ?_|refine BP ?_)|(refine BK ?_;first|refine BS rfl rfl ?_|refine BT rfl rfl ?_|refine BU rfl ?_)|(refine BL ?_;first|refine BQ ?_)|(refine BR ?_;try simp only [setS]))|refine AA ?_|refine AC ?_|refine AD ?_|refine AE ?_|refine AF rfl rfl ?_|refine AG rfl rfl ?_|refine AH ?_|refine AI ?_|refine AJ ?_|refine AK ?_|refine AL ?_|refine AM ?_|refine AN ?_|refine AO ?_|refine AP ?_|refine AQ rfl ?_|refine AR ?_|refine AS ?_|refine AT rfl ?_|refine AU rfl ?_
      exact round_norm k' (by omega) ⟨rfl, r / 10, _, _, _, e2, e3, e4, rfl⟩
theorem whole_ok (hE : ∀ f e, E f = some e → e.plain) (hf : E 39 = some (.bc b_ref1Whole)) (hp : E 91 = some (.bc b_ref1parts)) {h : Hp X} {n : Nat} (hn : n < 100000000) :
    WF (lim E) 39 [.int .i64 n] h fun r h' => h' = h ∧ r = .str (digF n) := by
  have parts : WF (lim E) 91 [.int .i64 n] h fun r h' => h' = h ∧ r = .tup [.bool false, .int .u64 n] := by
    refine wf_bc hE hp rfl ?_
    simp only [b_ref1parts, List.map, getS]
    repeat first|(refine BG ?_;first|(refine BH ?_;first|(refine BI ?_;refine BM ?_)|(refine BJ ?_;first|refine BN ?_|refine BO ?_)|refine BV (v_conv_u64 rfl (by omega)) ?_|refine BP ?_)|(refine BK ?_;first|refine BS rfl rfl ?_|refine BT rfl rfl ?_|refine BU rfl ?_)|(refine BL ?_;first|refine BQ ?_)|(refine BR ?_;try simp only [setS]))|refine AA ?_|refine AC ?_|refine AD ?_|refine AE ?_|refine AF rfl rfl ?_|refine AG rfl rfl ?_|refine AH ?_|refine AI ?_|refine AJ ?_|refine AK ?_|refine AL ?_|refine AM ?_|refine AN ?_|refine AO ?_|refine AP ?_|refine AQ rfl ?_|refine AR ?_|refine AS ?_|refine AT rfl ?_|refine AU rfl ?_
    exact ⟨rfl, rfl⟩
  refine wf_bc hE hf rfl ?_
  simp only [b_ref1Whole, List.map, getS]
  repeat first|(refine BG ?_;first|(refine BH ?_;first|(refine BI ?_;refine BM ?_)|(refine BJ ?_;first|refine BN ?_|refine BO ?_)|refine BP ?_)|(refine BK ?_;first|refine BS rfl rfl ?_|refine BT rfl rfl ?_|refine BU rfl ?_)|(refine BL ?_;first|refine BQ ?_)|(refine BR ?_;try simp only [setS]))|refine AA ?_|refine AC ?_|refine AD ?_|refine AE ?_|refine AF rfl rfl ?_|refine AG rfl rfl ?_|refine AH ?_|refine AI ?_|refine AJ ?_|refine AK ?_|refine AL ?_|refine AM ?_|refine AN ?_|refine AO ?_|refine AP ?_|refine AQ rfl ?_|refine AR ?_|refine AS ?_|refine AT rfl ?_|refine AU rfl ?_
  refine wr_call_e rfl (parts.mono fun r h1 ⟨e1, e2⟩ => ?_)
  subst e1 e2
  repeat first|(refine BG ?_;first|(refine BH ?_;first|(refine BI ?_;refine BM ?_)|(refine BJ ?_;first|refine BN ?_|refine BO ?_)|refine BP ?_)|(refine BK ?_;first|refine BS rfl rfl ?_|refine BT rfl rfl ?_|refine BU rfl ?_)|(refine BL ?_;first|refine BQ ?_)|(refine BR ?_;try simp only [setS]))|refine AA ?_|refine AC ?_|refine AD ?_|refine AE ?_|refine AF rfl rfl ?_|refine AG rfl rfl ?_|refine AH ?_|refine AI ?_|refine AJ ?_|refine AK ?_|refine AL ?_|refine AM ?_|refine AN ?_|refine AO ?_|refine AP ?_|refine AQ rfl ?_|refine AR ?_|refine AS ?_|refine AT rfl ?_|refine AU rfl ?_
  obtain ⟨D, hD⟩ : ∃ D, digF n = D := ⟨_, rfl⟩
  rw [hD]
  unfold digF at hD
  refine wb_loop (fun k t h' => h' = h1 ∧ ∃ (r : Nat) (s : List UInt8) (s5 s6 : AV), dacc k r s = D ∧ s.length + k = 9 ∧ r < 10 ^ (k - 1) ∧ t = [.int .i64 n, .str [], .bool false, .int .u64 r, .str s, s5, s6]) ?_ 9 _ _ ⟨rfl, n, [], _, _, hD, rfl, hn, rfl⟩
  rintro k t h' ⟨rfl, r, s, s5, s6, hd, hk, hr, rfl⟩
  have hr8 : r < 100000000 := by
    rcases Nat.eq_zero_or_pos k with rfl | h0
    · have hr : r < 1 := hr
      omega
    · exact Nat.lt_of_lt_of_le hr (Nat.le_trans (Nat.pow_le_pow_right (by omega) (show k - 1 ≤ 8 by omega)) (by decide))
  have hmod : r % 10 < 10 := Nat.mod_lt _ (by omega)
  have h48 : 48 + r % 10 < 18446744073709551616 := by omega
  have h49 : ((48 + r % 10 : Nat) : Int) = 48 + ((r % 10 : Nat) : Int) := by omega
  have h50 : 0 ≤ ((48 + r % 10 : Nat) : Int) ∧ ((48 + r % 10 : Nat) : Int) < 2147483648 := by omega
  have step : ∀ (hc : s = [] ∨ r ≠ 0), ∃ k', k = k' + 1 ∧ dacc k' (r / 10) (UInt8.ofNat (48 + r % 10) :: s) = D ∧ (UInt8.ofNat (48 + r % 10) :: s).length + k' = 9 ∧ r / 10 < 10 ^ (k' - 1) := fun hc => by
    cases k with
    | zero =>
      exfalso
      rcases hc with rfl | hc
      · simp at hk
      · have hr : r < 1 := hr
        omega
    | succ k =>
      rw [dacc, if_pos hc] at hd
      refine ⟨k, rfl, hd, by simp; omega, ?_⟩
      rw [Nat.add_sub_cancel] at hr
      cases k with
      | zero => have hr : r < 1 := hr; simp; omega
      | succ k =>
        rw [Nat.pow_succ] at hr
        rw [Nat.add_sub_cancel]
        omega
  by_cases h0 : (0 : Int) < r
  · obtain ⟨k', e1, e2, e3, e4⟩ := step (.inr (by omega))
    have hsl : s.length + k = 9 := hk
    repeat first|(refine BG ?_;first|(refine BH ?_;first|(refine BI ?_;refine BM ?_)|(refine BJ ?_;first|refine BN ?_|refine BO ?_)|refine BV (v_rem10 rfl rfl) ?_|refine BV (v_addu (a := 48) rfl rfl h48) ?_|refine BV (v_conv_i32 rfl h50) ?_|refine BV (v_dig rfl h49 hmod) ?_|refine BV (v_sadd rfl rfl (by simp; omega)) ?_|refine BV (v_quo10 rfl rfl (.inr rfl) (by omega)) ?_|refine BP ?_)|(refine BK ?_;first|refine BS rfl rfl ?_|refine BT rfl rfl ?_|refine BU rfl ?_)|(refine BL ?_;first|refine BQ ?_)|(refine BR ?_;try simp only [setS]))|refine AA ?_|refine AC ?_|refine AD ?_|refine AE ?_|refine AF rfl rfl ?_|refine AG rfl rfl ?_|refine AH ?_|refine AI ?_|refine AJ ?_|refine AK ?_|refine AL ?_|refine AM ?_|refine AN ?_|refine AO ?_|refine AP ?_|refine AQ rfl ?_|refine AR ?_|refine AS ?_|refine AT rfl ?_|refine AU rfl ?_
    exact round_norm k' (by omega) ⟨rfl, r / 10, _, _, _, e2, e3, e4, rfl⟩
  · have h0' : r = 0 := by omega
    cases s with
    | nil =>
      obtain ⟨k', e1, e2, e3, e4⟩ := step (.inl rfl)
      repeat first|(refine BG ?_;first|(refine BH ?_;first|(refine BI ?_;refine BM ?_)|(refine BJ ?_;first|refine BN ?_|refine BO ?_)|refine BV (v_seql rfl rfl) ?_|refine BV (v_rem10 rfl rfl) ?_|refine BV (v_addu (a := 48) rfl rfl h48) ?_|refine BV (v_conv_i32 rfl h50) ?_|refine BV (v_dig rfl h49 hmod) ?_|refine BV (v_sadd rfl rfl (by simp)) ?_|refine BV (v_quo10 rfl rfl (.inr rfl) (by omega)) ?_|refine BP ?_)|(refine BK ?_;first|refine BS rfl rfl ?_|refine BT rfl rfl ?_|refine BU rfl ?_)|(refine BL ?_;first|refine BQ ?_)|(refine BR ?_;try simp only [setS]))|refine AA ?_|refine AC ?_|refine AD ?_|refine AE ?_|refine AF rfl rfl ?_|refine AG rfl rfl ?_|refine AH ?_|refine AI ?_|refine AJ ?_|refine AK ?_|refine AL ?_|refine AM ?_|refine AN ?_|refine AO ?_|refine AP ?_|refine AQ rfl ?_|refine AR ?_|refine AS ?_|refine AT rfl ?_|refine AU rfl ?_
      exact round_norm k' (by omega) ⟨rfl, r / 10, _, _, _, e2, e3, e4, rfl⟩
    | cons c s =>
      repeat first|(refine BG ?_;first|(refine BH ?_;first|(refine BI ?_;refine BM ?_)|(refine BJ ?_;first|refine BN ?_|refine BO ?_)|refine BV (v_seql rfl rfl) ?_|refine BP ?_)|(refine BK ?_;first|refine BS rfl rfl ?_|refine BT rfl rfl ?_|refine BU rfl ?_)|(refine BL ?_;first|refine BQ ?_)|(refine BR ?_;try simp only [setS]))|refine AA ?_|refine AC ?_|refine AD ?_|refine AE ?_|refine AF rfl rfl ?_|refine AG rfl rfl ?_|refine AH ?_|refine AI ?_|refine AJ ?_|refine AK ?_|refine AL ?_|refine AM ?_|refine AN ?_|refine AO ?_|refine AP ?_|refine AQ rfl ?_|refine AR ?_|refine AS ?_|refine AT rfl ?_|refine AU rfl ?_
      refine ⟨rfl, ?_⟩
      cases k with
      | zero => rw [← hd]; rfl
      | succ k => rw [dacc, if_neg (by rintro (q | q); cases q; exact q h0')] at hd; rw [← hd]; rfl
theorem digF_len (n : Nat) : (digF n).length ≤ 9 := dacc_len 9 n []
theorem table_ok (hE : ∀ f e, E f = some e → e.plain) (ht : E 38 = some (.bc b_mfTable)) (hf : E 90 = some (.bc b_mfDigits)) {h : Hp X} {n : Nat} (hn : n < 100000000) :
    WF (lim E) 38 [.int .i64 n] h fun r h' => h' = h ∧ r = .str (116 :: digF n) := by
  refine wf_bc hE ht rfl ?_
  simp only [b_mfTable, List.map, getS]
  have := digF_len n
  repeat first|(refine BG ?_;first|(refine BH ?_;first|(refine BI ?_;refine BM ?_)|(refine BJ ?_;first|refine BN ?_|refine BO ?_)|refine BP ?_)|(refine BK ?_;first|refine BS rfl rfl ?_|refine BT rfl rfl ?_|refine BU rfl ?_)|(refine BL ?_;first|refine BQ ?_)|(refine BR ?_;try simp only [setS]))|refine AA ?_|refine AC ?_|refine AD ?_|refine AE ?_|refine AF rfl rfl ?_|refine AG rfl rfl ?_|refine AH ?_|refine AI ?_|refine AJ ?_|refine AK ?_|refine AL ?_|refine AM ?_|refine AN ?_|refine AO ?_|refine AP ?_|refine AQ rfl ?_|refine AR ?_|refine AS ?_|refine AT rfl ?_|refine AU rfl ?_
  refine wr_call_e rfl ((digits_ok hE hf hn).mono fun r h1 ⟨e1, e2⟩ => ?_)
  subst e1 e2
  repeat first|(refine BG ?_;first|(refine BH ?_;first|(refine BI ?_;refine BM ?_)|(refine BJ ?_;first|refine BN ?_|refine BO ?_)|refine BV (v_sadd rfl rfl (by simp; omega)) ?_|refine BP ?_)|(refine BK ?_;first|refine BS rfl rfl ?_|refine BT rfl rfl ?_|refine BU rfl ?_)|(refine BL ?_;first|refine BQ ?_)|(refine BR ?_;try simp only [setS]))|refine AA ?_|refine AC ?_|refine AD ?_|refine AE ?_|refine AF rfl rfl ?_|refine AG rfl rfl ?_|refine AH ?_|refine AI ?_|refine AJ ?_|refine AK ?_|refine AL ?_|refine AM ?_|refine AN ?_|refine AO ?_|refine AP ?_|refine AQ rfl ?_|refine AR ?_|refine AS ?_|refine AT rfl ?_|refine AU rfl ?_
  exact ⟨rfl, rfl⟩
theorem mwal_ok (hE : ∀ f e, E f = some e → e.plain) (ht : E 40 = some (.bc b_mfWal)) (hf : E 90 = some (.bc b_mfDigits)) {h : Hp X} {n : Nat} (hn : n < 100000000) :
    WF (lim E) 40 [.int .i64 n] h fun r h' => h' = h ∧ r = .str (119 :: digF n) := by
  refine wf_bc hE ht rfl ?_
  simp only [b_mfWal, List.map, getS]
  have := digF_len n
  repeat first|(refine BG ?_;first|(refine BH ?_;first|(refine BI ?_;refine BM ?_)|(refine BJ ?_;first|refine BN ?_|refine BO ?_)|refine BP ?_)|(refine BK ?_;first|refine BS rfl rfl ?_|refine BT rfl rfl ?_|refine BU rfl ?_)|(refine BL ?_;first|refine BQ ?_)|(refine BR ?_;try simp only [setS]))|refine AA ?_|refine AC ?_|refine AD ?_|refine AE ?_|refine AF rfl rfl ?_|refine AG rfl rfl ?_|refine AH ?_|refine AI ?_|refine AJ ?_|refine AK ?_|refine AL ?_|refine AM ?_|refine AN ?_|refine AO ?_|refine AP ?_|refine AQ rfl ?_|refine AR ?_|refine AS ?_|refine AT rfl ?_|refine AU rfl ?_
  refine wr_call_e rfl ((digits_ok hE hf hn).mono fun r h1 ⟨e1, e2⟩ => ?_)
  subst e1 e2
  repeat first|(refine BG ?_;first|(refine BH ?_;first|(refine BI ?_;refine BM ?_)|(refine BJ ?_;first|refine BN ?_|refine BO ?_)|refine BV (v_sadd rfl rfl (by simp; omega)) ?_|refine BP ?_)|(refine BK ?_;first|refine BS rfl rfl ?_|refine BT rfl rfl ?_|refine BU rfl ?_)|(refine BL ?_;first|refine BQ ?_)|(refine BR ?_;try simp only [setS]))|refine AA ?_|refine AC ?_|refine AD ?_|refine AE ?_|refine AF rfl rfl ?_|refine AG rfl rfl ?_|refine AH ?_|refine AI ?_|refine AJ ?_|refine AK ?_|refine AL ?_|refine AM ?_|refine AN ?_|refine AO ?_|refine AP ?_|refine AQ rfl ?_|refine AR ?_|refine AS ?_|refine AT rfl ?_|refine AU rfl ?_
  exact ⟨rfl, rfl⟩
end
end Am
end Go.Proofs.Ythgcdoahoechhaa
namespace Go.Proofs.Ythgcdoahoechhaa
namespace Am
open Go.RowKit
set_option maxRecDepth 100000
def b_ref4Put : BF := ⟨17, [0, 1, 4, 5], (.seq (.reg [.mk none (.slot 2) (.mov (.mv (.const .snil)))]) (.seq (.reg [.mk none (.env 6) (.mov (.mv (.slot 1))), .mk none (.env 7) (.mov (.lenv (.env 6))), .mk none (.env 8) (.mov (.conv .u64 (.env 7))), .mk none (.slot 3) (.mov (.mv (.env 8)))]) (.seq (.reg [.mk none (.env 9) (.mov (.mv (.slot 0))), .mk none (.env 10) (.mov (.mv (.slot 3))), .mk none (.env 11) (.call 86 [(.env 9), (.env 10), (.const (.int .i64 3))]), .mk none (.env 12) (.mov (.mv (.slot 3))), .mk none (.env 13) (.mov (.bin .sub .no (.const (.int .u64 16777215)) (.env 12))), .mk none (.env 14) (.call 86 [(.env 11), (.env 13), (.const (.int .i64 3))]), .mk none (.env 15) (.mov (.mv (.slot 1))), .mk none (.env 16) (.eff (.append 1 1 (.env 14) (.env 15))), .mk none (.slot 2) (.mov (.mv (.env 16)))]) .ret))), [.slot (.slot 2)]⟩
def b_ref4All : BF := ⟨72, [0, 2, 3, 4, 5, 6, 7, 9, 15, 40, 50], (.seq (.reg [.mk none (.slot 1) (.mov (.mv (.const .snil))), .mk none (.slot 2) (.mov (.mv (.const (.int .i64 0)))), .mk none (.slot 3) (.mov (.mv (.const (.bool false))))]) (.seq (.reg [.mk none (.slot 4) (.mov (.mv (.const .snil)))]) (.seq (.reg [.mk none (.slot 5) (.mov (.mv (.const (.int .i64 0))))]) (.block 0 (.loop (.block 1 (.seq (.seq (.reg [.mk none (.env 11) (.mov (.mv (.slot 0))), .mk none (.env 12) (.mov (.lenv (.env 11))), .mk none (.env 13) (.mov (.mv (.slot 5))), .mk none (.env 14) (.mov (.bin .sub .no (.env 12) (.env 13))), .mk none (.slot 8) (.mov (.bin .lss .no (.env 14) (.const (.int .i64 6))))]) (.cond (.slot 8) (.seq (.reg [.mk none (.env 16) (.mov (.mv (.slot 4))), .mk none (.env 17) (.mov (.mv (.slot 5))), .mk none (.slot 1) (.mov (.mv (.env 16))), .mk none (.slot 2) (.mov (.mv (.env 17))), .mk none (.slot 3) (.mov (.mv (.const (.bool true))))]) .ret) .skip)) (.seq (.reg [.mk none (.env 19) (.mov (.mv (.slot 0))), .mk none (.env 20) (.mov (.mv (.slot 5))), .mk none (.env 21) (.mov (.sl 1 (.env 19) (some (.env 20)) none none)), .mk none (.env 22) (.call 92 [(.env 21), (.const (.int .i64 3))]), .mk none (.env 18) (.mov (.mv (.env 22))), .mk none (.env 23) (.mov (.ext 0 (.env 18))), .mk none (.env 24) (.mov (.ext 1 (.env 18))), .mk none (.slot 6) (.mov (.mv (.env 23))), .mk none (.env 8) (.mov (.mv (.env 24)))]) (.seq (.reg [.mk none (.env 26) (.mov (.mv (.slot 0))), .mk none (.env 27) (.mov (.mv (.slot 5))), .mk none (.env 28) (.mov (.bin .add .no (.env 27) (.const (.int .i64 3)))), .mk none (.env 29) (.mov (.sl 1 (.env 26) (some (.env 28)) none none)), .mk none (.env 30) (.call 92 [(.env 29), (.const (.int .i64 3))]), .mk none (.env 25) (.mov (.mv (.env 30))), .mk none (.env 31) (.mov (.ext 0 (.env 25))), .mk none (.env 32) (.mov (.ext 1 (.env 25))), .mk none (.slot 7) (.mov (.mv (.env 31))), .mk none (.env 10) (.mov (.mv (.env 32)))]) (.seq (.seq (.reg [.mk none (.env 33) (.mov (.mv (.slot 6))), .mk none (.env 34) (.mov (.mv (.slot 7))), .mk none (.env 35) (.mov (.bin .add .no (.env 33) (.env 34))), .mk none (.env 36) (.mov (.bin .neq .no (.env 35) (.const (.int .u64 16777215)))), .mk none (.env 37) (.mov (.mv (.env 36))), .mk (some ((.env 37), false)) (.env 38) (.mov (.mv (.slot 6))), .mk (some ((.env 37), false)) (.env 39) (.mov (.bin .gtr .no (.env 38) (.const (.int .u64 1048576)))), .mk none (.slot 9) (.mov (.pick (.env 37) (.const (.bool true)) (.env 39)))]) (.cond (.slot 9) (.seq (.reg [.mk none (.env 41) (.mov (.mv (.slot 4))), .mk none (.env 42) (.mov (.mv (.slot 5))), .mk none (.slot 1) (.mov (.mv (.env 41))), .mk none (.slot 2) (.mov (.mv (.env 42))), .mk none (.slot 3) (.mov (.mv (.const (.bool false))))]) .ret) .skip)) (.seq (.seq (.reg [.mk none (.env 43) (.mov (.mv (.slot 0))), .mk none (.env 44) (.mov (.lenv (.env 43))), .mk none (.env 45) (.mov (.mv (.slot 5))), .mk none (.env 46) (.mov (.bin .sub .no (.env 44) (.env 45))), .mk none (.env 47) (.mov (.bin .sub .no (.env 46) (.const (.int .i64 6)))), .mk none (.env 48) (.mov (.mv (.slot 6))), .mk none (.env 49) (.mov (.conv .i64 (.env 48))), .mk none (.slot 10) (.mov (.bin .lss .no (.env 47) (.env 49)))]) (.cond (.slot 10) (.seq (.reg [.mk none (.env 51) (.mov (.mv (.slot 4))), .mk none (.env 52) (.mov (.mv (.slot 5))), .mk none (.slot 1) (.mov (.mv (.env 51))), .mk none (.slot 2) (.mov (.mv (.env 52))), .mk none (.slot 3) (.mov (.mv (.const (.bool true))))]) .ret) .skip)) (.seq (.reg [.mk none (.env 53) (.mov (.mv (.slot 4))), .mk none (.env 54) (.eff (.bslice 1 0 [(.int .u8 0)] [])), .mk none (.env 55) (.mov (.mv (.slot 0))), .mk none (.env 56) (.mov (.mv (.slot 5))), .mk none (.env 57) (.mov (.bin .add .no (.env 56) (.const (.int .i64 6)))), .mk none (.env 58) (.mov (.mv (.slot 5))), .mk none (.env 59) (.mov (.bin .add .no (.env 58) (.const (.int .i64 6)))), .mk none (.env 60) (.mov (.mv (.slot 6))), .mk none (.env 61) (.mov (.conv .i64 (.env 60))), .mk none (.env 62) (.mov (.bin .add .no (.env 59) (.env 61))), .mk none (.env 63) (.mov (.sl 1 (.env 55) (some (.env 57)) (some (.env 62)) none)), .mk none (.env 64) (.eff (.append 1 1 (.env 54) (.env 63))), .mk none (.env 65) (.eff (.bslice 1 1 [.snil] [(0, 1, (.env 64))])), .mk none (.env 66) (.eff (.append 1 24 (.env 53) (.env 65))), .mk none (.slot 4) (.mov (.mv (.env 66)))]) (.reg [.mk none (.env 67) (.mov (.mv (.slot 5))), .mk none (.env 68) (.mov (.bin .add .no (.env 67) (.const (.int .i64 6)))), .mk none (.env 69) (.mov (.mv (.slot 6))), .mk none (.env 70) (.mov (.conv .i64 (.env 69))), .mk none (.env 71) (.mov (.bin .add .no (.env 68) (.env 70))), .mk none (.slot 5) (.mov (.mv (.env 71)))]))))))))))))), [.slot (.slot 1), .slot (.slot 2), .slot (.slot 3)]⟩
def b_sameI : BF := ⟨26, [0, 1, 4, 5, 10, 14, 25], (.seq (.reg [.mk none (.slot 2) (.mov (.mv (.const (.bool false))))]) (.seq (.seq (.reg [.mk none (.env 6) (.mov (.mv (.slot 0))), .mk none (.env 7) (.mov (.lenv (.env 6))), .mk none (.env 8) (.mov (.mv (.slot 1))), .mk none (.env 9) (.mov (.lenv (.env 8))), .mk none (.slot 4) (.mov (.bin .neq .no (.env 7) (.env 9)))]) (.cond (.slot 4) (.seq (.reg [.mk none (.slot 2) (.mov (.mv (.const (.bool false))))]) .ret) .skip)) (.seq (.seq (.reg [.mk none (.slot 3) (.mov (.mv (.const (.int .i64 0))))]) (.block 0 (.loop (.seq (.seq (.reg [.mk none (.env 11) (.mov (.mv (.slot 3))), .mk none (.env 12) (.mov (.mv (.slot 0))), .mk none (.env 13) (.mov (.lenv (.env 12))), .mk none (.slot 5) (.mov (.bin .lss .no (.env 11) (.env 13)))]) (.cond (.slot 5) .skip (.exit 0))) (.seq (.block 1 (.seq (.dreg [(.mk none (.env 17) (.mov (.mv (.slot 0))), []), (.mk none (.env 18) (.mov (.mv (.slot 3))), []), (.mk none (.env 19) (.mov (.iaddr 1 (.env 17) (.env 18))), []), (.mk none (.env 20) (.mov (.ld1 (.env 19))), []), (.mk none (.env 21) (.mov (.mv (.slot 1))), []), (.mk none (.env 22) (.mov (.mv (.slot 3))), []), (.mk none (.env 23) (.mov (.iaddr 1 (.env 21) (.env 22))), []), (.mk none (.env 24) (.mov (.ld1 (.env 23))), []), (.mk none (.slot 6) (.mov (.bin .neq .no (.env 20) (.env 24))), [])]) (.cond (.slot 6) (.seq (.reg [.mk none (.slot 2) (.mov (.mv (.const (.bool false))))]) .ret) .skip))) (.reg [.mk none (.env 15) (.mov (.mv (.slot 3))), .mk none (.env 16) (.mov (.bin .add .no (.env 15) (.const (.int .i64 1)))), .mk none (.slot 3) (.mov (.mv (.env 16)))])))))) (.seq (.reg [.mk none (.slot 2) (.mov (.mv (.const (.bool true))))]) .ret)))), [.slot (.slot 2)]⟩
def b_mfSame : BF := ⟨24, [0, 1, 2, 3, 4], (.seq (.reg [.mk none (.slot 2) (.eff (.box (.slot 0))), .mk none (.slot 3) (.eff (.box (.slot 1))), .mk none (.slot 4) (.mov (.mv (.const (.bool false))))]) (.seq (.reg [.mk none (.env 5) (.mov (.faddr 0 (.slot 2))), .mk none (.env 6) (.mov (.ld1 (.env 5))), .mk none (.env 7) (.mov (.faddr 0 (.slot 3))), .mk none (.env 8) (.mov (.ld1 (.env 7))), .mk none (.env 9) (.call 94 [(.env 6), (.env 8)]), .mk none (.env 10) (.mov (.mv (.env 9))), .mk (some ((.env 10), true)) (.env 11) (.mov (.faddr 1 (.slot 2))), .mk (some ((.env 10), true)) (.env 12) (.mov (.ld1 (.env 11))), .mk (some ((.env 10), true)) (.env 13) (.mov (.faddr 1 (.slot 3))), .mk (some ((.env 10), true)) (.env 14) (.mov (.ld1 (.env 13))), .mk (some ((.env 10), true)) (.env 15) (.mov (.bin .eql .no (.env 12) (.env 14))), .mk none (.env 16) (.mov (.pick (.env 10) (.env 15) (.const (.bool false)))), .mk none (.env 17) (.mov (.mv (.env 16))), .mk (some ((.env 17), true)) (.env 18) (.mov (.faddr 2 (.slot 2))), .mk (some ((.env 17), true)) (.env 19) (.mov (.ld1 (.env 18))), .mk (some ((.env 17), true)) (.env 20) (.mov (.faddr 2 (.slot 3))), .mk (some ((.env 17), true)) (.env 21) (.mov (.ld1 (.env 20))), .mk (some ((.env 17), true)) (.env 22) (.mov (.bin .eql .no (.env 19) (.env 21))), .mk none (.env 23) (.mov (.pick (.env 17) (.env 22) (.const (.bool false)))), .mk none (.slot 4) (.mov (.mv (.env 23)))]) .ret)), [.slot (.slot 4)]⟩
def b_mfFresh : BF := ⟨10, [0, 1, 2, 8], (.seq (.reg [.mk none (.slot 0) (.mov (.mv (.const .nilp)))]) (.seq (.reg [.mk none (.env 4) (.call 13 [(.const (.int .i64 16777216))]), .mk none (.env 3) (.mov (.mv (.env 4))), .mk none (.env 5) (.mov (.ext 0 (.env 3))), .mk none (.env 6) (.mov (.ext 1 (.env 3))), .mk none (.slot 1) (.mov (.mv (.env 5))), .mk none (.slot 2) (.mov (.mv (.env 6)))]) (.seq (.seq (.reg [.mk none (.env 7) (.mov (.mv (.slot 2))), .mk none (.slot 3) (.mov (.bin .neq .no (.env 7) (.const (.int .i64 0))))]) (.cond (.slot 3) (.seq (.reg [.mk none (.slot 0) (.mov (.mv (.const .nilp)))]) .ret) .skip)) (.seq (.reg [.mk none (.env 9) (.mov (.mv (.slot 1))), .mk none (.slot 0) (.mov (.mv (.env 9)))]) .ret)))), [.slot (.slot 0)]⟩
def b_mfOn : BF := ⟨29, [0, 1, 4, 5, 27], (.seq (.reg [.mk none (.slot 2) (.mov (.mv (.const .nilp)))]) (.seq (.reg [.mk none (.env 6) (.call 48 []), .mk none (.slot 3) (.mov (.mv (.env 6)))]) (.seq (.seq (.reg [.mk none (.env 7) (.mov (.mv (.slot 3))), .mk none (.env 8) (.mov (.bin .eql .ptr (.env 7) (.const .nilp))), .mk none (.env 9) (.mov (.mv (.env 8))), .mk (some ((.env 9), false)) (.env 10) (.mov (.mv (.slot 3))), .mk (some ((.env 9), false)) (.env 11) (.mov (.mv (.slot 0))), .mk (some ((.env 9), false)) (.env 12) (.call 51 [(.env 10), (.env 11)]), .mk (some ((.env 9), false)) (.env 13) (.mov (.bin .neq .no (.env 12) (.const (.int .i64 0)))), .mk none (.env 14) (.mov (.pick (.env 9) (.const (.bool true)) (.env 13))), .mk none (.env 15) (.mov (.mv (.env 14))), .mk (some ((.env 15), false)) (.env 16) (.mov (.mv (.slot 3))), .mk (some ((.env 15), false)) (.env 17) (.mov (.mv (.slot 0))), .mk (some ((.env 15), false)) (.env 18) (.mov (.mv (.slot 1))), .mk (some ((.env 15), false)) (.env 19) (.call 53 [(.env 16), (.env 17), (.env 18)]), .mk (some ((.env 15), false)) (.env 20) (.mov (.bin .neq .no (.env 19) (.const (.int .i64 0)))), .mk none (.env 21) (.mov (.pick (.env 15) (.const (.bool true)) (.env 20))), .mk none (.env 22) (.mov (.mv (.env 21))), .mk (some ((.env 22), false)) (.env 23) (.mov (.mv (.slot 3))), .mk (some ((.env 22), false)) (.env 24) (.mov (.mv (.slot 0))), .mk (some ((.env 22), false)) (.env 25) (.call 55 [(.env 23), (.env 24)]), .mk (some ((.env 22), false)) (.env 26) (.mov (.bin .neq .no (.env 25) (.const (.int .i64 0)))), .mk none (.slot 4) (.mov (.pick (.env 22) (.const (.bool true)) (.env 26)))]) (.cond (.slot 4) (.seq (.reg [.mk none (.slot 2) (.mov (.mv (.const .nilp)))]) .ret) .skip)) (.seq (.reg [.mk none (.env 28) (.mov (.mv (.slot 3))), .mk none (.slot 2) (.mov (.mv (.env 28)))]) .ret)))), [.slot (.slot 2)]⟩
def b_mfEncodes : BF := ⟨40, [0, 1, 2, 3, 4, 17], (.seq (.reg [.mk none (.slot 1) (.eff (.box (.slot 0))), .mk none (.slot 2) (.mov (.mv (.const (.bool false))))]) (.seq (.reg [.mk none (.env 6) (.mov (.ldn 3 (.slot 1))), .mk none (.env 7) (.call 87 [(.env 6)]), .mk none (.env 5) (.mov (.mv (.env 7))), .mk none (.env 8) (.mov (.ext 0 (.env 5))), .mk none (.env 9) (.mov (.ext 1 (.env 5))), .mk none (.slot 3) (.mov (.mv (.env 8))), .mk none (.slot 4) (.mov (.mv (.env 9)))]) (.seq (.seq (.reg [.mk none (.env 10) (.mov (.faddr 0 (.slot 1))), .mk none (.env 11) (.mov (.ld1 (.env 10))), .mk none (.env 12) (.mov (.faddr 1 (.slot 1))), .mk none (.env 13) (.mov (.ld1 (.env 12))), .mk none (.env 14) (.mov (.faddr 2 (.slot 1))), .mk none (.env 15) (.mov (.ld1 (.env 14))), .mk none (.env 16) (.call 88 [(.env 11), (.env 13), (.env 15)]), .mk none (.slot 5) (.mov (.notb (.env 16)))]) (.cond (.slot 5) (.seq (.reg [.mk none (.env 18) (.mov (.mv (.slot 4))), .mk none (.env 19) (.mov (.bin .eql .no (.env 18) (.const (.int .i64 1)))), .mk none (.env 20) (.mov (.mv (.env 19))), .mk (some ((.env 20), true)) (.env 21) (.mov (.mv (.slot 3))), .mk (some ((.env 20), true)) (.env 22) (.mov (.lenv (.env 21))), .mk (some ((.env 20), true)) (.env 23) (.mov (.bin .eql .no (.env 22) (.const (.int .i64 0)))), .mk none (.env 24) (.mov (.pick (.env 20) (.env 23) (.const (.bool false)))), .mk none (.slot 2) (.mov (.mv (.env 24)))]) .ret) .skip)) (.seq (.dreg [(.mk none (.env 25) (.mov (.mv (.slot 4))), []), (.mk none (.env 26) (.mov (.bin .eql .no (.env 25) (.const (.int .i64 0)))), []), (.mk none (.env 27) (.mov (.mv (.env 26))), []), (.mk (some ((.env 27), true)) (.env 28) (.mov (.mv (.slot 3))), []), (.mk (some ((.env 27), true)) (.env 29) (.mov (.b2s (.env 28))), []), (.mk (some ((.env 27), true)) (.env 30) (.mov (.faddr 0 (.slot 1))), []), (.mk (some ((.env 27), true)) (.env 31) (.mov (.ld1 (.env 30))), []), (.mk (some ((.env 27), true)) (.env 32) (.mov (.faddr 1 (.slot 1))), []), (.mk (some ((.env 27), true)) (.env 33) (.mov (.ld1 (.env 32))), []), (.mk (some ((.env 27), true)) (.env 34) (.mov (.faddr 2 (.slot 1))), []), (.mk (some ((.env 27), true)) (.env 35) (.mov (.ld1 (.env 34))), []), (.mk (some ((.env 27), true)) (.env 36) (.call 35 [(.env 31), (.env 33), (.env 35)]), [3, 4]), (.mk (some ((.env 27), true)) (.env 37) (.mov (.b2s (.env 36))), []), (.mk (some ((.env 27), true)) (.env 38) (.mov (.bin .eql .no (.env 29) (.env 37))), []), (.mk none (.env 39) (.mov (.pick (.env 27) (.env 38) (.const (.bool false)))), []), (.mk none (.slot 2) (.mov (.mv (.env 39))), [])]) .ret)))), [.slot (.slot 2)]⟩
def b_mfDecodes : BF := ⟨40, [0, 2, 3, 4, 5, 6, 7, 8], (.seq (.reg [.mk none (.slot 1) (.mov (.mv (.const (.bool false))))]) (.seq (.reg [.mk none (.env 10) (.mov (.mv (.slot 0))), .mk none (.env 11) (.call 89 [(.env 10)]), .mk none (.env 9) (.mov (.mv (.env 11))), .mk none (.env 12) (.mov (.ext 0 (.env 9))), .mk none (.env 13) (.mov (.ext 1 (.env 9))), .mk none (.slot 2) (.eff (.alloc [.snil, (.int .i64 0), (.int .i64 0)])), .mk none .none (.eff (.store 3 (.slot 2) (.env 12))), .mk none (.slot 3) (.mov (.mv (.env 13)))]) (.seq (.reg [.mk none (.env 15) (.mov (.mv (.slot 0))), .mk none (.env 16) (.call 46 [(.env 15)]), .mk none (.env 14) (.mov (.mv (.env 16))), .mk none (.env 17) (.mov (.ext 0 (.env 14))), .mk none (.env 18) (.mov (.ext 1 (.env 14))), .mk none (.env 19) (.mov (.ext 2 (.env 14))), .mk none (.env 20) (.mov (.ext 3 (.env 14))), .mk none (.slot 4) (.mov (.mv (.env 17))), .mk none (.slot 5) (.mov (.mv (.env 18))), .mk none (.slot 6) (.mov (.mv (.env 19))), .mk none (.slot 7) (.mov (.mv (.env 20)))]) (.seq (.reg [.mk none (.env 21) (.mov (.mv (.slot 3))), .mk none (.env 22) (.mov (.bin .eql .no (.env 21) (.const (.int .i64 0)))), .mk none (.env 23) (.mov (.mv (.slot 7))), .mk none (.env 24) (.mov (.bin .eql .bool (.env 22) (.env 23))), .mk none (.env 25) (.mov (.mv (.env 24))), .mk (some ((.env 25), true)) (.env 26) (.mov (.mv (.slot 7))), .mk (some ((.env 25), true)) (.env 27) (.mov (.mv (.env 26))), .mk (some ((.env 27), false)) (.env 28) (.mov (.mv (.slot 3))), .mk (some ((.env 27), false)) (.env 29) (.mov (.bin .eql .no (.env 28) (.const (.int .i64 12)))), .mk (some ((.env 25), true)) (.env 30) (.mov (.pick (.env 27) (.const (.bool true)) (.env 29))), .mk none (.env 31) (.mov (.pick (.env 25) (.env 30) (.const (.bool false)))), .mk none (.env 32) (.mov (.mv (.env 31))), .mk (some ((.env 32), true)) (.env 33) (.mov (.ldn 3 (.slot 2))), .mk (some ((.env 32), true)) (.env 34) (.mov (.mv (.slot 4))), .mk (some ((.env 32), true)) (.env 35) (.mov (.mv (.slot 5))), .mk (some ((.env 32), true)) (.env 36) (.mov (.mv (.slot 6))), .mk (some ((.env 32), true)) (.env 37) (.mov (.bld [.snil, (.int .i64 0), (.int .i64 0)] [(0, 1, (.env 34)), (1, 1, (.env 35)), (2, 1, (.env 36))])), .mk (some ((.env 32), true)) (.env 38) (.call 47 [(.env 33), (.env 37)]), .mk none (.env 39) (.mov (.pick (.env 32) (.env 38) (.const (.bool false)))), .mk none (.slot 1) (.mov (.mv (.env 39)))]) .ret)))), [.slot (.slot 1)]⟩
theorem xor24 {n : Nat} (h : n < 16777216) : n ^^^ 16777215 = 16777215 - n := by
  apply Nat.eq_of_testBit_eq
  intro i
  rw [Nat.testBit_xor, show (16777215 : Nat) = 2 ^ 24 - 1 from rfl, Nat.testBit_two_pow_sub_one, show 2 ^ 24 - 1 - n = 2 ^ 24 - (n + 1) by omega, Nat.testBit_two_pow_sub_succ (x := n) (n := 24) (by omega)]
  by_cases hi : i < 24
  · simp [hi]
  · have : n.testBit i = false := Nat.testBit_lt_two_pow (Nat.lt_of_lt_of_le h (by
      rw [show (16777216 : Nat) = 2 ^ 24 from rfl]
      exact Nat.pow_le_pow_right (by omega) (by omega)))
    simp [hi, this]
theorem xor_add {n m : Nat} (hn : n < 16777216) (hm : m < 16777216) : n ^^^ m = 16777215 ↔ n + m = 16777215 := by
  constructor
  · intro h
    have : m = n ^^^ 16777215 := by rw [← h, ← Nat.xor_assoc, Nat.xor_self, Nat.zero_xor]
    rw [xor24 hn] at this
    omega
  · intro h
    have : m = n ^^^ 16777215 := by rw [xor24 hn]; omega
    rw [this, ← Nat.xor_assoc, Nat.xor_self, Nat.zero_xor]
section
variable {X : Type} {E : Nat → Option (Ent X)}
theorem r4put_ok (hE : ∀ f e, E f = some e → e.plain) (hf : E 42 = some (.bc b_ref4Put)) (hp : E 86 = some (.bc b_ref2Put)) {h : Hp X} {v r : AV} {pre b : List UInt8} (hv : RS h 1 v pre.length (pre.map ub)) (hr : RS h 1 r b.length (b.map ub)) (hn : pre.length ≤ 70368744177664) (hm : b.length ≤ 1048576) :
    WF (lim E) 42 [v, r] h fun o h' => Own1 h h' o ∧ OS h' 1 o (pre ++ recB b).length ((pre ++ recB b).map ub) := by
  refine wf_bc hE hf rfl ?_
  simp only [b_ref4Put, List.map, getS]
  repeat first|(refine BG ?_;first|(refine BH ?_;first|(refine BI ?_;refine BM ?_)|(refine BJ ?_;first|refine BN ?_|refine BO ?_)|refine BV (hr.lenv (by rfl)) ?_|refine BV (v_conv_u64 rfl (by omega)) ?_|refine BP ?_)|(refine BK ?_;first|refine BS rfl rfl ?_|refine BT rfl rfl ?_|refine BU rfl ?_)|(refine BL ?_;first|refine BQ ?_)|(refine BR ?_;try simp only [setS]))|refine AA ?_|refine AC ?_|refine AD ?_|refine AE ?_|refine AF rfl rfl ?_|refine AG rfl rfl ?_|refine AH ?_|refine AI ?_|refine AJ ?_|refine AK ?_|refine AL ?_|refine AM ?_|refine AN ?_|refine AO ?_|refine AP ?_|refine AQ rfl ?_|refine AR ?_|refine AS ?_|refine AT rfl ?_|refine AU rfl ?_
  refine wr_call_e rfl ((rput_ok hE hp hv (by omega) (m := b.length) (size := 3) (k := 3) (by decide)).mono fun o1 h1 ⟨k1, k2⟩ => ?_)
  repeat first|(refine BG ?_;first|(refine BH ?_;first|(refine BI ?_;refine BM ?_)|(refine BJ ?_;first|refine BN ?_|refine BO ?_)|refine BV (v_subu (a := 16777215) rfl rfl (by omega) (by omega)) ?_|refine BP ?_)|(refine BK ?_;first|refine BS rfl rfl ?_|refine BT rfl rfl ?_|refine BU rfl ?_)|(refine BL ?_;first|refine BQ ?_)|(refine BR ?_;try simp only [setS]))|refine AA ?_|refine AC ?_|refine AD ?_|refine AE ?_|refine AF rfl rfl ?_|refine AG rfl rfl ?_|refine AH ?_|refine AI ?_|refine AJ ?_|refine AK ?_|refine AL ?_|refine AM ?_|refine AN ?_|refine AO ?_|refine AP ?_|refine AQ rfl ?_|refine AR ?_|refine AS ?_|refine AT rfl ?_|refine AU rfl ?_
  refine wr_call_e rfl ((rput_ok hE hp k2.rs (by omega) (m := 16777215 - b.length) (size := 3) (k := 3) (by decide)).mono fun o2 h2 ⟨k3, k4⟩ => ?_)
  repeat first|(refine BG ?_;first|(refine BH ?_;first|(refine BI ?_;refine BM ?_)|(refine BJ ?_;first|refine BN ?_|refine BO ?_)|refine BP ?_)|(refine BK ?_;first|refine BS rfl rfl ?_|refine BT rfl rfl ?_|refine BU rfl ?_)|(refine BL ?_;first|refine BQ ?_)|(refine BR ?_;try simp only [setS]))|refine AA ?_|refine AC ?_|refine AD ?_|refine AE ?_|refine AF rfl rfl ?_|refine AG rfl rfl ?_|refine AH ?_|refine AI ?_|refine AJ ?_|refine AK ?_|refine AL ?_|refine AM ?_|refine AN ?_|refine AO ?_|refine AP ?_|refine AQ rfl ?_|refine AR ?_|refine AS ?_|refine AT rfl ?_|refine AU rfl ?_
  have hmx : (maxLen : Nat) = 9223372036854775807 := rfl
  have k5 := k1.trans k3
  refine wr_app_e rfl rfl k4 Nat.zero_lt_one (hr.up k5.1) (by omega) (by omega) fun o3 h3 a1 a2 a3 => ?_
  repeat first|(refine BG ?_;first|(refine BH ?_;first|(refine BI ?_;refine BM ?_)|(refine BJ ?_;first|refine BN ?_|refine BO ?_)|refine BP ?_)|(refine BK ?_;first|refine BS rfl rfl ?_|refine BT rfl rfl ?_|refine BU rfl ?_)|(refine BL ?_;first|refine BQ ?_)|(refine BR ?_;try simp only [setS]))|refine AA ?_|refine AC ?_|refine AD ?_|refine AE ?_|refine AF rfl rfl ?_|refine AG rfl rfl ?_|refine AH ?_|refine AI ?_|refine AJ ?_|refine AK ?_|refine AL ?_|refine AM ?_|refine AN ?_|refine AO ?_|refine AP ?_|refine AQ rfl ?_|refine AR ?_|refine AS ?_|refine AT rfl ?_|refine AU rfl ?_
  refine ⟨⟨k5.1.own a2 k5.2, fun g hg => ?_⟩, ?_⟩
  · rcases a3 g hg with hb | hb
    · exact k5.2 g hb
    · exact Nat.le_trans k5.1.n hb
  · have e : (pre ++ recB b).length = pre.length + 3 + 3 + b.length := by rw [List.length_append, recB_len]; omega
    rw [e]
    rw [encK_map, encK_map, ← xor24 (by omega)] at a1
    unfold recB
    show OS h3 1 o3 _ _
    simpa only [List.map_append, List.append_assoc] using a1
theorem r4all_ok (hE : ∀ f e, E f = some e → e.plain) (hf : E 45 = some (.bc b_ref4All)) (hg : E 92 = some (.bc b_ref2Get)) {h : Hp X} {v : AV} {bs : List UInt8} (hr : RS h 1 v bs.length (bs.map ub)) (hb : bs.length ≤ 1099511627776) :
    WF (lim E) 45 [v] h fun x h' => ∃ o, x = .tup [o, .int .i64 (allG (bs.length + 1) bs).2.1, .bool (allG (bs.length + 1) bs).2.2] ∧ Keep NoB h h' ∧ Recs h' o (allG (bs.length + 1) bs).1 h.n := by
  refine wf_bc hE hf rfl ?_
  simp only [b_ref4All, List.map, getS]
  have hmx : (maxLen : Nat) = 9223372036854775807 := rfl
  repeat first|(refine BG ?_;first|(refine BH ?_;first|(refine BI ?_;refine BM ?_)|(refine BJ ?_;first|refine BN ?_|refine BO ?_)|refine BP ?_)|(refine BK ?_;first|refine BS rfl rfl ?_|refine BT rfl rfl ?_|refine BU rfl ?_)|(refine BL ?_;first|refine BQ ?_)|(refine BR ?_;try simp only [setS]))|refine AA ?_|refine AC ?_|refine AD ?_|refine AE ?_|refine AF rfl rfl ?_|refine AG rfl rfl ?_|refine AH ?_|refine AI ?_|refine AJ ?_|refine AK ?_|refine AL ?_|refine AM ?_|refine AN ?_|refine AO ?_|refine AP ?_|refine AQ rfl ?_|refine AR ?_|refine AS ?_|refine AT rfl ?_|refine AU rfl ?_
  have hA0 : allG (bs.length + 1) (bs.drop 0) = allG (bs.length + 1) bs := by rw [List.drop_zero]
  generalize allG (bs.length + 1) bs = A at hA0 ⊢
  refine wb_loop (fun k t h' => ∃ (o s1 s2 s3 s6 s7 s8 s9 s10 : AV) (at' : Nat) (pre : List (List UInt8)), Keep NoB h h' ∧ Recs h' o pre h.n ∧ at' ≤ bs.length ∧ bs.length - at' < k ∧ pre.length * 6 ≤ at' ∧
    pre ++ (allG k (bs.drop at')).1 = A.1 ∧ at' + (allG k (bs.drop at')).2.1 = A.2.1 ∧ (allG k (bs.drop at')).2.2 = A.2.2 ∧ t = [v, s1, s2, s3, o, .int .i64 at', s6, s7, s8, s9, s10]) ?_ (bs.length + 1) _ _ ⟨.snil, _, _, _, _, _, _, _, _, 0, [], Keep.refl _ _, ⟨[], ⟨rfl, rfl⟩, (fun g q => q.elim), fun i r hi => by simp at hi⟩, by omega, by omega, by simp, by rw [hA0]; simp, by rw [hA0]; simp, by rw [hA0], rfl⟩
  rintro k t h' ⟨o, s1, s2, s3, s6, s7, s8, s9, s10, at', pre, hk, hrec, hat, hfu, hpre, q1, q2, q3, rfl⟩
  obtain ⟨k, rfl⟩ : ∃ k', k = k' + 1 := ⟨k - 1, by omega⟩
  have hr' := hr.up hk
  have hrl : (bs.drop at').length = bs.length - at' := List.length_drop
  simp only [allG] at q1 q2 q3
  by_cases c1 : bs.length - at' < 6
  · have c1' : (bs.length : Int) - (at' : Int) < 6 := by omega
    rw [if_pos (.inl (by omega))] at q1 q2 q3
    repeat first|(refine BG ?_;first|(refine BH ?_;first|(refine BI ?_;refine BM ?_)|(refine BJ ?_;first|refine BN ?_|refine BO ?_)|refine BV (hr'.lenv (by rfl)) ?_|refine BP ?_)|(refine BK ?_;first|refine BS rfl rfl ?_|refine BT rfl rfl ?_|refine BU rfl ?_)|(refine BL ?_;first|refine BQ ?_)|(refine BR ?_;try simp only [setS]))|refine AA ?_|refine AC ?_|refine AD ?_|refine AE ?_|refine AF rfl rfl ?_|refine AG rfl rfl ?_|refine AH ?_|refine AI ?_|refine AJ ?_|refine AK ?_|refine AL ?_|refine AM ?_|refine AN ?_|refine AO ?_|refine AP ?_|refine AQ rfl ?_|refine AR ?_|refine AS ?_|refine AT rfl ?_|refine AU rfl ?_
    refine ⟨o, ?_, hk, by rw [← q1]; simpa using hrec⟩
    rw [← q2, ← q3]
    rfl
  · have c1' : ¬ (bs.length : Int) - (at' : Int) < 6 := by omega
    obtain ⟨va, a1, a2, a3, a4⟩ := hr'.bytes (lo := at') (hi := bs.length) hat (Nat.le_refl _)
    obtain ⟨vb, b1, b2, b3, b4⟩ := hr'.bytes (lo := at' + 3) (hi := bs.length) (by omega) (Nat.le_refl _)
    rw [List.take_of_length_le (by rw [List.length_drop]; exact Nat.le_refl _)] at a1 b1
    have e3 : bs.drop (at' + 3) = (bs.drop at').drop 3 := by rw [List.drop_drop]
    rw [e3] at b1
    have x1 := be3 (bs.drop at')
    have x2 := be3 ((bs.drop at').drop 3)
    have hlf : lenF (bs.drop at') = (be ((bs.drop at').take 3), decide (be ((bs.drop at').take 3) ^^^ be (((bs.drop at').drop 3).take 3) = 16777215 ∧ be ((bs.drop at').take 3) ≤ 1048576)) := by unfold lenF; rw [if_neg (by omega)]
    rw [hlf] at q1 q2 q3
    simp only at q1 q2 q3
    have hdl3 : ((bs.drop at').drop 3).length = bs.length - at' - 3 := by rw [List.length_drop, hrl]
    generalize hrs : bs.drop at' = rest at *
    repeat first|(refine BG ?_;first|(refine BH ?_;first|(refine BI ?_;refine BM ?_)|(refine BJ ?_;first|refine BN ?_|refine BO ?_)|refine BV (hr'.lenv (by rfl)) ?_|refine BV (a4 (by rfl) (.inr ⟨_, _, rfl, rfl⟩) (.inl ⟨rfl, rfl⟩)) ?_|refine BP ?_)|(refine BK ?_;first|refine BS rfl rfl ?_|refine BT rfl rfl ?_|refine BU rfl ?_)|(refine BL ?_;first|refine BQ ?_)|(refine BR ?_;try simp only [setS]))|refine AA ?_|refine AC ?_|refine AD ?_|refine AE ?_|refine AF rfl rfl ?_|refine AG rfl rfl ?_|refine AH ?_|refine AI ?_|refine AJ ?_|refine AK ?_|refine AL ?_|refine AM ?_|refine AN ?_|refine AO ?_|refine AP ?_|refine AQ rfl ?_|refine AR ?_|refine AS ?_|refine AT rfl ?_|refine AU rfl ?_
    refine wr_call_e rfl ((rget_ok hE hg a1 (n := 3) (by omega) (by omega)).mono fun x h1 ⟨y1, y2⟩ => ?_)
    subst y1 y2
    repeat first|(refine BG ?_;first|(refine BH ?_;first|(refine BI ?_;refine BM ?_)|(refine BJ ?_;first|refine BN ?_|refine BO ?_)|refine BV (hr'.lenv (by rfl)) ?_|refine BV (b4 (by rfl) (.inr ⟨_, _, rfl, by rfl⟩) (.inl ⟨rfl, rfl⟩)) ?_|refine BP ?_)|(refine BK ?_;first|refine BS rfl rfl ?_|refine BT rfl rfl ?_|refine BU rfl ?_)|(refine BL ?_;first|refine BQ ?_)|(refine BR ?_;try simp only [setS]))|refine AA ?_|refine AC ?_|refine AD ?_|refine AE ?_|refine AF rfl rfl ?_|refine AG rfl rfl ?_|refine AH ?_|refine AI ?_|refine AJ ?_|refine AK ?_|refine AL ?_|refine AM ?_|refine AN ?_|refine AO ?_|refine AP ?_|refine AQ rfl ?_|refine AR ?_|refine AS ?_|refine AT rfl ?_|refine AU rfl ?_
    refine wr_call_e rfl ((rget_ok hE hg b1 (n := 3) (by omega) (by omega)).mono fun x h2 ⟨y1, y2⟩ => ?_)
    subst y1 y2
    generalize be (rest.take 3) = n at *
    generalize be ((rest.drop 3).take 3) = m at *
    have hxa := xor_add x1 x2
    by_cases hs : n + m = 16777215
    · by_cases hn : n ≤ 1048576
      · have hd : decide (n ^^^ m = 16777215 ∧ n ≤ 1048576) = true := decide_eq_true ⟨hxa.2 hs, hn⟩
        rw [hd] at q1 q2 q3
        by_cases c2 : bs.length - at' - 6 < n
        · rw [if_pos (.inr ⟨rfl, by omega⟩)] at q1 q2 q3
          have c2' : (bs.length : Int) - (at' : Int) - 6 < (n : Int) := by omega
          repeat first|(refine BG ?_;first|(refine BH ?_;first|(refine BI ?_;refine BM ?_)|(refine BJ ?_;first|refine BN ?_|refine BO ?_)|refine BV (hr'.lenv (by rfl)) ?_|refine BV (v_addu rfl rfl (by omega)) ?_|refine BV (v_conv_i64 rfl (by omega)) ?_|refine BP ?_)|(refine BK ?_;first|refine BS rfl rfl ?_|refine BT rfl rfl ?_|refine BU rfl ?_)|(refine BL ?_;first|refine BQ ?_)|(refine BR ?_;try simp only [setS]))|refine AA ?_|refine AC ?_|refine AD ?_|refine AE ?_|refine AF rfl rfl ?_|refine AG rfl rfl ?_|refine AH ?_|refine AI ?_|refine AJ ?_|refine AK ?_|refine AL ?_|refine AM ?_|refine AN ?_|refine AO ?_|refine AP ?_|refine AQ rfl ?_|refine AR ?_|refine AS ?_|refine AT rfl ?_|refine AU rfl ?_
          refine ⟨o, ?_, hk, by rw [← q1]; simpa using hrec⟩
          rw [← q2, ← q3]
          rfl
        · rw [if_neg (by rintro (q | ⟨_, q⟩); omega; omega), if_neg (by decide)] at q1 q2 q3
          have c2' : ¬ (bs.length : Int) - (at' : Int) - 6 < (n : Int) := by omega
          obtain ⟨cv, d1, d2, d3, d4⟩ := hr'.bytes (lo := at' + 6) (hi := at' + 6 + n) (by omega) (by omega)
          have e6 : (bs.drop (at' + 6)).take (at' + 6 + n - (at' + 6)) = (rest.drop 6).take n := by rw [Nat.add_sub_cancel_left, ← hrs, List.drop_drop]
          rw [e6] at d1
          have hnl : ((rest.drop 6).take n).length = n := by rw [List.length_take, List.length_drop]; omega
          repeat first|(refine BG ?_;first|(refine BH ?_;first|(refine BI ?_;refine BM ?_)|(refine BJ ?_;first|refine BN ?_|refine BO ?_)|refine BV (hr'.lenv (by rfl)) ?_|refine BV (v_addu rfl rfl (by omega)) ?_|refine BV (v_conv_i64 rfl (by omega)) ?_|refine BV (d4 (by rfl) (.inr ⟨_, _, rfl, by rfl⟩) (.inr ⟨_, _, rfl, by rfl⟩)) ?_|refine BP ?_)|(refine BK ?_;first|refine BS rfl rfl ?_|refine BT rfl rfl ?_|refine BU rfl ?_)|(refine BL ?_;first|refine BW ef_bs0 ?_|refine BQ ?_)|(refine BR ?_;try simp only [setS]))|refine AA ?_|refine AC ?_|refine AD ?_|refine AE ?_|refine AF rfl rfl ?_|refine AG rfl rfl ?_|refine AH ?_|refine AI ?_|refine AJ ?_|refine AK ?_|refine AL ?_|refine AM ?_|refine AN ?_|refine AO ?_|refine AP ?_|refine AQ rfl ?_|refine AR ?_|refine AS ?_|refine AT rfl ?_|refine AU rfl ?_
          have kp : Keep NoB h2 (h2.push (.rw [])) := Keep.push _ _ _
          refine wr_app_e (n := 0) (cells := []) rfl rfl (os_push0 Nat.zero_lt_one) Nat.zero_lt_one (d1.up kp) (by omega) (by omega) fun c h3 u1 u2 u3 => ?_
          have k3 : Keep NoB h2 h3 := kp.own u2 (fun j q => by have q : j = h2.n := q; omega)
          rw [Nat.zero_add, List.nil_append] at u1
          repeat first|(refine BG ?_;first|(refine BH ?_;first|(refine BI ?_;refine BM ?_)|(refine BJ ?_;first|refine BN ?_|refine BO ?_)|refine BP ?_)|(refine BK ?_;first|refine BS rfl rfl ?_|refine BT rfl rfl ?_|refine BU rfl ?_)|(refine BL ?_;first|refine BW (ef_bs1' rfl u1.one.1 u1.one.2) ?_|refine BQ ?_)|(refine BR ?_;try simp only [setS]))|refine AA ?_|refine AC ?_|refine AD ?_|refine AE ?_|refine AF rfl rfl ?_|refine AG rfl rfl ?_|refine AH ?_|refine AI ?_|refine AJ ?_|refine AK ?_|refine AL ?_|refine AM ?_|refine AN ?_|refine AO ?_|refine AP ?_|refine AQ rfl ?_|refine AR ?_|refine AS ?_|refine AT rfl ?_|refine AU rfl ?_
          obtain ⟨cells, g1, g2, g3⟩ := hrec
          have kq : Keep NoB h3 (h3.push (.rw [c])) := Keep.push _ _ _
          refine wr_app_e rfl rfl ((g1.up k3).up kq) Nat.zero_lt_one (rs_push rfl) (by omega) (by omega) fun o' h4 w1 w2 w3 => ?_
          repeat first|(refine BG ?_;first|(refine BH ?_;first|(refine BI ?_;refine BM ?_)|(refine BJ ?_;first|refine BN ?_|refine BO ?_)|refine BV (v_conv_i64 rfl (by omega)) ?_|refine BP ?_)|(refine BK ?_;first|refine BS rfl rfl ?_|refine BT rfl rfl ?_|refine BU rfl ?_)|(refine BL ?_;first|refine BQ ?_)|(refine BR ?_;try simp only [setS]))|refine AA ?_|refine AC ?_|refine AD ?_|refine AE ?_|refine AF rfl rfl ?_|refine AG rfl rfl ?_|refine AH ?_|refine AI ?_|refine AJ ?_|refine AK ?_|refine AL ?_|refine AM ?_|refine AN ?_|refine AO ?_|refine AP ?_|refine AQ rfl ?_|refine AR ?_|refine AS ?_|refine AT rfl ?_|refine AU rfl ?_
          have k4 : Keep NoB h h4 := ((hk.and k3).and kq).own w2 g2
          have hk3 := k3.n
          have hkn := hk.n
          have blc : ∀ j, blk c j → h2.n ≤ j := fun j q => by
            rcases u3 j q with q | q
            · have q : j = h2.n := q; omega
            · simp only [push_n] at q; omega
          have ed : bs.drop (at' + (6 + n)) = rest.drop (6 + n) := by rw [← hrs, List.drop_drop]
          rw [show ((at' : Int) + 6 + (n : Int)) = ((at' + (6 + n) : Nat) : Int) by omega]
          refine round_norm k (Nat.lt_succ_self _) ⟨o', _, _, _, _, _, _, _, _, at' + (6 + n), pre ++ [(rest.drop 6).take n], k4, ⟨cells ++ [c], ?_, ?_, ?_⟩, by omega, by omega, ?_, ?_, ?_, ?_, rfl⟩
          · rw [List.length_append, List.length_singleton]; exact w1
          · intro g hg
            rcases w3 g hg with hb | hb
            · exact g2 g hb
            · simp only [push_n] at hb; omega
          · intro i r hi
            have hcl : cells.length = pre.length := by have := g1.len; omega
            rw [List.getElem?_append] at hi
            rw [List.getElem?_append]
            by_cases hil : i < pre.length
            · rw [if_pos hil] at hi
              rw [if_pos (by omega)]
              obtain ⟨c0, z1, z2, z3, z4⟩ := g3 i r hi
              refine ⟨c0, z1, z2, ((z3.up k3).up kq).keep w2 (fun j q1 q2 => (z4 j q1).2 q2), fun j q => ⟨(z4 j q).1, fun q2 => ?_⟩⟩
              rcases w3 j q2 with q3 | q3
              · exact (z4 j q).2 q3
              · have := z3.lt j q; simp only [push_n] at q3; omega
            · rw [if_neg hil] at hi
              rw [if_neg (by omega)]
              have hi0 : i = pre.length := by
                have := (List.getElem?_eq_some_iff.1 hi).1
                simp at this; omega
              subst hi0
              rw [Nat.sub_self] at hi
              simp at hi
              subst hi
              rw [hcl, Nat.sub_self]
              refine ⟨c, rfl, u1.nsemp, ?_, fun j q => ⟨by have := blc j q; omega, fun q2 => ?_⟩⟩
              · rw [hnl]
                rw [hnl] at u1
                exact (u1.rs.up kq).keep w2 (fun j q1 q2 => by have := blc j q1; have := g1.lt j q2; omega)
              · rcases w3 j q2 with q3 | q3
                · have := blc j q; have := g1.lt j q3; omega
                · have := u1.lt j q; simp only [push_n] at q3; omega
          · rw [List.length_append]; simp; omega
          · rw [← q1, ed]; simp
          · rw [← q2, ed]
            show at' + (6 + n) + _ = at' + (6 + n + _)
            omega
          · rw [← q3, ed]
      · have hd : decide (n ^^^ m = 16777215 ∧ n ≤ 1048576) = false := decide_eq_false (fun q => hn q.2)
        rw [hd, if_neg (by rintro (q | ⟨q, _⟩); omega; cases q), if_pos rfl] at q1 q2 q3
        have hn' : ¬ (n : Int) ≤ 1048576 := by omega
        repeat first|(refine BG ?_;first|(refine BH ?_;first|(refine BI ?_;refine BM ?_)|(refine BJ ?_;first|refine BN ?_|refine BO ?_)|refine BV (v_addu rfl rfl (by omega)) ?_|refine BP ?_)|(refine BK ?_;first|refine BS rfl rfl ?_|refine BT rfl rfl ?_|refine BU rfl ?_)|(refine BL ?_;first|refine BQ ?_)|(refine BR ?_;try simp only [setS]))|refine AA ?_|refine AC ?_|refine AD ?_|refine AE ?_|refine AF rfl rfl ?_|refine AG rfl rfl ?_|refine AH ?_|refine AI ?_|refine AJ ?_|refine AK ?_|refine AL ?_|refine AM ?_|refine AN ?_|refine AO ?_|refine AP ?_|refine AQ rfl ?_|refine AR ?_|refine AS ?_|refine AT rfl ?_|refine AU rfl ?_
        refine ⟨o, ?_, hk, by rw [← q1]; simpa using hrec⟩
        rw [← q2, ← q3]
        rfl
    · have hd : decide (n ^^^ m = 16777215 ∧ n ≤ 1048576) = false := decide_eq_false (fun q => hs (hxa.1 q.1))
      rw [hd, if_neg (by rintro (q | ⟨q, _⟩); omega; cases q), if_pos rfl] at q1 q2 q3
      have hs' : ¬ ((n + m : Nat) : Int) = 16777215 := by omega
      repeat first|(refine BG ?_;first|(refine BH ?_;first|(refine BI ?_;refine BM ?_)|(refine BJ ?_;first|refine BN ?_|refine BO ?_)|refine BV (v_addu rfl rfl (by omega)) ?_|refine BP ?_)|(refine BK ?_;first|refine BS rfl rfl ?_|refine BT rfl rfl ?_|refine BU rfl ?_)|(refine BL ?_;first|refine BQ ?_)|(refine BR ?_;try simp only [setS]))|refine AA ?_|refine AC ?_|refine AD ?_|refine AE ?_|refine AF rfl rfl ?_|refine AG rfl rfl ?_|refine AH ?_|refine AI ?_|refine AJ ?_|refine AK ?_|refine AL ?_|refine AM ?_|refine AN ?_|refine AO ?_|refine AP ?_|refine AQ rfl ?_|refine AR ?_|refine AS ?_|refine AT rfl ?_|refine AU rfl ?_
      refine ⟨o, ?_, hk, by rw [← q1]; simpa using hrec⟩
      rw [← q2, ← q3]
      rfl
theorem samei_ok (hE : ∀ f e, E f = some e → e.plain) (hf : E 94 = some (.bc b_sameI)) {h : Hp X} {v w : AV} {a b : List Int} (ha : RS h 1 v a.length (a.map iv)) (hb : RS h 1 w b.length (b.map iv)) (hla : a.length ≤ 1000000) (hlb : b.length ≤ 1000000) :
    WF (lim E) 94 [v, w] h fun r h' => h' = h ∧ r = .bool (decide (a = b)) := by
  refine wf_bc hE hf rfl ?_
  simp only [b_sameI, List.map, getS]
  by_cases hl : (a.length : Int) = b.length
  · repeat first|(refine BG ?_;first|(refine BH ?_;first|(refine BI ?_;refine BM ?_)|(refine BJ ?_;first|refine BN ?_|refine BO ?_)|refine BV (ha.lenv (by rfl)) ?_|refine BV (hb.lenv (by rfl)) ?_|refine BP ?_)|(refine BK ?_;first|refine BS rfl rfl ?_|refine BT rfl rfl ?_|refine BU rfl ?_)|(refine BL ?_;first|refine BQ ?_)|(refine BR ?_;try simp only [setS]))|(refine BX ?_;first|refine BY rfl ?_|(refine BZ ?_;refine CA ?_)|refine CB (ha.lenv (by rfl)) ?_|refine CB (hb.lenv (by rfl)) ?_|refine CC ?_|(refine CD ?_;try simp only [setS]))|refine AA ?_|refine AC ?_|refine AD ?_|refine AE ?_|refine AF rfl rfl ?_|refine AG rfl rfl ?_|refine AH ?_|refine AI ?_|refine AJ ?_|refine AK ?_|refine AL ?_|refine AM ?_|refine AN ?_|refine AO ?_|refine AP ?_|refine AQ rfl ?_|refine AR ?_|refine AS ?_|refine AT rfl ?_|refine AU rfl ?_
    refine wb_loop (fun n t h' => h' = h ∧ ∃ (i : Nat) (s5 s6 : AV), i ≤ a.length ∧ n = a.length - i ∧ a.take i = b.take i ∧ t = [v, w, .bool false, .int .i64 i, .bool false, s5, s6]) ?_ a.length _ _ ⟨rfl, 0, _, _, by omega, by omega, by simp, rfl⟩
    rintro n t h' ⟨rfl, i, s5, s6, hi, hn, ht, rfl⟩
    by_cases hlt : i < a.length
    · obtain ⟨ga, oa, pa, la⟩ := ha.at2 (i := i) hlt
      obtain ⟨gb, ob, pb, lb⟩ := hb.at2 (i := i) (by omega)
      have ma := map_at (l := a) (i := (i : Int)) (by omega) (by omega)
      have mb := map_at (l := b) (i := (i : Int)) (by omega) (by omega)
      rw [Int.toNat_natCast] at ma mb
      rw [ma] at la
      rw [mb] at lb
      have la := @la NoB _ (Keep.refl _ _) (fun _ _ q => q)
      have lb := @lb NoB _ (Keep.refl _ _) (fun _ _ q => q)
      have ta : a.take (i + 1) = a.take i ++ [a.getD i 0] := by rw [List.take_succ_eq_append_getElem hlt, List.getD_eq_getElem?_getD, List.getElem?_eq_getElem hlt]; rfl
      have tb : b.take (i + 1) = b.take i ++ [b.getD i 0] := by
        have hltb : i < b.length := by omega
        rw [List.take_succ_eq_append_getElem hltb, List.getD_eq_getElem?_getD, List.getElem?_eq_getElem hltb]; rfl
      generalize a.getD i 0 = x at *
      generalize b.getD i 0 = y at *
      by_cases he : x = y
      · have he' : ¬ x ≠ y := fun q => q he
        repeat first|(refine BG ?_;first|(refine BH ?_;first|(refine BI ?_;refine BM ?_)|(refine BJ ?_;first|refine BN ?_|refine BO ?_)|refine BV (ha.lenv (by rfl)) ?_|refine BV (pa rfl rfl) ?_|refine BV (la rfl) ?_|refine BV (pb rfl rfl) ?_|refine BV (lb rfl) ?_|refine BV (v_neq_f rfl rfl he') ?_|refine BP ?_)|(refine BK ?_;first|refine BS rfl rfl ?_|refine BT rfl rfl ?_|refine BU rfl ?_)|(refine BL ?_;first|refine BQ ?_)|(refine BR ?_;try simp only [setS]))|(refine BX ?_;first|refine BY rfl ?_|(refine BZ ?_;refine CA ?_)|refine CB (ha.lenv (by rfl)) ?_|refine CB (pa rfl rfl) ?_|refine CB (la rfl) ?_|refine CB (pb rfl rfl) ?_|refine CB (lb rfl) ?_|refine CB (v_neq_f rfl rfl he') ?_|refine CC ?_|(refine CD ?_;try simp only [setS]))|refine AA ?_|refine AC ?_|refine AD ?_|refine AE ?_|refine AF rfl rfl ?_|refine AG rfl rfl ?_|refine AH ?_|refine AI ?_|refine AJ ?_|refine AK ?_|refine AL ?_|refine AM ?_|refine AN ?_|refine AO ?_|refine AP ?_|refine AQ rfl ?_|refine AR ?_|refine AS ?_|refine AT rfl ?_|refine AU rfl ?_
        rw [show ((i : Int) + 1) = ((i + 1 : Nat) : Int) by omega]
        exact round_norm (n - 1) (by omega) ⟨rfl, i + 1, _, _, by omega, by omega, by rw [ta, tb, ht, he], rfl⟩
      · have hne : a ≠ b := fun q => by
          subst q
          rw [ta] at tb
          exact he (by simpa using tb)
        repeat first|(refine BG ?_;first|(refine BH ?_;first|(refine BI ?_;refine BM ?_)|(refine BJ ?_;first|refine BN ?_|refine BO ?_)|refine BV (ha.lenv (by rfl)) ?_|refine BV (pa rfl rfl) ?_|refine BV (la rfl) ?_|refine BV (pb rfl rfl) ?_|refine BV (lb rfl) ?_|refine BV (v_neq_t rfl rfl he) ?_|refine BP ?_)|(refine BK ?_;first|refine BS rfl rfl ?_|refine BT rfl rfl ?_|refine BU rfl ?_)|(refine BL ?_;first|refine BQ ?_)|(refine BR ?_;try simp only [setS]))|(refine BX ?_;first|refine BY rfl ?_|(refine BZ ?_;refine CA ?_)|refine CB (ha.lenv (by rfl)) ?_|refine CB (pa rfl rfl) ?_|refine CB (la rfl) ?_|refine CB (pb rfl rfl) ?_|refine CB (lb rfl) ?_|refine CB (v_neq_t rfl rfl he) ?_|refine CC ?_|(refine CD ?_;try simp only [setS]))|refine AA ?_|refine AC ?_|refine AD ?_|refine AE ?_|refine AF rfl rfl ?_|refine AG rfl rfl ?_|refine AH ?_|refine AI ?_|refine AJ ?_|refine AK ?_|refine AL ?_|refine AM ?_|refine AN ?_|refine AO ?_|refine AP ?_|refine AQ rfl ?_|refine AR ?_|refine AS ?_|refine AT rfl ?_|refine AU rfl ?_
        exact ⟨rfl, by rw [decide_eq_false hne]; rfl⟩
    · have e : i = a.length := by omega
      subst e
      repeat first|(refine BG ?_;first|(refine BH ?_;first|(refine BI ?_;refine BM ?_)|(refine BJ ?_;first|refine BN ?_|refine BO ?_)|refine BV (ha.lenv (by rfl)) ?_|refine BP ?_)|(refine BK ?_;first|refine BS rfl rfl ?_|refine BT rfl rfl ?_|refine BU rfl ?_)|(refine BL ?_;first|refine BQ ?_)|(refine BR ?_;try simp only [setS]))|(refine BX ?_;first|refine BY rfl ?_|(refine BZ ?_;refine CA ?_)|refine CB (ha.lenv (by rfl)) ?_|refine CC ?_|(refine CD ?_;try simp only [setS]))|refine AA ?_|refine AC ?_|refine AD ?_|refine AE ?_|refine AF rfl rfl ?_|refine AG rfl rfl ?_|refine AH ?_|refine AI ?_|refine AJ ?_|refine AK ?_|refine AL ?_|refine AM ?_|refine AN ?_|refine AO ?_|refine AP ?_|refine AQ rfl ?_|refine AR ?_|refine AS ?_|refine AT rfl ?_|refine AU rfl ?_
      refine ⟨rfl, ?_⟩
      rw [List.take_length, List.take_of_length_le (by omega)] at ht
      rw [decide_eq_true ht]
      rfl
  · have hne : a ≠ b := fun q => hl (by rw [q])
    repeat first|(refine BG ?_;first|(refine BH ?_;first|(refine BI ?_;refine BM ?_)|(refine BJ ?_;first|refine BN ?_|refine BO ?_)|refine BV (ha.lenv (by rfl)) ?_|refine BV (hb.lenv (by rfl)) ?_|refine BP ?_)|(refine BK ?_;first|refine BS rfl rfl ?_|refine BT rfl rfl ?_|refine BU rfl ?_)|(refine BL ?_;first|refine BQ ?_)|(refine BR ?_;try simp only [setS]))|(refine BX ?_;first|refine BY rfl ?_|(refine BZ ?_;refine CA ?_)|refine CB (ha.lenv (by rfl)) ?_|refine CB (hb.lenv (by rfl)) ?_|refine CC ?_|(refine CD ?_;try simp only [setS]))|refine AA ?_|refine AC ?_|refine AD ?_|refine AE ?_|refine AF rfl rfl ?_|refine AG rfl rfl ?_|refine AH ?_|refine AI ?_|refine AJ ?_|refine AK ?_|refine AL ?_|refine AM ?_|refine AN ?_|refine AO ?_|refine AP ?_|refine AQ rfl ?_|refine AR ?_|refine AS ?_|refine AT rfl ?_|refine AU rfl ?_
    exact ⟨rfl, by rw [decide_eq_false hne]; rfl⟩
theorem same_ok (hE : ∀ f e, E f = some e → e.plain) (hf : E 47 = some (.bc b_mfSame)) (hs : E 94 = some (.bc b_sameI)) {h : Hp X} {v w : AV} {a b : List Int} {wa na wb nb : Int} (ha : RS h 1 v a.length (a.map iv)) (hb : RS h 1 w b.length (b.map iv)) (hla : a.length ≤ 1000000) (hlb : b.length ≤ 1000000) :
    WF (lim E) 47 [LsV v wa na, LsV w wb nb] h fun r h' => Keep NoB h h' ∧ r = .bool (decide (a = b ∧ wa = wb ∧ na = nb)) := by
  refine wf_bc hE hf rfl ?_
  simp only [b_mfSame, List.map, getS]
  have k1 : Keep NoB h (h.push (.rw [v, .int .i64 wa, .int .i64 na])) := Keep.push _ _ _
  have k2 : Keep NoB (h.push (.rw [v, .int .i64 wa, .int .i64 na])) ((h.push (.rw [v, .int .i64 wa, .int .i64 na])).push (.rw [w, .int .i64 wb, .int .i64 nb])) := Keep.push _ _ _
  have b1 : Bx (h.push (.rw [v, .int .i64 wa, .int .i64 na])) h.n _ := bx_push
  have b2 : Bx ((h.push (.rw [v, .int .i64 wa, .int .i64 na])).push (.rw [w, .int .i64 wb, .int .i64 nb])) (h.n + 1) _ := bx_push
  have b1 := b1.up k2
  have k := k1.and k2
  have ha' := ha.up k
  have hb' := hb.up k
  repeat first|(refine BG ?_;first|(refine BH ?_;first|(refine BI ?_;refine BM ?_)|(refine BJ ?_;first|refine BN ?_|refine BO ?_)|refine BV (v_bx b1 rfl rfl) ?_|refine BV (v_bx b2 rfl rfl) ?_|refine BP ?_)|(refine BK ?_;first|refine BS rfl rfl ?_|refine BT rfl rfl ?_|refine BU rfl ?_)|(refine BL ?_;first|refine BW (ef_box rfl (all3 ha.one.2)) ?_|refine BW (ef_box rfl (all3 hb.one.2)) ?_|refine BQ ?_)|(refine BR ?_;try simp only [setS]))|refine AA ?_|refine AC ?_|refine AD ?_|refine AE ?_|refine AF rfl rfl ?_|refine AG rfl rfl ?_|refine AH ?_|refine AI ?_|refine AJ ?_|refine AK ?_|refine AL ?_|refine AM ?_|refine AN ?_|refine AO ?_|refine AP ?_|refine AQ rfl ?_|refine AR ?_|refine AS ?_|refine AT rfl ?_|refine AU rfl ?_
  refine wr_call_e rfl ((samei_ok hE hs ha' hb' hla hlb).mono fun r h3 ⟨e1, e2⟩ => ?_)
  subst e1 e2
  by_cases h1 : a = b
  · by_cases h2 : wa = wb
    · by_cases h3 : na = nb
      · rw [decide_eq_true h1]
        repeat first|(refine BG ?_;first|(refine BH ?_;first|(refine BI ?_;refine BM ?_)|(refine BJ ?_;first|refine BN ?_|refine BO ?_)|refine BV (v_bx b1 rfl rfl) ?_|refine BV (v_bx b2 rfl rfl) ?_|refine BP ?_)|(refine BK ?_;first|refine BS rfl rfl ?_|refine BT rfl rfl ?_|refine BU rfl ?_)|(refine BL ?_;first|refine BQ ?_)|(refine BR ?_;try simp only [setS]))|refine AA ?_|refine AC ?_|refine AD ?_|refine AE ?_|refine AF rfl rfl ?_|refine AG rfl rfl ?_|refine AH ?_|refine AI ?_|refine AJ ?_|refine AK ?_|refine AL ?_|refine AM ?_|refine AN ?_|refine AO ?_|refine AP ?_|refine AQ rfl ?_|refine AR ?_|refine AS ?_|refine AT rfl ?_|refine AU rfl ?_
        exact ⟨k, by rw [decide_eq_true ⟨h1, h2, h3⟩]; rfl⟩
      · rw [decide_eq_true h1]
        repeat first|(refine BG ?_;first|(refine BH ?_;first|(refine BI ?_;refine BM ?_)|(refine BJ ?_;first|refine BN ?_|refine BO ?_)|refine BV (v_bx b1 rfl rfl) ?_|refine BV (v_bx b2 rfl rfl) ?_|refine BP ?_)|(refine BK ?_;first|refine BS rfl rfl ?_|refine BT rfl rfl ?_|refine BU rfl ?_)|(refine BL ?_;first|refine BQ ?_)|(refine BR ?_;try simp only [setS]))|refine AA ?_|refine AC ?_|refine AD ?_|refine AE ?_|refine AF rfl rfl ?_|refine AG rfl rfl ?_|refine AH ?_|refine AI ?_|refine AJ ?_|refine AK ?_|refine AL ?_|refine AM ?_|refine AN ?_|refine AO ?_|refine AP ?_|refine AQ rfl ?_|refine AR ?_|refine AS ?_|refine AT rfl ?_|refine AU rfl ?_
        exact ⟨k, by rw [decide_eq_false (fun q => h3 q.2.2)]; rfl⟩
    · rw [decide_eq_true h1]
      repeat first|(refine BG ?_;first|(refine BH ?_;first|(refine BI ?_;refine BM ?_)|(refine BJ ?_;first|refine BN ?_|refine BO ?_)|refine BV (v_bx b1 rfl rfl) ?_|refine BV (v_bx b2 rfl rfl) ?_|refine BP ?_)|(refine BK ?_;first|refine BS rfl rfl ?_|refine BT rfl rfl ?_|refine BU rfl ?_)|(refine BL ?_;first|refine BQ ?_)|(refine BR ?_;try simp only [setS]))|refine AA ?_|refine AC ?_|refine AD ?_|refine AE ?_|refine AF rfl rfl ?_|refine AG rfl rfl ?_|refine AH ?_|refine AI ?_|refine AJ ?_|refine AK ?_|refine AL ?_|refine AM ?_|refine AN ?_|refine AO ?_|refine AP ?_|refine AQ rfl ?_|refine AR ?_|refine AS ?_|refine AT rfl ?_|refine AU rfl ?_
      exact ⟨k, by rw [decide_eq_false (fun q => h2 q.2.1)]; rfl⟩
  · rw [decide_eq_false h1]
    repeat first|(refine BG ?_;first|(refine BH ?_;first|(refine BI ?_;refine BM ?_)|(refine BJ ?_;first|refine BN ?_|refine BO ?_)|refine BV (v_bx b1 rfl rfl) ?_|refine BV (v_bx b2 rfl rfl) ?_|refine BP ?_)|(refine BK ?_;first|refine BS rfl rfl ?_|refine BT rfl rfl ?_|refine BU rfl ?_)|(refine BL ?_;first|refine BQ ?_)|(refine BR ?_;try simp only [setS]))|refine AA ?_|refine AC ?_|refine AD ?_|refine AE ?_|refine AF rfl rfl ?_|refine AG rfl rfl ?_|refine AH ?_|refine AI ?_|refine AJ ?_|refine AK ?_|refine AL ?_|refine AM ?_|refine AN ?_|refine AO ?_|refine AP ?_|refine AQ rfl ?_|refine AR ?_|refine AS ?_|refine AT rfl ?_|refine AU rfl ?_
    exact ⟨k, by rw [decide_eq_false (fun q => h1 q.1)]; rfl⟩
end
end Am
end Go.Proofs.Ythgcdoahoechhaa
namespace Go.Proofs.Ythgcdoahoechhaa
namespace Am
open Go.RowKit
set_option maxRecDepth 100000
section
variable {X : Type} {e : En} {t : List AV} {h : Hp X}
theorem one_cells {a : AV} (ha : a.one = true) : cellsOf a = some [a] := by
  cases a <;> first | (cases ha; done) | rfl
end
section
variable {E : Nat → Option (Ent MD)}
structure MfV (E : Nat → Option (Ent MD)) : Prop extends MfIO E, MfR E, MfT E where
  new : E 13 = some (.nat n_new)
  fresh : E 48 = some (.bc b_mfFresh)
  on : E 43 = some (.bc b_mfOn)
  sameI : E 94 = some (.bc b_sameI)
  same : E 47 = some (.bc b_mfSame)
  encodes : E 36 = some (.bc b_mfEncodes)
  decodes : E 37 = some (.bc b_mfDecodes)
  within : E 12 = some (.bc b_Within)
  made : E 34 = some (.bc b_mfMade)
  cut : E 27 = some (.bc b_keepCut)
  r4put : E 42 = some (.bc b_ref4Put)
  r4all : E 45 = some (.bc b_ref4All)
  known : E 41 = some (.nat n_true)
  digits : E 90 = some (.bc b_mfDigits)
  table : E 38 = some (.bc b_mfTable)
  mwal : E 40 = some (.bc b_mfWal)
  whole : E 39 = some (.bc b_ref1Whole)
  parts : E 91 = some (.bc b_ref1parts)
  names : E 33 = some (.nat n_names)
  arm : E 28 = some (.nat (n_int i64ok MD.arm))
  crash : E 22 = some (.nat (n_int i64ok MD.crash))
theorem fresh_ok (hE : ∀ f e, E f = some e → e.plain) (T : MfV E) {h : Hp MD} : WF (lim E) 48 [] h fun r h' => r = .ptr h.n 0 ∧ Ob h' h.n (MD.new 16777216) ∧ Keep NoB h h' := by
  refine wf_bc hE T.fresh rfl ?_
  simp only [b_mfFresh, List.map, getS]
  repeat first|(refine BG ?_;first|(refine BH ?_;first|(refine BI ?_;refine BM ?_)|(refine BJ ?_;first|refine BN ?_|refine BO ?_)|refine BP ?_)|(refine BK ?_;first|refine BS rfl rfl ?_|refine BT rfl rfl ?_|refine BU rfl ?_)|(refine BL ?_;first|refine BQ ?_)|(refine BR ?_;try simp only [setS]))|refine AA ?_|refine AC ?_|refine AD ?_|refine AE ?_|refine AF rfl rfl ?_|refine AG rfl rfl ?_|refine AH ?_|refine AI ?_|refine AJ ?_|refine AK ?_|refine AL ?_|refine AM ?_|refine AN ?_|refine AO ?_|refine AP ?_|refine AQ rfl ?_|refine AR ?_|refine AS ?_|refine AT rfl ?_|refine AU rfl ?_
  refine wr_call_e rfl ((w_new hE T.new (n := 16777216) (by omega) (by omega)).mono fun r h1 ⟨e1, o1, k1, _⟩ => ?_)
  subst e1
  repeat first|(refine BG ?_;first|(refine BH ?_;first|(refine BI ?_;refine BM ?_)|(refine BJ ?_;first|refine BN ?_|refine BO ?_)|refine BP ?_)|(refine BK ?_;first|refine BS rfl rfl ?_|refine BT rfl rfl ?_|refine BU rfl ?_)|(refine BL ?_;first|refine BQ ?_)|(refine BR ?_;try simp only [setS]))|refine AA ?_|refine AC ?_|refine AD ?_|refine AE ?_|refine AF rfl rfl ?_|refine AG rfl rfl ?_|refine AH ?_|refine AI ?_|refine AJ ?_|refine AK ?_|refine AL ?_|refine AM ?_|refine AN ?_|refine AO ?_|refine AP ?_|refine AQ rfl ?_|refine AR ?_|refine AS ?_|refine AT rfl ?_|refine AU rfl ?_
  exact ⟨rfl, o1, k1⟩
def onF (s b : List UInt8) : MD := ((((MD.new 16777216).create s).2.append s b).2.sync s).2
theorem onF_calm {s b : List UInt8} (hs : MD.right s = true) (hb : b.length ≤ 16777216) : ((MD.new 16777216).create s).1 = 0 ∧ (((MD.new 16777216).create s).2.append s b).1 = 0 ∧ ((((MD.new 16777216).create s).2.append s b).2.sync s).1 = 0 ∧ MD.Calm 16777216 (onF s b) ∧ (onF s b).get s = some ⟨s, b, b.length⟩ ∧ (onF s b).fs.length ≤ 1 ∧ (∀ t, t ≠ s → (onF s b).get t = none) := by
  have c0 := MD.Calm.new (L := 16777216) (by omega) (by omega)
  obtain ⟨m1, e1, c1, u1, g1, o1, l1⟩ := c0.create hs
  have hu0 : (MD.new 16777216).used = 0 := rfl
  obtain ⟨m2, e2, c2, u2, g2, o2, l2⟩ := c1.append (b := b) g1 (by omega)
  obtain ⟨m3, e3, c3, u3, g3, o3, l3⟩ := c2.sync g2
  unfold onF
  rw [e1]; simp only
  rw [e2]; simp only
  rw [e3]; simp only
  refine ⟨trivial, trivial, trivial, c3, ?_, ?_, fun t ht => ?_⟩
  · rw [g3]; simp
  · have : (MD.new 16777216).fs.length = 0 := rfl
    omega
  · rw [o3 t ht, o2 t ht, o1 t ht]; rfl
theorem on_ok (hE : ∀ f e, E f = some e → e.plain) (T : MfV E) {h : Hp MD} {s : List UInt8} (hs : MD.right s = true) {v : AV} {b : List UInt8} (hr : RS h 1 v b.length (b.map ub)) (hb : b.length ≤ 16777216) :
    WF (lim E) 43 [.str s, v] h fun r h' => r = .ptr h.n 0 ∧ Ob h' h.n (onF s b) ∧ Keep NoB h h' := by
  refine wf_bc hE T.on rfl ?_
  simp only [b_mfOn, List.map, getS]
  obtain ⟨z1, z2, z3, _⟩ := onF_calm hs hb
  unfold onF
  repeat first|(refine BG ?_;first|(refine BH ?_;first|(refine BI ?_;refine BM ?_)|(refine BJ ?_;first|refine BN ?_|refine BO ?_)|refine BP ?_)|(refine BK ?_;first|refine BS rfl rfl ?_|refine BT rfl rfl ?_|refine BU rfl ?_)|(refine BL ?_;first|refine BQ ?_)|(refine BR ?_;try simp only [setS]))|refine AA ?_|refine AC ?_|refine AD ?_|refine AE ?_|refine AF rfl rfl ?_|refine AG rfl rfl ?_|refine AH ?_|refine AI ?_|refine AJ ?_|refine AK ?_|refine AL ?_|refine AM ?_|refine AN ?_|refine AO ?_|refine AP ?_|refine AQ rfl ?_|refine AR ?_|refine AS ?_|refine AT rfl ?_|refine AU rfl ?_
  refine wr_call_e rfl ((fresh_ok hE T).mono fun r h1 ⟨e1, o1, k1⟩ => ?_)
  subst e1
  repeat first|(refine BG ?_;first|(refine BH ?_;first|(refine BI ?_;refine BM ?_)|(refine BJ ?_;first|refine BN ?_|refine BO ?_)|refine BV (v_pnil rfl) ?_|refine BP ?_)|(refine BK ?_;first|refine BS rfl rfl ?_|refine BT rfl rfl ?_|refine BU rfl ?_)|(refine BL ?_;first|refine BQ ?_)|(refine BR ?_;try simp only [setS]))|refine AA ?_|refine AC ?_|refine AD ?_|refine AE ?_|refine AF rfl rfl ?_|refine AG rfl rfl ?_|refine AH ?_|refine AI ?_|refine AJ ?_|refine AK ?_|refine AL ?_|refine AM ?_|refine AN ?_|refine AO ?_|refine AP ?_|refine AQ rfl ?_|refine AR ?_|refine AS ?_|refine AT rfl ?_|refine AU rfl ?_
  refine wr_call_e rfl ((w_name hE T.create o1 (by decide) s).mono fun r h2 ⟨e2, o2, k2⟩ => ?_)
  subst e2
  have f1 := fl_create (MD.new 16777216) s
  have f0 : (MD.new 16777216).fs.length = 0 := rfl
  have K2 := k1.own k2 (fun k q => by have q : k = h.n := q; omega)
  generalize (MD.new 16777216).create s = c at *
  repeat first|(refine BG ?_;first|(refine BH ?_;first|(refine BI ?_;refine BM ?_)|(refine BJ ?_;first|refine BN ?_|refine BO ?_)|refine BP ?_)|(refine BK ?_;first|refine BS rfl rfl ?_|refine BT rfl rfl ?_|refine BU rfl ?_)|(refine BL ?_;first|refine BQ ?_)|(refine BR ?_;try simp only [setS]))|refine AA ?_|refine AC ?_|refine AD ?_|refine AE ?_|refine AF rfl rfl ?_|refine AG rfl rfl ?_|refine AH ?_|refine AI ?_|refine AJ ?_|refine AK ?_|refine AL ?_|refine AM ?_|refine AN ?_|refine AO ?_|refine AP ?_|refine AQ rfl ?_|refine AR ?_|refine AS ?_|refine AT rfl ?_|refine AU rfl ?_
  refine wr_call_e rfl ((w_append hE T.append o2 (by omega) s (hr.up K2)).mono fun r h3 ⟨e3, o3, k3⟩ => ?_)
  subst e3
  have f2 := fl_append c.2 s b
  have K3 := K2.own k3 (fun k q => by have q : k = h.n := q; omega)
  generalize c.2.append s b = d at *
  repeat first|(refine BG ?_;first|(refine BH ?_;first|(refine BI ?_;refine BM ?_)|(refine BJ ?_;first|refine BN ?_|refine BO ?_)|refine BP ?_)|(refine BK ?_;first|refine BS rfl rfl ?_|refine BT rfl rfl ?_|refine BU rfl ?_)|(refine BL ?_;first|refine BQ ?_)|(refine BR ?_;try simp only [setS]))|refine AA ?_|refine AC ?_|refine AD ?_|refine AE ?_|refine AF rfl rfl ?_|refine AG rfl rfl ?_|refine AH ?_|refine AI ?_|refine AJ ?_|refine AK ?_|refine AL ?_|refine AM ?_|refine AN ?_|refine AO ?_|refine AP ?_|refine AQ rfl ?_|refine AR ?_|refine AS ?_|refine AT rfl ?_|refine AU rfl ?_
  refine wr_call_e rfl ((w_name hE T.sync o3 (by omega) s).mono fun r h4 ⟨e4, o4, k4⟩ => ?_)
  subst e4
  have K4 := K3.own k4 (fun k q => by have q : k = h.n := q; omega)
  generalize d.2.sync s = g at *
  repeat first|(refine BG ?_;first|(refine BH ?_;first|(refine BI ?_;refine BM ?_)|(refine BJ ?_;first|refine BN ?_|refine BO ?_)|refine BP ?_)|(refine BK ?_;first|refine BS rfl rfl ?_|refine BT rfl rfl ?_|refine BU rfl ?_)|(refine BL ?_;first|refine BQ ?_)|(refine BR ?_;try simp only [setS]))|refine AA ?_|refine AC ?_|refine AD ?_|refine AE ?_|refine AF rfl rfl ?_|refine AG rfl rfl ?_|refine AH ?_|refine AI ?_|refine AJ ?_|refine AK ?_|refine AL ?_|refine AM ?_|refine AN ?_|refine AO ?_|refine AP ?_|refine AQ rfl ?_|refine AR ?_|refine AS ?_|refine AT rfl ?_|refine AU rfl ?_
  exact ⟨rfl, o4, K4⟩
theorem encodes_ok (hE : ∀ f e, E f = some e → e.plain) (T : MfV E) {h : Hp MD} {v : AV} {l : List Int} {w n : Int} (hr : RS h 1 v l.length (l.map iv)) (hl : l.length ≤ 1000000) :
    WF (lim E) 36 [LsV v w n] h fun r h' => Keep NoB h h' ∧ r = .bool true := by
  refine wf_bc hE T.encodes rfl ?_
  simp only [b_mfEncodes, List.map, getS]
  have hmx : (maxLen : Nat) = 9223372036854775807 := rfl
  have K1 : Keep NoB h (h.push (.rw [v, .int .i64 w, .int .i64 n])) := Keep.push _ _ _
  have b1 : Bx (h.push (.rw [v, .int .i64 w, .int .i64 n])) h.n _ := bx_push
  have hr1 := hr.up K1
  repeat first|(refine BG ?_;first|(refine BH ?_;first|(refine BI ?_;refine BM ?_)|(refine BJ ?_;first|refine BN ?_|refine BO ?_)|refine BV (v_bxn b1 rfl (Nat.le_refl _)) ?_|refine BP ?_)|(refine BK ?_;first|refine BS rfl rfl ?_|refine BT rfl rfl ?_|refine BU rfl ?_)|(refine BL ?_;first|refine BW (ef_box rfl (all3 hr.one.2)) ?_|refine BQ ?_)|(refine BR ?_;try simp only [setS]))|refine AA ?_|refine AC ?_|refine AD ?_|refine AE ?_|refine AF rfl rfl ?_|refine AG rfl rfl ?_|refine AH ?_|refine AI ?_|refine AJ ?_|refine AK ?_|refine AL ?_|refine AM ?_|refine AN ?_|refine AO ?_|refine AP ?_|refine AQ rfl ?_|refine AR ?_|refine AS ?_|refine AT rfl ?_|refine AU rfl ?_
  generalize h.push (.rw [v, .int .i64 w, .int .i64 n]) = h1 at *
  cases hm : mayF l w n with
  | false =>
    refine wr_call_e rfl ((encode_no hE T.toMfE hr1 (by omega) hm).mono fun r h2 ⟨k2, e2⟩ => ?_)
    subst e2
    have b2 := b1.up k2
    repeat first|(refine BG ?_;first|(refine BH ?_;first|(refine BI ?_;refine BM ?_)|(refine BJ ?_;first|refine BN ?_|refine BO ?_)|refine BV (v_bx b2 rfl rfl) ?_|refine BP ?_)|(refine BK ?_;first|refine BS rfl rfl ?_|refine BT rfl rfl ?_|refine BU rfl ?_)|(refine BL ?_;first|refine BQ ?_)|(refine BR ?_;try simp only [setS]))|refine AA ?_|refine AC ?_|refine AD ?_|refine AE ?_|refine AF rfl rfl ?_|refine AG rfl rfl ?_|refine AH ?_|refine AI ?_|refine AJ ?_|refine AK ?_|refine AL ?_|refine AM ?_|refine AN ?_|refine AO ?_|refine AP ?_|refine AQ rfl ?_|refine AR ?_|refine AS ?_|refine AT rfl ?_|refine AU rfl ?_
    refine wr_call_e rfl ((may_ok hE T.may (wal := w) (next := n) (hr1.up k2) (by omega)).mono fun r h3 ⟨e3, e4⟩ => ?_)
    subst e3 e4
    rw [hm]
    repeat first|(refine BG ?_;first|(refine BH ?_;first|(refine BI ?_;refine BM ?_)|(refine BJ ?_;first|refine BN ?_|refine BO ?_)|refine BP ?_)|(refine BK ?_;first|refine BS rfl rfl ?_|refine BT rfl rfl ?_|refine BU rfl ?_)|(refine BL ?_;first|refine BQ ?_)|(refine BR ?_;try simp only [setS]))|refine AA ?_|refine AC ?_|refine AD ?_|refine AE ?_|refine AF rfl rfl ?_|refine AG rfl rfl ?_|refine AH ?_|refine AI ?_|refine AJ ?_|refine AK ?_|refine AL ?_|refine AM ?_|refine AN ?_|refine AO ?_|refine AP ?_|refine AQ rfl ?_|refine AR ?_|refine AS ?_|refine AT rfl ?_|refine AU rfl ?_
    exact ⟨K1.and k2, rfl⟩
  | true =>
    have hM := mayF_iff.1 hm
    refine wr_call_e rfl ((encode_ok hE T.toMfE hr1 hM).mono fun r h2 ⟨o, e2, ⟨k2, l2⟩, o2⟩ => ?_)
    subst e2
    have b2 := b1.up k2
    repeat first|(refine BG ?_;first|(refine BH ?_;first|(refine BI ?_;refine BM ?_)|(refine BJ ?_;first|refine BN ?_|refine BO ?_)|refine BV (v_bx b2 rfl rfl) ?_|refine BP ?_)|(refine BK ?_;first|refine BS rfl rfl ?_|refine BT rfl rfl ?_|refine BU rfl ?_)|(refine BL ?_;first|refine BQ ?_)|(refine BR ?_;try simp only [setS]))|refine AA ?_|refine AC ?_|refine AD ?_|refine AE ?_|refine AF rfl rfl ?_|refine AG rfl rfl ?_|refine AH ?_|refine AI ?_|refine AJ ?_|refine AK ?_|refine AL ?_|refine AM ?_|refine AN ?_|refine AO ?_|refine AP ?_|refine AQ rfl ?_|refine AR ?_|refine AS ?_|refine AT rfl ?_|refine AU rfl ?_
    refine wr_call_e rfl ((may_ok hE T.may (wal := w) (next := n) (hr1.up k2) (by omega)).mono fun r h3 ⟨e3, e4⟩ => ?_)
    subst e3 e4
    rw [hm]
    repeat first|(refine BG ?_;first|(refine BH ?_;first|(refine BI ?_;refine BM ?_)|(refine BJ ?_;first|refine BN ?_|refine BO ?_)|refine BP ?_)|(refine BK ?_;first|refine BS rfl rfl ?_|refine BT rfl rfl ?_|refine BU rfl ?_)|(refine BL ?_;first|refine BQ ?_)|(refine BR ?_;try simp only [setS]))|refine AA ?_|refine AC ?_|refine AD ?_|refine AE ?_|refine AF rfl rfl ?_|refine AG rfl rfl ?_|refine AH ?_|refine AI ?_|refine AJ ?_|refine AK ?_|refine AL ?_|refine AM ?_|refine AN ?_|refine AO ?_|refine AP ?_|refine AQ rfl ?_|refine AR ?_|refine AS ?_|refine AT rfl ?_|refine AU rfl ?_
    have o2s : ∀ {hh : Hp MD}, Keep NoB h3 hh → RS hh 1 o (encM l w n).length ((encM l w n).map ub) := fun k => o2.rs.up k
    have o2a := o2s (Keep.refl _ _)
    repeat first|(refine BG ?_;first|(refine BH ?_;first|(refine BI ?_;refine BM ?_)|(refine BJ ?_;first|refine BN ?_|refine BO ?_)|refine BV (v_b2s rfl o2a) ?_|refine BV (v_bx b2 rfl rfl) ?_|refine BP ?_)|(refine BK ?_;first|refine BS rfl rfl ?_|refine BT rfl rfl ?_|refine BU rfl ?_)|(refine BL ?_;first|refine BQ ?_)|(refine BR ?_;try simp only [setS]))|(refine BX ?_;first|refine BY rfl ?_|(refine BZ ?_;refine CA ?_)|refine CB (v_b2s rfl o2a) ?_|refine CB (v_bx b2 rfl rfl) ?_|refine CC ?_|(refine CD ?_;try simp only [setS]))|refine AA ?_|refine AC ?_|refine AD ?_|refine AE ?_|refine AF rfl rfl ?_|refine AG rfl rfl ?_|refine AH ?_|refine AI ?_|refine AJ ?_|refine AK ?_|refine AL ?_|refine AM ?_|refine AN ?_|refine AO ?_|refine AP ?_|refine AQ rfl ?_|refine AR ?_|refine AS ?_|refine AT rfl ?_|refine AU rfl ?_
    refine wd_calls_e rfl ((renc_ok hE T.toMfT (hr1.up k2) hM).mono fun r h4 ⟨⟨k4, l4⟩, o4⟩ => ?_)
    have o2b := o2s k4
    refine ⟨chk_mov rfl rfl (chk_mov rfl (v_b2s rfl o2b) chk_nil), ?_⟩
    have o4a := o4.rs
    repeat first|(refine BG ?_;first|(refine BH ?_;first|(refine BI ?_;refine BM ?_)|(refine BJ ?_;first|refine BN ?_|refine BO ?_)|refine BV (v_b2s rfl o4a) ?_|refine BV (v_seql rfl rfl) ?_|refine BP ?_)|(refine BK ?_;first|refine BS rfl rfl ?_|refine BT rfl rfl ?_|refine BU rfl ?_)|(refine BL ?_;first|refine BQ ?_)|(refine BR ?_;try simp only [setS]))|(refine BX ?_;first|refine BY rfl ?_|(refine BZ ?_;refine CA ?_)|refine CB (v_b2s rfl o4a) ?_|refine CB (v_seql rfl rfl) ?_|refine CC ?_|(refine CD ?_;try simp only [setS]))|refine AA ?_|refine AC ?_|refine AD ?_|refine AE ?_|refine AF rfl rfl ?_|refine AG rfl rfl ?_|refine AH ?_|refine AI ?_|refine AJ ?_|refine AK ?_|refine AL ?_|refine AM ?_|refine AN ?_|refine AO ?_|refine AP ?_|refine AQ rfl ?_|refine AR ?_|refine AS ?_|refine AT rfl ?_|refine AU rfl ?_
    exact ⟨(K1.and k2).and k4, by simp; rfl⟩
theorem decodes_ok (hE : ∀ f e, E f = some e → e.plain) (T : MfV E) {h : Hp MD} {v : AV} {bs : List UInt8} (hr : RS h 1 v bs.length (bs.map ub)) (hb : bs.length ≤ 1000000) :
    WF (lim E) 37 [v] h fun r h' => Keep NoB h h' ∧ r = .bool true := by
  refine wf_bc hE T.decodes rfl ?_
  simp only [b_mfDecodes, List.map, getS]
  repeat first|(refine BG ?_;first|(refine BH ?_;first|(refine BI ?_;refine BM ?_)|(refine BJ ?_;first|refine BN ?_|refine BO ?_)|refine BP ?_)|(refine BK ?_;first|refine BS rfl rfl ?_|refine BT rfl rfl ?_|refine BU rfl ?_)|(refine BL ?_;first|refine BQ ?_)|(refine BR ?_;try simp only [setS]))|refine AA ?_|refine AC ?_|refine AD ?_|refine AE ?_|refine AF rfl rfl ?_|refine AG rfl rfl ?_|refine AH ?_|refine AI ?_|refine AJ ?_|refine AK ?_|refine AL ?_|refine AM ?_|refine AN ?_|refine AO ?_|refine AP ?_|refine AQ rfl ?_|refine AR ?_|refine AS ?_|refine AT rfl ?_|refine AU rfl ?_
  refine wr_call_e rfl ((decode_ok hE T.toMfD hr (by omega)).mono fun r h1 ⟨k1, d1⟩ => ?_)
  have hdl : ∀ ts w n, decP bs = some (ts, w, n) → ts.length ≤ 1000000 := fun ts w n hd => by
    unfold decP at hd
    split at hd
    · cases hd
    · rename_i hx
      cases hm : mayF ((nums ((bs.getD 0 0).toNat + 2) (bs.drop 1)).take (bs.getD 0 0).toNat) ((nums ((bs.getD 0 0).toNat + 2) (bs.drop 1)).getD (bs.getD 0 0).toNat 0) ((nums ((bs.getD 0 0).toNat + 2) (bs.drop 1)).getD ((bs.getD 0 0).toNat + 1) 0) with
      | false => rw [hm] at hd; cases hd
      | true =>
        rw [hm] at hd
        cases hd
        have := (mayF_iff.1 hm).len
        omega
  have K2 : Keep NoB h1 (h1.push (.rw [.snil, .int .i64 0, .int .i64 0])) := Keep.push _ _ _
  have b2 : Bx (h1.push (.rw [.snil, .int .i64 0, .int .i64 0])) h1.n _ := bx_push
  have n1 := k1.n
  cases hd : decP bs with
  | none =>
    rw [hd] at d1
    simp only at d1
    subst d1
    repeat first|(refine BG ?_;first|(refine BH ?_;first|(refine BI ?_;refine BM ?_)|(refine BJ ?_;first|refine BN ?_|refine BO ?_)|refine BP ?_)|(refine BK ?_;first|refine BS rfl rfl ?_|refine BT rfl rfl ?_|refine BU rfl ?_)|(refine BL ?_;first|refine BW (ef_bxn b2 rfl rfl rfl rfl (Nat.le_refl _)) ?_|refine BQ ?_)|(refine BR ?_;try simp only [setS]))|refine AA ?_|refine AC ?_|refine AD ?_|refine AE ?_|refine AF rfl rfl ?_|refine AG rfl rfl ?_|refine AH ?_|refine AI ?_|refine AJ ?_|refine AK ?_|refine AL ?_|refine AM ?_|refine AN ?_|refine AO ?_|refine AP ?_|refine AQ rfl ?_|refine AR ?_|refine AS ?_|refine AT rfl ?_|refine AU rfl ?_
    have b3 : Bx ((h1.push (.rw [.snil, .int .i64 0, .int .i64 0])).put h1.n (.rw [.snil, .int .i64 0, .int .i64 0])) h1.n [.snil, .int .i64 0, .int .i64 0] := b2.put
    have K3 : Keep NoB h ((h1.push (.rw [.snil, .int .i64 0, .int .i64 0])).put h1.n (.rw [.snil, .int .i64 0, .int .i64 0])) := (k1.and K2).own (Keep.put (S := OneB h1.n) _ _ _ rfl) (fun k q => by have q : k = h1.n := q; omega)
    refine wr_call_e rfl ((rdec_ok hE T.toMfR (hr.up K3) (by omega)).mono fun r h4 ⟨k4, d4⟩ => ?_)
    rw [dec_eq, hd] at d4
    simp only at d4
    subst d4
    have b4 := b3.up k4
    repeat first|(refine BG ?_;first|(refine BH ?_;first|(refine BI ?_;refine BM ?_)|(refine BJ ?_;first|refine BN ?_|refine BO ?_)|refine BV (v_beq rfl rfl) ?_|refine BV (v_bxn b4 rfl (Nat.le_refl _)) ?_|refine BP ?_)|(refine BK ?_;first|refine BS rfl rfl ?_|refine BT rfl rfl ?_|refine BU rfl ?_)|(refine BL ?_;first|refine BQ ?_)|(refine BR ?_;try simp only [setS]))|refine AA ?_|refine AC ?_|refine AD ?_|refine AE ?_|refine AF rfl rfl ?_|refine AG rfl rfl ?_|refine AH ?_|refine AI ?_|refine AJ ?_|refine AK ?_|refine AL ?_|refine AM ?_|refine AN ?_|refine AO ?_|refine AP ?_|refine AQ rfl ?_|refine AR ?_|refine AS ?_|refine AT rfl ?_|refine AU rfl ?_
    refine wr_call_e rfl ((same_ok hE T.same T.sameI (a := []) (b := []) (v := .snil) (w := .snil) ⟨rfl, rfl⟩ ⟨rfl, rfl⟩ (by simp) (by simp)).mono fun r h5 ⟨k5, e5⟩ => ?_)
    subst e5
    repeat first|(refine BG ?_;first|(refine BH ?_;first|(refine BI ?_;refine BM ?_)|(refine BJ ?_;first|refine BN ?_|refine BO ?_)|refine BP ?_)|(refine BK ?_;first|refine BS rfl rfl ?_|refine BT rfl rfl ?_|refine BU rfl ?_)|(refine BL ?_;first|refine BQ ?_)|(refine BR ?_;try simp only [setS]))|refine AA ?_|refine AC ?_|refine AD ?_|refine AE ?_|refine AF rfl rfl ?_|refine AG rfl rfl ?_|refine AH ?_|refine AI ?_|refine AJ ?_|refine AK ?_|refine AL ?_|refine AM ?_|refine AN ?_|refine AO ?_|refine AP ?_|refine AQ rfl ?_|refine AR ?_|refine AS ?_|refine AT rfl ?_|refine AU rfl ?_
    exact ⟨(K3.and k4).and k5, rfl⟩
  | some q =>
    obtain ⟨ts, w, n⟩ := q
    rw [hd] at d1
    obtain ⟨tv, e1, o1, l1⟩ := d1
    subst e1
    have hts := hdl ts w n hd
    repeat first|(refine BG ?_;first|(refine BH ?_;first|(refine BI ?_;refine BM ?_)|(refine BJ ?_;first|refine BN ?_|refine BO ?_)|refine BP ?_)|(refine BK ?_;first|refine BS rfl rfl ?_|refine BT rfl rfl ?_|refine BU rfl ?_)|(refine BL ?_;first|refine BW (ef_bxn b2 rfl rfl (all3 o1.one.2) rfl (Nat.le_refl _)) ?_|refine BQ ?_)|(refine BR ?_;try simp only [setS]))|refine AA ?_|refine AC ?_|refine AD ?_|refine AE ?_|refine AF rfl rfl ?_|refine AG rfl rfl ?_|refine AH ?_|refine AI ?_|refine AJ ?_|refine AK ?_|refine AL ?_|refine AM ?_|refine AN ?_|refine AO ?_|refine AP ?_|refine AQ rfl ?_|refine AR ?_|refine AS ?_|refine AT rfl ?_|refine AU rfl ?_
    have b3 : Bx ((h1.push (.rw [.snil, .int .i64 0, .int .i64 0])).put h1.n (.rw [tv, .int .i64 w, .int .i64 n])) h1.n [tv, .int .i64 w, .int .i64 n] := b2.put
    have kp : Keep (OneB h1.n) (h1.push (.rw [.snil, .int .i64 0, .int .i64 0])) ((h1.push (.rw [.snil, .int .i64 0, .int .i64 0])).put h1.n (.rw [tv, .int .i64 w, .int .i64 n])) := Keep.put _ _ _ rfl
    have K3 : Keep NoB h ((h1.push (.rw [.snil, .int .i64 0, .int .i64 0])).put h1.n (.rw [tv, .int .i64 w, .int .i64 n])) := (k1.and K2).own kp (fun k q => by have q : k = h1.n := q; omega)
    have o3 := (o1.up K2).keep kp (fun k q1 q2 => by have := o1.lt k q1; have q2 : k = h1.n := q2; omega)
    refine wr_call_e rfl ((rdec_ok hE T.toMfR (hr.up K3) (by omega)).mono fun r h4 ⟨k4, d4⟩ => ?_)
    rw [dec_eq, hd] at d4
    obtain ⟨tv2, e4, o4, l4⟩ := d4
    subst e4
    have b4 := b3.up k4
    repeat first|(refine BG ?_;first|(refine BH ?_;first|(refine BI ?_;refine BM ?_)|(refine BJ ?_;first|refine BN ?_|refine BO ?_)|refine BV (v_beq rfl rfl) ?_|refine BV (v_bxn b4 rfl (Nat.le_refl _)) ?_|refine BV (v_bld3 rfl rfl rfl o4.one.1 rfl rfl) ?_|refine BP ?_)|(refine BK ?_;first|refine BS rfl rfl ?_|refine BT rfl rfl ?_|refine BU rfl ?_)|(refine BL ?_;first|refine BQ ?_)|(refine BR ?_;try simp only [setS]))|refine AA ?_|refine AC ?_|refine AD ?_|refine AE ?_|refine AF rfl rfl ?_|refine AG rfl rfl ?_|refine AH ?_|refine AI ?_|refine AJ ?_|refine AK ?_|refine AL ?_|refine AM ?_|refine AN ?_|refine AO ?_|refine AP ?_|refine AQ rfl ?_|refine AR ?_|refine AS ?_|refine AT rfl ?_|refine AU rfl ?_
    refine wr_call_e rfl ((same_ok hE T.same T.sameI (o3.up k4).rs o4.rs hts hts).mono fun r h5 ⟨k5, e5⟩ => ?_)
    subst e5
    rw [decide_eq_true (⟨rfl, rfl, rfl⟩ : ts = ts ∧ w = w ∧ n = n)]
    repeat first|(refine BG ?_;first|(refine BH ?_;first|(refine BI ?_;refine BM ?_)|(refine BJ ?_;first|refine BN ?_|refine BO ?_)|refine BP ?_)|(refine BK ?_;first|refine BS rfl rfl ?_|refine BT rfl rfl ?_|refine BU rfl ?_)|(refine BL ?_;first|refine BQ ?_)|(refine BR ?_;try simp only [setS]))|refine AA ?_|refine AC ?_|refine AD ?_|refine AE ?_|refine AF rfl rfl ?_|refine AG rfl rfl ?_|refine AH ?_|refine AI ?_|refine AJ ?_|refine AK ?_|refine AL ?_|refine AM ?_|refine AN ?_|refine AO ?_|refine AP ?_|refine AQ rfl ?_|refine AR ?_|refine AS ?_|refine AT rfl ?_|refine AU rfl ?_
    exact ⟨(K3.and k4).and k5, rfl⟩
end
end Am
end Go.Proofs.Ythgcdoahoechhaa
namespace Go.Proofs.Ythgcdoahoechhaa
namespace Am
open Go.RowKit
set_option maxRecDepth 100000
theorem encM_le {l : List Int} {w n : Int} (hm : MayP l w n) : (encM l w n).length ≤ 1000 := by
  have := hm.len
  rw [encM_len]; omega
theorem spl_one {o : Nat} {c : AV} {l : List AV} (ho : o < l.length) : spl o [c] l = l.set o c := by
  unfold spl
  rw [List.set_eq_take_append_cons_drop, if_pos ho]
  simp
section
variable {X : Type} {h : Hp X}
theorem OS.set {n k : Nat} {v c : AV} {cells : List AV} (a : OS h 1 v n cells) (hk : k < n) : ∃ g o l, (∀ {hh : Hp X} {e : En} {t : List AV} {x y : Od} {kk : IntKind}, x.ev e t = v → y.ev e t = .int kk (k : Int) → (Mv.iaddr 1 x y).ev e t hh = some (.ptr g o)) ∧
    Bx h g l ∧ o < l.length ∧ l[o]? = cells[k]? ∧ OS (h.put g (.rw (spl o [c] l))) 1 v n (cells.set k c) ∧ blk v g := by
  cases v <;> first | exact a.elim | skip
  · rename_i z g o m cap
    obtain ⟨rfl, rfl, hz, hg, l, hl, hle, rfl, hcap⟩ := a
    refine ⟨g, o + k * 1, l, fun {hh e t x y kk} hx hy => ?_, ⟨hg, hl⟩, by omega, ?_, ⟨rfl, rfl, hz, hg, _, Hp.put_self _ _ _, ?_, ?_, ?_⟩, rfl⟩
    · simp only [Mv.ev, hx, hy, nOf]
      rw [show Nat.blt k m = true by rw [Nat.blt_eq]; exact hk]
      rfl
    · rw [List.getElem?_take_of_lt (by omega), List.getElem?_drop, Nat.mul_one]
    · rw [spl_one (by omega), List.length_set]; exact hle
    · rw [spl_one (by omega), Nat.mul_one, List.drop_set, if_neg (by omega), List.take_set, Nat.add_sub_cancel_left, Nat.mul_one]
    · rw [spl_one (by omega), List.length_set]; exact hcap
  · obtain ⟨rfl, _⟩ := a; omega
theorem v_xor8 {e : En} {t : List AV} {q : Eq} {x y : Od} {a b : Int} (hx : x.ev e t = .int .u8 a) (hy : y.ev e t = .int .u8 b) : ∃ z : UInt8, ∀ {hh : Hp X}, (Mv.bin .xor q x y).ev e t hh = some (ub z) := by
  refine ⟨UInt8.ofNat (BitVec.ofInt 8 a ^^^ BitVec.ofInt 8 b).toNat, fun {hh} => ?_⟩
  simp only [Mv.ev, hx, hy, Am.bin, AV.onInt, isShift, Bool.false_or, decide_true, cond_true, intOp]
  exact congrArg some (int_eq (wr_u8 _))
theorem v_seq_t {e : En} {t : List AV} {q : Eq} {x y : Od} {a b : List UInt8} (hx : x.ev e t = .str a) (hy : y.ev e t = .str b) (hab : a = b) : (Mv.bin .eql q x y).ev e t h = some (.bool true) := by
  rw [v_seql hx hy, hab]
  simp
theorem bset {bs : List UInt8} {k : Nat} {z : UInt8} : (bs.map ub).set k (ub z) = (bs.set k z).map ub := by rw [List.map_set]
end
section
variable {e : En} {t : List AV} {X : Type} {h : Hp X}
theorem wr_in {a : Int} : I64 (wr .i64 a) := by
  have h1 := Int.emod_nonneg a (show (2 : Int) ^ 64 ≠ 0 by decide)
  have h2 := Int.emod_lt_of_pos a (show (0 : Int) < 2 ^ 64 by decide)
  unfold I64
  simp only [wr, IntKind.wrap, IntKind.signed, IntKind.bits]
  simp
  split <;> omega
theorem v_addw {q : Eq} {x y : Od} {a b : Int} (hx : x.ev e t = .int .i64 a) (hy : y.ev e t = .int .i64 b) : (Mv.bin .add q x y).ev e t h = some (.int .i64 (wr .i64 (a + b))) := by simp [Mv.ev, hx, hy, Am.bin, AV.onInt, intOp, isShift]
end
structure LBx (h : Hp MD) (g : Nat) (hi : Nat) (l : List Int) (w n : Int) : Prop where
  out : ∃ tv, Bx h g [tv, .int .i64 w, .int .i64 n] ∧ RS h 1 tv l.length (l.map iv) ∧ ∀ k, blk tv k → k < hi
theorem LBx.up {h h' : Hp MD} {g hi : Nat} {l : List Int} {w n : Int} (a : LBx h g hi l w n) (k : Keep NoB h h') : LBx h' g hi l w n := by
  obtain ⟨tv, h1, h2, h3⟩ := a.out
  exact ⟨⟨tv, h1.up k, h2.up k, h3⟩⟩
theorem LBx.keep {S : Nat → Prop} {h h' : Hp MD} {g hi : Nat} {l : List Int} {w n : Int} (a : LBx h g hi l w n) (k : Keep S h h') (hg : ¬ S g) (hs : ∀ j, S j → hi ≤ j) : LBx h' g hi l w n := by
  obtain ⟨tv, h1, h2, h3⟩ := a.out
  exact ⟨⟨tv, h1.keep k hg, h2.keep k (fun j q1 q2 => by have := h3 j q1; have := hs j q2; omega), h3⟩⟩
theorem LBx.lt {h : Hp MD} {g hi : Nat} {l : List Int} {w n : Int} (a : LBx h g hi l w n) : g < h.n := by
  obtain ⟨tv, h1, _⟩ := a.out
  exact h1.lt
end Am
end Go.Proofs.Ythgcdoahoechhaa
