/- Chapter 4's own Entries. -/
import Derived.Test.YthgcdoahoechhaaMM
set_option linter.unusedVariables false
set_option linter.unusedSimpArgs false
namespace Go.Proofs.Ythgcdoahoechhaa
namespace Am
open Go.RowKit
set_option maxRecDepth 100000
def b_ref4Entries : BF := ⟨86, [0, 2, 3, 4, 5, 6, 7, 8, 9, 28, 39, 58, 60, 64, 84], (.seq (.reg [.mk none (.slot 1) (.mov (.mv (.const .snil))), .mk none (.slot 2) (.mov (.mv (.const (.bool false))))]) (.seq (.reg [.mk none (.env 10) (.mov (.mv (.slot 0))), .mk none (.env 11) (.mov (.bld [.snil, (.bool false)] [(0, 1, (.env 10))])), .mk none (.env 12) (.eff (.box (.env 11))), .mk none (.slot 3) (.mov (.mv (.env 12)))]) (.seq (.reg [.mk none (.slot 4) (.mov (.mv (.const .snil)))]) (.seq (.seq (.dreg [(.mk none (.env 13) (.mov (.mv (.slot 0))), []), (.mk none (.env 14) (.mov (.lenv (.env 13))), []), (.mk none (.env 15) (.mov (.bin .geq .no (.env 14) (.const (.int .i64 2)))), []), (.mk none (.env 16) (.mov (.mv (.env 15))), []), (.mk (some ((.env 16), true)) (.env 17) (.mov (.mv (.slot 0))), []), (.mk (some ((.env 16), true)) (.env 18) (.mov (.iaddr 1 (.env 17) (.const (.int .i64 0)))), []), (.mk (some ((.env 16), true)) (.env 19) (.mov (.ld1 (.env 18))), []), (.mk (some ((.env 16), true)) (.env 20) (.mov (.conv .i64 (.env 19))), []), (.mk (some ((.env 16), true)) (.env 21) (.mov (.bin .mul .no (.env 20) (.const (.int .i64 256)))), []), (.mk (some ((.env 16), true)) (.env 22) (.mov (.mv (.slot 0))), []), (.mk (some ((.env 16), true)) (.env 23) (.mov (.iaddr 1 (.env 22) (.const (.int .i64 1)))), []), (.mk (some ((.env 16), true)) (.env 24) (.mov (.ld1 (.env 23))), []), (.mk (some ((.env 16), true)) (.env 25) (.mov (.conv .i64 (.env 24))), []), (.mk (some ((.env 16), true)) (.env 26) (.mov (.bin .add .no (.env 21) (.env 25))), []), (.mk (some ((.env 16), true)) (.env 27) (.mov (.bin .gtr .no (.env 26) (.const (.int .i64 8191)))), []), (.mk none (.slot 9) (.mov (.pick (.env 16) (.env 27) (.const (.bool false)))), [])]) (.cond (.slot 9) (.seq (.reg [.mk none (.slot 1) (.mov (.mv (.const .snil))), .mk none (.slot 2) (.mov (.mv (.const (.bool false))))]) .ret) .skip)) (.seq (.seq (.reg [.mk none (.env 29) (.mov (.mv (.slot 3))), .mk none (.env 30) (.call 93 [(.env 29), (.const (.int .i64 2))]), .mk none (.slot 5) (.mov (.mv (.env 30)))]) (.block 0 (.loop (.seq (.seq (.reg [.mk none (.env 31) (.mov (.mv (.slot 5))), .mk none (.env 32) (.mov (.bin .gtr .no (.env 31) (.const (.int .i64 0)))), .mk none (.env 33) (.mov (.mv (.env 32))), .mk (some ((.env 33), true)) (.env 34) (.mov (.mv (.slot 3))), .mk (some ((.env 33), true)) (.env 35) (.mov (.nilc (.env 34))), .mk (some ((.env 33), true)) (.env 36) (.mov (.faddr 1 (.env 35))), .mk (some ((.env 33), true)) (.env 37) (.mov (.ld1 (.env 36))), .mk (some ((.env 33), true)) (.env 38) (.mov (.notb (.env 37))), .mk none (.slot 10) (.mov (.pick (.env 33) (.env 38) (.const (.bool false))))]) (.cond (.slot 10) .skip (.exit 0))) (.seq (.block 1 (.seq (.reg [.mk none (.env 42) (.mov (.mv (.slot 3))), .mk none (.env 43) (.call 93 [(.env 42), (.const (.int .i64 1))]), .mk none (.slot 6) (.mov (.mv (.env 43)))]) (.seq (.reg [.mk none (.env 44) (.mov (.mv (.slot 3))), .mk none (.env 45) (.mov (.mv (.slot 3))), .mk none (.env 46) (.call 93 [(.env 45), (.const (.int .i64 1))]), .mk none (.env 47) (.call 108 [(.env 44), (.env 46)]), .mk none (.env 48) (.mov (.mv (.slot 6))), .mk none (.env 49) (.mov (.bin .eql .no (.env 48) (.const (.int .i64 0)))), .mk none (.env 50) (.mov (.bld [.snil, .snil, (.bool false)] [(0, 1, (.env 47)), (2, 1, (.env 49))])), .mk none (.slot 7) (.eff (.alloc [.snil, .snil, (.bool false)])), .mk none .none (.eff (.store 3 (.slot 7) (.env 50)))]) (.seq (.seq (.reg [.mk none (.env 51) (.mov (.mv (.slot 6))), .mk none (.env 52) (.mov (.bin .gtr .no (.env 51) (.const (.int .i64 1)))), .mk none (.env 53) (.mov (.mv (.env 52))), .mk (some ((.env 53), false)) (.env 54) (.mov (.faddr 0 (.slot 7))), .mk (some ((.env 53), false)) (.env 55) (.mov (.ld1 (.env 54))), .mk (some ((.env 53), false)) (.env 56) (.mov (.lenv (.env 55))), .mk (some ((.env 53), false)) (.env 57) (.mov (.bin .eql .no (.env 56) (.const (.int .i64 0)))), .mk none (.slot 11) (.mov (.pick (.env 53) (.const (.bool true)) (.env 57)))]) (.cond (.slot 11) (.seq (.reg [.mk none (.slot 1) (.mov (.mv (.const .snil))), .mk none (.slot 2) (.mov (.mv (.const (.bool false))))]) .ret) .skip)) (.seq (.seq (.reg [.mk none (.env 59) (.mov (.mv (.slot 6))), .mk none (.slot 12) (.mov (.bin .eql .no (.env 59) (.const (.int .i64 1))))]) (.cond (.slot 12) (.seq (.reg [.mk none (.env 61) (.mov (.mv (.slot 3))), .mk none (.env 62) (.call 93 [(.env 61), (.const (.int .i64 2))]), .mk none (.slot 8) (.mov (.mv (.env 62)))]) (.seq (.seq (.reg [.mk none (.env 63) (.mov (.mv (.slot 8))), .mk none (.slot 13) (.mov (.bin .gtr .no (.env 63) (.const (.int .i64 4095))))]) (.cond (.slot 13) (.seq (.reg [.mk none (.slot 1) (.mov (.mv (.const .snil))), .mk none (.slot 2) (.mov (.mv (.const (.bool false))))]) .ret) .skip)) (.reg [.mk none (.env 65) (.mov (.mv (.slot 3))), .mk none (.env 66) (.mov (.mv (.slot 8))), .mk none (.env 67) (.call 108 [(.env 65), (.env 66)]), .mk none (.env 68) (.mov (.faddr 1 (.slot 7))), .mk none .none (.eff (.store 1 (.env 68) (.env 67)))]))) .skip)) (.reg [.mk none (.env 69) (.mov (.mv (.slot 4))), .mk none (.env 70) (.mov (.ldn 3 (.slot 7))), .mk none (.env 71) (.eff (.bslice 3 1 [.snil, .snil, (.bool false)] [(0, 3, (.env 70))])), .mk none (.env 72) (.eff (.append 3 56 (.env 69) (.env 71))), .mk none (.slot 4) (.mov (.mv (.env 72)))])))))) (.reg [.mk none (.env 40) (.mov (.mv (.slot 5))), .mk none (.env 41) (.mov (.bin .sub .no (.env 40) (.const (.int .i64 1)))), .mk none (.slot 5) (.mov (.mv (.env 41)))])))))) (.seq (.seq (.reg [.mk none (.env 73) (.mov (.mv (.slot 3))), .mk none (.env 74) (.mov (.nilc (.env 73))), .mk none (.env 75) (.mov (.faddr 1 (.env 74))), .mk none (.env 76) (.mov (.ld1 (.env 75))), .mk none (.env 77) (.mov (.mv (.env 76))), .mk (some ((.env 77), false)) (.env 78) (.mov (.mv (.slot 3))), .mk (some ((.env 77), false)) (.env 79) (.mov (.nilc (.env 78))), .mk (some ((.env 77), false)) (.env 80) (.mov (.faddr 0 (.env 79))), .mk (some ((.env 77), false)) (.env 81) (.mov (.ld1 (.env 80))), .mk (some ((.env 77), false)) (.env 82) (.mov (.lenv (.env 81))), .mk (some ((.env 77), false)) (.env 83) (.mov (.bin .gtr .no (.env 82) (.const (.int .i64 0)))), .mk none (.slot 14) (.mov (.pick (.env 77) (.const (.bool true)) (.env 83)))]) (.cond (.slot 14) (.seq (.reg [.mk none (.slot 1) (.mov (.mv (.const .snil))), .mk none (.slot 2) (.mov (.mv (.const (.bool false))))]) .ret) .skip)) (.seq (.reg [.mk none (.env 85) (.mov (.mv (.slot 4))), .mk none (.slot 1) (.mov (.mv (.env 85))), .mk none (.slot 2) (.mov (.mv (.const (.bool true))))]) .ret))))))), [.slot (.slot 1), .slot (.slot 2)]⟩
def parseS (bs : List UInt8) : Option (EM × List UInt8) := match parseE bs with
  | none => none
  | some (g, k, v, r) => if be (bs.take 1) ≤ 1 ∧ k.length ≠ 0 ∧ v.length ≤ 4095 then some (⟨k, v, g⟩, r) else none
def r4N : Nat → List UInt8 → Option (List EM × List UInt8)
  | 0, bs => some ([], bs)
  | k + 1, bs => match parseS bs with
    | none => none
    | some (e, r) => (r4N k r).map fun p => (e :: p.1, p.2)
def r4F (done : List EM) (o : Option (List EM × List UInt8)) : Option (List EM) := match o with
  | none => none
  | some p => if p.2.length = 0 then some (done ++ p.1) else none
def r4E (bs : List UInt8) : Option (List EM) := if bs.length < 2 then none else if 8191 < be (bs.take 2) then none else r4F [] (r4N (be (bs.take 2)) (bs.drop 2))
theorem r4F_s {done : List EM} {n : Nat} {bs r : List UInt8} {e : EM} (h : parseS bs = some (e, r)) : r4F done (r4N (n + 1) bs) = r4F (done ++ [e]) (r4N n r) := by
  have e1 : r4N (n + 1) bs = (r4N n r).map fun p => (e :: p.1, p.2) := by
    conv => lhs; unfold r4N
    rw [h]
  rw [e1]
  cases r4N n r with
  | none => rfl
  | some p => simp [r4F]
theorem r4F_n {done : List EM} {n : Nat} {bs : List UInt8} (h : parseS bs = none) : r4F done (r4N (n + 1) bs) = none := by
  have e1 : r4N (n + 1) bs = none := by
    conv => lhs; unfold r4N
    rw [h]
  rw [e1]
  rfl
theorem be_two {bs : List UInt8} (h : 2 ≤ bs.length) : be (bs.take 2) = (bs.getD 0 0).toNat * 256 + (bs.getD 1 0).toNat := by
  match bs, h with
  | a :: b :: r, _ => simp [be]
theorem be_enc2 {bs : List UInt8} (h : bs.length = 2) : encB (be bs) 2 = bs := by
  match bs, h with
  | [a, b], _ =>
    have ha := a.toNat_lt
    have hb := b.toNat_lt
    have e1 : (a.toNat * 256 + b.toNat) / 256 = a.toNat := by omega
    have e2 : (a.toNat * 256 + b.toNat) % 256 = b.toNat := by omega
    simp [be, encB, e1, e2]
theorem byte_of {b : List UInt8} {n : Nat} (hb : 1 ≤ b.length) (h : be (b.take 1) = n) (hn : n < 256) : b = UInt8.ofNat n :: b.drop 1 := by
  match b, hb with
  | x :: r, _ =>
    simp [be] at h
    subst h
    simp
theorem parseS_enc {bs r : List UInt8} {e : EM} (h : parseS bs = some (e, r)) : bs = entB e ++ r ∧ okE e = true ∧ (e.gone = true → e.val = []) := by
  unfold parseS at h
  cases hp : parseE bs with
  | none => rw [hp] at h; cases h
  | some q =>
    obtain ⟨g, k, v, r'⟩ := q
    rw [hp] at h
    simp only at h
    split at h
    · rename_i hc
      obtain ⟨c1, c2, c3⟩ := hc
      simp only [Option.some.injEq, Prod.mk.injEq] at h
      obtain ⟨rfl, rfl⟩ := h
      unfold parseE at hp
      by_cases h1 : bs.length < 1
      · rw [if_pos h1] at hp; cases hp
      rw [if_neg h1] at hp
      by_cases h2 : (bs.drop 1).length < 1
      · rw [if_pos h2] at hp; cases hp
      rw [if_neg h2] at hp
      by_cases h3 : ((bs.drop 1).drop 1).length < be ((bs.drop 1).take 1)
      · rw [if_pos h3] at hp; cases hp
      rw [if_neg h3] at hp
      have hk256 : be ((bs.drop 1).take 1) < 256 := by
        have := be_lt ((bs.drop 1).take 1)
        rw [List.length_take, show min 1 (bs.drop 1).length = 1 by omega] at this
        omega
      have e0 := byte_of (b := bs.drop 1) (by omega) rfl hk256
      have e1 := List.take_append_drop (be ((bs.drop 1).take 1)) ((bs.drop 1).drop 1)
      by_cases h4 : be (bs.take 1) = 0
      · rw [if_pos h4] at hp
        simp only [Option.some.injEq, Prod.mk.injEq] at hp
        obtain ⟨rfl, rfl, rfl, rfl⟩ := hp
        have eb := byte_of (b := bs) (by omega) h4 (by omega)
        have hkl : (((bs.drop 1).drop 1).take (be ((bs.drop 1).take 1))).length = be ((bs.drop 1).take 1) := by rw [List.length_take]; omega
        refine ⟨?_, ?_, fun _ => rfl⟩
        · unfold entB
          simp only [if_true, List.append_nil, List.cons_append]
          rw [hkl, e1, ← e0]
          exact eb
        · unfold okE EM.v
          simp only [if_true, Bool.and_eq_true, decide_eq_true_eq]
          refine ⟨⟨?_, ?_⟩, by simp⟩ <;> omega
      · rw [if_neg h4] at hp
        generalize hkk : be ((bs.drop 1).take 1) = kk at *
        generalize hb3 : ((bs.drop 1).drop 1).drop kk = b3 at *
        by_cases h5 : b3.length < 2
        · rw [if_pos h5] at hp; cases hp
        rw [if_neg h5] at hp
        by_cases h6 : (b3.drop 2).length < be (b3.take 2)
        · rw [if_pos h6] at hp; cases hp
        rw [if_neg h6] at hp
        simp only [Option.some.injEq, Prod.mk.injEq] at hp
        obtain ⟨rfl, rfl, rfl, rfl⟩ := hp
        have eb := byte_of (b := bs) (n := 1) (by omega) (by omega) (by omega)
        have hkl : (((bs.drop 1).drop 1).take kk).length = kk := by rw [List.length_take]; omega
        have hvl : ((b3.drop 2).take (be (b3.take 2))).length = be (b3.take 2) := by rw [List.length_take]; omega
        refine ⟨?_, ?_, fun q => by cases q⟩
        · unfold entB
          simp only [Bool.false_eq_true, if_false, List.cons_append, List.append_assoc]
          rw [hkl, hvl, List.take_append_drop, be_enc2 (by rw [List.length_take]; omega), List.take_append_drop, e1, ← e0]
          exact eb
        · unfold okE EM.v
          simp only [Bool.false_eq_true, if_false, Bool.and_eq_true, decide_eq_true_eq]
          refine ⟨⟨?_, ?_⟩, c3⟩ <;> omega
    · cases h
theorem parseS_ent {e : EM} (hk : okE e = true) (hn : e.gone = true → e.val = []) (rest : List UInt8) : parseS (entB e ++ rest) = some (e, rest) := by
  unfold parseS
  rw [parseE_ent hk hn]
  unfold okE at hk
  simp only [Bool.and_eq_true, decide_eq_true_eq] at hk
  have hv : e.val.length ≤ 4095 := by
    cases hg : e.gone with
    | true => rw [hn hg]; simp
    | false => have := hk.2; unfold EM.v at this; rw [hg] at this; simpa using this
  have hb : be ((entB e ++ rest).take 1) ≤ 1 := by
    unfold entB
    cases e.gone <;> simp [be]
  simp only
  rw [if_pos ⟨hb, by omega, hv⟩]
theorem r4N_enc : ∀ {n : Nat} {bs : List UInt8} {p : List EM × List UInt8}, r4N n bs = some p → bs = p.1.flatMap entB ++ p.2 ∧ (∀ e ∈ p.1, okE e = true) ∧ nrm p.1 ∧ p.1.length = n
  | 0, bs, p, h => by
    unfold r4N at h
    cases h
    exact ⟨by simp, by simp, (fun e he => by cases he), rfl⟩
  | n + 1, bs, p, h => by
    unfold r4N at h
    cases hs : parseS bs with
    | none => rw [hs] at h; cases h
    | some q =>
      obtain ⟨e, r⟩ := q
      rw [hs] at h
      simp only at h
      obtain ⟨p', h1, rfl⟩ := Option.map_eq_some_iff.1 h
      obtain ⟨a1, a2, a3⟩ := parseS_enc hs
      obtain ⟨b1, b2, b3, b4⟩ := r4N_enc h1
      refine ⟨?_, fun x hx => ?_, fun x hx => ?_, by simp [b4]⟩
      · rw [a1, b1]
        simp
      · rcases List.mem_cons.1 hx with rfl | hx
        · exact a2
        · exact b2 x hx
      · rcases List.mem_cons.1 hx with rfl | hx
        · exact a3
        · exact b3 x hx
theorem r4N_ents : ∀ {l : List EM} (rest : List UInt8), (∀ e ∈ l, okE e = true) → nrm l → r4N l.length (l.flatMap entB ++ rest) = some (l, rest)
  | [], rest, _, _ => rfl
  | e :: l, rest, h, hn => by
    rw [List.flatMap_cons, List.append_assoc, List.length_cons]
    conv => lhs; unfold r4N
    rw [parseS_ent (h e (List.mem_cons_self ..)) (hn e (List.mem_cons_self ..))]
    simp only
    rw [r4N_ents rest (fun x hx => h x (List.mem_cons_of_mem _ hx)) (fun x hx => hn x (List.mem_cons_of_mem _ hx))]
    rfl
theorem parseE_nrm {bs k v r : List UInt8} (h : parseE bs = some (true, k, v, r)) : v = [] := by
  unfold parseE at h
  repeat' split at h
  all_goals first | (cases h; done) | skip
  all_goals
    simp only [Option.some.injEq, Prod.mk.injEq] at h
    first | exact h.2.2.1.symm | (cases h.1)
theorem parseN_nrm : ∀ {n : Nat} {bs : List UInt8} {l : List EM}, parseN n bs = some l → nrm l
  | 0, bs, l, h => by
    unfold parseN at h
    cases h
    intro e he
    cases he
  | n + 1, bs, l, h => by
    unfold parseN at h
    split at h
    · cases h
    · rename_i g k v r hp
      obtain ⟨l', h1, rfl⟩ := Option.map_eq_some_iff.1 h
      intro e he hg
      rcases List.mem_cons.1 he with rfl | he
      · simp only at hg
        subst hg
        exact parseE_nrm hp
      · exact parseN_nrm h1 e he hg
theorem readL_nrm (bs : List UInt8) : nrm ((readL bs).getD []) := by
  unfold readL
  split
  · intro e he
    cases he
  · cases h : parseN (be (bs.take 2)) (bs.drop 2) with
    | none => intro e he; cases he
    | some l => exact parseN_nrm h
theorem r4E_frE (bs : List UInt8) : r4E bs = frE bs := by
  have key : ∀ l, mayB l = true → nrm l → r4E (batB l) = some l := fun l hm hn => by
    obtain ⟨h1, h2⟩ := may_all hm
    have h3 : (encB l.length 2).length = 2 := encB_len _ _
    unfold r4E batB
    have e2 : (encB l.length 2 ++ l.flatMap entB).take 2 = encB l.length 2 := by rw [← h3]; exact List.take_left
    have e3 : (encB l.length 2 ++ l.flatMap entB).drop 2 = l.flatMap entB := by rw [← h3]; exact List.drop_left
    rw [e2, e3, be_encB (by omega), if_neg (by rw [List.length_append]; omega), if_neg (by omega)]
    have := r4N_ents (l := l) [] h2 hn
    rw [List.append_nil] at this
    rw [this]
    rfl
  cases h : r4E bs with
  | some l =>
    unfold r4E at h
    split at h
    · cases h
    · split at h
      · cases h
      · rename_i c1 c2
        unfold r4F at h
        cases hr : r4N (be (bs.take 2)) (bs.drop 2) with
        | none => rw [hr] at h; cases h
        | some p =>
          rw [hr] at h
          simp only at h
          split at h
          · rename_i c3
            simp only [List.nil_append, Option.some.injEq] at h
            subst h
            obtain ⟨a1, a2, a3, a4⟩ := r4N_enc hr
            rw [List.eq_nil_of_length_eq_zero c3, List.append_nil] at a1
            have hm : mayB p.1 = true := by
              unfold mayB
              rw [decide_eq_true (by omega), Bool.true_and, List.all_eq_true]
              exact a2
            have hb : bs = batB p.1 := by
              unfold batB
              rw [a4, ← a1, be_enc2 (by rw [List.length_take]; omega), List.take_append_drop]
            rw [hb, frE_bat hm a3]
          · cases h
  | none =>
    unfold frE
    split
    · rename_i c
      have := key _ c.1 (readL_nrm bs)
      rw [c.2, h] at this
      cases this
    · rfl
def headF (bs : List UInt8) : Int × List UInt8 × List UInt8 × Bool := ((numF bs false 1).1, someF (numF (numF bs false 1).2.1 (numF bs false 1).2.2 1).2.1 (numF (numF bs false 1).2.1 (numF bs false 1).2.2 1).2.2 (numF (numF bs false 1).2.1 (numF bs false 1).2.2 1).1.toNat)
theorem numF_t (bs : List UInt8) (n : Nat) : (numF bs true n).2.2 = true := by unfold numF; split <;> rfl
theorem head_cases (bs : List UInt8) : (parseE bs = none ∧ (headF bs).2.1 = []) ∨ ((headF bs).2.2.2 = false ∧ (headF bs).1 = be (bs.take 1) ∧
    parseE bs = (if be (bs.take 1) = 0 then some (true, (headF bs).2.1, [], (headF bs).2.2.1) else if (headF bs).2.2.1.length < 2 then none else if ((headF bs).2.2.1.drop 2).length < be ((headF bs).2.2.1.take 2) then none else some (false, (headF bs).2.1, ((headF bs).2.2.1.drop 2).take (be ((headF bs).2.2.1.take 2)), ((headF bs).2.2.1.drop 2).drop (be ((headF bs).2.2.1.take 2))))) := by
  by_cases h1 : bs.length < 1
  · left
    have e1 : numF bs false 1 = (0, [], true) := by unfold numF; rw [if_neg (by omega)]
    refine ⟨by unfold parseE; rw [if_pos h1], ?_⟩
    unfold headF someF
    rw [e1]
    simp only
    rw [if_pos (.inl (numF_t _ _))]
  · have e1 : numF bs false 1 = ((be (bs.take 1) : Int), bs.drop 1, false) := by unfold numF; rw [if_pos (by omega)]
    by_cases h2 : (bs.drop 1).length < 1
    · left
      refine ⟨by unfold parseE; rw [if_neg h1, if_pos h2], ?_⟩
      have e2 : numF (bs.drop 1) false 1 = (0, [], true) := by unfold numF; rw [if_neg (by omega)]
      unfold headF someF
      rw [e1]
      simp only
      rw [e2, if_pos (.inl rfl)]
    · have e2 : numF (bs.drop 1) false 1 = ((be ((bs.drop 1).take 1) : Int), (bs.drop 1).drop 1, false) := by unfold numF; rw [if_pos (by omega)]
      by_cases h3 : ((bs.drop 1).drop 1).length < be ((bs.drop 1).take 1)
      · left
        refine ⟨by unfold parseE; rw [if_neg h1, if_neg h2, if_pos h3], ?_⟩
        unfold headF someF
        rw [e1]
        simp only
        rw [e2]
        simp only [Int.toNat_natCast]
        rw [if_pos (.inr h3)]
      · right
        have e3 : headF bs = ((be (bs.take 1) : Int), ((bs.drop 1).drop 1).take (be ((bs.drop 1).take 1)), ((bs.drop 1).drop 1).drop (be ((bs.drop 1).take 1)), false) := by
          unfold headF someF
          rw [e1]
          simp only
          rw [e2]
          simp only [Int.toNat_natCast]
          rw [if_neg (by rintro (q | q); cases q; exact h3 q)]
        rw [e3]
        refine ⟨rfl, rfl, ?_⟩
        unfold parseE
        rw [if_neg h1, if_neg h2, if_neg h3]
theorem head_nil {bs : List UInt8} (h : (headF bs).2.1 = []) : parseS bs = none := by
  unfold parseS
  rcases head_cases bs with ⟨e, _⟩ | ⟨_, _, e⟩
  · rw [e]
  · rw [e, h]
    by_cases c0 : be (bs.take 1) = 0
    · rw [if_pos c0]; simp
    · rw [if_neg c0]
      by_cases c1 : (headF bs).2.2.1.length < 2
      · rw [if_pos c1]
      · rw [if_neg c1]
        by_cases c2 : ((headF bs).2.2.1.drop 2).length < be ((headF bs).2.2.1.take 2)
        · rw [if_pos c2]
        · rw [if_neg c2]; simp
theorem head_big {bs : List UInt8} (h : 1 < (headF bs).1) : parseS bs = none := by
  unfold parseS
  rcases head_cases bs with ⟨e, _⟩ | ⟨_, e0, e⟩
  · rw [e]
  · have : 1 < be (bs.take 1) := by omega
    rw [e, if_neg (by omega)]
    by_cases c1 : (headF bs).2.2.1.length < 2
    · rw [if_pos c1]
    · rw [if_neg c1]
      by_cases c2 : ((headF bs).2.2.1.drop 2).length < be ((headF bs).2.2.1.take 2)
      · rw [if_pos c2]
      · rw [if_neg c2]
        simp only
        rw [if_neg (fun q => by have := q.1; omega)]
theorem head_zero {bs : List UInt8} (h : (headF bs).2.1 ≠ []) (h0 : (headF bs).1 = 0) : (headF bs).2.2.2 = false ∧ parseS bs = some (⟨(headF bs).2.1, [], true⟩, (headF bs).2.2.1) := by
  rcases head_cases bs with ⟨_, e⟩ | ⟨e1, e0, e⟩
  · exact absurd e h
  · refine ⟨e1, ?_⟩
    have c0 : be (bs.take 1) = 0 := by omega
    unfold parseS
    rw [e, if_pos c0]
    simp only
    rw [if_pos ⟨by omega, fun q => h (List.eq_nil_of_length_eq_zero q), by simp⟩]
theorem head_one {bs : List UInt8} (h : (headF bs).2.1 ≠ []) (h0 : (headF bs).1 = 1) : (headF bs).2.2.2 = false ∧
    ((headF bs).2.2.1.length < 2 → parseS bs = none) ∧ (2 ≤ (headF bs).2.2.1.length → 4095 < be ((headF bs).2.2.1.take 2) → parseS bs = none) ∧ (2 ≤ (headF bs).2.2.1.length → ((headF bs).2.2.1.drop 2).length < be ((headF bs).2.2.1.take 2) → parseS bs = none) ∧
    (2 ≤ (headF bs).2.2.1.length → be ((headF bs).2.2.1.take 2) ≤ 4095 → be ((headF bs).2.2.1.take 2) ≤ ((headF bs).2.2.1.drop 2).length → parseS bs = some (⟨(headF bs).2.1, ((headF bs).2.2.1.drop 2).take (be ((headF bs).2.2.1.take 2)), false⟩, ((headF bs).2.2.1.drop 2).drop (be ((headF bs).2.2.1.take 2)))) := by
  rcases head_cases bs with ⟨_, e⟩ | ⟨e1, e0, e⟩
  · exact absurd e h
  · have c0 : be (bs.take 1) = 1 := by omega
    rw [if_neg (by omega)] at e
    refine ⟨e1, fun c => ?_, fun c1 c2 => ?_, fun c1 c2 => ?_, fun c1 c2 c3 => ?_⟩ <;> unfold parseS
    · rw [e, if_pos c]
    · rw [e, if_neg (by omega)]
      by_cases c3 : ((headF bs).2.2.1.drop 2).length < be ((headF bs).2.2.1.take 2)
      · rw [if_pos c3]
      · rw [if_neg c3]
        simp only
        rw [if_neg (fun q => by have := q.2.2; rw [List.length_take] at this; omega)]
    · rw [e, if_neg (by omega), if_pos c2]
    · rw [e, if_neg (by omega), if_neg (by omega)]
      simp only
      rw [if_pos ⟨by omega, fun q => h (List.eq_nil_of_length_eq_zero q), by rw [List.length_take]; omega⟩]
end Am
end Go.Proofs.Ythgcdoahoechhaa
