/- Lists and records in plain Lean: what is written is read; what a Write makes of a disk. No program. What Batch wrote is read; a log's beginning. No program. A disk that has one file: what is made of it, how a log on it is opened. No program. Layer 5: what its laws call. -/
import Derived.Test.YthgcdoahoechhaaMJ
import Derived.Test.YthgcdoahoechhaaML
set_option linter.unusedVariables false
set_option linter.unusedSimpArgs false
namespace Go.Proofs.Ythgcdoahoechhaa
namespace Am
open Go.RowKit
set_option maxRecDepth 100000
theorem be_acc : ∀ (l : List UInt8) (a : Nat), l.foldl (fun n b => n * 256 + b.toNat) a = a * 256 ^ l.length + be l
  | [], a => by simp [be]
  | b :: l, a => by
    have h1 := be_acc l (a * 256 + b.toNat)
    have h2 := be_acc l b.toNat
    show l.foldl _ (a * 256 + b.toNat) = a * 256 ^ (l.length + 1) + l.foldl _ (0 * 256 + b.toNat)
    rw [h1, Nat.zero_mul, Nat.zero_add, h2, Nat.pow_succ, Nat.add_mul, Nat.mul_assoc, Nat.mul_comm 256, Nat.add_assoc]
theorem be_cons (b : UInt8) (l : List UInt8) : be (b :: l) = b.toNat * 256 ^ l.length + be l := by
  show l.foldl _ (0 * 256 + b.toNat) = _
  rw [Nat.zero_mul, Nat.zero_add, be_acc]
theorem be_encB' (m : Nat) : ∀ k, be (encB m k) = m % 256 ^ k
  | 0 => by simp [encB, be, Nat.mod_one]
  | k + 1 => by
    have e : 2 ^ (8 * k) = 256 ^ k := by rw [Nat.pow_mul]
    have e2 := Nat.mod_pow_succ (x := m) (b := 256) (k := k)
    rw [encB, be_cons, encB_len, be_encB' m k, UInt8.toNat_ofNat', e, e2, Nat.mul_comm, Nat.add_comm]
theorem be_encB {m k : Nat} (h : m < 256 ^ k) : be (encB m k) = m := by rw [be_encB', Nat.mod_eq_of_lt h]
theorem rec_take {b r : List UInt8} : (recB b ++ r).take 3 = encB b.length 3 := by
  unfold recB
  rw [List.append_assoc, List.append_assoc, List.take_append_of_le_length (by rw [encB_len]; omega), List.take_of_length_le (by rw [encB_len]; omega)]
theorem rec_mid {b r : List UInt8} : ((recB b ++ r).drop 3).take 3 = encB (b.length ^^^ 16777215) 3 := by
  unfold recB
  rw [List.append_assoc, List.append_assoc, List.drop_append_of_le_length (by rw [encB_len]; omega), List.drop_of_length_le (by rw [encB_len]; omega), List.nil_append, List.take_append_of_le_length (by rw [encB_len]; omega), List.take_of_length_le (by rw [encB_len]; omega)]
theorem rec_drop {b r : List UInt8} : (recB b ++ r).drop 6 = b ++ r := by
  unfold recB
  have e : (encB b.length 3 ++ encB (b.length ^^^ 16777215) 3).length = 6 := by rw [List.length_append, encB_len, encB_len]
  rw [List.append_assoc (encB b.length 3 ++ encB (b.length ^^^ 16777215) 3), ← e, List.drop_left]
theorem lenF_rec {b r : List UInt8} (hb : b.length ≤ 1048576) : lenF (recB b ++ r) = (b.length, true) := by
  unfold lenF
  have hl : (recB b ++ r).length = 6 + b.length + r.length := by rw [List.length_append, recB_len]
  have hx : b.length ^^^ 16777215 < 16777216 := by rw [xor24 (by omega)]; omega
  rw [if_neg (by omega), rec_take, rec_mid, be_encB (show b.length < 256 ^ 3 by omega), be_encB (show b.length ^^^ 16777215 < 256 ^ 3 from hx)]
  rw [← Nat.xor_assoc, Nat.xor_self, Nat.zero_xor]
  simp [hb]
theorem allG_rec {b r : List UInt8} (hb : b.length ≤ 1048576) (k : Nat) : allG (k + 1) (recB b ++ r) = (b :: (allG k r).1, 6 + b.length + (allG k r).2.1, (allG k r).2.2) := by
  have hl : (recB b ++ r).length = 6 + b.length + r.length := by rw [List.length_append, recB_len]
  rw [allG]
  simp only [lenF_rec hb]
  rw [if_neg (by rintro (q | ⟨_, q⟩) <;> omega), if_neg (by decide), rec_drop]
  have e1 : (b ++ r).take b.length = b := List.take_left
  have e2 : (recB b ++ r).drop (6 + b.length) = r := by rw [← List.drop_drop, rec_drop, List.drop_left]
  rw [e1, e2]
theorem allG_nil (k : Nat) : allG k [] = ([], 0, true) := by
  cases k with
  | zero => rfl
  | succ k => rw [allG, if_pos (.inl (by simp))]
end Am
end Go.Proofs.Ythgcdoahoechhaa
namespace Go.Proofs.Ythgcdoahoechhaa
namespace Am
open Go.RowKit
set_option maxRecDepth 100000
def nrm (l : List EM) : Prop := ∀ e ∈ l, e.gone = true → e.val = []
theorem be_one (b : UInt8) : be [b] = b.toNat := by simp [be]
theorem parseE_ent {e : EM} (hk : okE e = true) (hn : e.gone = true → e.val = []) (rest : List UInt8) : parseE (entB e ++ rest) = some (e.gone, e.key, e.val, rest) := by
  unfold okE at hk
  simp only [Bool.and_eq_true, decide_eq_true_eq] at hk
  obtain ⟨⟨k1, k2⟩, k3⟩ := hk
  have hb := lt255 k2
  obtain ⟨key, val, gone⟩ := e
  simp only at hn k1 k2 k3 hb
  cases gone with
  | true =>
    have hv := hn rfl
    subst hv
    have e1 : entB ⟨key, [], true⟩ ++ rest = 0 :: UInt8.ofNat key.length :: (key ++ rest) := by simp [entB]
    rw [e1]
    unfold parseE
    simp only [List.drop_succ_cons, List.drop_zero, List.take_succ_cons, List.take_zero, List.length_cons, be_one, hb]
    rw [if_neg (by omega), if_neg (by omega), if_neg (by simp), if_pos (by decide)]
    simp
  | false =>
    have k3 : val.length ≤ 4095 := k3
    have e1 : entB ⟨key, val, false⟩ ++ rest = 1 :: UInt8.ofNat key.length :: (key ++ (encB val.length 2 ++ (val ++ rest))) := by simp [entB]
    rw [e1]
    unfold parseE
    simp only [List.drop_succ_cons, List.drop_zero, List.take_succ_cons, List.take_zero, List.length_cons, be_one, hb]
    rw [List.drop_left, List.take_left]
    have h2 : (encB val.length 2).length = 2 := encB_len _ _
    have e2 : (encB val.length 2 ++ (val ++ rest)).take 2 = encB val.length 2 := by rw [← h2]; exact List.take_left
    have e3 : (encB val.length 2 ++ (val ++ rest)).drop 2 = val ++ rest := by rw [← h2]; exact List.drop_left
    rw [e2, e3, be_encB (by omega), List.drop_left, List.take_left]
    rw [if_neg (by omega), if_neg (by omega), if_neg (by simp), if_neg (by decide), if_neg (by simp [h2]), if_neg (by simp)]
theorem parseN_ents : ∀ {l : List EM} (rest : List UInt8), (∀ e ∈ l, okE e = true) → nrm l → parseN l.length (l.flatMap entB ++ rest) = some l
  | [], rest, _, _ => rfl
  | e :: l, rest, h, hn => by
    rw [List.flatMap_cons, List.append_assoc, List.length_cons, parseN_some (parseE_ent (h e (List.mem_cons_self ..)) (hn e (List.mem_cons_self ..)) _), parseN_ents rest (fun x hx => h x (List.mem_cons_of_mem _ hx)) (fun x hx => hn x (List.mem_cons_of_mem _ hx))]
    rfl
theorem may_all {l : List EM} (hm : mayB l = true) : l.length ≤ 8191 ∧ ∀ e ∈ l, okE e = true := by
  unfold mayB at hm
  simp only [Bool.and_eq_true, decide_eq_true_eq, List.all_eq_true] at hm
  exact hm
theorem readL_bat {l : List EM} (hm : mayB l = true) (hn : nrm l) : readL (batB l) = some l := by
  obtain ⟨h1, h2⟩ := may_all hm
  unfold readL batB
  have h3 : (encB l.length 2).length = 2 := encB_len _ _
  have e2 : (encB l.length 2 ++ l.flatMap entB).take 2 = encB l.length 2 := by rw [← h3]; exact List.take_left
  have e3 : (encB l.length 2 ++ l.flatMap entB).drop 2 = l.flatMap entB := by rw [← h3]; exact List.drop_left
  rw [e2, e3, be_encB (by omega), if_neg (by rw [List.length_append]; omega)]
  have := parseN_ents (l := l) [] h2 hn
  rwa [List.append_nil] at this
theorem frE_bat {l : List EM} (hm : mayB l = true) (hn : nrm l) : frE (batB l) = some l := by
  unfold frE
  rw [readL_bat hm hn]
  simp [hm]
theorem allE_bats : ∀ {ls : List (List EM)}, (∀ l ∈ ls, mayB l = true ∧ nrm l) → allE (ls.map batB) = some ls
  | [], _ => rfl
  | l :: ls, h => by
    rw [List.map_cons]
    unfold allE
    rw [frE_bat (h l (List.mem_cons_self ..)).1 (h l (List.mem_cons_self ..)).2, allE_bats (fun x hx => h x (List.mem_cons_of_mem _ hx))]
    rfl
theorem allG_pre : ∀ (k : Nat) {ls : List (List EM)} {p q : List UInt8}, (∀ l ∈ ls, (batB l).length ≤ 1048576) → p ++ q = laidB ls → p.length < k →
    ∃ m, m ≤ ls.length ∧ allG k p = ((ls.take m).map batB, (laidB (ls.take m)).length, true) ∧ (laidB (ls.take m)).length ≤ p.length ∧ ∀ j, j ≤ ls.length → (laidB (ls.take j)).length ≤ p.length → j ≤ m
  | 0, _, _, _, _, _, h => by omega
  | k + 1, [], p, q, hb, hp, hk => by
    have : p = [] := by
      cases p with
      | nil => rfl
      | cons _ _ => simp [laidB] at hp
    subst this
    exact ⟨0, by simp, by rw [allG_nil]; simp [laidB], by simp [laidB], fun j hj _ => hj⟩
  | k + 1, l :: ls, p, q, hb, hp, hk => by
    have hl := hb l (List.mem_cons_self ..)
    have e0 : laidB (l :: ls) = recB (batB l) ++ laidB ls := by simp [laidB]
    have hrl := recB_len (batB l)
    rw [e0] at hp
    by_cases hc : (recB (batB l)).length ≤ p.length
    · obtain ⟨p', rfl⟩ : ∃ p', p = recB (batB l) ++ p' := by
        refine ⟨p.drop (recB (batB l)).length, ?_⟩
        have h1 : (p ++ q).take (recB (batB l)).length = recB (batB l) := by rw [hp]; exact List.take_left
        rw [List.take_append_of_le_length hc] at h1
        conv => lhs; rw [← List.take_append_drop (recB (batB l)).length p]
        rw [h1]
      rw [List.append_assoc] at hp
      have hp' := List.append_cancel_left hp
      rw [List.length_append] at hk
      obtain ⟨m, h1, h2, h3, h4⟩ := allG_pre k (fun x hx => hb x (List.mem_cons_of_mem _ hx)) hp' (by omega)
      refine ⟨m + 1, by simp; omega, ?_, ?_, fun j hj hjl => ?_⟩
      · rw [allG_rec hl, h2]
        simp [laidB, hrl]
      · simp only [List.take_succ_cons, laidB, List.flatMap_cons, List.length_append] at h3 ⊢
        omega
      · cases j with
        | zero => omega
        | succ j =>
          have := h4 j (by simp at hj; omega) (by simp only [List.take_succ_cons, laidB, List.flatMap_cons, List.length_append] at hjl ⊢; omega)
          omega
    · refine ⟨0, by omega, ?_, by simp [laidB], fun j hj hjl => ?_⟩
      · have hpt : p = (recB (batB l)).take p.length := by
          have h1 : (p ++ q).take p.length = p := List.take_left
          rw [hp, List.take_append_of_le_length (by omega)] at h1
          exact h1.symm
        rw [allG, if_pos]
        · simp [laidB]
        · by_cases h6 : p.length < 6
          · exact .inl h6
          · right
            have e1 : p.take 3 = encB (batB l).length 3 := by
              have := rec_take (b := batB l) (r := [])
              rw [List.append_nil] at this
              rw [hpt, List.take_take, Nat.min_eq_left (by omega)]
              exact this
            have e2 : (p.drop 3).take 3 = encB ((batB l).length ^^^ 16777215) 3 := by
              have := rec_mid (b := batB l) (r := [])
              rw [List.append_nil] at this
              rw [hpt, List.drop_take, List.take_take, Nat.min_eq_left (by omega)]
              exact this
            have hlen : lenF p = lenF (recB (batB l) ++ []) := by
              unfold lenF
              rw [rec_take, rec_mid, e1, e2, if_neg h6, if_neg (by rw [List.append_nil]; omega)]
            rw [hlen, lenF_rec hl]
            exact ⟨rfl, by simp only; omega⟩
      · cases j with
        | zero => omega
        | succ j =>
          simp only [List.take_succ_cons, laidB, List.flatMap_cons, List.length_append] at hjl
          omega
end Am
end Go.Proofs.Ythgcdoahoechhaa
namespace Go.Proofs.Ythgcdoahoechhaa
namespace Am
open Go.RowKit
set_option maxRecDepth 100000
def W1 (s : List UInt8) (L a : Int) (dn : Bool) (b : List UInt8) (sy : Nat) : MD := ⟨L, a, dn, [⟨s, b, sy⟩]⟩
section
variable {s : List UInt8} {L a : Int} {dn : Bool} {b : List UInt8} {sy : Nat}
theorem W1.get : (W1 s L a dn b sy).get s = some ⟨s, b, sy⟩ := by simp [W1, MD.get, getL]
theorem W1.used : (W1 s L a dn b sy).used = b.length := by simp [W1, MD.used]
theorem W1.fl : (W1 s L a dn b sy).fs.length = 1 := rfl
theorem W1.count0 : (W1 s L 0 dn b sy).count = W1 s L 0 dn b sy := rfl
theorem W1.create (hs : MD.right s = true) : (MD.new L).create s = (0, W1 s L 0 false [] 0) := by
  unfold MD.create
  rw [if_neg (by rw [hs]; decide), if_neg (by show ¬ (false = true); decide)]
  rfl
theorem W1.append {R : List UInt8} (hR : (b.length : Int) + R.length ≤ L) : (W1 s L 0 false b sy).append s R = (0, W1 s L 0 false (b ++ R) sy) := by
  unfold MD.append
  rw [W1.get]
  simp only
  rw [if_neg (by
    rw [W1.used]
    rintro (q | q)
    · cases q
    · have q : L - (b.length : Int) < R.length := q
      omega), W1.count0]
  simp [W1, setL]
theorem W1.sync : (W1 s L 0 false b sy).sync s = (0, W1 s L 0 false b b.length) := by
  unfold MD.sync
  rw [W1.get, W1.count0]
  simp [W1, setL]
theorem W1.cut {n : Nat} (hn : n ≤ b.length) : (W1 s L 0 false b sy).cut s n = (0, W1 s L 0 false (b.take n) n) := by
  unfold MD.cut
  rw [W1.get, W1.count0]
  simp only
  rw [if_neg (by omega)]
  simp [W1, setL]
theorem W1.crash (keep : Int) : (W1 s L a dn b sy).crash keep = W1 s L 0 false (b.take (sy + min keep.toNat (b.length - sy))) (sy + min keep.toNat (b.length - sy)) := by
  simp [W1, MD.crash, MD.kept]
theorem W1.begin_ : beginF (W1 s L a dn b sy) s = (b, 0, W1 s L a dn b sy) := by unfold beginF; rw [W1.get]
theorem W1.cutF : cutF (W1 s L 0 false b b.length) s b = (0, W1 s L 0 false (b.take (allG (b.length + 1) b).2.1) (allG (b.length + 1) b).2.1) := by
  unfold Am.cutF
  have h := (allG_len (b.length + 1) b).2
  split
  · exact W1.cut h
  · have e : (allG (b.length + 1) b).2.1 = b.length := by omega
    rw [e, List.take_length]
theorem laid_pre {ls : List (List EM)} {p q : List UInt8} {m : Nat} (hp : p ++ q = laidB ls) (hm : (laidB (ls.take m)).length ≤ p.length) : p.take (laidB (ls.take m)).length = laidB (ls.take m) := by
  have e : laidB ls = laidB (ls.take m) ++ laidB (ls.drop m) := by
    conv => lhs; rw [← List.take_append_drop m ls]
    unfold laidB
    rw [List.flatMap_append]
  have h1 : (p ++ q).take (laidB (ls.take m)).length = laidB (ls.take m) := by rw [hp, e]; exact List.take_left
  rwa [List.take_append_of_le_length hm] at h1
theorem W1.open_ {ls : List (List EM)} {p q : List UInt8} (h1 : ∀ l ∈ ls, mayB l = true ∧ nrm l) (h2 : ∀ l ∈ ls, (batB l).length ≤ 1048576) (hp : p ++ q = laidB ls) :
    ∃ m sy', m ≤ ls.length ∧ openF (W1 s L 0 false p sy) s = (.ok (ls.take m), W1 s L 0 false (laidB (ls.take m)) sy') ∧ ∀ j, j ≤ ls.length → (laidB (ls.take j)).length ≤ p.length → j ≤ m := by
  obtain ⟨m, k1, k2, k3, k4⟩ := allG_pre (p.length + 1) h2 hp (by omega)
  have e1 := laid_pre hp k3
  have e2 : ∃ sy', Am.cutF (W1 s L 0 false p sy) s p = (0, W1 s L 0 false (laidB (ls.take m)) sy') := by
    unfold Am.cutF
    rw [k2]
    simp only
    split
    · exact ⟨_, by rw [W1.cut k3, e1]⟩
    · have e : (laidB (ls.take m)).length = p.length := by omega
      rw [e, List.take_length] at e1
      exact ⟨sy, by rw [e1]⟩
  obtain ⟨sy', e2⟩ := e2
  refine ⟨m, sy', k1, ?_, k4⟩
  unfold openF
  rw [W1.begin_]
  simp only
  rw [e2, k2]
  simp only
  rw [allE_bats (fun l hl => h1 l (List.mem_of_mem_take hl))]
  rfl
end
theorem eqE_refl (x : EM) : eqE x x = true := by simp [eqE]
theorem eqL_refl (l : List EM) : eqL l l = true := by
  unfold eqL
  rw [decide_eq_true rfl, Bool.true_and, List.all_eq_true]
  intro i hi
  have hi := List.mem_range.1 hi
  rw [List.getElem?_eq_getElem hi]
  exact eqE_refl _
theorem eqLL_refl (l : List (List EM)) : eqLL l l = true := by
  unfold eqLL
  rw [decide_eq_true rfl, Bool.true_and, List.all_eq_true]
  intro i hi
  have hi := List.mem_range.1 hi
  rw [List.getElem?_eq_getElem hi]
  exact eqL_refl _
theorem keep_may {l : List EM} : mayB (keepL 5 20 30 l) = true ∧ nrm (keepL 5 20 30 l) ∧ (keepL 5 20 30 l).length ≤ 5 := by
  have h1 : ∀ e ∈ keepL 5 20 30 l, okE e = true ∧ (e.gone = true → e.val = []) := fun e he => by
    unfold keepL at he
    obtain ⟨x, _, rfl⟩ := List.mem_map.1 he
    unfold keepE okE EM.v
    refine ⟨?_, fun hg => ?_⟩
    · simp only [Bool.and_eq_true, decide_eq_true_eq]
      refine ⟨⟨?_, ?_⟩, ?_⟩
      · split
        · decide
        · omega
      · split
        · decide
        · have := List.length_take_le 20 x.key; omega
      · split
        · simp
        · have := List.length_take_le 30 x.val; omega
    · simp only at hg
      simp [hg]
  have h2 : (keepL 5 20 30 l).length ≤ 5 := by unfold keepL; rw [List.length_map]; exact List.length_take_le ..
  refine ⟨?_, fun e he hg => (h1 e he).2 hg, h2⟩
  unfold mayB
  rw [decide_eq_true (by omega), Bool.true_and, List.all_eq_true]
  exact fun e he => (h1 e he).1
structure Drawn (ls : List (List EM)) (n : Nat) : Prop where
  len : ls.length ≤ n
  may : ∀ l ∈ ls, mayB l = true ∧ nrm l
  short : ∀ l ∈ ls, l.length ≤ 100
theorem drawn {ls : List (List EM)} {n : Nat} : Drawn ((ls.take n).map (keepL 5 20 30)) n := by
  refine ⟨by rw [List.length_map]; exact List.length_take_le .., fun l hl => ?_, fun l hl => ?_⟩ <;> obtain ⟨x, _, rfl⟩ := List.mem_map.1 hl
  · exact ⟨keep_may.1, keep_may.2.1⟩
  · have := (keep_may (l := x)).2.2; omega
theorem Drawn.laid {ls : List (List EM)} {n : Nat} (d : Drawn ls n) : (laidB ls).length ≤ 600000 * n := by
  have key : ∀ ls : List (List EM), (∀ l ∈ ls, (batB l).length ≤ 502002) → (laidB ls).length ≤ 600000 * ls.length := fun ls => by
    induction ls with
    | nil => intro _; simp [laidB]
    | cons l ls ih =>
      intro h
      have h1 := ih fun x hx => h x (List.mem_cons_of_mem _ hx)
      have h2 := h l (List.mem_cons_self ..)
      unfold laidB at h1 ⊢
      rw [List.flatMap_cons, List.length_append, recB_len, List.length_cons]
      omega
  have := key ls fun l hl => by
    have h1 := batB_le (d.may l hl).1
    have h2 := d.short l hl
    omega
  have := d.len
  omega
end Am
end Go.Proofs.Ythgcdoahoechhaa
namespace Go.Proofs.Ythgcdoahoechhaa
namespace Am
open Go.RowKit
set_option maxRecDepth 100000
def b_w5fresh : BF := ⟨10, [0, 1, 2, 8], (.seq (.reg [.mk none (.slot 0) (.mov (.mv (.const .nilp)))]) (.seq (.reg [.mk none (.env 4) (.call 13 [(.const (.int .i64 16777216))]), .mk none (.env 3) (.mov (.mv (.env 4))), .mk none (.env 5) (.mov (.ext 0 (.env 3))), .mk none (.env 6) (.mov (.ext 1 (.env 3))), .mk none (.slot 1) (.mov (.mv (.env 5))), .mk none (.slot 2) (.mov (.mv (.env 6)))]) (.seq (.seq (.reg [.mk none (.env 7) (.mov (.mv (.slot 2))), .mk none (.slot 3) (.mov (.bin .neq .no (.env 7) (.const (.int .i64 0))))]) (.cond (.slot 3) (.seq (.reg [.mk none (.slot 0) (.mov (.mv (.const .nilp)))]) .ret) .skip)) (.seq (.reg [.mk none (.env 9) (.mov (.mv (.slot 1))), .mk none (.slot 0) (.mov (.mv (.env 9)))]) .ret)))), [.slot (.slot 0)]⟩
def b_w5on : BF := ⟨29, [0, 1, 4, 5, 27], (.seq (.reg [.mk none (.slot 2) (.mov (.mv (.const .nilp)))]) (.seq (.reg [.mk none (.env 6) (.call 18 []), .mk none (.slot 3) (.mov (.mv (.env 6)))]) (.seq (.seq (.reg [.mk none (.env 7) (.mov (.mv (.slot 3))), .mk none (.env 8) (.mov (.bin .eql .ptr (.env 7) (.const .nilp))), .mk none (.env 9) (.mov (.mv (.env 8))), .mk (some ((.env 9), false)) (.env 10) (.mov (.mv (.slot 3))), .mk (some ((.env 9), false)) (.env 11) (.mov (.mv (.slot 0))), .mk (some ((.env 9), false)) (.env 12) (.call 51 [(.env 10), (.env 11)]), .mk (some ((.env 9), false)) (.env 13) (.mov (.bin .neq .no (.env 12) (.const (.int .i64 0)))), .mk none (.env 14) (.mov (.pick (.env 9) (.const (.bool true)) (.env 13))), .mk none (.env 15) (.mov (.mv (.env 14))), .mk (some ((.env 15), false)) (.env 16) (.mov (.mv (.slot 3))), .mk (some ((.env 15), false)) (.env 17) (.mov (.mv (.slot 0))), .mk (some ((.env 15), false)) (.env 18) (.mov (.mv (.slot 1))), .mk (some ((.env 15), false)) (.env 19) (.call 53 [(.env 16), (.env 17), (.env 18)]), .mk (some ((.env 15), false)) (.env 20) (.mov (.bin .neq .no (.env 19) (.const (.int .i64 0)))), .mk none (.env 21) (.mov (.pick (.env 15) (.const (.bool true)) (.env 20))), .mk none (.env 22) (.mov (.mv (.env 21))), .mk (some ((.env 22), false)) (.env 23) (.mov (.mv (.slot 3))), .mk (some ((.env 22), false)) (.env 24) (.mov (.mv (.slot 0))), .mk (some ((.env 22), false)) (.env 25) (.call 55 [(.env 23), (.env 24)]), .mk (some ((.env 22), false)) (.env 26) (.mov (.bin .neq .no (.env 25) (.const (.int .i64 0)))), .mk none (.slot 4) (.mov (.pick (.env 22) (.const (.bool true)) (.env 26)))]) (.cond (.slot 4) (.seq (.reg [.mk none (.slot 2) (.mov (.mv (.const .nilp)))]) .ret) .skip)) (.seq (.reg [.mk none (.env 28) (.mov (.mv (.slot 3))), .mk none (.slot 2) (.mov (.mv (.env 28)))]) .ret)))), [.slot (.slot 2)]⟩
structure WaV (E : Nat → Option (Ent MD)) : Prop extends WaW E, WaK E, WaL E, WaS E where
  new : E 13 = some (.nat n_new)
  crash : E 22 = some (.nat (n_int i64ok MD.crash))
  known : E 24 = some (.nat n_true)
  fresh : E 18 = some (.bc b_w5fresh)
  on : E 82 = some (.bc b_w5on)
section
variable {E : Nat → Option (Ent MD)}
theorem w5fresh_ok (hE : ∀ f e, E f = some e → e.plain) (T : WaV E) {h : Hp MD} : WF (lim E) 18 [] h fun r h' => r = .ptr h.n 0 ∧ Ob h' h.n (MD.new 16777216) ∧ Keep NoB h h' := by
  refine wf_bc hE T.fresh rfl ?_
  simp only [b_w5fresh, List.map, getS]
  repeat first|(refine BG ?_;first|(refine BH ?_;first|(refine BI ?_;refine BM ?_)|(refine BJ ?_;first|refine BN ?_|refine BO ?_)|refine BP ?_)|(refine BK ?_;first|refine BS rfl rfl ?_|refine BT rfl rfl ?_|refine BU rfl ?_)|(refine BL ?_;first|refine BQ ?_)|(refine BR ?_;try simp only [setS]))|refine AA ?_|refine AC ?_|refine AD ?_|refine AE ?_|refine AF rfl rfl ?_|refine AG rfl rfl ?_|refine AH ?_|refine AI ?_|refine AJ ?_|refine AK ?_|refine AL ?_|refine AM ?_|refine AN ?_|refine AO ?_|refine AP ?_|refine AQ rfl ?_|refine AR ?_|refine AS ?_|refine AT rfl ?_|refine AU rfl ?_
  refine wr_call_e rfl ((w_new hE T.new (n := 16777216) (by omega) (by omega)).mono fun r h1 ⟨e1, o1, k1, _⟩ => ?_)
  subst e1
  repeat first|(refine BG ?_;first|(refine BH ?_;first|(refine BI ?_;refine BM ?_)|(refine BJ ?_;first|refine BN ?_|refine BO ?_)|refine BP ?_)|(refine BK ?_;first|refine BS rfl rfl ?_|refine BT rfl rfl ?_|refine BU rfl ?_)|(refine BL ?_;first|refine BQ ?_)|(refine BR ?_;try simp only [setS]))|refine AA ?_|refine AC ?_|refine AD ?_|refine AE ?_|refine AF rfl rfl ?_|refine AG rfl rfl ?_|refine AH ?_|refine AI ?_|refine AJ ?_|refine AK ?_|refine AL ?_|refine AM ?_|refine AN ?_|refine AO ?_|refine AP ?_|refine AQ rfl ?_|refine AR ?_|refine AS ?_|refine AT rfl ?_|refine AU rfl ?_
  exact ⟨rfl, o1, k1⟩
theorem w5on_ok (hE : ∀ f e, E f = some e → e.plain) (T : WaV E) {h : Hp MD} {s : List UInt8} (hs : MD.right s = true) {v : AV} {b : List UInt8} (hr : RS h 1 v b.length (b.map ub)) (hb : b.length ≤ 16777216) :
    WF (lim E) 82 [.str s, v] h fun r h' => r = .ptr h.n 0 ∧ Ob h' h.n (W1 s 16777216 0 false b b.length) ∧ Keep NoB h h' := by
  refine wf_bc hE T.on rfl ?_
  simp only [b_w5on, List.map, getS]
  repeat first|(refine BG ?_;first|(refine BH ?_;first|(refine BI ?_;refine BM ?_)|(refine BJ ?_;first|refine BN ?_|refine BO ?_)|refine BP ?_)|(refine BK ?_;first|refine BS rfl rfl ?_|refine BT rfl rfl ?_|refine BU rfl ?_)|(refine BL ?_;first|refine BQ ?_)|(refine BR ?_;try simp only [setS]))|refine AA ?_|refine AC ?_|refine AD ?_|refine AE ?_|refine AF rfl rfl ?_|refine AG rfl rfl ?_|refine AH ?_|refine AI ?_|refine AJ ?_|refine AK ?_|refine AL ?_|refine AM ?_|refine AN ?_|refine AO ?_|refine AP ?_|refine AQ rfl ?_|refine AR ?_|refine AS ?_|refine AT rfl ?_|refine AU rfl ?_
  refine wr_call_e rfl ((w5fresh_ok hE T).mono fun r h1 ⟨e1, o1, k1⟩ => ?_)
  subst e1
  repeat first|(refine BG ?_;first|(refine BH ?_;first|(refine BI ?_;refine BM ?_)|(refine BJ ?_;first|refine BN ?_|refine BO ?_)|refine BV (v_pnil rfl) ?_|refine BP ?_)|(refine BK ?_;first|refine BS rfl rfl ?_|refine BT rfl rfl ?_|refine BU rfl ?_)|(refine BL ?_;first|refine BQ ?_)|(refine BR ?_;try simp only [setS]))|refine AA ?_|refine AC ?_|refine AD ?_|refine AE ?_|refine AF rfl rfl ?_|refine AG rfl rfl ?_|refine AH ?_|refine AI ?_|refine AJ ?_|refine AK ?_|refine AL ?_|refine AM ?_|refine AN ?_|refine AO ?_|refine AP ?_|refine AQ rfl ?_|refine AR ?_|refine AS ?_|refine AT rfl ?_|refine AU rfl ?_
  refine wr_call_e rfl ((w_name hE T.create o1 (by decide) s).mono fun r h2 ⟨e2, o2, k2⟩ => ?_)
  rw [W1.create hs] at e2 o2
  subst e2
  have K2 := k1.own k2 (fun k q => by have q : k = h.n := q; omega)
  repeat first|(refine BG ?_;first|(refine BH ?_;first|(refine BI ?_;refine BM ?_)|(refine BJ ?_;first|refine BN ?_|refine BO ?_)|refine BP ?_)|(refine BK ?_;first|refine BS rfl rfl ?_|refine BT rfl rfl ?_|refine BU rfl ?_)|(refine BL ?_;first|refine BQ ?_)|(refine BR ?_;try simp only [setS]))|refine AA ?_|refine AC ?_|refine AD ?_|refine AE ?_|refine AF rfl rfl ?_|refine AG rfl rfl ?_|refine AH ?_|refine AI ?_|refine AJ ?_|refine AK ?_|refine AL ?_|refine AM ?_|refine AN ?_|refine AO ?_|refine AP ?_|refine AQ rfl ?_|refine AR ?_|refine AS ?_|refine AT rfl ?_|refine AU rfl ?_
  refine wr_call_e rfl ((w_append hE T.append o2 (by rw [W1.fl]; omega) s (hr.up K2)).mono fun r h3 ⟨e3, o3, k3⟩ => ?_)
  rw [W1.append (by simp; omega)] at e3 o3
  subst e3
  have K3 := K2.own k3 (fun k q => by have q : k = h.n := q; omega)
  repeat first|(refine BG ?_;first|(refine BH ?_;first|(refine BI ?_;refine BM ?_)|(refine BJ ?_;first|refine BN ?_|refine BO ?_)|refine BP ?_)|(refine BK ?_;first|refine BS rfl rfl ?_|refine BT rfl rfl ?_|refine BU rfl ?_)|(refine BL ?_;first|refine BQ ?_)|(refine BR ?_;try simp only [setS]))|refine AA ?_|refine AC ?_|refine AD ?_|refine AE ?_|refine AF rfl rfl ?_|refine AG rfl rfl ?_|refine AH ?_|refine AI ?_|refine AJ ?_|refine AK ?_|refine AL ?_|refine AM ?_|refine AN ?_|refine AO ?_|refine AP ?_|refine AQ rfl ?_|refine AR ?_|refine AS ?_|refine AT rfl ?_|refine AU rfl ?_
  refine wr_call_e rfl ((w_name hE T.sync o3 (by rw [W1.fl]; omega) s).mono fun r h4 ⟨e4, o4, k4⟩ => ?_)
  rw [W1.sync] at e4 o4
  subst e4
  repeat first|(refine BG ?_;first|(refine BH ?_;first|(refine BI ?_;refine BM ?_)|(refine BJ ?_;first|refine BN ?_|refine BO ?_)|refine BP ?_)|(refine BK ?_;first|refine BS rfl rfl ?_|refine BT rfl rfl ?_|refine BU rfl ?_)|(refine BL ?_;first|refine BQ ?_)|(refine BR ?_;try simp only [setS]))|refine AA ?_|refine AC ?_|refine AD ?_|refine AE ?_|refine AF rfl rfl ?_|refine AG rfl rfl ?_|refine AH ?_|refine AI ?_|refine AJ ?_|refine AK ?_|refine AL ?_|refine AM ?_|refine AN ?_|refine AO ?_|refine AP ?_|refine AQ rfl ?_|refine AR ?_|refine AS ?_|refine AT rfl ?_|refine AU rfl ?_
  exact ⟨rfl, o4, K3.own k4 (fun k q => by have q : k = h.n := q; omega)⟩
theorem Bats.sl {X : Type} {h : Hp X} {v : AV} {ls : List (List EM)} {F : Nat → Prop} (a : Bats h v ls F) {m : Nat} (hm : m ≤ ls.length) : ∃ v', Bats h v' (ls.take m) F ∧
    ∀ {hh : Hp X} {e : En} {t : List AV} {x y : Od}, x.ev e t = v → y.ev e t = .int .i64 (m : Int) → (Mv.sl 1 x none (some y) none).ev e t hh = some v' := by
  obtain ⟨cells, h1, h2, h3⟩ := a.out
  obtain ⟨v', k1, k2, _, k4⟩ := h1.sl (lo := 0) (hi := m) (Nat.zero_le _) hm
  refine ⟨v', ⟨cells.take m, ?_, fun k q => h2 k (k2 k q), fun i l hi => ?_⟩, fun {hh e t x y} hx hy => k4 hx (.inl ⟨rfl, rfl⟩) (.inr ⟨y, _, rfl, hy⟩)⟩
  · have e : (ls.take m).length = m - 0 := by rw [List.length_take]; omega
    rw [e]
    simpa using k1
  · have hil := (List.getElem?_eq_some_iff.1 hi).1
    rw [List.length_take] at hil
    rw [List.getElem?_take_of_lt (by omega)] at hi ⊢
    exact h3 i l hi
theorem Bats.at {X : Type} {h : Hp X} {v : AV} {ls : List (List EM)} {F : Nat → Prop} (a : Bats h v ls F) {i : Nat} {l : List EM} (hi : ls[i]? = some l) : ∃ g o c, EntsF h c l F ∧ (∀ {hh : Hp X} {e : En} {t : List AV} {x y : Od} {k : IntKind}, x.ev e t = v → y.ev e t = .int k (i : Int) → (Mv.iaddr 1 x y).ev e t hh = some (.ptr g o)) ∧
    ∀ {S : Nat → Prop} {hh : Hp X}, Keep S h hh → (∀ k, blk v k → ¬ S k) → ∀ {e : En} {t : List AV} {x : Od}, x.ev e t = .ptr g o → (Mv.ld1 x).ev e t hh = some c := by
  obtain ⟨cells, h1, h2, h3⟩ := a.out
  obtain ⟨c, hc, ef⟩ := h3 i l hi
  obtain ⟨g, o, pa, la⟩ := h1.at2 (List.getElem?_eq_some_iff.1 hi).1
  exact ⟨g, o, c, ef, pa, fun {S hh} k hs {e t x} hx => by rw [la k hs hx]; exact hc⟩
theorem Bats.rs {X : Type} {h : Hp X} {v : AV} {ls : List (List EM)} {F : Nat → Prop} (a : Bats h v ls F) : ∃ cells, RS h 1 v ls.length cells := by obtain ⟨_, h1, _⟩ := a.out; exact ⟨_, h1⟩
end
end Am
end Go.Proofs.Ythgcdoahoechhaa
