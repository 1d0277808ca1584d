/- Layer 23: rows of series that grow; what a law makes of lists. -/
import Derived.Test.YtkgplkddpigagaaQbQ
import Derived.Test.YtkgplkddpigagaaLaO
set_option linter.unusedVariables false
set_option linter.unusedSimpArgs false
namespace Go.Proofs.Ytkgplkddpigagaa
namespace Am
open Go.RowKit
set_option maxRecDepth 100000
section
variable {X : Type} {h h' : Hp X}
theorem SerL.keep {S : Nat → Prop} {cs : List AV} {ls : List (List SM)} (a : SerL h cs ls) (k : Keep S h h') (hs : ∀ c ∈ cs, ∀ k, blk c k → ¬ S k) : SerL h' cs ls := by
  induction a with
  | nil => exact .nil
  | cons a b ih => exact .cons (a.keep k (hs _ (List.mem_cons_self ..))) (ih fun c hc => hs c (List.mem_cons_of_mem _ hc))
theorem SerL.snoc {cs : List AV} {ls : List (List SM)} {c : AV} {l : List SM} (a : SerL h cs ls) (b : Ser h c l) : SerL h (cs ++ [c]) (ls ++ [l]) := by
  induction a with
  | nil => exact .cons b .nil
  | cons a _ ih => exact .cons a ih
theorem SerL.app {cs ds : List AV} {ls ms : List (List SM)} (a : SerL h cs ls) (b : SerL h ds ms) : SerL h (cs ++ ds) (ls ++ ms) := by
  induction a with
  | nil => exact b
  | cons a _ ih => exact .cons a ih
theorem SerL.take {cs : List AV} {ls : List (List SM)} (a : SerL h cs ls) : ∀ c, SerL h (cs.take c) (ls.take c) ∧ SerL h (cs.drop c) (ls.drop c) := by
  induction a with
  | nil => intro c; simp; exact .nil
  | cons a b ih =>
    intro c
    cases c with
    | zero => exact ⟨.nil, .cons a b⟩
    | succ c => exact ⟨.cons a (ih c).1, (ih c).2⟩
theorem SerL.lt {cs : List AV} {ls : List (List SM)} (a : SerL h cs ls) : ∀ c ∈ cs, ∀ k, blk c k → k < h.n := by
  induction a with
  | nil => intro c hc; cases hc
  | cons a _ ih =>
    intro c hc
    rcases List.mem_cons.1 hc with rfl | hc
    · exact a.rs.lt
    · exact ih c hc
structure SerO (h : Hp X) (lo : Nat) (v : AV) (cs : List AV) (ls : List (List SM)) : Prop where
  o : OS h 1 v ls.length cs
  l : SerL h cs ls
  sep : ∀ c ∈ cs, ∀ k, blk c k → ¬ blk v k
  lo : ∀ k, blk v k → lo ≤ k
theorem SerO.up {lo : Nat} {v : AV} {cs : List AV} {ls : List (List SM)} (a : SerO h lo v cs ls) (k : Keep NoB h h') : SerO h' lo v cs ls := ⟨a.o.up k, a.l.up k, a.sep, a.lo⟩
theorem SerO.nil {lo : Nat} : SerO h lo .snil [] [] := ⟨⟨rfl, rfl⟩, .nil, (fun c hc => by cases hc), fun k q => q.elim⟩
theorem SerO.sers {lo : Nat} {v : AV} {cs : List AV} {ls : List (List SM)} (a : SerO h lo v cs ls) (hl : ls.length ≤ 1000) : Sers h v ls := a.l.sers a.o.rs hl
theorem SerO.app {lo : Nat} {v c v' : AV} {cs : List AV} {ls : List (List SM)} {l : List SM} (a : SerO h lo v cs ls) (b : Ser h c l) (hc : ∀ k, blk c k → ¬ blk v k) (hlo : lo ≤ h.n)
    (a1 : OS h' 1 v' (ls.length + 1) (cs ++ [c])) (a2 : Keep (blk v) h h') (a3 : ∀ k, blk v' k → blk v k ∨ h.n ≤ k) : SerO h' lo v' (cs ++ [c]) (ls ++ [l]) := by
  refine ⟨by rw [List.length_append]; exact a1, (a.l.keep a2 a.sep).snoc (b.keep a2 hc), fun d hd k hk q => ?_, fun k q => ?_⟩
  · have hk' : ¬ blk v k ∧ k < h.n := by
      rcases List.mem_append.1 hd with hd | hd
      · exact ⟨a.sep d hd k hk, a.l.lt d hd k hk⟩
      · simp at hd; subst hd; exact ⟨hc k hk, b.rs.lt k hk⟩
    rcases a3 k q with q | q
    · exact hk'.1 q
    · omega
  · rcases a3 k q with q | q
    · exact a.lo k q
    · omega
theorem Sers.sl {v : AV} {cs : List AV} {ls : List (List SM)} (a : SerL h cs ls) (r : RS h 1 v ls.length cs) (hl : ls.length ≤ 1000) {lo hi : Nat} (h1 : lo ≤ hi) (h2 : hi ≤ ls.length) :
    ∃ v', Sers h v' ((ls.drop lo).take (hi - lo)) ∧ ∀ {hh : Hp X} {e : En} {t : List AV} {x : Od} {ol oh : Option Od}, x.ev e t = v → Bnd ol e t lo 0 → Bnd oh e t hi ls.length → (Mv.sl 1 x ol oh none).ev e t hh = some v' := by
  obtain ⟨v', r1, _, _, r2⟩ := r.sl h1 h2
  refine ⟨v', SerL.sers (((a.take lo).2).take (hi - lo)).1 (by rw [List.length_take, List.length_drop, Nat.min_eq_left (by omega)]; simpa using r1) (by rw [List.length_take, List.length_drop]; omega), r2⟩
end
end Am
end Go.Proofs.Ytkgplkddpigagaa
