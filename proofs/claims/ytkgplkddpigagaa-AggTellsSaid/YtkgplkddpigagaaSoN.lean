/- slices.Sort of numbers, as a function of the plain machine. -/
import Derived.Test.YtkgplkddpigagaaSortL
import Derived.Test.YtkgplkddpigagaaQaJ
set_option linter.unusedVariables false
set_option linter.unusedSimpArgs false
namespace Go.Proofs.Ytkgplkddpigagaa
namespace Am
open Go.RowKit Go.Sort Go.Shelf
set_option maxRecDepth 100000
theorem intsR_some : ∀ {l : List AV} {zs : List Int}, intsR l = some zs → l = zs.map iv
  | [], zs, h => by simp [intsR] at h; subst h; rfl
  | a :: l, zs, h => by
    cases a <;> first | (cases h; done) | skip
    rename_i k n
    cases k <;> first | (cases h; done) | skip
    have h : (match intsR l with | some r => some (n :: r) | none => none) = some zs := h
    cases hr : intsR l with
    | none => rw [hr] at h; cases h
    | some r =>
      rw [hr] at h
      cases h
      rw [intsR_some hr]
      rfl
theorem sort_none (p : Option Addr) (cap : Nat) (w : World) : Calls Try.prog 30 #[.slice p 0 cap] w fun e w' => e = .returned (.tuple #[]) ∧ w' = w :=
  calls_of_every_depth fun D => AnySM.slices_Sort_int_none_in sortL D p cap w
theorem sort_some (blk off cap : Nat) (zs : List Int) (w : World) (hH : Holds (Value.int .i64) w blk off zs.toArray) (hblk : blk < w.heap.size) (hsz : zs.length < 4611686018427387904) :
    Calls Try.prog 30 #[.slice (some ⟨blk, off, none⟩) zs.length cap] w fun e w' => e = .returned (.tuple #[]) ∧ ∃ n os, w' = grow (putRow (Value.int .i64) (Sort.ahead w n) blk off (sortI zs).toArray) os :=
  AnyM.slices_Sort_int sortL blk off cap zs w hH hblk hsz
theorem put_get {w : World} {blk off n : Nat} {d : Array Int} {os : Array Obj} {cs : Array Value} {ty : TypeId} {fz : Nat × Nat} (hb : w.heap[blk]? = some (.cells cs ty fz)) :
    (grow (putRow (Value.int .i64) (Sort.ahead w n) blk off d) os).heap[blk]? = some (.cells (putCells (Value.int .i64) off d cs) ty fz) := by
  have hg : blk < w.heap.size := (Array.getElem?_eq_some_iff.1 hb).1
  rw [heap_grow_old _ _ (by simpa using hg)]
  simp [putRow, mapBlock, Sort.ahead, Array.getElem?_modify, hb, onCells]
theorem put_upd {S : Nat → Prop} {w : World} {blk off n : Nat} {d : Array Int} {os : Array Obj} (hS : S blk) : Upd S w (grow (putRow (Value.int .i64) (Sort.ahead w n) blk off d) os) := by
  refine ⟨rfl, rfl, rfl, by simp, fun k hk hne => ?_⟩
  rw [heap_grow_old _ _ (by simpa using hk)]
  have : blk ≠ k := fun e => hne (by rw [← e]; exact hS)
  simp [putRow, mapBlock, Sort.ahead, Array.getElem?_modify, this]
theorem sorti_n {O : Objs} : FnOK Try.prog O 30 n_sorti := by
  refine ⟨by kernel_rfl, fun {D} hD args h hb {w0 w m φ args'} hs hv => ?_⟩
  rcases args with _ | ⟨a, _ | ⟨b, r⟩⟩
  · exact absurd rfl hb
  · simp only [VRs] at hv
    obtain ⟨v, _, rfl, hv, rfl⟩ := hv
    cases a <;> first | exact absurd rfl hb | skip
    · rename_i z g o n cap
      simp only [VR] at hv
      obtain ⟨p, ad, c, hp, rfl, hnc, hcm, had, ⟨hz1, hz2⟩, _⟩ := hv
      have hb : sortS h z g o n ≠ .bad := hb
      show Calls _ _ _ _ (FPost O w0 m h (sortS h z g o n))
      unfold sortS at hb ⊢
      cases hg : h.get g with
      | none => rw [hg] at hb; exact absurd rfl hb
      | some cb =>
        rw [hg] at hb
        cases cb with
        | ro l => exact absurd rfl hb
        | obj x => exact absurd rfl hb
        | rw l =>
          simp only at hb ⊢
          cases hc : (Nat.beq z 1 && Nat.ble (o + n) l.length && Nat.ble n 1000000) with
          | false => rw [hc] at hb; exact absurd rfl hb
          | true =>
            rw [hc] at hb
            simp only [cond_true] at hb ⊢
            simp only [Bool.and_eq_true] at hc
            obtain ⟨⟨_, hc2⟩, hc3⟩ := hc
            have hol := Nat.le_of_ble_eq_true hc2
            have hn6 := Nat.le_of_ble_eq_true hc3
            cases hi : intsR ((l.drop o).take n) with
            | none => rw [hi] at hb; exact absurd rfl hb
            | some zs =>
              have hzs := intsR_some hi
              have hzl : zs.length = n := by
                have := congrArg List.length hzs
                rw [List.length_take, List.length_drop, List.length_map] at this
                omega
              subst hzl
              simp only
              obtain ⟨cs, ty, fz, b1, b2, b3, b4, b5, b6, b7⟩ := hs.blk g _ hg p hp
              have hblk : p.b < w.heap.size := (Array.getElem?_eq_some_iff.1 b1).1
              have hat : ∀ j, j < zs.length → cs[p.s + o + j]? = some (.int .i64 (zs.getD j 0)) := fun j hj => by
                have h1 : l[o + j]? = some (iv (zs.getD j 0)) := by
                  have h2 := congrArg (fun l => l[j]?) hzs
                  simp only [List.getElem?_take_of_lt hj, List.getElem?_drop, List.getElem?_map, List.getElem?_eq_getElem hj, Option.map_some] at h2
                  rw [h2, List.getD, List.getElem?_eq_getElem hj]
                  rfl
                obtain ⟨v', q1, q2, _⟩ := b5 _ _ h1
                simp only [iv, VR] at q2
                subst q2
                rw [Nat.add_assoc]
                exact q1
              have hsl := sortI_len zs
              have fin : ∀ {e : Ending} {w' : World}, e = .returned (.tuple #[]) → SR O w0 w' m (φ.set g (fun k => k = p.b)) (h.put g (.rw (spl o ((sortI zs).map iv) l))) → FPost O w0 m h (.ret (.tup []) (h.put g (.rw (spl o ((sortI zs).map iv) l)))) e w' := fun he hsr =>
                ⟨m, _, .tuple #[], fun _ _ => rfl, Nat.le_refl _, hsr, by simp [VR, VRs], he⟩
              rcases Nat.eq_zero_or_pos zs.length with h0 | h0
              · have hz0 : zs = [] := List.eq_nil_of_length_eq_zero h0
                subst hz0
                refine (sort_none (some ad) c w).mono fun e w' ⟨he, hw⟩ => ?_
                subst hw
                refine fin he (hs.upd hg rfl hp (Upd.refl _ _) ⟨cs, ty, fz, b1, b2, b3, ?_, fun i v hi' => ?_, fun k => Iff.rfl, b7⟩ rfl (fun k hk => .inl ((b6 k).2 hk)))
                · have : (spl o ((sortI []).map iv) l).length = l.length := spl_len (by simp [sortI]; omega)
                  rw [this]; exact b4
                · have : spl o ((sortI []).map iv) l = l := by unfold spl sortI; simp
                  rw [this] at hi'
                  exact b5 i v hi'
              · have had := had (by omega)
                subst had
                have hz1' : z = 1 := Nat.eq_of_beq_eq_true (by assumption)
                refine (sort_some p.b (p.s + o) c zs w (fun j hj => ?_) hblk (by omega)).mono fun e w' ⟨he, k, os, hw⟩ => ?_
                · have hj' : j < zs.length := by simpa using hj
                  have hj2 := hat j hj'
                  have hjc : p.s + o + j < cs.size := (Array.getElem?_eq_some_iff.1 hj2).1
                  constructor
                  · simp only [World.cell?, b1]
                    simp [hj2, hj', List.getD]
                  · simp only [World.frozen?, b1]
                    exact b2.at hjc
                subst hw
                refine fin he (hs.upd hg rfl hp (put_upd ((b6 _).2 rfl)) ⟨_, ty, fz, put_get b1, ?_, ?_, ?_, fun i v hi' => ?_, fun k => Iff.rfl, b7⟩ rfl (fun k hk => .inl ((b6 k).2 hk)))
                · rw [show (putCells (Value.int .i64) (p.s + o) (sortI zs).toArray cs).size = cs.size by simp [putCells]]; exact b2
                · rw [show (putCells (Value.int .i64) (p.s + o) (sortI zs).toArray cs).size = cs.size by simp [putCells]]; exact b3
                · rw [spl_len (by rw [List.length_map, hsl]; exact hol)]; exact b4
                · rw [spl_get (by rw [List.length_map, hsl]; exact hol), List.length_map, hsl] at hi'
                  by_cases hin : o ≤ i ∧ i < o + zs.length
                  · rw [if_pos hin, List.getElem?_map] at hi'
                    have hlt : i - o < (sortI zs).length := by rw [hsl]; omega
                    rw [List.getElem?_eq_getElem hlt] at hi'
                    simp only [Option.map_some, Option.some.injEq] at hi'
                    subst hi'
                    have hc2' := hat (i - o) (by omega)
                    have hjc : p.s + i < cs.size := by have := (Array.getElem?_eq_some_iff.1 hc2').1; omega
                    refine ⟨.int .i64 (sortI zs)[i - o], ?_, by simp [VR, iv], rfl⟩
                    simp only [putCells]
                    rw [Array.getElem?_mapIdx, Array.getElem?_eq_getElem hjc]
                    have hlt' : i - o < (sortI zs).toArray.size := by simpa using hlt
                    simp only [Option.map_some]
                    rw [if_pos (by simp [hsl]; omega), show p.s + i - (p.s + o) = i - o by omega, getElem!_pos (sortI zs).toArray (i - o) hlt']
                    simp
                  · rw [if_neg hin] at hi'
                    obtain ⟨v', q1, q2, q3⟩ := b5 i v hi'
                    have hjc : p.s + i < cs.size := (Array.getElem?_eq_some_iff.1 q1).1
                    refine ⟨v', ?_, q2, q3⟩
                    simp only [putCells]
                    rw [Array.getElem?_mapIdx, Array.getElem?_eq_getElem hjc]
                    simp only [Option.map_some]
                    rw [if_neg (by simp [hsl]; omega)]
                    have q1' : cs[p.s + i]? = some v' := q1
                    rw [Array.getElem?_eq_getElem hjc] at q1'
                    exact q1'
    · simp only [VR] at hv
      subst hv
      refine (sort_none none 0 w).mono fun e w' ⟨he, hw⟩ => ?_
      subst hw
      exact ⟨m, φ, .tuple #[], fun _ _ => rfl, Nat.le_refl _, hs, by simp [VR, VRs], he⟩
  · cases a <;> exact absurd rfl hb
end Am
end Go.Proofs.Ytkgplkddpigagaa
