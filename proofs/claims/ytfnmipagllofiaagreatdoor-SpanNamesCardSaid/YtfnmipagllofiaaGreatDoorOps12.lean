/- Sorting in place, in the abstract logic: the library's contract joined to it. No condition. -/
import Derived.Test.YtfnmipagllofiaaGreatDoorOps11
import Derived.Shelf.SlSortCmp.NoneTotal
namespace Go.AL
open Go.Proofs (Enters ltOf)
open Go.Sort (SWO HoldsK putRowK putRow mapBlock putCells Holds)
section
variable {α : Type} [Inhabited α]
theorem flatK_list {enc : α → List Value} {k : Nat} (hk : ∀ x, (enc x).length = k) (l : List α) : (Go.Sort.flatK enc k l.toArray).toList = (l.map enc).flatten := by
  have hall : ∀ e, e ∈ l.map enc → e.length = k := fun e he => by obtain ⟨a, _, rfl⟩ := List.mem_map.1 he; exact hk a
  have hlen := flat_len hall
  rw [List.length_map] at hlen
  apply List.ext_getElem?
  intro t
  rcases Nat.lt_or_ge t (l.length * k) with h | h
  · have hk0 : 0 < k := by rcases Nat.eq_zero_or_pos k with e | e
                           · subst e; simp at h
                           · exact e
    have h1 := flat_get hall (t / k) (t % k) (Nat.mod_lt _ hk0)
    rw [Nat.div_add_mod' t k] at h1
    rw [h1]
    have hi : t / k < l.length := Nat.div_lt_of_lt_mul (by rw [Nat.mul_comm]; exact h)
    have hs : t < (Go.Sort.flatK enc k l.toArray).size := by simpa using h
    have h2 := Go.Sort.get_flatK enc k l.toArray t (by simpa using h)
    rw [getElem!_pos _ t hs] at h2
    rw [Array.getElem?_toList, Array.getElem?_eq_getElem hs, h2]
    have e1 : l.toArray[t / k]! = l[t / k] := by rw [getElem!_pos _ _ (by simpa using hi)]; simp
    have hj : t % k < (enc l[t / k]).length := by rw [hk]; exact Nat.mod_lt _ hk0
    rw [e1, getElem!_pos (enc l[t / k]) (t % k) hj, List.getElem?_map, List.getElem?_eq_getElem hi]
    simp [hj]
  · rw [List.getElem?_eq_none (show (Go.Sort.flatK enc k l.toArray).toList.length ≤ t by simpa using h), List.getElem?_eq_none (show (l.map enc).flatten.length ≤ t by rw [hlen]; exact h)]
theorem putCells_list {enc : α → List Value} {k : Nat} (hk : ∀ x, (enc x).length = k) (l : List α) (c sp : List Value) (hc : c.length = l.length * k) : putCells id 0 (Go.Sort.flatK enc k l.toArray) (c ++ sp).toArray = ((l.map enc).flatten ++ sp).toArray := by
  have hfl := flatK_list hk l
  have hsz : (Go.Sort.flatK enc k l.toArray).size = l.length * k := by simp
  have hlen : ((l.map enc).flatten).length = l.length * k := by rw [← hfl, Array.length_toList, hsz]
  apply Array.ext_getElem?
  intro t
  simp only [putCells, Array.getElem?_mapIdx, List.getElem?_toArray, Nat.zero_le, true_and, Nat.zero_add, Nat.sub_zero, id]
  rcases Nat.lt_or_ge t (l.length * k) with h | h
  · have h1 : (c ++ sp)[t]? = some ((c ++ sp)[t]'(by simp; omega)) := List.getElem?_eq_getElem _
    rw [h1, Option.map_some, if_pos (by rw [hsz]; exact h), List.getElem?_append_left (by rw [hlen]; exact h), ← hfl, Array.getElem?_toList, Array.getElem?_eq_getElem (by rw [hsz]; exact h), getElem!_pos _ t (by rw [hsz]; exact h)]
  · rw [List.getElem?_append_right (by omega), List.getElem?_append_right (by omega), hc, hlen]
    cases hx : sp[t - l.length * k]? with
    | none => rfl
    | some y => rw [Option.map_some, if_neg (by rw [hsz]; omega)]
theorem concSc {G : Gh} : ∀ {cs vs : List Value}, ConcL G cs (vs.map AV.sc) → cs = vs
  | cs, [], h => h.inv_nil
  | cs, v :: vs, h => by
    obtain ⟨u, us, rfl, h1, h2⟩ := h.inv_cons
    rw [conc_sc h1, concSc h2]
theorem world_grow {w w' : World} (h : Grown w w') : ∃ q os, w' = Go.Sort.grow (w.drewN q) os := by
  refine ⟨w'.drawn - w.drawn, w'.heap.extract w.heap.size w'.heap.size, ?_⟩
  have hd : w.drawn + (w'.drawn - w.drawn) = w'.drawn := by have := h.drawn; omega
  have hh : w.heap ++ w'.heap.extract w.heap.size w'.heap.size = w'.heap := by
    apply Array.ext_getElem?
    intro i
    rcases Nat.lt_or_ge i w.heap.size with hi | hi
    · rw [Array.getElem?_append_left hi]; exact (h.out i hi).symm
    · rw [Array.getElem?_append_right hi]
      have hs := h.size
      rcases Nat.lt_or_ge i w'.heap.size with hj | hj
      · rw [Array.getElem?_extract, if_pos (by omega)]; congr 1; omega
      · rw [Array.getElem?_eq_none (by simp; omega), Array.getElem?_eq_none hj]
  obtain ⟨a, b, c, d, e⟩ := w'
  obtain ⟨a', b', c', d', e'⟩ := w
  have h1 := h.tape
  have h2 := h.os
  have h3 := h.output
  simp only at h1 h2 h3 hd hh
  subst h1; subst h2; subst h3
  simp only [Go.Sort.grow, World.drewN, hd, hh]
theorem sort_none_pc {P : Program} [GlobF P] {ρ : Shelf.Ren} (L : Go.Proofs.SlLaysF0.n6 P ρ) (k : Nat) (F : AV) : PC P (ρ.f 6) [.sl none k [], F] (.tu []) := by
  refine ⟨L.f6.enters rfl, fun w imm vs hgl him hc => ?_⟩
  obtain ⟨v1, vs1, rfl, c1, hc1⟩ := hc.inv_cons
  obtain ⟨v2, vs2, rfl, c2, hc2⟩ := hc1.inv_cons
  have := hc2.inv_nil
  subst this
  obtain ⟨p, cap, rfl⟩ : ∃ p cap, v1 = .slice p 0 cap := by
    cases c1 with
    | sl us hk hcap him hc ht => exact ⟨_, _, rfl⟩
    | slnil ht => exact ⟨_, _, rfl⟩
    | slz => exact ⟨_, _, rfl⟩
  refine (Go.Proofs.AnyF.slices_SortFunc_none L p cap v2 w).mono ?_
  rintro e w' ⟨rfl, rfl⟩
  exact ⟨_, imm, rfl, ⟨rfl, rfl, rfl, Nat.le_refl _, Nat.le_refl _, fun _ _ => rfl⟩, fun _ _ _ => rfl, him, .tu rfl (fun i v x hv => by simp at hv)⟩
end
end Go.AL
