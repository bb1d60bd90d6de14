/- Rules of the abstract logic: what is nil, grown. No condition. -/
import Derived.Test.YtfnmipagllofiaaGreatOps24
import Derived.Shelf.Spec.SlicesGrow
namespace Go.AL
theorem grow_ac {P : Program} [GlobF P] {ρ : Shelf.Ren} (L : Go.Proofs.Lays8.n4 P ρ) {k by_ : Nat} {z : Value} [hi : Inf P (ρ.t 25) k by_ z] (hk : 0 < k) (hzk : z.cells.size = k) (n : Nat) (hb : n * by_ ≤ 140737488355328) (hn : n < 4611686018427387904) (h : List AObj) :
    AC P (ρ.f 4) [.sc (.slice none 0 0), .sc (.int .i64 (n : Int))] h (fun v h' => v = rowA h.length 0 ∧ h' = h ++ [.row k (ρ.t 25) []]) := by
  refine ⟨L.f4.enters rfl, fun B G w vs hr hc => ?_⟩
  obtain ⟨v1, vs1, rfl, c1, hc1⟩ := hc.inv_cons
  obtain ⟨v2, vs2, rfl, c2, hc2⟩ := hc1.inv_cons
  have := hc2.inv_nil
  subst this
  rw [conc_sc c1, conc_sc c2]
  obtain ⟨i, i1, i2, i3, i4⟩ := hi.h
  obtain ⟨f1, f2⟩ := hr.fresh h.length (Nat.le_refl _)
  by_cases h0 : n = 0
  · subst h0
    refine (Go.Proofs.Any8.slices_Grow_room L none 0 0 0 w (by omega) (by omega) (by omega) (by omega)).mono ?_
    rintro e w' ⟨rfl, rfl⟩
    let G' : Gh := ⟨G.imm, G.blk, fun r j => if r = h.length ∧ j = 0 then some (.slice none 0 0) else G.tl r j⟩
    have hle : G.le G' := ⟨fun _ _ _ e => e, fun _ _ e => e, fun r j v e => by
      show (if r = h.length ∧ j = 0 then _ else G.tl r j) = some v
      rw [if_neg fun h => by obtain ⟨rfl, rfl⟩ := h; rw [f2] at e; cases e]; exact e⟩
    refine ⟨_, G', h ++ [.row k (ρ.t 25) []], rowA h.length 0, rfl, hle, ?_, .slnil fun t e => by cases e; exact if_pos ⟨rfl, rfl⟩, rfl, rfl⟩
    refine hr.allocObj _ hle rfl rfl rfl (Nat.le_refl _) (Nat.le_refl _) (fun _ _ => rfl) (fun _ _ _ => rfl) hr.imm (fun r hne => ⟨rfl, fun n => if_neg fun h => hne h.1⟩) ?_ (fun b hb => ?_)
    · exact ⟨fun j hj => by show (if h.length = h.length ∧ j = 0 then _ else _) = none; rw [if_neg fun h => by simp at hj; omega]; exact f2 j, fun x hx => by simp at hx, .inl ⟨rfl, if_pos ⟨rfl, rfl⟩⟩⟩
    · simp only [ownBlk, List.length_nil] at hb
      have e1 : G'.tl h.length 0 = some (.slice none 0 0) := if_pos ⟨rfl, rfl⟩
      rw [e1] at hb; cases hb
  · refine (Go.Proofs.Any8.slices_Grow_grow L i z i1 i4 (by rw [i2]; exact hk) none 0 0 n [] w (Nat.le_refl _) (by omega) (by rw [i3, Nat.zero_add]; exact hb) (by omega) (by simp) (fun _ => rfl) (fun a e => by cases e)).mono ?_
    rintro e w' ⟨rfl, rfl⟩
    have hge := grownCap_ge w (0 + n) 0 (ρ.t 25)
    have hcm := grownCap_le_maxLen w (0 + n) 0 (ρ.t 25) (by simp only [maxLen]; omega)
    generalize grownCap w (0 + n) 0 (ρ.t 25) = cap at hge hcm
    obtain ⟨cs, hcs⟩ : ∃ cs : List Value, ([] : List Value).toArray ++ Builtin.zeroCells z.cells (0 + n - 0) ++ Builtin.zeroCells z.cells (cap - (0 + n)) = cs.toArray := ⟨_, Array.toArray_toList.symm⟩
    have hcl : cs.length = cap * k := by
      have := congrArg Array.size hcs
      simp only [Array.size_append, size_zeroCells, hzk, List.size_toArray, List.length_nil, Nat.zero_add, ← Nat.add_mul] at this
      rw [← this]; congr 1; omega
    rw [hcs]
    generalize hnv : (Value.slice (some ⟨w.heap.size, 0, none⟩) 0 cap) = nv
    let G' : Gh := ⟨G.imm, fun q => if q = h.length then some w.heap.size else G.blk q, fun r j => if r = h.length ∧ j = 0 then some nv else G.tl r j⟩
    have hle : G.le G' := ⟨fun _ _ _ e => e, fun q b e => by
      show (if q = h.length then some w.heap.size else G.blk q) = some b
      by_cases hrl : q = h.length
      · subst hrl; rw [f1] at e; cases e
      · rw [if_neg hrl]; exact e, fun r j v e => by
      show (if r = h.length ∧ j = 0 then _ else G.tl r j) = some v
      rw [if_neg fun h => by obtain ⟨rfl, rfl⟩ := h; rw [f2] at e; cases e]; exact e⟩
    have e0 : G'.tl h.length 0 = some nv := if_pos ⟨rfl, rfl⟩
    refine ⟨_, G', h ++ [.row k (ρ.t 25) []], rowA h.length 0, rfl, hle, ?_, by rw [← hnv]; exact rowA_mk (by rw [hnv]; exact e0) (Nat.zero_le _), rfl, rfl⟩
    have hnewb : (w.drew.alloc (.cells cs.toArray (ρ.t 25))).heap[w.heap.size]? = some (.cells cs.toArray (ρ.t 25) (0, 0)) := heap_alloc_new w.drew _
    have hblk : ∀ b', b' < w.heap.size → (w.drew.alloc (.cells cs.toArray (ρ.t 25))).heap[b']? = w.heap[b']? := fun b' hb' => heap_alloc_old w.drew _ hb'
    refine hr.allocObj _ hle rfl rfl rfl (Nat.le_succ _) (by simp) hblk (fun _ _ _ => rfl) (fun b o v hv => ?_) (fun r hne => ⟨if_neg hne, fun n => if_neg fun h => hne h.1⟩) ?_ (fun b hb => ?_)
    · have e1 : (w.drew.alloc (.cells cs.toArray (ρ.t 25))).cell? ⟨b, o, none⟩ = w.cell? ⟨b, o, none⟩ := by
        simp only [World.cell?]; rw [hblk b (hr.lt hv)]
      exact e1.trans (hr.imm _ _ _ hv)
    · refine ⟨fun j hj => by show (if h.length = h.length ∧ j = 0 then _ else _) = none; rw [if_neg fun h => by simp at hj; omega]; exact f2 j, fun x hx => by simp at hx, .inr ⟨w.heap.size, cap, cs, e0.trans (congrArg some hnv.symm), hr.size, hnewb, Nat.zero_le _, hcm, hcl, ?_, fun j => ?_, if_pos rfl⟩⟩
      · simp only [List.length_nil, Nat.zero_mul, List.take_zero, List.flatten_nil]; exact .nil _
      · show G.imm w.heap.size j = none
        cases hi : G.imm w.heap.size j with
        | none => rfl
        | some v => exact absurd (hr.lt hi) (by omega)
    · simp only [ownBlk, List.length_nil, e0, ← hnv, slBlock] at hb
      cases hb; exact Nat.le_refl _
end Go.AL
