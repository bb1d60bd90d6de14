/- Sorting in place, in the abstract logic: the library's contract joined to it. No condition. -/
import Derived.Test.YtfnmipagllofiaaGreatOps11
import Derived.Shelf.SlSortCmp.NoneTotal
namespace Go.AL
open Go.Proofs (Enters ltOf)
open Go.Sort (SWO HoldsK putRowK putRow mapBlock putCells Holds)
section
variable {α : Type} [Inhabited α]
theorem flatK_list {enc : α → List Value} {k : Nat} (hk : ∀ x, (enc x).length = k) (l : List α) : (Go.Sort.flatK enc k l.toArray).toList = (l.map enc).flatten := by
  have hall : ∀ e, e ∈ l.map enc → e.length = k := fun e he => by obtain ⟨a, _, rfl⟩ := List.mem_map.1 he; exact hk a
  have hlen := flat_len hall
  rw [List.length_map] at hlen
  apply List.ext_getElem?
  intro t
  rcases Nat.lt_or_ge t (l.length * k) with h | h
  · have hk0 : 0 < k := by rcases Nat.eq_zero_or_pos k with e | e
                           · subst e; simp at h
                           · exact e
    have h1 := flat_get hall (t / k) (t % k) (Nat.mod_lt _ hk0)
    rw [Nat.div_add_mod' t k] at h1
    rw [h1]
    have hi : t / k < l.length := Nat.div_lt_of_lt_mul (by rw [Nat.mul_comm]; exact h)
    have hs : t < (Go.Sort.flatK enc k l.toArray).size := by simpa using h
    have h2 := Go.Sort.get_flatK enc k l.toArray t (by simpa using h)
    rw [getElem!_pos _ t hs] at h2
    rw [Array.getElem?_toList, Array.getElem?_eq_getElem hs, h2]
    have e1 : l.toArray[t / k]! = l[t / k] := by rw [getElem!_pos _ _ (by simpa using hi)]; simp
    have hj : t % k < (enc l[t / k]).length := by rw [hk]; exact Nat.mod_lt _ hk0
    rw [e1, getElem!_pos (enc l[t / k]) (t % k) hj, List.getElem?_map, List.getElem?_eq_getElem hi]
    simp [hj]
  · rw [List.getElem?_eq_none (show (Go.Sort.flatK enc k l.toArray).toList.length ≤ t by simpa using h), List.getElem?_eq_none (show (l.map enc).flatten.length ≤ t by rw [hlen]; exact h)]
theorem putCells_list {enc : α → List Value} {k : Nat} (hk : ∀ x, (enc x).length = k) (l : List α) (c sp : List Value) (hc : c.length = l.length * k) : putCells id 0 (Go.Sort.flatK enc k l.toArray) (c ++ sp).toArray = ((l.map enc).flatten ++ sp).toArray := by
  have hfl := flatK_list hk l
  have hsz : (Go.Sort.flatK enc k l.toArray).size = l.length * k := by simp
  have hlen : ((l.map enc).flatten).length = l.length * k := by rw [← hfl, Array.length_toList, hsz]
  apply Array.ext_getElem?
  intro t
  simp only [putCells, Array.getElem?_mapIdx, List.getElem?_toArray, Nat.zero_le, true_and, Nat.zero_add, Nat.sub_zero, id]
  rcases Nat.lt_or_ge t (l.length * k) with h | h
  · have h1 : (c ++ sp)[t]? = some ((c ++ sp)[t]'(by simp; omega)) := List.getElem?_eq_getElem _
    rw [h1, Option.map_some, if_pos (by rw [hsz]; exact h), List.getElem?_append_left (by rw [hlen]; exact h), ← hfl, Array.getElem?_toList, Array.getElem?_eq_getElem (by rw [hsz]; exact h), getElem!_pos _ t (by rw [hsz]; exact h)]
  · rw [List.getElem?_append_right (by omega), List.getElem?_append_right (by omega), hc, hlen]
    cases hx : sp[t - l.length * k]? with
    | none => rfl
    | some y => rw [Option.map_some, if_neg (by rw [hsz]; omega)]
theorem concSc {G : Gh} : ∀ {cs vs : List Value}, ConcL G cs (vs.map AV.sc) → cs = vs
  | cs, [], h => h.inv_nil
  | cs, v :: vs, h => by
    obtain ⟨u, us, rfl, h1, h2⟩ := h.inv_cons
    rw [conc_sc h1, concSc h2]
theorem world_grow {w w' : World} (h : Grown w w') : ∃ q os, w' = Go.Sort.grow (w.drewN q) os := by
  refine ⟨w'.drawn - w.drawn, w'.heap.extract w.heap.size w'.heap.size, ?_⟩
  have hd : w.drawn + (w'.drawn - w.drawn) = w'.drawn := by have := h.drawn; omega
  have hh : w.heap ++ w'.heap.extract w.heap.size w'.heap.size = w'.heap := by
    apply Array.ext_getElem?
    intro i
    rcases Nat.lt_or_ge i w.heap.size with hi | hi
    · rw [Array.getElem?_append_left hi]; exact (h.out i hi).symm
    · rw [Array.getElem?_append_right hi]
      have hs := h.size
      rcases Nat.lt_or_ge i w'.heap.size with hj | hj
      · rw [Array.getElem?_extract, if_pos (by omega)]; congr 1; omega
      · rw [Array.getElem?_eq_none (by simp; omega), Array.getElem?_eq_none hj]
  obtain ⟨a, b, c, d, e⟩ := w'
  obtain ⟨a', b', c', d', e'⟩ := w
  have h1 := h.tape
  have h2 := h.os
  have h3 := h.output
  simp only at h1 h2 h3 hd hh
  subst h1; subst h2; subst h3
  simp only [Go.Sort.grow, World.drewN, hd, hh]
theorem sort_ac {P : Program} [GlobF P] {ρ : Shelf.Ren} (L : Go.Proofs.SlLaysF0.n6 P ρ) {k : Nat} (aE : ∀ w, (isAgg (ρ.t 24)).run P w = .ok true w) (zE : ∀ w, (Go.sizeOf (ρ.t 24)).run P w = .ok k w) (enc : α → List Value) (f : α → List AV) (hf : ∀ a, f a = (enc a).map .sc)
    (hk : ∀ x, (enc x).length = k) (h1 : ∀ x, ∀ v ∈ enc x, v.oneCell' = true) (cf : α → α → Int) (hO : SWO (ltOf cf)) (hT : ∀ x y, ltOf cf x y = false → ltOf cf y x = false → x = y) (g : FuncId) (ys : List AV) (F : AV)
    (hF : ∀ G v, Conc G v F → ∃ cb : List Value, v = .func (.func g) #[] cb.toArray ∧ ConcL (Gh.of G.imm) cb ys) (hcmp : ∀ x y, PC P g ([.ag (f x), .ag (f y)] ++ ys) (.sc (.int .i64 (cf x y))))
    {h : List AObj} {r : Nat} {l : List α} {sp : List AV} (hr0 : h[r]? = some (.cells ((l.map f).flatten ++ sp))) (hne : 0 < l.length) (hl : l.length < 4611686018427387904) :
    AC P (ρ.f 6) [.mr r 0 l.length, F] h (fun v h' => v = .tu [] ∧ h' = h.set r (.cells (((l.mergeSort fun x y => !(ltOf cf y x)).map f).flatten ++ sp))) := by
  refine ⟨L.f6.enters rfl, fun B G w vs hr hc => ?_⟩
  obtain ⟨v1, vs1, rfl, c1, hc1⟩ := hc.inv_cons
  obtain ⟨v2, vs2, rfl, c2, hc2⟩ := hc1.inv_cons
  have := hc2.inv_nil
  subst this
  obtain ⟨b, o', cap, rfl, hb, hcap, ho⟩ := mr_inv c1
  have ho' := ho hne
  subst ho'
  obtain ⟨cb, rfl, hcb⟩ := hF G v2 c2
  obtain ⟨b', c, ty, g1, g2, g3, g4, g5⟩ := hr.obj r _ hr0
  rw [hb] at g1; cases g1
  have hblk : b < w.heap.size := (Array.getElem?_eq_some_iff.1 g3).1
  have hfl : (l.map f).flatten = ((l.map enc).flatten).map AV.sc := by
    rw [List.map_flatten, List.map_map]; congr 1; exact List.map_congr_left fun a _ => hf a
  obtain ⟨n, hnd⟩ : ∃ n, n = l.length * k := ⟨_, rfl⟩
  have hlenE : ((l.map enc).flatten).length = n := by
    have := flat_len (els := l.map enc) (k := k) fun e he => by obtain ⟨a, _, rfl⟩ := List.mem_map.1 he; exact hk a
    rwa [List.length_map, ← hnd] at this
  have hlm : (((l.map enc).flatten).map AV.sc).length = n := by rw [List.length_map, hlenE]
  have hcn : c.take n = (l.map enc).flatten := by
    have := g4.take n
    rw [hfl, List.take_append_of_le_length (Nat.le_of_eq hlm.symm), List.take_of_length_le (Nat.le_of_eq hlm)] at this
    exact concSc this
  have hsp : ConcL G (c.drop n) sp := by
    have := g4.drop n
    rwa [hfl, List.drop_append_of_le_length (Nat.le_of_eq hlm.symm), List.drop_of_length_le (Nat.le_of_eq hlm), List.nil_append] at this
  have hcs : c = (l.map enc).flatten ++ c.drop n := by rw [← hcn, List.take_append_drop]
  have hnl : n ≤ c.length := by have := congrArg List.length hcs; rw [List.length_append, hlenE] at this; omega
  have hH : HoldsK enc k w b 0 l.toArray := by
    intro j hj
    have hj' : j < n := by rw [hnd]; simpa using hj
    have e1 := flatK_list hk l
    have e2 : (Go.Sort.flatK enc k l.toArray)[j]! = c[j]'(by omega) := by
      rw [getElem!_pos _ j hj, ← Array.getElem_toList]
      simp only [e1, ← hcn, List.getElem_take]
    refine ⟨?_, ?_⟩
    · rw [Nat.zero_add, e2]
      simp only [World.cell?, g3, Option.isSome_none, Bool.false_eq_true, if_false, id]
      simp [show j < c.length by omega]
    · simp [World.frozen?, g3]
  have hC : Go.Proofs.CmpLays P g cb.toArray enc k cf b 0 l.toArray.size w := by
    intro m os dk hdk x y
    have him : ∀ b' o u, G.imm b' o = some u → (Go.Proofs.sortWorldK enc k w b 0 m dk os).cell? ⟨b', o, none⟩ = some u := fun b' o u hu => by
      have hlt := hr.lt hu
      have hbb : b' ≠ b := fun e => by subst e; rw [g5 o] at hu; cases hu
      have h2 : (putRowK enc k (Go.Sort.ahead w m) b 0 dk).cell? ⟨b', o, none⟩ = some u := by
        rw [Go.Sort.cell?_putRowK_other enc k _ b 0 dk ⟨b', o, none⟩ hbb]
        exact hr.imm _ _ _ hu
      unfold Go.Proofs.sortWorldK
      unfold World.cell? at h2 ⊢
      have : (Go.Sort.grow (putRowK enc k (Go.Sort.ahead w m) b 0 dk) os).heap[b']? = (putRowK enc k (Go.Sort.ahead w m) b 0 dk).heap[b']? := by
        show ((putRowK enc k (Go.Sort.ahead w m) b 0 dk).heap ++ os)[b']? = _
        rw [Array.getElem?_append_left (by simp [putRowK, putRow, mapBlock, Go.Sort.ahead]; exact hlt)]
      rw [this]; exact h2
    have hgo : ∀ b' x, GlobF.o P b' = some x → (Go.Proofs.sortWorldK enc k w b 0 m dk os).heap[b']? = some x := fun b' x hx => by
      have h1 := B.ok2 b' x hx
      have hlt := (Array.getElem?_eq_some_iff.1 h1).1
      have hw := hr.globW.o b' x hx
      have hlt' : b' < w.heap.size := Nat.lt_of_lt_of_le hlt hr.size
      have hbb : b' ≠ b := by omega
      unfold Go.Proofs.sortWorldK
      have : (Go.Sort.grow (putRowK enc k (Go.Sort.ahead w m) b 0 dk) os).heap[b']? = (putRowK enc k (Go.Sort.ahead w m) b 0 dk).heap[b']? := by
        show ((putRowK enc k (Go.Sort.ahead w m) b 0 dk).heap ++ os)[b']? = _
        rw [Array.getElem?_append_left (by simp [putRowK, putRow, mapBlock, Go.Sort.ahead]; exact hlt')]
      rw [this]
      have : (putRowK enc k (Go.Sort.ahead w m) b 0 dk).heap[b']? = w.heap[b']? := by
        simp [putRowK, putRow, mapBlock, Go.Sort.ahead, Array.getElem?_modify, Ne.symm hbb]
      rw [this]; exact hw
    have hargs : ConcL (Gh.of G.imm) ([.agg (enc x).toArray, .agg (enc y).toArray] ++ cb) ([.ag (f x), .ag (f y)] ++ ys) := by
      have he : ∀ z, Conc (Gh.of G.imm) (.agg (enc z).toArray) (.ag (f z)) := fun z => by
        rw [hf]
        exact .ag (by simp) fun i v x hv hx => by
          rw [List.getElem?_map, hv] at hx; simp at hx; subst hx; exact .sc _
      exact ConcL.append (.cons (he x) (.cons (he y) (.nil _))) hcb
    have hcall := (hcmp x y).2 (Go.Proofs.sortWorldK enc k w b 0 m dk os) G.imm _ ⟨hr.glob, hgo⟩ him hargs
    have e : ([Value.agg (enc x).toArray, .agg (enc y).toArray] ++ cb).toArray = #[Value.agg (enc x).toArray, .agg (enc y).toArray] ++ cb.toArray := by simp
    rw [e] at hcall
    refine hcall.mono ?_
    rintro e w' ⟨rv, imm', rfl, hg, _, _, hv⟩
    rw [conc_sc hv]
    exact ⟨rfl, world_grow hg⟩
  have hcon := Go.Proofs.AnyQ.slices_SortFunc_total L k aE zE enc hk h1 cf hO g cb.toArray b 0 cap l.toArray w (fun args w => (hcmp default default).1 args w) hC hH hblk (by simpa using hl) hT
  simp only [List.size_toArray] at hcon
  refine hcon.mono ?_
  rintro e w' ⟨rfl, m, os, rfl⟩
  generalize hms : (l.mergeSort fun x y => !(ltOf cf y x)) = ms
  have hmsl : ms.length = l.length := by rw [← hms]; exact List.length_mergeSort _
  have hrow : (putRowK enc k (Go.Sort.ahead w m) b 0 ms.toArray).heap[b]? = some (.cells ((ms.map enc).flatten ++ c.drop n).toArray ty (0, 0)) := by
    simp only [putRowK, putRow, mapBlock, Go.Sort.ahead, Array.getElem?_modify, g3, if_true, Option.map_some, Go.Sort.onCells]
    rw [hcs, putCells_list hk ms _ _ (by rw [hlenE, hmsl, hnd])]
    rw [← hcs]
  have hfl2 : (ms.map f).flatten = ((ms.map enc).flatten).map AV.sc := by
    rw [List.map_flatten, List.map_map]; congr 1; exact List.map_congr_left fun a _ => hf a
  have hr1 : RH B G (h.set r (.cells ((ms.map f).flatten ++ sp))) (putRowK enc k (Go.Sort.ahead w m) b 0 ms.toArray) := by
    refine hr.set (w' := putRowK enc k (Go.Sort.ahead w m) b 0 ms.toArray) (b := b) hr0 (by simp only [ownBlk]; exact hb) g2 rfl rfl rfl (Nat.le_add_right _ _) (by simp [putRowK, putRow, mapBlock, Go.Sort.ahead]) (fun b' hb' => ?_) (fun i v hi => by rw [g5 i] at hi; cases hi) ?_ (fun c' hc' => ?_)
    · show (w.heap.modify b _)[b']? = _
      rw [Array.getElem?_modify, if_neg (Ne.symm hb')]
    · refine ⟨b, _, ty, hb, g2, hrow, ?_, g5⟩
      rw [hfl2]
      refine ConcL.append ⟨(List.length_map (f := AV.sc)).symm, fun i v x hv hx => ?_⟩ hsp
      rw [List.getElem?_map, hv] at hx; simp at hx; subst hx; exact .sc _
    · simp only [ownBlk] at hc'; rw [hb] at hc'; exact (Option.some.inj hc').symm
  have hgr : Grown (putRowK enc k (Go.Sort.ahead w m) b 0 ms.toArray) (Go.Proofs.sortWorldK enc k w b 0 m ms.toArray os) := ⟨rfl, rfl, rfl, Nat.le_refl _, by simp [Go.Proofs.sortWorldK], fun b' hb' => by
    show ((putRowK enc k (Go.Sort.ahead w m) b 0 ms.toArray).heap ++ os)[b']? = _
    rw [Array.getElem?_append_left hb']⟩
  obtain ⟨hle, hr2⟩ := hr1.grown (imm' := G.imm) hgr (fun _ _ _ => rfl) (fun b' o u hu => by
    have h2 := hr1.imm b' o u hu
    unfold World.cell? at h2 ⊢
    rw [hgr.out b' (hr1.lt hu)]; exact h2)
  exact ⟨_, G, _, .tu [], rfl, .refl G, hr2, .tu rfl (fun i v x hv => by simp at hv), rfl, rfl⟩
theorem sort_none_pc {P : Program} [GlobF P] {ρ : Shelf.Ren} (L : Go.Proofs.SlLaysF0.n6 P ρ) (k : Nat) (F : AV) : PC P (ρ.f 6) [.sl none k [], F] (.tu []) := by
  refine ⟨L.f6.enters rfl, fun w imm vs hgl him hc => ?_⟩
  obtain ⟨v1, vs1, rfl, c1, hc1⟩ := hc.inv_cons
  obtain ⟨v2, vs2, rfl, c2, hc2⟩ := hc1.inv_cons
  have := hc2.inv_nil
  subst this
  obtain ⟨p, cap, rfl⟩ : ∃ p cap, v1 = .slice p 0 cap := by
    cases c1 with
    | sl us hk hcap him hc ht => exact ⟨_, _, rfl⟩
    | slnil ht => exact ⟨_, _, rfl⟩
    | slz => exact ⟨_, _, rfl⟩
  refine (Go.Proofs.AnyF.slices_SortFunc_none L p cap v2 w).mono ?_
  rintro e w' ⟨rfl, rfl⟩
  exact ⟨_, imm, rfl, ⟨rfl, rfl, rfl, Nat.le_refl _, Nat.le_refl _, fun _ _ => rfl⟩, fun _ _ _ => rfl, him, .tu rfl (fun i v x hv => by simp at hv)⟩
end
end Go.AL

namespace Go.Proofs
open Go.AL Go.Sort
structure WC {α : Type} (c : α → α → Int) : Prop where
  anti : ∀ x y, c x y < 0 ↔ 0 < c y x
  le : ∀ x y z, c x y ≤ 0 → c y z ≤ 0 → c x z ≤ 0
theorem WC.refl {α : Type} {c : α → α → Int} (h : WC c) (x : α) : c x x = 0 := by have := h.anti x x; omega
theorem WC.sym {α : Type} {c : α → α → Int} (h : WC c) {x y : α} (e : c x y = 0) : c y x = 0 := by have h1 := h.anti x y; have h2 := h.anti y x; omega
theorem WC.lt {α : Type} {c : α → α → Int} (h : WC c) {x y z : α} (h1 : c x y ≤ 0) (h2 : c y z ≤ 0) (h3 : c x y < 0 ∨ c y z < 0) : c x z < 0 := by
  have h4 := h.le x y z h1 h2
  rcases Int.lt_or_eq_of_le h4 with h5 | h5
  · exact h5
  · exfalso
    have h6 := h.sym h5
    rcases h3 with h3 | h3
    · have := h.le y z x h2 (by omega)
      have := (h.anti x y).1 h3; omega
    · have := h.le z x y (by omega) h1
      have := (h.anti y z).1 h3; omega
theorem WC.comap {α β : Type} {c : α → α → Int} (h : WC c) (f : β → α) : WC (fun x y => c (f x) (f y)) := ⟨fun _ _ => h.anti _ _, fun _ _ _ => h.le _ _ _⟩
theorem WC.lex {α : Type} {c d : α → α → Int} (h : WC c) (h' : WC d) : WC (fun x y => if c x y = 0 then d x y else c x y) := by
  refine ⟨fun x y => ?_, fun x y z h1 h2 => ?_⟩
  · have a1 := h.anti x y
    have a2 := h.anti y x
    have b1 := h'.anti x y
    by_cases e : c x y = 0
    · rw [if_pos e, if_pos (h.sym e)]; exact b1
    · rw [if_neg e, if_neg (fun e' => e (h.sym e'))]; exact a1
  · by_cases e1 : c x y = 0
    · rw [if_pos e1] at h1
      by_cases e2 : c y z = 0
      · rw [if_pos e2] at h2
        have e3 : c x z = 0 := by
          have l1 := h.le x y z (by omega) (by omega)
          have l2 := h.le z y x (by have := h.sym e2; omega) (by have := h.sym e1; omega)
          have := h.anti x z
          omega
        rw [if_pos e3]; exact h'.le x y z h1 h2
      · rw [if_neg e2] at h2
        have := h.lt (x := x) (y := y) (z := z) (by omega) h2 (.inr (by omega))
        rw [if_neg (by omega)]; omega
    · rw [if_neg e1] at h1
      have h3 : c y z ≤ 0 := by
        by_cases e2 : c y z = 0
        · omega
        · rw [if_neg e2] at h2; exact h2
      have := h.lt (x := x) (y := y) (z := z) h1 h3 (.inl (by omega))
      rw [if_neg (by omega)]; omega
theorem WC.swo {α : Type} {c : α → α → Int} (h : WC c) : SWO (ltOf c) := by
  have e : ∀ x y, ltOf c x y = true ↔ c x y < 0 := fun x y => by simp [ltOf]
  have e' : ∀ x y, ltOf c x y = false ↔ ¬ c x y < 0 := fun x y => by simp [ltOf]
  refine ⟨fun x => ?_, fun x y z h1 h2 => ?_, fun x y z h1 h2 => ?_⟩
  · rw [e', h.refl]; omega
  · rw [e] at *
    exact h.lt (by omega) (by omega) (.inl h1)
  · rw [e'] at *
    have a1 := h.anti x y
    have a2 := h.anti y x
    have a3 := h.anti y z
    have a4 := h.anti z y
    have a5 := h.anti x z
    have := h.le z y x (by omega) (by omega)
    omega
theorem ltOf_tot {α : Type} {c : α → α → Int} (h : WC c) (hz : ∀ x y, c x y = 0 → x = y) : ∀ x y, ltOf c x y = false → ltOf c y x = false → x = y := fun x y h1 h2 => by
  have e' : ∀ x y, ltOf c x y = false ↔ ¬ c x y < 0 := fun x y => by simp [ltOf]
  rw [e'] at h1 h2
  have := h.anti y x
  exact hz x y (by omega)
def Rise {α : Type} (c : α → α → Int) (l : List α) : Prop := l.Pairwise fun x y => c x y < 0
theorem rise_eq {α : Type} {c : α → α → Int} (h : WC c) : ∀ {a b : List α}, Rise c a → Rise c b → (∀ x, x ∈ a ↔ x ∈ b) → a = b
  | [], [], _, _, _ => rfl
  | [], y :: b, _, _, hm => by have := (hm y).2 (.head _); cases this
  | x :: a, [], _, _, hm => by have := (hm x).1 (.head _); cases this
  | x :: a, y :: b, ha, hb, hm => by
    unfold Rise at ha hb
    rw [List.pairwise_cons] at ha hb
    have e : x = y := by
      have h1 := (hm x).1 (.head _)
      have h2 := (hm y).2 (.head _)
      simp only [List.mem_cons] at h1 h2
      rcases h1 with h1 | h1
      · exact h1
      · rcases h2 with h2 | h2
        · exact h2.symm
        · have l1 := ha.1 y h2
          have l2 := hb.1 x h1
          have := (h.anti x y).1 l1
          omega
    subst e
    congr 1
    refine rise_eq h ha.2 hb.2 fun z => ?_
    have hz := hm z
    simp only [List.mem_cons] at hz
    constructor
    · intro hz'
      rcases hz.1 (.inr hz') with e | e
      · subst e; have := ha.1 z hz'; rw [h.refl] at this; omega
      · exact e
    · intro hz'
      rcases hz.2 (.inr hz') with e | e
      · subst e; have := hb.1 z hz'; rw [h.refl] at this; omega
      · exact e
open Classical in
noncomputable def compL {α : Type} : List α → List α
  | [] => []
  | [x] => [x]
  | x :: y :: t => if x = y then compL (y :: t) else x :: compL (y :: t)
open Classical in
theorem compL_snoc {α : Type} : ∀ (t : List α) (y x : α), compL (t ++ [y] ++ [x]) = compL (t ++ [y]) ++ (if y = x then [] else [x])
  | [], y, x => by
    simp only [List.nil_append, List.cons_append, compL]
    by_cases h : y = x
    · simp [h]
    · simp [h]
  | [z], y, x => by
    simp only [List.nil_append, List.cons_append, compL]
    by_cases h : y = x <;> by_cases h' : z = y <;> simp [h, h']
  | z :: w :: t, y, x => by
    have ih := compL_snoc (w :: t) y x
    simp only [List.cons_append] at ih ⊢
    simp only [compL]
    rw [ih]
    split <;> simp
theorem compL_mem {α : Type} : ∀ (l : List α) (x : α), x ∈ compL l ↔ x ∈ l
  | [], x => by simp [compL]
  | [y], x => by simp [compL]
  | y :: z :: t, x => by
    have ih := compL_mem (z :: t) x
    simp only [compL]
    split
    · rename_i h; subst h; rw [ih]; simp
    · rw [List.mem_cons, ih, List.mem_cons (a := x) (b := y)]
theorem compL_rise {α : Type} {c : α → α → Int} (h : WC c) (hz : ∀ x y, c x y = 0 → x = y) : ∀ {l : List α}, l.Pairwise (fun x y => c x y ≤ 0) → Rise c (compL l)
  | [], _ => List.Pairwise.nil
  | [x], _ => List.pairwise_singleton _ _
  | x :: y :: t, hp => by
    rw [List.pairwise_cons] at hp
    have ih := compL_rise h hz hp.2
    simp only [compL]
    split
    · exact ih
    · rename_i hne
      refine List.pairwise_cons.2 ⟨fun z hzm => ?_, ih⟩
      have hzm' := (compL_mem (y :: t) z).1 hzm
      have hxy : c x y < 0 := by
        have := hp.1 y (.head _)
        rcases Int.lt_or_eq_of_le this with h5 | h5
        · exact h5
        · exact absurd (hz x y h5) hne
      simp only [List.mem_cons] at hzm'
      rcases hzm' with e | e
      · subst e; exact hxy
      · exact h.lt (by omega) ((List.pairwise_cons.1 hp.2).1 z e) (.inl hxy)
open Classical in
theorem compL_take {α : Type} (l : List α) (m : Nat) (h : m + 1 < l.length) : compL (l.take (m + 2)) = compL (l.take (m + 1)) ++ (if l[m] = l[m + 1] then [] else [l[m + 1]]) := by
  have e1 : l.take (m + 1) = l.take m ++ [l[m]] := List.take_succ_eq_append_getElem (by omega)
  have e2 : l.take (m + 2) = l.take m ++ [l[m]] ++ [l[m + 1]] := by rw [List.take_succ_eq_append_getElem h, e1]
  rw [e2, e1, compL_snoc]
noncomputable def sortC {α : Type} (c : α → α → Int) (l : List α) : List α := compL (l.mergeSort fun x y => !(ltOf c y x))
theorem sortC_mem {α : Type} (c : α → α → Int) (l : List α) (x : α) : x ∈ sortC c l ↔ x ∈ l := by
  unfold sortC; rw [compL_mem, List.mem_mergeSort]
theorem sortC_rise {α : Type} {c : α → α → Int} (h : WC c) (hz : ∀ x y, c x y = 0 → x = y) (l : List α) : Rise c (sortC c l) := by
  refine compL_rise h hz ?_
  have e : ∀ x y, (!(ltOf c y x)) = true ↔ c x y ≤ 0 := fun x y => by
    have := h.anti y x
    have := h.anti x y
    simp [ltOf]; omega
  have := List.pairwise_mergeSort (le := fun x y => !(ltOf c y x)) (fun a b d h1 h2 => by rw [e] at *; exact h.le _ _ _ h1 h2) (fun a b => by
    have := h.anti a b
    have := h.anti b a
    rw [Bool.or_eq_true, e, e]; omega) l
  exact this.imp fun {a b} hab => (e a b).1 hab
theorem compL_len {α : Type} : ∀ (l : List α), (compL l).length ≤ l.length
  | [] => by simp [compL]
  | [x] => by simp [compL]
  | x :: y :: t => by
    have := compL_len (y :: t)
    simp only [compL]; split <;> simp at * <;> omega
theorem sortC_len {α : Type} (c : α → α → Int) (l : List α) : (sortC c l).length ≤ l.length := by
  have := compL_len (l.mergeSort fun x y => !(ltOf c y x))
  rw [List.length_mergeSort] at this; exact this
theorem sortC_eq {α : Type} {c : α → α → Int} (h : WC c) (hz : ∀ x y, c x y = 0 → x = y) {l m : List α} (hr : Rise c m) (hm : ∀ x, x ∈ m ↔ x ∈ l) : m = sortC c l :=
  rise_eq h hr (sortC_rise h hz l) fun x => by rw [hm, sortC_mem]
end Go.Proofs

namespace Go.AL
theorem fn_inv {G : Gh} {v : Value} {f : FuncId} {ys : List AV} (h : Conc G v (.fn (.func f) [] ys)) (hz : LeL ys ys) : ∃ cb : List Value, v = .func (.func f) #[] cb.toArray ∧ ConcL (Gh.of G.imm) cb ys := by
  cases h with
  | @fn _ fs cs _ _ l1 l2 h1 h2 =>
    have : fs = [] := by simpa using l1
    subst this
    exact ⟨cs, rfl, hz.conc ⟨l2, h2⟩⟩
theorem sort_none_ac {P : Program} [GlobF P] {ρ : Shelf.Ren} (L : Go.Proofs.SlLaysF0.n6 P ρ) (r q : Nat) (F : AV) (h : List AObj) : AC P (ρ.f 6) [.mr r q 0, F] h (fun v h' => v = .tu [] ∧ h' = h) := by
  refine ⟨L.f6.enters rfl, fun B G w vs hr hc => ?_⟩
  obtain ⟨v1, vs1, rfl, c1, hc1⟩ := hc.inv_cons
  obtain ⟨v2, vs2, rfl, c2, hc2⟩ := hc1.inv_cons
  have := hc2.inv_nil
  subst this
  obtain ⟨b, o', cap, rfl, hb, hcap, hq⟩ := mr_inv c1
  refine (Go.Proofs.AnyF.slices_SortFunc_none L _ cap v2 w).mono ?_
  rintro e w' ⟨rfl, rfl⟩
  exact ⟨_, G, _, .tu [], rfl, .refl G, hr, .tu rfl (fun i v x hv => by simp at hv), rfl, rfl⟩
end Go.AL
