/- The facts on equality of structs, as instances. No condition. -/
import Derived.Test.YtfnmipagllofiaaDoorOps7
import Derived.Test.YtfnmipagllofiaaDoorUInst
import Derived.Test.YtfnmipagllofiaaDoorOps11
import Derived.Shelf.SlSortCmp.NoneTotal
import Derived.Laws.Cover3
namespace Go.Proofs
open Go.AL
instance : EqF Tryd.prog 2 [.i .i64] 1 := eqf_int Tryd.underlying2 Tryd.isAgg2
instance : EqF Tryd.prog 3 [.i .i64] 1 := eqf_int Tryd.underlying3 Tryd.isAgg3
instance : EqF Tryd.prog 4 [.b] 1 := eqf_bool Tryd.underlying4 Tryd.isAgg4
instance : EqF Tryd.prog 5 [.i .u8] 1 := eqf_int Tryd.underlying5 Tryd.isAgg5
instance : EqF Tryd.prog 6 [.i .u8] 1 := eqf_int Tryd.underlying6 Tryd.isAgg6
instance : EqF Tryd.prog 9 [.s] 1 := eqf_str Tryd.underlying9 Tryd.isAgg9
instance : EqF Tryd.prog 10 [.s] 1 := eqf_str Tryd.underlying10 Tryd.isAgg10
instance : EqF Tryd.prog 11 [.s] 1 := eqf_str Tryd.underlying11 Tryd.isAgg11
instance : EqF Tryd.prog 12 [.i .u64] 1 := eqf_int Tryd.underlying12 Tryd.isAgg12
instance : EqF Tryd.prog 21 [.i .i32] 1 := eqf_int Tryd.underlying21 Tryd.isAgg21
instance : EqF Tryd.prog 23 [.i .i64] 1 := eqf_int Tryd.underlying23 Tryd.isAgg23
instance : EqF Tryd.prog 38 [.i .i64, .i .i64] 2 := eqf_struct Tryd.underlying38 (by kernel_rfl) Tryd.isAgg38 Tryd.sizeOf38 rfl (by repeat first | exact FldEq.nil _ | refine FldEq.cons3 (by decide) rfl (by decide) (by rfl) ?_)
instance : EqG Tryd.prog 38 := ⟨by kernel_rfl⟩
instance : EqF Tryd.prog 80 [.i .u64] 1 := eqf_int Tryd.underlying80 Tryd.isAgg80
instance : EqF Tryd.prog 93 [.i .u64] 1 := eqf_int Tryd.underlying93 Tryd.isAgg93
instance : EqF Tryd.prog 94 [.i .i64] 1 := eqf_int Tryd.underlying94 Tryd.isAgg94
instance : EqF Tryd.prog 105 [.i .u32] 1 := eqf_int Tryd.underlying105 Tryd.isAgg105
instance : EqF Tryd.prog 117 [.i .i64] 1 := eqf_int Tryd.underlying117 Tryd.isAgg117
instance : EqF Tryd.prog 132 [.i .u64] 1 := eqf_int Tryd.underlying132 Tryd.isAgg132
instance : EqF Tryd.prog 149 [.i .u8] 1 := eqf_int Tryd.underlying149 Tryd.isAgg149
instance : EqF Tryd.prog 150 [.i .u8] 1 := eqf_int Tryd.underlying150 Tryd.isAgg150
instance : EqF Tryd.prog 152 [.i .i32] 1 := eqf_int Tryd.underlying152 Tryd.isAgg152
instance : EqF Tryd.prog 153 [.i .i32] 1 := eqf_int Tryd.underlying153 Tryd.isAgg153
end Go.Proofs

namespace Go.AL
open Go.Proofs (Enters ltOf)
open Go.Sort (SWO HoldsK putRowK putRow mapBlock putCells Holds)
section
variable {α : Type} [Inhabited α]
theorem flatK_list {enc : α → List Value} {k : Nat} (hk : ∀ x, (enc x).length = k) (l : List α) : (Go.Sort.flatK enc k l.toArray).toList = (l.map enc).flatten := by
  have hall : ∀ e, e ∈ l.map enc → e.length = k := fun e he => by obtain ⟨a, _, rfl⟩ := List.mem_map.1 he; exact hk a
  have hlen := flat_len hall
  rw [List.length_map] at hlen
  apply List.ext_getElem?
  intro t
  rcases Nat.lt_or_ge t (l.length * k) with h | h
  · have hk0 : 0 < k := by rcases Nat.eq_zero_or_pos k with e | e
                           · subst e; simp at h
                           · exact e
    have h1 := flat_get hall (t / k) (t % k) (Nat.mod_lt _ hk0)
    rw [Nat.div_add_mod' t k] at h1
    rw [h1]
    have hi : t / k < l.length := Nat.div_lt_of_lt_mul (by rw [Nat.mul_comm]; exact h)
    have hs : t < (Go.Sort.flatK enc k l.toArray).size := by simpa using h
    have h2 := Go.Sort.get_flatK enc k l.toArray t (by simpa using h)
    rw [getElem!_pos _ t hs] at h2
    rw [Array.getElem?_toList, Array.getElem?_eq_getElem hs, h2]
    have e1 : l.toArray[t / k]! = l[t / k] := by rw [getElem!_pos _ _ (by simpa using hi)]; simp
    have hj : t % k < (enc l[t / k]).length := by rw [hk]; exact Nat.mod_lt _ hk0
    rw [e1, getElem!_pos (enc l[t / k]) (t % k) hj, List.getElem?_map, List.getElem?_eq_getElem hi]
    simp [hj]
  · rw [List.getElem?_eq_none (show (Go.Sort.flatK enc k l.toArray).toList.length ≤ t by simpa using h), List.getElem?_eq_none (show (l.map enc).flatten.length ≤ t by rw [hlen]; exact h)]
theorem putCells_list {enc : α → List Value} {k : Nat} (hk : ∀ x, (enc x).length = k) (l : List α) (c sp : List Value) (hc : c.length = l.length * k) : putCells id 0 (Go.Sort.flatK enc k l.toArray) (c ++ sp).toArray = ((l.map enc).flatten ++ sp).toArray := by
  have hfl := flatK_list hk l
  have hsz : (Go.Sort.flatK enc k l.toArray).size = l.length * k := by simp
  have hlen : ((l.map enc).flatten).length = l.length * k := by rw [← hfl, Array.length_toList, hsz]
  apply Array.ext_getElem?
  intro t
  simp only [putCells, Array.getElem?_mapIdx, List.getElem?_toArray, Nat.zero_le, true_and, Nat.zero_add, Nat.sub_zero, id]
  rcases Nat.lt_or_ge t (l.length * k) with h | h
  · have h1 : (c ++ sp)[t]? = some ((c ++ sp)[t]'(by simp; omega)) := List.getElem?_eq_getElem _
    rw [h1, Option.map_some, if_pos (by rw [hsz]; exact h), List.getElem?_append_left (by rw [hlen]; exact h), ← hfl, Array.getElem?_toList, Array.getElem?_eq_getElem (by rw [hsz]; exact h), getElem!_pos _ t (by rw [hsz]; exact h)]
  · rw [List.getElem?_append_right (by omega), List.getElem?_append_right (by omega), hc, hlen]
    cases hx : sp[t - l.length * k]? with
    | none => rfl
    | some y => rw [Option.map_some, if_neg (by rw [hsz]; omega)]
theorem concSc {G : Gh} : ∀ {cs vs : List Value}, ConcL G cs (vs.map AV.sc) → cs = vs
  | cs, [], h => h.inv_nil
  | cs, v :: vs, h => by
    obtain ⟨u, us, rfl, h1, h2⟩ := h.inv_cons
    rw [conc_sc h1, concSc h2]
theorem world_grow {w w' : World} (h : Grown w w') : ∃ q os, w' = Go.Sort.grow (w.drewN q) os := by
  refine ⟨w'.drawn - w.drawn, w'.heap.extract w.heap.size w'.heap.size, ?_⟩
  have hd : w.drawn + (w'.drawn - w.drawn) = w'.drawn := by have := h.drawn; omega
  have hh : w.heap ++ w'.heap.extract w.heap.size w'.heap.size = w'.heap := by
    apply Array.ext_getElem?
    intro i
    rcases Nat.lt_or_ge i w.heap.size with hi | hi
    · rw [Array.getElem?_append_left hi]; exact (h.out i hi).symm
    · rw [Array.getElem?_append_right hi]
      have hs := h.size
      rcases Nat.lt_or_ge i w'.heap.size with hj | hj
      · rw [Array.getElem?_extract, if_pos (by omega)]; congr 1; omega
      · rw [Array.getElem?_eq_none (by simp; omega), Array.getElem?_eq_none hj]
  obtain ⟨a, b, c, d, e⟩ := w'
  obtain ⟨a', b', c', d', e'⟩ := w
  have h1 := h.tape
  have h2 := h.os
  have h3 := h.output
  simp only at h1 h2 h3 hd hh
  subst h1; subst h2; subst h3
  simp only [Go.Sort.grow, World.drewN, hd, hh]
theorem sort_none_pc {P : Program} [GlobF P] {ρ : Shelf.Ren} (L : Go.Proofs.SlLaysF0.n6 P ρ) (k : Nat) (F : AV) : PC P (ρ.f 6) [.sl none k [], F] (.tu []) := by
  refine ⟨L.f6.enters rfl, fun w imm vs hgl him hc => ?_⟩
  obtain ⟨v1, vs1, rfl, c1, hc1⟩ := hc.inv_cons
  obtain ⟨v2, vs2, rfl, c2, hc2⟩ := hc1.inv_cons
  have := hc2.inv_nil
  subst this
  obtain ⟨p, cap, rfl⟩ : ∃ p cap, v1 = .slice p 0 cap := by
    cases c1 with
    | sl us hk hcap him hc ht => exact ⟨_, _, rfl⟩
    | slnil ht => exact ⟨_, _, rfl⟩
    | slz => exact ⟨_, _, rfl⟩
  refine (Go.Proofs.AnyF.slices_SortFunc_none L p cap v2 w).mono ?_
  rintro e w' ⟨rfl, rfl⟩
  exact ⟨_, imm, rfl, ⟨rfl, rfl, rfl, Nat.le_refl _, Nat.le_refl _, fun _ _ => rfl⟩, fun _ _ _ => rfl, him, .tu rfl (fun i v x hv => by simp at hv)⟩
end
end Go.AL

namespace Go.AL
section
variable {P : Program} [GlobF P] {ty : TypeId} {pos : String} {af : Array Edge} {dst : Option Nat} {gd : Option (Nat × Bool)} {ρ : Operand → Option AV} {hp : List AObj}
theorem D_sub1 {t t' : TypeId} {x y : Operand} {j : Nat} (hx : ρ x = some (.sc (.int .i64 ((j + 1 : Nat) : Int)))) (hy : ρ y = some (.sc (.int .i64 1))) (hj : j < 9223372036854775807) : PPOp P { dst := dst, op := .binOp .sub t x y t', type := ty, pos := pos, after := af, guard := gd } ρ (.sc (.int .i64 (j : Int))) := by
  have h : PPOp P { dst := dst, op := .binOp .sub t x y t', type := ty, pos := pos, after := af, guard := gd } ρ (.sc (.int .i64 (IntKind.i64.wrap (((j + 1 : Nat) : Int) - 1)))) := D_int hx hy rfl
  rwa [show IntKind.i64.wrap (((j + 1 : Nat) : Int) - 1) = (j : Int) by rw [w64 _ (by omega) (by omega)]; omega] at h
end
section
variable {P : Program} [GlobF P] {fr : Option Nat} {N : Nat} {Q : Exit → AS → Prop} {ops : Array Oper} {rest : List Oper} {rg : List (Nat × AV)} {h : List AObj} {mk : Mk} {ty : TypeId} {pos : String} {af : Array Edge} {d : Nat}
theorem m_slnil {t t' e k : Nat} {x : Operand} {tok : Option Nat} {els : List (List AV)} [hu : Und P t (.slice e)] (hx : evR rg x = some (.sl tok k els)) (hd : Nat.blt d N = true)
    (hk : ∀ b : Bool, (b = true → els = []) → WL P fr N ops rest Q ⟨(d, .sc (.bool b)) :: rg, h, mk⟩) :
    WL P fr N ops ({ dst := some d, op := .binOp .eql t x (.const (.slice none 0 0)) t', type := ty, pos := pos, after := af, guard := none } :: rest) Q ⟨rg, h, mk⟩ := by
  intro B G a w hR
  have ex := hR.ev x
  rw [show (⟨rg, h, mk⟩ : AS).ev x = _ from AS.evO_eq ((evR_eq rg h mk) ▸ hx)] at ex
  obtain ⟨base, n, cap, hv, hn⟩ : ∃ base n cap, a.eval x = .slice base n cap ∧ (base.isNone = true → els = []) := by
    generalize a.eval x = v at ex
    cases ex with
    | sl us hk hcap him hc ht => exact ⟨_, _, _, rfl, fun h => by cases h⟩
    | slnil ht => exact ⟨_, _, _, rfl, fun _ => rfl⟩
    | slz => exact ⟨_, _, _, rfl, fun _ => rfl⟩
  have hex : (execOp a.eval { dst := some d, op := .binOp .eql t x (.const (.slice none 0 0)) t', type := ty, pos := pos, after := af, guard := none }).run P w = .ok (.value (.bool base.isNone)) w := by
    refine exec_bin _ ?_
    have h1 := run_equal_slice_nil (P := P) w t e base n cap hu.h
    rw [hv]
    show (do eqGuard .eql t x (.const (.slice none 0 0)) (.slice base n cap) (.slice none 0 0); binOp .eql t (.slice base n cap) (.slice none 0 0) : Sem Value).run P w = _
    simp [eqGuard, binOp, h1]
  refine wpListIn_plain rfl fun K' hK' => ?_
  refine ⟨fun f _ => fence_fn fr f, ?_⟩
  rw [Oper.semAt_eq _ _ _ (by simp), hex]
  exact hK' _ _ (hk base.isNone hn B G _ w (hR.put (by simpa [Nat.blt_eq] using hd) (.sc _)))
theorem R.frz1 {B : Base P} {G : Gh} {a : Act} {w : World} {t r k n : Nat} {els : List (List AV)} {sp : List AV} (hR : R B N G ⟨rg, h, mk⟩ a w) (hr : h[r]? = some (.cells (els.flatten ++ sp))) (ht : lookO rg t = some (.mr r 0 n)) (hn : n ≤ els.length) (hk : ∀ e, e ∈ els → e.length = k) :
    ∃ G', R B N G' ⟨(t, .sl none k (els.take n)) :: rg, h.set r .dead, mk⟩ a w := by
  classical
  obtain ⟨G', hle, hR'⟩ := hR.freezeF hr (fun x => if x = .mr r 0 n then .sl none k (els.take n) else x) (by rw [if_neg (fun e => by cases e)]) (fun G b c hb hc him v x hv => by
    split
    · rename_i e
      subst e
      have := frzR_ok hk hb hc him hv
      have e1 : frzR r k els (.mr r 0 n) = .sl none k (els.take n) := by
        simp only [frzR]
        have h1 : Nat.beq r r = true := Nat.beq_refl r
        have h2 : Nat.ble n els.length = true := by simpa using hn
        rw [h1, h2]
      rwa [e1] at this
    · exact hv)
  refine ⟨G', hR'.heap, hR'.size, fun u => ?_, hR'.defers, hR'.own⟩
  simp only [look]
  cases hb : Nat.beq t u with
  | true =>
    have e : t = u := Nat.eq_of_beq_eq_true hb
    subst e
    have h1 : Conc G' (a.tmps.getD t undef) (look (rg.map fun p => (p.1, (fun x => if x = .mr r 0 n then .sl none k (els.take n) else x) p.2)) t) := hR'.regs t
    rw [look_map (fun x => if x = .mr r 0 n then AV.sl none k (els.take n) else x) (by rw [if_neg (fun e => by cases e)]), lookO_eq ht, if_pos rfl] at h1
    exact h1
  | false => exact (hR.regs u).mono hle
theorem WL_frz {l : List Oper} (t r k : Nat) {n : Nat} {els : List (List AV)} {sp : List AV} (hr : h[r]? = some (.cells (els.flatten ++ sp))) (ht : lookO rg t = some (.mr r 0 n)) (hn : n ≤ els.length) (hk : ∀ e, e ∈ els → e.length = k)
    (hw : WL P fr N ops l Q ⟨(t, .sl none k (els.take n)) :: rg, h.set r .dead, mk⟩) : WL P fr N ops l Q ⟨rg, h, mk⟩ := by
  intro B G a w hR
  obtain ⟨G', hR'⟩ := hR.frz1 hr ht hn hk
  exact hw B G' a w hR'
end
end Go.AL
