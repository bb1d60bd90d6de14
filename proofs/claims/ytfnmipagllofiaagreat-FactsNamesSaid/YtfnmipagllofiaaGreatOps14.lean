/- The rules of the abstract logic, twenty-first part: rows that stand for lists. No condition. -/
import Derived.Test.YtfnmipagllofiaaGreatOps20
import Derived.Laws.Cover3
namespace Go.AL
theorem row_take {α : Type} {k : Nat} {l : List α} {f : α → List AV} (hk : ∀ a, (f a).length = k) (sp : List AV) (i : Nat) (hi : i ≤ l.length) : ((l.map f).flatten ++ sp).take (i * k) = ((l.take i).map f).flatten := by
  have hall : ∀ e, e ∈ l.map f → e.length = k := fun e he => by obtain ⟨a, _, rfl⟩ := List.mem_map.1 he; exact hk a
  have h1 := flat_len (els := (l.map f).take i) fun e he => hall e (List.mem_of_mem_take he)
  rw [List.length_take, List.length_map, Nat.min_eq_left hi] at h1
  rw [List.map_take]
  conv => lhs; rw [← List.take_append_drop i (l.map f), List.flatten_append, List.append_assoc]
  rw [← h1, List.take_left]
section
variable {P : Program} [GlobF P] {ty : TypeId} {pos : String} {af : Array Edge} {dst : Option Nat} {gd : Option (Nat × Bool)} {ρ : Operand → Option AV} {hp : List AObj}
theorem D_loadRA {α : Type} {t : TypeId} {x : Operand} {r off n i : Nat} {l : List α} {f : α → List AV} {sp : List AV} [ha : Agg P t true] [hs : Siz P t n] (hx : ρ x = some (.bp r off)) (ho : hp[r]? = some (.cells ((l.map f).flatten ++ sp))) (hf : ∀ a, (f a).length = n) (hi : i < l.length) (hoff : off = i * n) :
    POp P { dst := dst, op := .load t x, type := ty, pos := pos, after := af, guard := gd } ρ hp (.ag (f l[i])) := by
  subst hoff
  have hle : Nat.ble (i * n + n) ((l.map f).flatten ++ sp).length = true := by
    rw [row_len hf]
    have : (i + 1) * n ≤ l.length * n := Nat.mul_le_mul_right n hi
    rw [Nat.succ_mul] at this
    simp; omega
  have := D_loadBA (P := P) (ty := ty) (pos := pos) (af := af) (dst := dst) (gd := gd) (t := t) hx ho hle
  rwa [row_get hf sp i hi] at this
theorem S_storeR {α : Type} {t : TypeId} {x y : Operand} {r off k i : Nat} {a : α} {l : List α} {f : α → List AV} {sp : List AV} [hs : Siz P t k] (hx : ρ x = some (.bp r off)) (hy : ρ y = some (.ag (f a)))
    (hr : hp[r]? = some (.cells ((l.map f).flatten ++ sp))) (hf : ∀ a, (f a).length = k) (hone : (f a).all AV.one = true) (hi : i < l.length) (hoff : off = i * k) :
    POpS P { dst := none, op := .store t x y, type := ty, pos := pos, after := af, guard := gd } ρ hp [r] (.sc undef) (some (r, .cells (((l.set i a).map f).flatten ++ sp))) := by
  subst hoff
  have hle : Nat.ble (i * k + k) ((l.map f).flatten ++ sp).length = true := by
    rw [row_len hf]
    have : (i + 1) * k ≤ l.length * k := Nat.mul_le_mul_right k hi
    rw [Nat.succ_mul] at this
    simp; omega
  have := S_store (P := P) (ty := ty) (pos := pos) (af := af) (gd := gd) (t := t) hx hy rfl hr (by rw [hf]; simp) hone hle
  rwa [row_set hf sp i hi a] at this
theorem D_add1 {t t' : TypeId} {x y : Operand} {j : Nat} (hx : ρ x = some (.sc (.int .i64 (j : Int)))) (hy : ρ y = some (.sc (.int .i64 1))) (hj : j < 9223372036854775807) : PPOp P { dst := dst, op := .binOp .add t x y t', type := ty, pos := pos, after := af, guard := gd } ρ (.sc (.int .i64 ((j + 1 : Nat) : Int))) := by
  have h : PPOp P { dst := dst, op := .binOp .add t x y t', type := ty, pos := pos, after := af, guard := gd } ρ (.sc (.int .i64 (IntKind.i64.wrap ((j : Int) + 1)))) := D_int hx hy rfl
  rwa [show IntKind.i64.wrap ((j : Int) + 1) = ((j + 1 : Nat) : Int) by rw [w64 _ (by omega) (by omega)]; rfl] at h
theorem D_sub1 {t t' : TypeId} {x y : Operand} {j : Nat} (hx : ρ x = some (.sc (.int .i64 ((j + 1 : Nat) : Int)))) (hy : ρ y = some (.sc (.int .i64 1))) (hj : j < 9223372036854775807) : PPOp P { dst := dst, op := .binOp .sub t x y t', type := ty, pos := pos, after := af, guard := gd } ρ (.sc (.int .i64 (j : Int))) := by
  have h : PPOp P { dst := dst, op := .binOp .sub t x y t', type := ty, pos := pos, after := af, guard := gd } ρ (.sc (.int .i64 (IntKind.i64.wrap (((j + 1 : Nat) : Int) - 1)))) := D_int hx hy rfl
  rwa [show IntKind.i64.wrap (((j + 1 : Nat) : Int) - 1) = (j : Int) by rw [w64 _ (by omega) (by omega)]; omega] at h
end
section
variable {P : Program} [GlobF P] {fr : Option Nat} {N : Nat} {Q : Exit → AS → Prop} {ops : Array Oper} {rest : List Oper} {rg : List (Nat × AV)} {h : List AObj} {mk : Mk} {ty : TypeId} {pos : String} {af : Array Edge} {d : Nat}
theorem m_slnil {t t' e k : Nat} {x : Operand} {tok : Option Nat} {els : List (List AV)} [hu : Und P t (.slice e)] (hx : evR rg x = some (.sl tok k els)) (hd : Nat.blt d N = true)
    (hk : ∀ b : Bool, (b = true → els = []) → WL P fr N ops rest Q ⟨(d, .sc (.bool b)) :: rg, h, mk⟩) :
    WL P fr N ops ({ dst := some d, op := .binOp .eql t x (.const (.slice none 0 0)) t', type := ty, pos := pos, after := af, guard := none } :: rest) Q ⟨rg, h, mk⟩ := by
  intro B G a w hR
  have ex := hR.ev x
  rw [show (⟨rg, h, mk⟩ : AS).ev x = _ from AS.evO_eq ((evR_eq rg h mk) ▸ hx)] at ex
  obtain ⟨base, n, cap, hv, hn⟩ : ∃ base n cap, a.eval x = .slice base n cap ∧ (base.isNone = true → els = []) := by
    generalize a.eval x = v at ex
    cases ex with
    | sl us hk hcap him hc ht => exact ⟨_, _, _, rfl, fun h => by cases h⟩
    | slnil ht => exact ⟨_, _, _, rfl, fun _ => rfl⟩
    | slz => exact ⟨_, _, _, rfl, fun _ => rfl⟩
  have hex : (execOp a.eval { dst := some d, op := .binOp .eql t x (.const (.slice none 0 0)) t', type := ty, pos := pos, after := af, guard := none }).run P w = .ok (.value (.bool base.isNone)) w := by
    refine exec_bin _ ?_
    have h1 := run_equal_slice_nil (P := P) w t e base n cap hu.h
    rw [hv]
    show (do eqGuard .eql t x (.const (.slice none 0 0)) (.slice base n cap) (.slice none 0 0); binOp .eql t (.slice base n cap) (.slice none 0 0) : Sem Value).run P w = _
    simp [eqGuard, binOp, h1]
  refine wpListIn_plain rfl fun K' hK' => ?_
  refine ⟨fun f _ => fence_fn fr f, ?_⟩
  rw [Oper.semAt_eq _ _ _ (by simp), hex]
  exact hK' _ _ (hk base.isNone hn B G _ w (hR.put (by simpa [Nat.blt_eq] using hd) (.sc _)))
theorem R.frz1 {B : Base P} {G : Gh} {a : Act} {w : World} {t r k n : Nat} {els : List (List AV)} {sp : List AV} (hR : R B N G ⟨rg, h, mk⟩ a w) (hr : h[r]? = some (.cells (els.flatten ++ sp))) (ht : lookO rg t = some (.mr r 0 n)) (hn : n ≤ els.length) (hk : ∀ e, e ∈ els → e.length = k) :
    ∃ G', R B N G' ⟨(t, .sl none k (els.take n)) :: rg, h.set r .dead, mk⟩ a w := by
  classical
  obtain ⟨G', hle, hR'⟩ := hR.freezeF hr (fun x => if x = .mr r 0 n then .sl none k (els.take n) else x) (by rw [if_neg (fun e => by cases e)]) (fun G b c hb hc him v x hv => by
    split
    · rename_i e
      subst e
      have := frzR_ok hk hb hc him hv
      have e1 : frzR r k els (.mr r 0 n) = .sl none k (els.take n) := by
        simp only [frzR]
        have h1 : Nat.beq r r = true := Nat.beq_refl r
        have h2 : Nat.ble n els.length = true := by simpa using hn
        rw [h1, h2]
      rwa [e1] at this
    · exact hv)
  refine ⟨G', hR'.heap, hR'.size, fun u => ?_, hR'.defers, hR'.own⟩
  simp only [look]
  cases hb : Nat.beq t u with
  | true =>
    have e : t = u := Nat.eq_of_beq_eq_true hb
    subst e
    have h1 : Conc G' (a.tmps.getD t undef) (look (rg.map fun p => (p.1, (fun x => if x = .mr r 0 n then .sl none k (els.take n) else x) p.2)) t) := hR'.regs t
    rw [look_map (fun x => if x = .mr r 0 n then AV.sl none k (els.take n) else x) (by rw [if_neg (fun e => by cases e)]), lookO_eq ht, if_pos rfl] at h1
    exact h1
  | false => exact (hR.regs u).mono hle
theorem WL_frz {l : List Oper} (t r k : Nat) {n : Nat} {els : List (List AV)} {sp : List AV} (hr : h[r]? = some (.cells (els.flatten ++ sp))) (ht : lookO rg t = some (.mr r 0 n)) (hn : n ≤ els.length) (hk : ∀ e, e ∈ els → e.length = k)
    (hw : WL P fr N ops l Q ⟨(t, .sl none k (els.take n)) :: rg, h.set r .dead, mk⟩) : WL P fr N ops l Q ⟨rg, h, mk⟩ := by
  intro B G a w hR
  obtain ⟨G', hR'⟩ := hR.frz1 hr ht hn hk
  exact hw B G' a w hR'
end
end Go.AL
