/- The rules of the abstract logic, fourteenth part: tails adopted in boxes. No condition. -/
import Derived.Test.YtpfalehodcbnbaaOps5
namespace Go.AL

section
variable {P : Program} [GlobF P] {fr : Option Nat} {N : Nat} {Q : Exit → AS → Prop} {ops : Array Oper} {rg : List (Nat × AV)} {h : List AObj} {mk : Mk}

/-- A nil slice in a box is a tail of one's own. -/
theorem R.adoptC {B : Base P} {G : Gh} {a : Act} {w : World} {r j k e : Nat} {xs : List AV} (hR : R B N G ⟨rg, h, mk⟩ a w) (hr0 : h[r]? = some (.cells xs)) (hj : xs[j]? = some (.sc (.slice none 0 0))) :
    ∃ G', R B N G' ⟨rg, (h ++ [AObj.tail 0 k e]).set r (.cells (xs.set j (.sl (some h.length) k []))), mk⟩ a w := by
  have hr := hR.heap
  obtain ⟨f1, f2⟩ := hr.fresh h.length (Nat.le_refl _)
  let G' : Gh := ⟨G.imm, G.blk, fun r j => if r = h.length ∧ j = 0 then some (.slice none 0 0) else G.tl r j⟩
  have hle : G.le G' := ⟨fun _ _ _ e => e, fun _ _ e => e, fun r j v e => by
    show (if r = h.length ∧ j = 0 then _ else G.tl r j) = some v
    rw [if_neg fun h => by obtain ⟨rfl, rfl⟩ := h; rw [f2] at e; cases e]; exact e⟩
  have hh : RH B G' (h ++ [AObj.tail 0 k e]) w := by
    refine hr.allocObj _ hle rfl rfl rfl (Nat.le_refl _) (Nat.le_refl _) (fun _ _ => rfl) (fun _ _ _ => rfl) hr.imm (fun r hne => ⟨rfl, fun n => if_neg fun h => hne h.1⟩) ?_ (fun b hb => ?_)
    · exact ⟨fun j hj => by show (if h.length = h.length ∧ j = 0 then _ else _) = none; rw [if_neg fun h => by omega]; exact f2 j, .inl ⟨rfl, if_pos ⟨rfl, rfl⟩⟩⟩
    · simp only [ownBlk] at hb
      have e1 : G'.tl h.length 0 = some (.slice none 0 0) := if_pos ⟨rfl, rfl⟩
      rw [e1] at hb; cases hb
  have hlt : r < h.length := (List.getElem?_eq_some_iff.1 hr0).1
  have hr1 : (h ++ [AObj.tail 0 k e])[r]? = some (.cells xs) := by rw [List.getElem?_append_left hlt]; exact hr0
  obtain ⟨b, c, ty, g1, g2, g3, g4, g5⟩ := hh.obj r _ hr1
  have hc : ConcL G' c (xs.set j (.sl (some h.length) k [])) := ⟨by simp [g4.1], fun i v x hv hx => by
    by_cases e : j = i
    · subst e
      have hjl : j < xs.length := (List.getElem?_eq_some_iff.1 hj).1
      rw [List.getElem?_set_self hjl] at hx
      cases hx
      have := g4.2 j v _ hv hj
      rw [conc_sc this]
      exact .slnil fun t e => by cases e; exact if_pos ⟨rfl, rfl⟩
    · rw [List.getElem?_set_ne e] at hx
      exact g4.2 i v x hv hx⟩
  have hh2 := hh.set (w' := w) (b := b) (o' := .cells (xs.set j (.sl (some h.length) k []))) hr1 g1 g2 rfl rfl rfl (Nat.le_refl _) rfl (fun _ _ => rfl) (fun i v hv => by rw [g5 i] at hv; cases hv) ⟨b, c, ty, g1, g2, g3, hc, g5⟩ (fun c hc => by
    simp only [ownBlk] at hc; rw [g1] at hc; exact (Option.some.inj hc).symm)
  exact ⟨G', hR.step hle hh2⟩
theorem W_adoptC {c : Code} (r j k e : Nat) {xs : List AV} (hr0 : h[r]? = some (.cells xs)) (hj : xs[j]? = some (.sc (.slice none 0 0)))
    (hk : W P fr N c Q ⟨rg, (h ++ [AObj.tail 0 k e]).set r (.cells (xs.set j (.sl (some h.length) k []))), mk⟩) : W P fr N c Q ⟨rg, h, mk⟩ := by
  intro B G a w hR
  obtain ⟨G', hR'⟩ := hR.adoptC (k := k) (e := e) hr0 hj
  exact hk B G' a w hR'
theorem WL_adoptC {l : List Oper} (r j k e : Nat) {xs : List AV} (hr0 : h[r]? = some (.cells xs)) (hj : xs[j]? = some (.sc (.slice none 0 0)))
    (hk : WL P fr N ops l Q ⟨rg, (h ++ [AObj.tail 0 k e]).set r (.cells (xs.set j (.sl (some h.length) k []))), mk⟩) : WL P fr N ops l Q ⟨rg, h, mk⟩ := by
  intro B G a w hR
  obtain ⟨G', hR'⟩ := hR.adoptC (k := k) (e := e) hr0 hj
  exact hk B G' a w hR'
end

section
variable {P : Program} [GlobF P] {ty : TypeId} {pos : String} {af : Array Edge} {dst : Option Nat} {gd : Option (Nat × Bool)} {ρ : Operand → Option AV}
/-! Pieces of slices that stand for lists. -/
theorem D_slVM {α : Type} {t e k : Nat} {x y z : Operand} {kk kk' : IntKind} {tok : Option Nat} {l : List α} {f : α → List AV} {i j : Int} [hu : Und P t (.slice e)] [hs : Siz P e k] (hx : ρ x = some (.sl tok k (l.map f))) (hy : ρ y = some (.sc (.int kk i))) (hz : ρ z = some (.sc (.int kk' j)))
    (h0 : 0 ≤ i) (h1 : i ≤ j) (h2 : j ≤ l.length) : PPOp P { dst := dst, op := .slice t x (some y) (some z) none, type := ty, pos := pos, after := af, guard := gd } ρ (.sl none k (((l.take j.toNat).drop i.toNat).map f)) := by
  have := D_slV (P := P) (ty := ty) (pos := pos) (af := af) (dst := dst) (gd := gd) (t := t) hx hy hz h0 h1 (by simpa using h2)
  simpa using this
theorem D_slVhM {α : Type} {t e k : Nat} {x z : Operand} {kk' : IntKind} {tok : Option Nat} {l : List α} {f : α → List AV} {j : Int} [hu : Und P t (.slice e)] [hs : Siz P e k] (hx : ρ x = some (.sl tok k (l.map f))) (hz : ρ z = some (.sc (.int kk' j)))
    (h1 : 0 ≤ j) (h2 : j ≤ l.length) : PPOp P { dst := dst, op := .slice t x none (some z) none, type := ty, pos := pos, after := af, guard := gd } ρ (.sl none k ((l.take j.toNat).map f)) := by
  have := D_slVh (P := P) (ty := ty) (pos := pos) (af := af) (dst := dst) (gd := gd) (t := t) hx hz h1 (by simpa using h2)
  simpa using this
theorem D_slVlM {α : Type} {t e k : Nat} {x y : Operand} {kk : IntKind} {tok : Option Nat} {l : List α} {f : α → List AV} {i : Int} [hu : Und P t (.slice e)] [hs : Siz P e k] (hx : ρ x = some (.sl tok k (l.map f))) (hy : ρ y = some (.sc (.int kk i)))
    (h0 : 0 ≤ i) (h2 : i ≤ l.length) : PPOp P { dst := dst, op := .slice t x (some y) none none, type := ty, pos := pos, after := af, guard := gd } ρ (.sl none k ((l.drop i.toNat).map f)) := by
  have := D_slVl (P := P) (ty := ty) (pos := pos) (af := af) (dst := dst) (gd := gd) (t := t) hx hy h0 (by simpa using h2)
  simpa using this
end
end Go.AL
