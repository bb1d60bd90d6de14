/- The rules of the abstract logic, nineteenth part: slices that may be written. No condition. -/
import Derived.Test.YtfnmipagllofiaaDoorOps7
import Derived.LoopNIn
namespace Go.AL
theorem mr_inv {G : Gh} {v : Value} {r o n : Nat} (h : Conc G v (.mr r o n)) : ∃ b o' cap, v = .slice (some ⟨b, o', none⟩) n cap ∧ G.blk r = some b ∧ n ≤ cap ∧ (0 < n → o' = o) := by
  cases h with
  | mr h hc ho => exact ⟨_, _, _, rfl, h, hc, ho⟩
section
variable {P : Program} [GlobF P] {ty : TypeId} {pos : String} {af : Array Edge} {dst : Option Nat} {gd : Option (Nat × Bool)} {ρ : Operand → Option AV}
theorem D_lenR {t e : TypeId} {x : Operand} {r o n : Nat} [hu : Und P t (.slice e)] (hx : ρ x = some (.mr r o n)) : PPOp P { dst := dst, op := .call { callee := .builtin .len, args := #[x], argTypes := #[t] }, type := ty, pos := pos, after := af, guard := gd } ρ (.sc (.int .i64 (n : Int))) :=
  PPOp.val (by simp) (fun B G act w hR E => ⟨.int .i64 n, exec_len _ (by
    obtain ⟨b, o', cap, hv, _⟩ := mr_inv (E x (by first | exact List.Mem.head _ | exact List.Mem.tail _ (List.Mem.head _)) _ hx)
    rw [hv]; exact run_len_sl hu.h), .sc _⟩)
theorem D_ixR {t e : TypeId} {x ix : Operand} {r o n k : Nat} {kk : IntKind} {i : Int} [hu : Und P t (.slice e)] [hs : Siz P e k] (hx : ρ x = some (.mr r o n)) (hi : ρ ix = some (.sc (.int kk i))) (h0 : 0 ≤ i) (h1 : i < n) :
    PPOp P { dst := dst, op := .indexAddr t x ix, type := ty, pos := pos, after := af, guard := gd } ρ (.bp r (o + i.toNat * k)) :=
  PPOp.val (by simp) (fun B G a w hR E => by
    obtain ⟨b, o', cap, hv, hb, hc, ho⟩ := mr_inv (E x (by first | exact List.Mem.head _ | exact List.Mem.tail _ (List.Mem.head _)) _ hx)
    have ho' := ho (by omega)
    subst ho'
    exact ⟨.pointer (some ⟨b, o' + i.toNat * k, none⟩), by simp [execOp, Instr.indexAt, hv, conc_sc (E ix (by first | exact List.Mem.head _ | exact List.Mem.tail _ (List.Mem.head _)) _ hi), asIntOf, run_underlying hu.h, hs.h, h0, h1, add_none], .bp hb⟩)
theorem D_ixRn {t e : TypeId} {x ix : Operand} {r o n k : Nat} {kk : IntKind} {j : Nat} [hu : Und P t (.slice e)] [hs : Siz P e k] (hx : ρ x = some (.mr r o n)) (hi : ρ ix = some (.sc (.int kk (j : Int)))) (h1 : j < n) :
    PPOp P { dst := dst, op := .indexAddr t x ix, type := ty, pos := pos, after := af, guard := gd } ρ (.bp r (o + j * k)) := D_ixR hx hi (Int.natCast_nonneg j) (by omega)
theorem D_slRg {t e k i j : Nat} {x : Operand} {lo hi : Option Operand} {r o n : Nat} [hu : Und P t (.slice e)] [hs : Siz P e k] (hx : ρ x = some (.mr r o n)) (hij : i ≤ j) (hj : j ≤ n)
    (hb : ∀ (G : Gh) (a : Act) (w : World) (cap : Nat), n ≤ cap → (∀ y, y ∈ lo.toList ++ hi.toList → ∀ u, ρ y = some u → Conc G (a.eval y) u) → (Instr.sliceBounds true n cap (lo.map a.eval) (hi.map a.eval) none).run P w = .ok (i, j, cap) w) :
    PPOp P { dst := dst, op := .slice t x lo hi none, type := ty, pos := pos, after := af, guard := gd } ρ (.mr r (o + i * k) (j - i)) :=
  PPOp.val (by simp) (fun B G a w hR E => by
    have ex := E x (by simp [Op.operands]) _ hx
    have hbb : ∀ cap, n ≤ cap → (Instr.sliceBounds true n cap (lo.map a.eval) (hi.map a.eval) none).run P w = .ok (i, j, cap) w := fun cap hcap => hb G a w cap hcap fun y hy u hu => E y (by
      cases lo <;> cases hi <;> simp [Op.operands] at hy ⊢ <;> first | exact .inr hy | (rcases hy with h | h; exact .inr (.inl h); exact .inr (.inr h)) | exact .inr hy.symm) u hu
    obtain ⟨b, o', cap, hv, hbk, hc, ho⟩ := mr_inv ex
    have key : (execOp a.eval { dst := dst, op := .slice t x lo hi none, type := ty, pos := pos, after := af, guard := gd }).run P w = ((Instr.slice t (.slice (some ⟨b, o', none⟩) n cap) (lo.map a.eval) (hi.map a.eval) none).run P w).andThen fun v w' => .ok (.value v) w' := by
      simp only [execOp, hv, Sem.run_bind, Option.map_none, Instr.sliceAt, run_underlying hu.h, Result.andThen_ok]
      rfl
    rw [key]
    by_cases e : cap = i
    · refine ⟨.slice (some ⟨b, o', none⟩) (j - i) (cap - i), ?_, .mr hbk (by omega) (fun h => by omega)⟩
      simp only [Instr.slice, Sem.run_bind, run_underlying hu.h, hbb cap hc, hs.h, Result.andThen_ok, Sem.run_pure, Option.map_some, add_none]
      simp [e]
    · refine ⟨.slice (some ⟨b, o' + i * k, none⟩) (j - i) (cap - i), ?_, .mr hbk (by omega) (fun h => by rw [ho (by omega)])⟩
      simp only [Instr.slice, Sem.run_bind, run_underlying hu.h, hbb cap hc, hs.h, Result.andThen_ok, Sem.run_pure, Option.map_some, add_none]
      simp [e])
theorem D_slRh {t e k : Nat} {x z : Operand} {kk' : IntKind} {r o n : Nat} {j : Int} [hu : Und P t (.slice e)] [hs : Siz P e k] (hx : ρ x = some (.mr r o n)) (hz : ρ z = some (.sc (.int kk' j)))
    (h1 : 0 ≤ j) (h2 : j ≤ n) : PPOp P { dst := dst, op := .slice t x none (some z) none, type := ty, pos := pos, after := af, guard := gd } ρ (.mr r o j.toNat) := by
  have := D_slRg (P := P) (ty := ty) (pos := pos) (af := af) (dst := dst) (gd := gd) (t := t) (lo := none) (hi := some z) (i := 0) (j := j.toNat) hx (by omega) (by omega) fun G a w cap hcap E => by
    have e2 := conc_sc (E z (by simp) _ hz)
    simp [Instr.sliceBounds, e2, run_sliceBound w kk' j cap _ (by omega) (by omega)]
  simpa using this
theorem D_slRl {t e k : Nat} {x y : Operand} {kk : IntKind} {r o n : Nat} {i : Int} [hu : Und P t (.slice e)] [hs : Siz P e k] (hx : ρ x = some (.mr r o n)) (hy : ρ y = some (.sc (.int kk i)))
    (h0 : 0 ≤ i) (h2 : i ≤ n) : PPOp P { dst := dst, op := .slice t x (some y) none none, type := ty, pos := pos, after := af, guard := gd } ρ (.mr r (o + i.toNat * k) (n - i.toNat)) :=
  D_slRg (P := P) (ty := ty) (pos := pos) (af := af) (dst := dst) (gd := gd) (t := t) (lo := some y) (hi := none) (i := i.toNat) (j := n) hx (by omega) (Nat.le_refl _) fun G a w cap hcap E => by
    have e1 := conc_sc (E y (by simp) _ hy)
    simp [Instr.sliceBounds, e1, run_sliceBound w kk i n _ h0 (by omega)]
end
section
variable {P : Program} [GlobF P] {fr : Option Nat} {N : Nat} {Q : Exit → AS → Prop} {ops : Array Oper} {rest : List Oper} {rg : List (Nat × AV)} {h : List AObj} {mk : Mk} {ty : TypeId} {pos : String} {af : Array Edge} {d : Nat}
end
end Go.AL

namespace Go.AL
section
variable {P : Program} [GlobF P] {fr : Option Nat} {N : Nat} {Q : Exit → AS → Prop} {ops : Array Oper} {rest : List Oper} {rg : List (Nat × AV)} {h : List AObj} {mk : Mk} {ty : TypeId} {pos : String} {af : Array Edge} {d : Nat}
end
section
variable {P : Program} [GlobF P] {ty : TypeId} {pos : String} {af : Array Edge} {gd : Option (Nat × Bool)} {ρ : Operand → Option AV} {h : List AObj}
end
section
variable {P : Program} [GlobF P] {fr : Option Nat} {N : Nat}
end
section
variable {P : Program} [GlobF P] {ty : TypeId} {pos : String} {af : Array Edge} {dst : Option Nat} {gd : Option (Nat × Bool)} {ρ : Operand → Option AV}
end
end Go.AL

namespace Go.AL
section
variable {P : Program} [GlobF P] {ty : TypeId} {pos : String} {af : Array Edge} {dst : Option Nat} {gd : Option (Nat × Bool)} {ρ : Operand → Option AV}
def Wkn (x y : AV) : Prop := ∀ (G : Gh) (v : Value), Conc G v x → Conc G v y
theorem Wkn.refl (x : AV) : Wkn x x := fun _ _ h => h
theorem Wkn.nil {k : Nat} : Wkn (.sc (.slice none 0 0)) (.sl none k []) := fun _ v hv => by cases hv; exact .slnil (fun t e => by cases e)
def WknL : List AV → List AV → Prop
  | [], [] => True
  | x :: xs, y :: ys => Wkn x y ∧ WknL xs ys
  | _, _ => False
theorem WknL.conc {G : Gh} : ∀ {xs ys : List AV} {vs : List Value}, WknL xs ys → ConcL G vs xs → ConcL G vs ys
  | [], [], _, _, h => h
  | x :: xs, y :: ys, vs, ⟨h1, h2⟩, h => by
    obtain ⟨v, vs', rfl, g1, g2⟩ := h.inv_cons
    exact .cons (h1 _ _ g1) (h2.conc g2)
  | [], _ :: _, _, h, _ => h.elim
  | _ :: _, [], _, h, _ => h.elim
theorem Wkn.ag {xs ys : List AV} (h : WknL xs ys) : Wkn (.ag xs) (.ag ys) := fun G v hv => by
  cases hv with
  | ag l hh =>
    have := h.conc ⟨l, hh⟩
    exact .ag this.1 this.2
theorem Le.ag {xs ys : List AV} (h : LeL xs ys) : Le (.ag xs) (.ag ys) := fun G v hv => by
  cases hv with
  | ag l hh =>
    have := h.conc ⟨l, hh⟩
    exact .ag this.1 this.2
end
end Go.AL
