/- The rules of the abstract logic, seventeenth part: slices that are made. No condition. -/
import Derived.Test.YtfnmipagllofiaaGreatOps8
import Derived.Deep.OwnRows
namespace Go.AL
theorem get_last2 {α : Type} {h : List α} {x : α} {i : Nat} (hi : h.length = i) : (h ++ [x])[i]? = some x := by subst hi; simp
section
variable {P : Program} [GlobF P] {ty : TypeId} {pos : String} {af : Array Edge} {dst : Option Nat} {gd : Option (Nat × Bool)} {ρ : Operand → Option AV}
end
end Go.AL

namespace Go.AL
inductive LK where
  | b
  | i (k : IntKind)
  | s
def LK.ok : LK → Value → Bool
  | .b, .bool _ => true
  | .i k, .int k' _ => decide (k = k')
  | .s, .string _ => true
  | _, _ => false
def lksB : List LK → List Value → Bool
  | [], [] => true
  | l :: ls, v :: vs => l.ok v && lksB ls vs
  | _, _ => false
open Classical in
noncomputable def lEq (a b : List Value) : Bool := decide (a = b)
theorem lEq_t (a b : List Value) : (lEq a b = true) = (a = b) := by unfold lEq; simp
theorem lEq_f (a b : List Value) : (lEq a b = false) = (a ≠ b) := by unfold lEq; simp
attribute [irreducible] lEq
theorem lEq_iff {x : Bool} {a b : List Value} (h : x = true ↔ a = b) : x = lEq a b := by
  cases hx : lEq a b
  · rw [lEq_f] at hx; cases x
    · rfl
    · exact absurd (h.1 rfl) hx
  · rw [lEq_t] at hx; exact h.2 hx
theorem lksB_len : ∀ {L : List LK} {vs : List Value}, lksB L vs = true → vs.length = L.length
  | [], [], _ => rfl
  | l :: ls, v :: vs, h => by simp only [lksB, Bool.and_eq_true] at h; simp [lksB_len h.2]
  | [], _ :: _, h => by simp [lksB] at h
  | _ :: _, [], h => by simp [lksB] at h
theorem lksB_app : ∀ {L M : List LK} {vs : List Value}, lksB (L ++ M) vs = true → lksB L (vs.take L.length) = true ∧ lksB M (vs.drop L.length) = true
  | [], M, vs, h => by simpa [lksB] using h
  | l :: ls, M, [], h => by simp [lksB] at h
  | l :: ls, M, v :: vs, h => by
    simp only [List.cons_append, lksB, Bool.and_eq_true] at h
    have := lksB_app h.2
    simp only [List.length_cons, List.take_succ_cons, List.drop_succ_cons, lksB, Bool.and_eq_true]
    exact ⟨⟨h.1, this.1⟩, this.2⟩
section
variable {P : Program}
class EqF (P : Program) (t : TypeId) (L : outParam (List LK)) (m : outParam Nat) : Prop where
  h : ∀ (w : World) (xs ys : List Value) (off : Nat), lksB L ((xs.drop off).take L.length) = true → lksB L ((ys.drop off).take L.length) = true →
    ∃ a b, (part t xs.toArray off).run P w = .ok a w ∧ (part t ys.toArray off).run P w = .ok b w ∧ ∀ d, m ≤ d → (Op.equalIn d t a b).run P w = .ok (lEq ((xs.drop off).take L.length) ((ys.drop off).take L.length)) w
theorem take1_inv {α : Type} {xs : List α} {off : Nat} {P : List α → Prop} (h : P ((xs.drop off).take 1)) (h0 : ¬ P []) : ∃ v, xs[off]? = some v ∧ (xs.drop off).take 1 = [v] := by
  cases hx : xs.drop off with
  | nil => rw [hx] at h; exact absurd h h0
  | cons v l =>
    refine ⟨v, ?_, rfl⟩
    have := congrArg (·[0]?) hx
    simpa using this
theorem eqf_leaf {t : TypeId} {l : LK} (hag : ∀ w, (isAgg t).run P w = .ok false w) (he : ∀ (d : Nat) (w : World) (a b : Value), l.ok a = true → l.ok b = true → ∃ r, (Op.equalIn (d + 1) t a b).run P w = .ok r w ∧ (r = true ↔ a = b)) : EqF P t [l] 1 := ⟨fun w xs ys off hx hy => by
  obtain ⟨a, ha, ea⟩ := take1_inv (P := fun l' => lksB [l] l' = true) hx (by simp [lksB])
  obtain ⟨b, hb, eb⟩ := take1_inv (P := fun l' => lksB [l] l' = true) hy (by simp [lksB])
  simp only [List.length_singleton] at *
  rw [ea] at hx ⊢; rw [eb] at hy ⊢
  simp only [lksB, Bool.and_true] at hx hy
  refine ⟨a, b, by simp [part, hag w, ha], by simp [part, hag w, hb], fun d hd => ?_⟩
  obtain ⟨d, rfl⟩ : ∃ d', d = d' + 1 := ⟨d - 1, by omega⟩
  obtain ⟨r, hr, hiff⟩ := he d w a b hx hy
  rw [hr, lEq_iff (x := r) (a := [a]) (b := [b]) (by rw [hiff]; simp)]⟩
theorem eqf_int {t : TypeId} {k : IntKind} (hu : P.underlying t = some (.int k)) (hag : ∀ w, (isAgg t).run P w = .ok false w) : EqF P t [.i k] 1 := eqf_leaf hag fun d w a b ha hb => by
  cases a <;> simp only [LK.ok, Bool.false_eq_true, decide_eq_true_eq] at ha
  cases b <;> simp only [LK.ok, Bool.false_eq_true, decide_eq_true_eq] at hb
  subst ha; subst hb
  exact ⟨_, run_equalIn_int w d t _ _ _ _ hu, by simp⟩
theorem eqf_bool {t : TypeId} (hu : P.underlying t = some .bool) (hag : ∀ w, (isAgg t).run P w = .ok false w) : EqF P t [.b] 1 := eqf_leaf hag fun d w a b ha hb => by
  cases a <;> simp only [LK.ok, Bool.false_eq_true] at ha
  cases b <;> simp only [LK.ok, Bool.false_eq_true] at hb
  exact ⟨_, run_equalIn_bool' w d t _ _ hu, by simp⟩
theorem eqf_str {t : TypeId} (hu : P.underlying t = some .string) (hag : ∀ w, (isAgg t).run P w = .ok false w) : EqF P t [.s] 1 := eqf_leaf hag fun d w a b ha hb => by
  cases a <;> simp only [LK.ok, Bool.false_eq_true] at ha
  cases b <;> simp only [LK.ok, Bool.false_eq_true] at hb
  rename_i a b
  refine ⟨_, run_equalIn_string w d t _ _ hu, ?_⟩
  rw [beq_iff_eq, ByteArray.toList_eq, ByteArray.toList_eq]
  obtain ⟨⟨a⟩⟩ := a
  obtain ⟨⟨b⟩⟩ := b
  simp
inductive FldEq (P : Program) (m : Nat) : List Field → Nat → List LK → Prop
  | nil (off : Nat) : FldEq P m [] off []
  | cons {f : Field} {fs : List Field} {off m' : Nat} {L M : List LK} (hn : f.name ≠ "_") (ho : f.offset = off) (he : EqF P f.type L m') (hm : m' ≤ m) (h : FldEq P m fs (off + L.length) M) : FldEq P m (f :: fs) off (L ++ M)
theorem FldEq.cons3 {m : Nat} {f : Field} {fs : List Field} {off m' : Nat} {L K : List LK} (hn : f.name ≠ "_") (ho : f.offset = off) [he : EqF P f.type L m'] (hm : m' ≤ m) (hL : K.take L.length = L) (h : FldEq P m fs (off + L.length) (K.drop L.length)) : FldEq P m (f :: fs) off K := by
  have := FldEq.cons hn ho he hm h
  have e : L ++ K.drop L.length = K := by
    have := List.take_append_drop L.length K
    rwa [hL] at this
  rwa [e] at this
theorem FldEq.run {m : Nat} : ∀ {fs : List Field} {off : Nat} {L : List LK}, FldEq P m fs off L → ∀ (w : World) (xs ys : List Value), lksB L (xs.drop off) = true → lksB L (ys.drop off) = true → ∀ d, m ≤ d →
    (Op.eqFields d xs.toArray ys.toArray fs).run P w = .ok (lEq (xs.drop off) (ys.drop off)) w := by
  intro fs off L h
  induction h with
  | nil off =>
    intro w xs ys hx hy d hd
    have e : ∀ {l : List Value}, lksB [] l = true → l = [] := fun {l} h => by cases l <;> simp [lksB] at h ⊢
    rw [e hx, e hy]
    have : lEq [] [] = true := by rw [lEq_t]
    rw [this]; rfl
  | @cons f fs off m' L M hn ho he hm h ih =>
    intro w xs ys hx hy d hd
    obtain ⟨x1, x2⟩ := lksB_app hx
    obtain ⟨y1, y2⟩ := lksB_app hy
    obtain ⟨a, b, p1, p2, p3⟩ := he.h w xs ys off x1 y1
    have p3' := p3 d (Nat.le_trans hm hd)
    rw [List.drop_drop] at x2 y2
    have ih' := ih w xs ys x2 y2 d hd
    have split : ∀ (l : List Value), l.drop off = (l.drop off).take L.length ++ l.drop (off + L.length) := fun l => by
      rw [← List.drop_drop, List.take_append_drop]
    have hl : ((xs.drop off).take L.length).length = ((ys.drop off).take L.length).length := by rw [lksB_len x1, lksB_len y1]
    have key : lEq (xs.drop off) (ys.drop off) = (lEq ((xs.drop off).take L.length) ((ys.drop off).take L.length) && lEq (xs.drop (off + L.length)) (ys.drop (off + L.length))) := by
      refine (lEq_iff ?_).symm
      rw [Bool.and_eq_true, lEq_t, lEq_t]
      constructor
      · rintro ⟨h1, h2⟩; rw [split xs, split ys, h1, h2]
      · intro h
        rw [split xs, split ys] at h
        exact List.append_inj h hl
    rw [key]
    simp only [Op.eqFields, hn, ho, ne_eq, not_false_eq_true, if_true, Sem.run_bind, p1, p2, p3', Result.andThen_ok]
    cases lEq ((xs.drop off).take L.length) ((ys.drop off).take L.length)
    · simp
    · simpa using ih'
theorem eqf_struct {t : TypeId} {fs : Array Field} {L : List LK} {m n : Nat} (hu : P.underlying t = some (.struct fs)) (hp : P.stoodInHeld t = false) (hag : ∀ w, (isAgg t).run P w = .ok true w) (hs : ∀ w, (sizeOf t).run P w = .ok n w) (hn : n = L.length)
    (hf : FldEq P m fs.toList 0 L) : EqF P t L (m + 1) := ⟨fun w xs ys off hx hy => by
  subst hn
  have ex : ∀ (l : List Value), l.toArray.extract off (off + L.length) = ((l.drop off).take L.length).toArray := fun l => by
    apply Array.ext'
    rw [Array.toList_extract]
    simp [List.extract]
  refine ⟨.agg ((xs.drop off).take L.length).toArray, .agg ((ys.drop off).take L.length).toArray, by simp [part, hag w, hs w], by simp [part, hag w, hs w], fun d hd => ?_⟩
  obtain ⟨d, rfl⟩ : ∃ d', d = d' + 1 := ⟨d - 1, by omega⟩
  have e : P.fieldsOf t = fs := by simp [Program.fieldsOf, hu]
  rw [run_equalIn_struct w d t _ _ (by rw [e]; exact hu) hp, e]
  have := hf.run w ((xs.drop off).take L.length) ((ys.drop off).take L.length) (by simpa using hx) (by simpa using hy) d (by omega)
  simpa using this⟩
def scO : List AV → Option (List Value)
  | [] => some []
  | .sc v :: xs => match scO xs with
    | some vs => some (v :: vs)
    | none => none
  | _ => none
theorem scO_conc {G : Gh} : ∀ {xs : List AV} {us vs : List Value}, scO xs = some us → ConcL G vs xs → vs = us
  | [], us, vs, h, hc => by simp [scO] at h; subst h; exact hc.inv_nil
  | x :: xs, us, vs, h, hc => by
    obtain ⟨v, vs', rfl, h1, h2⟩ := hc.inv_cons
    cases x with
    | sc u =>
      simp only [scO] at h
      split at h
      · rename_i ws hw
        cases h
        rw [conc_sc h1, scO_conc hw h2]
      · cases h
    | _ => simp [scO] at h
end
class EqG (P : Program) (t : TypeId) : Prop where
  h : P.eqGuardType P.depth t = false
theorem lks_drop0 {L : List LK} {vs : List Value} (h : lksB L vs = true) : lksB L ((vs.drop 0).take L.length) = true := by
  rw [List.drop_zero, List.take_of_length_le (Nat.le_of_eq (lksB_len h))]; exact h
theorem exec_eqS {P0 : Program} {t : TypeId} {L : List LK} {m : Nat} [he : EqF P0 t L m] [hg : EqG P0 t] [ha : Agg P0 t true] [hs : Siz P0 t L.length] (hm : m ≤ 10000) {us vs : List Value} (hu : lksB L us = true) (hv : lksB L vs = true) (w : World) {x y : Operand} :
    (do eqGuard .eql t x y (.agg us.toArray) (.agg vs.toArray); binOp .eql t (.agg us.toArray) (.agg vs.toArray) : Sem Value).run P0 w = .ok (.bool (lEq us vs)) w ∧
    (do eqGuard .neq t x y (.agg us.toArray) (.agg vs.toArray); binOp .neq t (.agg us.toArray) (.agg vs.toArray) : Sem Value).run P0 w = .ok (.bool (bNot (lEq us vs))) w := by
  obtain ⟨a, b, p1, p2, p3⟩ := he.h w us vs 0 (lks_drop0 hu) (lks_drop0 hv)
  have ex : ∀ {l : List Value}, lksB L l = true → l.toArray.extract 0 (0 + L.length) = l.toArray := fun {l} h => by
    apply Array.ext'
    rw [Array.toList_extract]
    simp [List.extract, ← lksB_len h]
  have ea : a = .agg us.toArray := by
    have : (part t us.toArray 0).run P0 w = .ok (.agg us.toArray) w := by
      simp only [part, Sem.run_bind, ha.h w, Result.andThen_ok, if_true, hs.h w, Sem.run_pure, ex hu]
    rw [this] at p1; cases p1; rfl
  have eb : b = .agg vs.toArray := by
    have : (part t vs.toArray 0).run P0 w = .ok (.agg vs.toArray) w := by
      simp only [part, Sem.run_bind, ha.h w, Result.andThen_ok, if_true, hs.h w, Sem.run_pure, ex hv]
    rw [this] at p2; cases p2; rfl
  have p4 := p3 10000 hm
  rw [ea, eb, List.drop_zero, List.drop_zero, List.take_of_length_le (Nat.le_of_eq (lksB_len hu)), List.take_of_length_le (Nat.le_of_eq (lksB_len hv))] at p4
  constructor
  · rw [Sem.run_bind, run_eqGuard_agg w _ t x y _ _ hg.h, Result.andThen_ok, run_eql_struct, p4]; rfl
  · rw [Sem.run_bind, run_eqGuard_agg w _ t x y _ _ hg.h, Result.andThen_ok, run_neq_struct, p4]
    unfold bNot; rfl
theorem ag_inv {G : Gh} {v : Value} {xs : List AV} {us : List Value} (h : Conc G v (.ag xs)) (hu : scO xs = some us) : v = .agg us.toArray := by
  cases h with
  | @ag cs _ l h => rw [scO_conc hu ⟨l, h⟩]
section
variable {P : Program} [GlobF P] {ty : TypeId} {pos : String} {af : Array Edge} {dst : Option Nat} {gd : Option (Nat × Bool)} {ρ : Operand → Option AV}
theorem D_eqA {t t' : TypeId} {L : List LK} {m : Nat} {x y : Operand} {xs ys : List AV} {us vs : List Value} [he : EqF P t L m] [hg : EqG P t] [ha : Agg P t true] [hs : Siz P t L.length] (hx : ρ x = some (.ag xs)) (hy : ρ y = some (.ag ys))
    (hus : scO xs = some us) (hvs : scO ys = some vs) (hu : lksB L us = true) (hv : lksB L vs = true) (hm : Nat.ble m 10000 = true) :
    PPOp P { dst := dst, op := .binOp .eql t x y t', type := ty, pos := pos, after := af, guard := gd } ρ (.sc (.bool (lEq us vs))) :=
  PPOp.val (by simp) (fun B G act w hR E => by
    have ex := ag_inv (E x (by first | exact List.Mem.head _) _ hx) hus
    have ey := ag_inv (E y (by first | exact List.Mem.tail _ (List.Mem.head _)) _ hy) hvs
    exact ⟨.bool (lEq us vs), exec_bin _ (by rw [ex, ey]; exact (exec_eqS (by simpa using hm) hu hv w).1), .sc _⟩)
theorem D_neA {t t' : TypeId} {L : List LK} {m : Nat} {x y : Operand} {xs ys : List AV} {us vs : List Value} [he : EqF P t L m] [hg : EqG P t] [ha : Agg P t true] [hs : Siz P t L.length] (hx : ρ x = some (.ag xs)) (hy : ρ y = some (.ag ys))
    (hus : scO xs = some us) (hvs : scO ys = some vs) (hu : lksB L us = true) (hv : lksB L vs = true) (hm : Nat.ble m 10000 = true) :
    PPOp P { dst := dst, op := .binOp .neq t x y t', type := ty, pos := pos, after := af, guard := gd } ρ (.sc (.bool (bNot (lEq us vs)))) :=
  PPOp.val (by simp) (fun B G act w hR E => by
    have ex := ag_inv (E x (by first | exact List.Mem.head _) _ hx) hus
    have ey := ag_inv (E y (by first | exact List.Mem.tail _ (List.Mem.head _)) _ hy) hvs
    exact ⟨.bool (bNot (lEq us vs)), exec_bin _ (by rw [ex, ey]; exact (exec_eqS (by simpa using hm) hu hv w).2), .sc _⟩)
end
instance (a b : List Value) : BP (lEq a b) (a = b) (a ≠ b) := ⟨fun h => by rwa [lEq_t] at h, fun h => by rwa [lEq_f] at h⟩
end Go.AL

namespace Go.AL
theorem mr_inv {G : Gh} {v : Value} {r o n : Nat} (h : Conc G v (.mr r o n)) : ∃ b o' cap, v = .slice (some ⟨b, o', none⟩) n cap ∧ G.blk r = some b ∧ n ≤ cap ∧ (0 < n → o' = o) := by
  cases h with
  | mr h hc ho => exact ⟨_, _, _, rfl, h, hc, ho⟩
section
variable {P : Program} [GlobF P] {ty : TypeId} {pos : String} {af : Array Edge} {dst : Option Nat} {gd : Option (Nat × Bool)} {ρ : Operand → Option AV}
theorem D_lenR {t e : TypeId} {x : Operand} {r o n : Nat} [hu : Und P t (.slice e)] (hx : ρ x = some (.mr r o n)) : PPOp P { dst := dst, op := .call { callee := .builtin .len, args := #[x], argTypes := #[t] }, type := ty, pos := pos, after := af, guard := gd } ρ (.sc (.int .i64 (n : Int))) :=
  PPOp.val (by simp) (fun B G act w hR E => ⟨.int .i64 n, exec_len _ (by
    obtain ⟨b, o', cap, hv, _⟩ := mr_inv (E x (by first | exact List.Mem.head _ | exact List.Mem.tail _ (List.Mem.head _)) _ hx)
    rw [hv]; exact run_len_sl hu.h), .sc _⟩)
theorem D_ixR {t e : TypeId} {x ix : Operand} {r o n k : Nat} {kk : IntKind} {i : Int} [hu : Und P t (.slice e)] [hs : Siz P e k] (hx : ρ x = some (.mr r o n)) (hi : ρ ix = some (.sc (.int kk i))) (h0 : 0 ≤ i) (h1 : i < n) :
    PPOp P { dst := dst, op := .indexAddr t x ix, type := ty, pos := pos, after := af, guard := gd } ρ (.bp r (o + i.toNat * k)) :=
  PPOp.val (by simp) (fun B G a w hR E => by
    obtain ⟨b, o', cap, hv, hb, hc, ho⟩ := mr_inv (E x (by first | exact List.Mem.head _ | exact List.Mem.tail _ (List.Mem.head _)) _ hx)
    have ho' := ho (by omega)
    subst ho'
    exact ⟨.pointer (some ⟨b, o' + i.toNat * k, none⟩), by simp [execOp, Instr.indexAt, hv, conc_sc (E ix (by first | exact List.Mem.head _ | exact List.Mem.tail _ (List.Mem.head _)) _ hi), asIntOf, run_underlying hu.h, hs.h, h0, h1, add_none], .bp hb⟩)
theorem D_ixRn {t e : TypeId} {x ix : Operand} {r o n k : Nat} {kk : IntKind} {j : Nat} [hu : Und P t (.slice e)] [hs : Siz P e k] (hx : ρ x = some (.mr r o n)) (hi : ρ ix = some (.sc (.int kk (j : Int)))) (h1 : j < n) :
    PPOp P { dst := dst, op := .indexAddr t x ix, type := ty, pos := pos, after := af, guard := gd } ρ (.bp r (o + j * k)) := D_ixR hx hi (Int.natCast_nonneg j) (by omega)
theorem D_slRg {t e k i j : Nat} {x : Operand} {lo hi : Option Operand} {r o n : Nat} [hu : Und P t (.slice e)] [hs : Siz P e k] (hx : ρ x = some (.mr r o n)) (hij : i ≤ j) (hj : j ≤ n)
    (hb : ∀ (G : Gh) (a : Act) (w : World) (cap : Nat), n ≤ cap → (∀ y, y ∈ lo.toList ++ hi.toList → ∀ u, ρ y = some u → Conc G (a.eval y) u) → (Instr.sliceBounds true n cap (lo.map a.eval) (hi.map a.eval) none).run P w = .ok (i, j, cap) w) :
    PPOp P { dst := dst, op := .slice t x lo hi none, type := ty, pos := pos, after := af, guard := gd } ρ (.mr r (o + i * k) (j - i)) :=
  PPOp.val (by simp) (fun B G a w hR E => by
    have ex := E x (by simp [Op.operands]) _ hx
    have hbb : ∀ cap, n ≤ cap → (Instr.sliceBounds true n cap (lo.map a.eval) (hi.map a.eval) none).run P w = .ok (i, j, cap) w := fun cap hcap => hb G a w cap hcap fun y hy u hu => E y (by
      cases lo <;> cases hi <;> simp [Op.operands] at hy ⊢ <;> first | exact .inr hy | (rcases hy with h | h; exact .inr (.inl h); exact .inr (.inr h)) | exact .inr hy.symm) u hu
    obtain ⟨b, o', cap, hv, hbk, hc, ho⟩ := mr_inv ex
    have key : (execOp a.eval { dst := dst, op := .slice t x lo hi none, type := ty, pos := pos, after := af, guard := gd }).run P w = ((Instr.slice t (.slice (some ⟨b, o', none⟩) n cap) (lo.map a.eval) (hi.map a.eval) none).run P w).andThen fun v w' => .ok (.value v) w' := by
      simp only [execOp, hv, Sem.run_bind, Option.map_none, Instr.sliceAt, run_underlying hu.h, Result.andThen_ok]
      rfl
    rw [key]
    by_cases e : cap = i
    · refine ⟨.slice (some ⟨b, o', none⟩) (j - i) (cap - i), ?_, .mr hbk (by omega) (fun h => by omega)⟩
      simp only [Instr.slice, Sem.run_bind, run_underlying hu.h, hbb cap hc, hs.h, Result.andThen_ok, Sem.run_pure, Option.map_some, add_none]
      simp [e]
    · refine ⟨.slice (some ⟨b, o' + i * k, none⟩) (j - i) (cap - i), ?_, .mr hbk (by omega) (fun h => by rw [ho (by omega)])⟩
      simp only [Instr.slice, Sem.run_bind, run_underlying hu.h, hbb cap hc, hs.h, Result.andThen_ok, Sem.run_pure, Option.map_some, add_none]
      simp [e])
theorem D_slRh {t e k : Nat} {x z : Operand} {kk' : IntKind} {r o n : Nat} {j : Int} [hu : Und P t (.slice e)] [hs : Siz P e k] (hx : ρ x = some (.mr r o n)) (hz : ρ z = some (.sc (.int kk' j)))
    (h1 : 0 ≤ j) (h2 : j ≤ n) : PPOp P { dst := dst, op := .slice t x none (some z) none, type := ty, pos := pos, after := af, guard := gd } ρ (.mr r o j.toNat) := by
  have := D_slRg (P := P) (ty := ty) (pos := pos) (af := af) (dst := dst) (gd := gd) (t := t) (lo := none) (hi := some z) (i := 0) (j := j.toNat) hx (by omega) (by omega) fun G a w cap hcap E => by
    have e2 := conc_sc (E z (by simp) _ hz)
    simp [Instr.sliceBounds, e2, run_sliceBound w kk' j cap _ (by omega) (by omega)]
  simpa using this
theorem D_slRl {t e k : Nat} {x y : Operand} {kk : IntKind} {r o n : Nat} {i : Int} [hu : Und P t (.slice e)] [hs : Siz P e k] (hx : ρ x = some (.mr r o n)) (hy : ρ y = some (.sc (.int kk i)))
    (h0 : 0 ≤ i) (h2 : i ≤ n) : PPOp P { dst := dst, op := .slice t x (some y) none none, type := ty, pos := pos, after := af, guard := gd } ρ (.mr r (o + i.toNat * k) (n - i.toNat)) :=
  D_slRg (P := P) (ty := ty) (pos := pos) (af := af) (dst := dst) (gd := gd) (t := t) (lo := some y) (hi := none) (i := i.toNat) (j := n) hx (by omega) (Nat.le_refl _) fun G a w cap hcap E => by
    have e1 := conc_sc (E y (by simp) _ hy)
    simp [Instr.sliceBounds, e1, run_sliceBound w kk i n _ h0 (by omega)]
end
section
variable {P : Program} [GlobF P] {fr : Option Nat} {N : Nat} {Q : Exit → AS → Prop} {ops : Array Oper} {rest : List Oper} {rg : List (Nat × AV)} {h : List AObj} {mk : Mk} {ty : TypeId} {pos : String} {af : Array Edge} {d : Nat}
theorem R.freezeF {B : Base P} {G : Gh} {a : Act} {w : World} {r : Nat} {xs : List AV} (hR : R B N G ⟨rg, h, mk⟩ a w) (hr : h[r]? = some (.cells xs)) (f : AV → AV) (hf0 : f .any = .any)
    (hf : ∀ (G : Gh) (b : Nat) (c : List Value), G.blk r = some b → ConcL G c xs → (∀ j u, c[j]? = some u → G.imm b j = some u) → ∀ v x, Conc G v x → Conc G v (f x)) :
    ∃ G', G.le G' ∧ R B N G' ⟨rg.map fun p => (p.1, f p.2), h.set r .dead, mk⟩ a w := by
  obtain ⟨b, c, ty', g1, g2, g3, g4, g5⟩ := hR.heap.obj r _ hr
  have hrl : r < h.length := (List.getElem?_eq_some_iff.1 hr).1
  have hne : ∀ b' o v, G.imm b' o = some v → b' ≠ b := fun b' o v e eb => by subst eb; rw [g5 o] at e; cases e
  have hle : G.le ⟨fun b' o => if b' = b then c[o]? else G.imm b' o, G.blk, G.tl⟩ := ⟨fun b' o v e => by
    show (if b' = b then c[o]? else G.imm b' o) = some v
    rw [if_neg (hne b' o v e)]; exact e, fun _ _ e => e, fun _ _ _ e => e⟩
  have hh := hR.heap
  refine ⟨_, hle, ?_, hR.size, fun t => ?_, hR.defers, hR.own⟩
  · refine hh.turn (hh.base.trans hle) rfl rfl rfl (Nat.le_refl _) (Nat.le_refl _) (fun _ _ => rfl) (fun b' o hb' => if_neg (by omega)) (fun b' o v hv => ?_) ?_ ?_ ?_ (fun r' hr' => hh.fresh r' (by simpa using hr'))
    · by_cases e : b' = b
      · subst e
        have hv' : (if b' = b' then c[o]? else G.imm b' o) = some v := hv
        rw [if_pos rfl] at hv'
        simp [World.cell?, g3, hv']
      · have hv' : (if b' = b then c[o]? else G.imm b' o) = some v := hv
        rw [if_neg e] at hv'
        exact hh.imm _ _ _ hv'
    · intro r' o' ho'
      by_cases e : r' = r
      · subst e
        rw [List.getElem?_set_self hrl] at ho'
        cases ho'; trivial
      · rw [List.getElem?_set_ne (Ne.symm e)] at ho'
        refine (hh.obj r' o' ho').keep hle rfl (fun _ => rfl) fun b1 hb1 _ => ⟨rfl, fun i hi => ?_⟩
        show (if b1 = b then c[i]? else G.imm b1 i) = none
        rw [if_neg fun eb : b1 = b => e (hh.inj r' r o' _ b ho' hr (eb ▸ hb1) g1)]; exact hi
    · intro r1 o1 b' h1 h3
      by_cases e : r1 = r
      · subst e
        rw [List.getElem?_set_self hrl] at h1
        cases h1; cases h3
      · rw [List.getElem?_set_ne (Ne.symm e)] at h1
        exact .inr ⟨o1, h1, by rw [← h3]; exact (ownBlk.congr rfl (fun _ => rfl) o1).symm⟩
    · intro r1 r2 o1 o2 b' h1 h2 h3 h4 hlt
      exfalso
      by_cases e : r1 = r
      · subst e
        rw [List.getElem?_set_self hrl] at h1
        cases h1; cases h3
      · rw [List.getElem?_set_ne (Ne.symm e)] at h1
        rw [ownBlk.congr (G := G) (G' := ⟨fun b' o => if b' = b then c[o]? else G.imm b' o, G.blk, G.tl⟩) rfl (fun _ => rfl) o1] at h3
        exact absurd ((hh.obj r1 o1 h1).own h3).1 (by omega)
  · show Conc _ (a.tmps.getD t undef) (look (rg.map fun p => (p.1, f p.2)) t)
    rw [look_map f hf0]
    refine hf _ b c ?_ (g4.mono hle) (fun j u hu => ?_) _ _ ((hR.regs t).mono hle)
    · exact g1
    show (if b = b then c[j]? else G.imm b j) = some u
    rw [if_pos rfl]; exact hu
def frzR (r k : Nat) (els : List (List AV)) : AV → AV
  | .mr r' o n => match Nat.beq r' r, Nat.beq o 0, Nat.ble n els.length with
    | true, true, true => .sl none k (els.take n)
    | _, _, _ => .mr r' o n
  | x => x
theorem frzR_ok {G : Gh} {r b k : Nat} {c : List Value} {els : List (List AV)} {sp : List AV} (hk : ∀ e, e ∈ els → e.length = k) (hb : G.blk r = some b) (hc : ConcL G c (els.flatten ++ sp)) (him : ∀ j u, c[j]? = some u → G.imm b j = some u) {v : Value} {x : AV} (h : Conc G v x) : Conc G v (frzR r k els x) := by
  cases x with
  | mr r' o n =>
    simp only [frzR]
    split
    · rename_i e1 e2 e3
      have e1' : r' = r := Nat.eq_of_beq_eq_true e1
      have e2' : o = 0 := Nat.eq_of_beq_eq_true e2
      have e3' : n ≤ els.length := by simpa using e3
      subst e1'; subst e2'
      obtain ⟨b', o', cap, rfl, q1, q2, q3⟩ := mr_inv h
      rw [hb] at q1; cases q1
      rcases Nat.eq_zero_or_pos n with hn | hn
      · subst hn
        exact .sl (els := []) (fun _ _ => undef) (fun e he => by cases he) (Nat.zero_le _) (fun i j hi => by simp at hi) (fun i e j x he => by simp at he) (fun t e => by cases e)
      · have ho := q3 hn
        subst ho
        have hkt : ∀ e, e ∈ els.take n → e.length = k := fun e he => hk e (List.mem_of_mem_take he)
        have hfl : (els.take n).flatten = (els.flatten ++ sp).take (n * k) := by
          have h1 := flat_len hkt
          rw [List.length_take, Nat.min_eq_left e3'] at h1
          conv => rhs; rw [← List.take_append_drop n els, List.flatten_append, List.append_assoc]
          rw [← h1, List.take_left]
        have := sl_of_flat (G := G) (b := b) (o := 0) (cap := cap) (k := k) (els := els.take n) (vs := c.take (n * k)) (tok := none) hkt (by rw [List.length_take]; omega) (by rw [hfl]; exact hc.take _)
          (fun j u hu => by
            rw [Nat.zero_add]
            rw [List.getElem?_take] at hu
            split at hu
            · exact him _ _ hu
            · cases hu) (fun t e => by cases e)
        rw [List.length_take, Nat.min_eq_left e3'] at this
        exact this
    · exact h
  | _ => exact h
end
theorem row_get {α : Type} {k : Nat} {l : List α} {f : α → List AV} (hk : ∀ a, (f a).length = k) (sp : List AV) (i : Nat) (hi : i < l.length) : (((l.map f).flatten ++ sp).drop (i * k)).take k = f l[i] := by
  have hall : ∀ e, e ∈ l.map f → e.length = k := fun e he => by obtain ⟨a, _, rfl⟩ := List.mem_map.1 he; exact hk a
  have h1 := flat_len (els := (l.map f).take i) fun e he => hall e (List.mem_of_mem_take he)
  rw [List.length_take, List.length_map, Nat.min_eq_left (by omega)] at h1
  conv => lhs; rw [← List.take_append_drop i (l.map f), List.flatten_append, List.append_assoc]
  rw [← h1, List.drop_left]
  have hd : (l.map f).drop i = f l[i] :: (l.map f).drop (i + 1) := by
    rw [List.drop_eq_getElem_cons (by simpa using hi), List.getElem_map]
  rw [hd, List.flatten_cons, List.append_assoc, ← hk l[i], List.take_left]
theorem row_set {α : Type} {k : Nat} {l : List α} {f : α → List AV} (hk : ∀ a, (f a).length = k) (sp : List AV) (i : Nat) (hi : i < l.length) (a : α) : ((l.map f).flatten ++ sp).take (i * k) ++ f a ++ ((l.map f).flatten ++ sp).drop (i * k + k) = ((l.set i a).map f).flatten ++ sp := by
  have hall : ∀ e, e ∈ l.map f → e.length = k := fun e he => by obtain ⟨a, _, rfl⟩ := List.mem_map.1 he; exact hk a
  have h1 := flat_len (els := (l.map f).take i) fun e he => hall e (List.mem_of_mem_take he)
  rw [List.length_take, List.length_map, Nat.min_eq_left (by omega)] at h1
  have hd : (l.map f).drop i = f l[i] :: (l.map f).drop (i + 1) := by
    rw [List.drop_eq_getElem_cons (by simpa using hi), List.getElem_map]
  have hs : (l.map f).flatten ++ sp = ((l.map f).take i).flatten ++ (f l[i] ++ (((l.map f).drop (i + 1)).flatten ++ sp)) := by
    conv => lhs; rw [← List.take_append_drop i (l.map f), List.flatten_append, List.append_assoc, hd, List.flatten_cons, List.append_assoc]
  have e1 : ((l.map f).flatten ++ sp).take (i * k) = ((l.map f).take i).flatten := by rw [hs, ← h1, List.take_left]
  have e2 : ((l.map f).flatten ++ sp).drop (i * k + k) = ((l.map f).drop (i + 1)).flatten ++ sp := by
    rw [hs, ← h1, ← List.drop_drop, List.drop_left, ← hk l[i], List.drop_left]
  rw [e1, e2, List.set_eq_take_append_cons_drop, if_pos hi]
  simp [List.map_take, List.map_drop]
theorem row_len {α : Type} {k : Nat} {l : List α} {f : α → List AV} (hk : ∀ a, (f a).length = k) (sp : List AV) : ((l.map f).flatten ++ sp).length = l.length * k + sp.length := by
  rw [List.length_append, flat_len fun e he => by obtain ⟨a, _, rfl⟩ := List.mem_map.1 he; exact hk a, List.length_map]
end Go.AL
