/- The plain law of facts: groups of datoms, what they say, what a fold is. -/
import Derived.Test.YtfnmipagllofiaaGreatFD2
import Derived.Test.YtfnmipagllofiaaGreatFS5
namespace Go.Proofs
open Go.AL Go.Sort

structure Fac where
  e : Int
  a : Int
  v : Val
  sp : List Sp
abbrev fC (f : Fac) : List AV := [.sc (.int .i64 f.e), .sc (.int .i64 f.a), .sc (.int .i64 f.v.kind), .sc (.int .i64 f.v.n), str f.v.s, sl2 f.sp]
abbrev sl9 (l : List Dat) : AV := .sl none 9 (l.map dC)
abbrev sl6 (l : List Fac) : AV := .sl none 6 (l.map fC)
def alP (a b : Dat) : Prop := a.e = b.e ∧ a.a = b.a ∧ a.v = b.v
def grP (whole : Bool) (a b : Dat) : Prop := alP a b ∧ (whole = true ∨ a.t = b.t)
theorem tw_at (q : Dat → Bool) : ∀ (l : List Dat) (m : Nat), m ≤ l.length → (∀ (j : Nat) (h : j < l.length), j < m → q l[j] = true) → (∀ h : m < l.length, q l[m] = false) → l.takeWhile q = l.take m ∧ l.dropWhile q = l.drop m
  | [], m, hm, _, _ => by simp
  | x :: l, 0, _, _, h2 => by
    have := h2 (by simp)
    simp only [List.getElem_cons_zero] at this
    simp [this]
  | x :: l, m + 1, hm, h1, h2 => by
    have h0 := h1 0 (by simp) (by omega)
    simp only [List.getElem_cons_zero] at h0
    obtain ⟨a, b⟩ := tw_at q l m (by simpa using hm) (fun j h hj => by have := h1 (j + 1) (by simpa using h) (by omega); simpa using this) (fun h => by have := h2 (by simpa using h); simpa using this)
    simp [h0, a, b]
open Classical in
noncomputable def tst (p : Dat → Dat → Prop) (d : Dat) : Dat → Bool := fun x => decide (p d x)
theorem tst_t {p : Dat → Dat → Prop} {d x : Dat} : tst p d x = true ↔ p d x := by unfold tst; simp
theorem tst_f {p : Dat → Dat → Prop} {d x : Dat} : tst p d x = false ↔ ¬ p d x := by unfold tst; simp
/-- The groups of a list: each of one that is like the first of it. -/
noncomputable def grpL (p : Dat → Dat → Prop) : List Dat → List (List Dat)
  | [] => []
  | d :: l => (d :: l.takeWhile (tst p d)) :: grpL p (l.dropWhile (tst p d))
termination_by l => l.length
decreasing_by
  have := (List.dropWhile_sublist (p := tst p d) (l := l)).length_le
  simp; omega
theorem grpL_nil (p : Dat → Dat → Prop) : grpL p [] = [] := by rw [grpL]
theorem grpL_cons (p : Dat → Dat → Prop) (d : Dat) (l : List Dat) : grpL p (d :: l) = (d :: l.takeWhile (tst p d)) :: grpL p (l.dropWhile (tst p d)) := by rw [grpL]
theorem grp_at {p : Dat → Dat → Prop} {r : List Dat} {n : Nat} (h0 : 0 < n) (hn : n ≤ r.length) (h1 : ∀ (j : Nat) (h : j < r.length), 1 ≤ j → j < n → p (r[0]'(by omega)) r[j]) (h2 : ∀ h : n < r.length, ¬ p (r[0]'(by omega)) r[n]) :
    grpL p r = r.take n :: grpL p (r.drop n) := by
  cases r with
  | nil => simp at hn; omega
  | cons d l =>
    obtain ⟨m, rfl⟩ : ∃ m, n = m + 1 := ⟨n - 1, by omega⟩
    obtain ⟨a, b⟩ := tw_at (tst p d) l m (by simpa using hn) (fun j h hj => tst_t.2 (by have := h1 (j + 1) (by simpa using h) (by omega) (by omega); simpa using this)) (fun h => tst_f.2 (by have := h2 (by simpa using h); simpa using this))
    rw [grpL_cons, a, b]; rfl
/-- What a transaction's datoms say. -/
def saidL (l : List Dat) (b : Bool) : List Sp := (l.filter fun d => d.add == b).map fun d => ⟨d.fr, d.to⟩
theorem saidL_len (l : List Dat) (b : Bool) : (saidL l b).length ≤ l.length := by unfold saidL; rw [List.length_map]; exact List.length_filter_le _ _
theorem saidL_snoc (l : List Dat) (b : Bool) (i : Nat) (h : i < l.length) : saidL (l.take (i + 1)) b = saidL (l.take i) b ++ (if l[i].add = b then [⟨l[i].fr, l[i].to⟩] else []) := by
  unfold saidL
  rw [List.take_succ_eq_append_getElem h, List.filter_append, List.map_append]
  congr 1
  by_cases hb : l[i].add = b <;> simp [hb]
def okD (l : List Dat) : Prop := ∀ d, d ∈ l → d.fr < d.to
theorem saidL_ne {l : List Dat} (h : okD l) (b : Bool) : neS (saidL l b) := fun s hs => by
  unfold saidL at hs
  obtain ⟨d, hd, rfl⟩ := List.mem_map.1 hs
  exact h d (List.mem_filter.1 hd).1
noncomputable def tnL (now : List Sp) (l : List Dat) : List Sp := minL (canS (now ++ canS (saidL l true))) (canS (saidL l false))
noncomputable def bothL (l : List Dat) : List Sp := meetL (canS (saidL l true)) (canS (saidL l false))
/-- One's instants behind its transactions; none: they do not go together. -/
noncomputable def foldT (now : List Sp) : List (List Dat) → Option (List Sp)
  | [] => some now
  | x :: xs => if (bothL x).length = 0 then foldT (tnL now x) xs else none
noncomputable def foldG : List (List Dat) → Option (List Fac)
  | [] => some []
  | g :: gs => match foldT [] (grpL (grP false) g), foldG gs with
    | some sp, some r => some ((if sp.length = 0 then [] else [⟨(g.headD dat0).e, (g.headD dat0).a, (g.headD dat0).v, sp⟩]) ++ r)
    | _, _ => none
end Go.Proofs
