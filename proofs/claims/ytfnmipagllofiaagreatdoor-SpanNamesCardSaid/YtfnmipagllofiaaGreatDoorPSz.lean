/- The plain law of reading sets' texts: by parts, and from left to right. No program in sight. -/
import Derived.Test.YtfnmipagllofiaaGreatDoorWT1b
namespace Go.Proofs
open Go.Lib
theorem part_yes {p : List UInt8} {x y : Int} (h2 : (cutV 44 p).2.2 = true) (h1 : preB 91 (cutV 44 p).1 = true) (h3 : hasSuffix (cutV 44 p).2.1 [41] = true) (h4 : EndP (preV 91 (cutV 44 p).1) x) (h5 : EndP (trimSuffix (cutV 44 p).2.1 [41]) y) :
    spL ⟨x, y⟩ = p ∧ rngI x ∧ rngI y := by
  refine ⟨?_, h4.1, h5.1⟩
  unfold cutV at *
  cases hc : cutA 44 p with
  | none => rw [hc] at h2; cases h2
  | some q =>
    obtain ⟨a, b⟩ := q
    simp only [hc] at h1 h3 h4 h5
    obtain ⟨rfl, _⟩ := cutA_some hc
    cases a with
    | nil => cases h1
    | cons c a =>
      have hc' : c = 91 := by simpa [preB] using h1
      subst hc'
      have e4 : preV 91 (91 :: a) = a := by simp [preV]
      rw [e4] at h4
      rcases lib_suf 41 b with ⟨_, hb⟩ | ⟨hb, _⟩
      · unfold spL
        rw [h4.2, h5.2, ← hb]; rfl
      · rw [hb] at h3; cases h3
theorem part_no (s : Sp) : cutV 44 (spL s) = (91 :: endL s.f, endL s.t ++ [41], true) := by
  unfold cutV; rw [part_cut]
theorem part_pre (s : Sp) : preB 91 (91 :: endL s.f) = true ∧ preV 91 (91 :: endL s.f) = endL s.f := by
  constructor
  · simp [preB]
  · simp [preV]
theorem part_suf (l : List UInt8) : hasSuffix (l ++ [41]) [41] = true ∧ trimSuffix (l ++ [41]) [41] = l := by
  rcases lib_suf 41 (l ++ [41]) with ⟨h1, h2⟩ | ⟨_, h⟩
  · exact ⟨h1, by have := List.append_cancel_right h2; exact this.symm⟩
  · exact absurd rfl (h l)
def PartP (p : List UInt8) (s : Sp) : Prop := (rngI s.f ∧ rngI s.t) ∧ spL s = p
theorem PartP.inj {p : List UInt8} {s r : Sp} (h : PartP p s) (h' : PartP p r) : s = r := spL_inj h.1 h'.1 (h.2.trans h'.2.symm)
theorem part_ref {p : List UInt8} (h : (cutV 44 p).2.2 = false ∨ preB 91 (cutV 44 p).1 = false ∨ hasSuffix (cutV 44 p).2.1 [41] = false ∨ numS (preV 91 (cutV 44 p).1) = none ∨ numS (trimSuffix (cutV 44 p).2.1 [41]) = none) (s : Sp) : ¬ PartP p s := by
  rintro ⟨hr, rfl⟩
  rw [part_no] at h
  dsimp only at h
  rw [(part_pre s).1, (part_pre s).2, (part_suf _).1, (part_suf _).2] at h
  rcases h with h | h | h | h | h
  · cases h
  · cases h
  · cases h
  · exact numS_none.1 h _ ⟨hr.1, rfl⟩
  · exact numS_none.1 h _ ⟨hr.2, rfl⟩
theorem part_acc {p : List UInt8} {x y : Int} (h2 : (cutV 44 p).2.2 = true) (h1 : preB 91 (cutV 44 p).1 = true) (h3 : hasSuffix (cutV 44 p).2.1 [41] = true) (h4 : numS (preV 91 (cutV 44 p).1) = some x) (h5 : numS (trimSuffix (cutV 44 p).2.1 [41]) = some y) : PartP p ⟨x, y⟩ := by
  obtain ⟨e, r1, r2⟩ := part_yes h2 h1 h3 (numS_iff.1 h4) (numS_iff.1 h5)
  exact ⟨⟨r1, r2⟩, e⟩
def Parts (ps : List (List UInt8)) (l : List Sp) : Prop := rngL l ∧ l.map spL = ps
theorem parts_nil : Parts [] [] := ⟨fun s h => absurd h (List.not_mem_nil (a := s)), rfl⟩
theorem parts_snoc {ps : List (List UInt8)} {l : List Sp} {p : List UInt8} {s : Sp} (h : Parts ps l) (hs : PartP p s) : Parts (ps ++ [p]) (l ++ [s]) :=
  ⟨fun r hr => by
    rcases List.mem_append.1 hr with hr | hr
    · exact h.1 r hr
    · rw [List.mem_singleton.1 hr]; exact hs.1, by rw [List.map_append, h.2]; simp [hs.2]⟩
theorem read_part {s : List UInt8} (hn : s ≠ noneT) {i : Nat} (hi : i < (splS s).length) (h : ∀ r, ¬ PartP (splS s)[i] r) : readS s = none := readS_none.2 fun l hl => by
  obtain ⟨_, e⟩ := says_of hl hn
  have hi' : i < l.length := by rw [e, List.length_map] at hi; exact hi
  refine h l[i] ⟨hl.2.1 _ (List.getElem_mem _), ?_⟩
  have : (splS s)[i] = (l.map spL)[i]'(by rw [List.length_map]; exact hi') := by simp only [e]
  rw [this, List.getElem_map]
open Classical in
theorem read_all {s : List UInt8} (hn : s ≠ noneT) {l : List Sp} (h : Parts (splS s) l) : readS s = (if h : SetP l then some l else none) := by
  by_cases hs : SetP l
  · rw [dif_pos hs]; exact readS_iff.2 (says_parts h.2.symm h.1 hs)
  · rw [dif_neg hs]
    refine readS_none.2 fun m hm => hs ?_
    obtain ⟨_, e⟩ := says_of hm hn
    have : m = l := map_inj hm.2.1 h.1 (e.symm.trans h.2.symm)
    exact this ▸ hm.1
theorem read_none : readS noneT = some [] := readS_iff.2 says_none
def tlS (acc l : List Sp) : List UInt8 := if acc = [] then joiS (l.map spL) else l.flatMap fun x => 32 :: spL x
theorem tlS_nil (l : List Sp) : tlS [] l = joiS (l.map spL) := if_pos rfl
theorem tlS_cons {acc : List Sp} (h : acc ≠ []) (l : List Sp) : tlS acc l = l.flatMap fun x => 32 :: spL x := if_neg h
structure LR (s : List UInt8) (acc : List Sp) (r : List UInt8) : Prop where
  rng : rngL acc
  txt : s = joiS (acc.map spL) ++ r
  all : ∀ l, l ≠ [] → rngL l → s = joiS (l.map spL) → ∃ l', l = acc ++ l' ∧ r = tlS acc l'
theorem joi_snoc (acc : List Sp) (x : Sp) : joiS ((acc ++ [x]).map spL) = joiS (acc.map spL) ++ (if acc = [] then spL x else 32 :: spL x) := by
  cases acc with
  | nil => simp [joiS]
  | cons a acc => simp [joiS]
theorem joi_cons (x : Sp) (l : List Sp) : joiS ((x :: l).map spL) = spL x ++ l.flatMap fun x => 32 :: spL x := by
  rw [List.map_cons, joiS, List.flatMap_map]
theorem spL_split (s : Sp) (r : List UInt8) : spL s ++ r = 91 :: (endL s.f ++ 44 :: (endL s.t ++ 41 :: r)) := by unfold spL; simp
theorem LR.step {s : List UInt8} {acc : List Sp} {r r' : List UInt8} (h : LR s acc r) (hr : r = if acc = [] then r' else 32 :: r') {t1 t2 : List UInt8} {x y : Int} {r3 : List UInt8} (e : r' = 91 :: (t1 ++ 44 :: (t2 ++ 41 :: r3))) (h1 : EndP t1 x) (h2 : EndP t2 y) : LR s (acc ++ [⟨x, y⟩]) r3 := by
  obtain ⟨rx, rfl⟩ := h1
  obtain ⟨ry, rfl⟩ := h2
  have e' : r' = spL ⟨x, y⟩ ++ r3 := by rw [e, spL_split]
  refine ⟨fun q hq => ?_, ?_, fun l hl hrl hs => ?_⟩
  · rcases List.mem_append.1 hq with hq | hq
    · exact h.rng q hq
    · rw [List.mem_singleton.1 hq]; exact ⟨rx, ry⟩
  · rw [h.txt, joi_snoc, hr, e']
    split <;> simp
  · obtain ⟨l', rfl, ht⟩ := h.all l hl hrl hs
    have key : ∃ z m, l' = z :: m ∧ r' = spL z ++ m.flatMap fun x => 32 :: spL x := by
      by_cases ha : acc = []
      · rw [if_pos ha] at hr
        subst ha
        rw [List.nil_append] at hl
        cases l' with
        | nil => exact absurd rfl hl
        | cons z m => exact ⟨z, m, rfl, by rw [← hr, ht, tlS_nil, joi_cons]⟩
      · rw [if_neg ha] at hr
        rw [tlS_cons ha] at ht
        cases l' with
        | nil => rw [hr] at ht; cases ht
        | cons z m =>
          refine ⟨z, m, rfl, ?_⟩
          rw [hr, List.flatMap_cons, List.cons_append] at ht
          exact (List.cons.inj ht).2
    obtain ⟨z, m, rfl, k⟩ := key
    have hz : rngI z.f ∧ rngI z.t := hrl z (List.mem_append_right _ (.head _))
    rw [e, spL_split, List.cons.injEq] at k
    have c1 := cutA_app (c := 44) (a := endL x) (b := endL y ++ 41 :: r3) (fun h => (end_mem _ _ h).2.1 rfl)
    have c2 := cutA_app (c := 44) (a := endL z.f) (b := endL z.t ++ 41 :: m.flatMap fun x => 32 :: spL x) (fun h => (end_mem _ _ h).2.1 rfl)
    rw [k.2, c2] at c1
    simp only [Option.some.injEq, Prod.mk.injEq] at c1
    have d1 := cutA_app (c := 41) (a := endL y) (b := r3) (fun h => (end_mem _ _ h).2.2.1 rfl)
    have d2 := cutA_app (c := 41) (a := endL z.t) (b := m.flatMap fun x => 32 :: spL x) (fun h => (end_mem _ _ h).2.2.1 rfl)
    rw [← c1.2, d2] at d1
    simp only [Option.some.injEq, Prod.mk.injEq] at d1
    have ef := end_inj hz.1 rx c1.1
    have et := end_inj hz.2 ry d1.1
    have ez : z = ⟨x, y⟩ := Sp.ext' ef et
    subst ez
    refine ⟨m, by simp, ?_⟩
    rw [tlS_cons (by simp)]; exact d1.2.symm
end Go.Proofs
