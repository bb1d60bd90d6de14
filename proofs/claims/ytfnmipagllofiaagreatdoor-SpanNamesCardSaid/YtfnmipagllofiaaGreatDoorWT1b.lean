/- A builder's bytes as a text. -/
import Derived.Test.YtfnmipagllofiaaGreatDoorWT1
import Derived.Test.YtfnmipagllofiaaGreatDoorWEq
import Derived.Test.YtfnmipagllofiaaGreatDoorPN
import Derived.Lib.Split
import Derived.Lib.Join
import Derived.Lib.SplitLaws
import Derived.Lib.CutLaws
import Derived.Test.YtfnmipagllofiaaGreatDoorOps17
import Derived.Shelf.Strings.OnBuilder
namespace Go.Proofs
open Go.AL
theorem bstr_ac [GlobF Tryz.prog] {h : List AObj} {r tk T : Nat} {p : AV} {l : List UInt8} {ys : List AV} (hb : Bld h r tk T p l ys) :
    AC Tryz.prog 34 [.bp r 0] h (fun v h' => v = str l ∧ h' = h.set tk .dead) :=
  ⟨enters_of Tryz.func34 (by kernel_rfl) rfl, fun B G w vs hr hc => by
    obtain ⟨v, vs', rfl, hv, hnil⟩ := hc.inv_cons
    rw [hnil.inv_nil]
    obtain ⟨b, c, t, rfl, hbk, hBb, hcs, hheap, _⟩ := box_inv2 hr hb.box hv
    have hlt1 : 1 < c.length := by rw [hcs.1]; simp [bCells]
    have hc1 : Conc G c[1] (.sl (some tk) 1 (l.map byteC)) := hcs.2 1 _ _ (List.getElem?_eq_getElem hlt1) rfl
    obtain ⟨o0, o1⟩ := hr.obj tk _ hb.tail
    have hct : c.toArray[1]? = some c[1] := by simp [hlt1]
    have hres : Conc G (.string ⟨l.toArray⟩) (str l) := .sc _
    by_cases hl : l = []
    · subst hl
      have key : Calls Tryz.prog 34 #[.pointer (some ⟨b, 0, none⟩)] w fun e w' => e = .returned (.string ⟨#[]⟩) ∧ Grown w w' := by
        have hdr : ∀ e w', (e = Ending.returned (.string ⟨#[]⟩) ∧ w' = w.drew) → (e = .returned (.string ⟨#[]⟩) ∧ Grown w w') := fun e w' h => ⟨h.1, by rw [h.2]; exact ⟨rfl, rfl, rfl, Nat.le_succ _, Nat.le_refl _, fun _ _ => rfl⟩⟩
        generalize c[1] = u at hc1 hct
        cases hc1 with
        | @sl b' o cap' _ _ _ us hk hcap him hc ht =>
          have h1 := ht tk rfl
          simp only [List.map_nil, List.length_nil] at h1 hct
          rcases o1 with ⟨_, h0⟩ | ⟨g, cap, cur, q1, q2, q3, q4, _⟩
          · rw [h0] at h1; cases h1
          · simp only [List.length_nil] at q1
            rw [q1] at h1
            simp only [Option.some.injEq, Value.slice.injEq, true_and, Addr.mk.injEq, and_true] at h1
            obtain ⟨⟨rfl, rfl⟩, rfl⟩ := h1
            by_cases h0 : cap = 0
            · subst h0; exact bstr2_calls b g _ cur _ w hheap hct q3
            · exact (bstr1_calls b g cap _ _ w hheap hct h0).mono hdr
        | slnil ht => exact (bstr0_calls b _ _ w hheap hct).mono hdr
      refine key.mono ?_
      rintro e w' ⟨rfl, hgr⟩
      obtain ⟨imm', i1, i2⟩ := grown_imm hgr hr.imm
      obtain ⟨hle, hr'⟩ := hr.grown hgr i1 i2
      exact ⟨_, _, _, _, rfl, hle, hr'.dead tk, hres.mono hle, rfl, rfl⟩
    · have hl0 : l.length ≠ 0 := by simpa using hl
      rcases o1 with ⟨h0, _⟩ | ⟨g, cap, cur, q1, q2, q3, q4, q5, q6, q7⟩
      · exact absurd h0 hl0
      have e : c[1] = .slice (some ⟨g, 0, none⟩) l.length cap ∧ ∀ j x, l[j]? = some x → G.imm g j = some (.int .u8 x.toNat) := by
        generalize c[1] = u at hc1
        generalize he : l.map byteC = els at hc1
        have hel : els.length = l.length := by rw [← he, List.length_map]
        cases hc1 with
        | @sl b o cap' _ _ _ us hk hcap him hc ht =>
          have h1 := ht tk rfl
          rw [hel, q1] at h1
          simp only [Option.some.injEq, Value.slice.injEq, true_and, Addr.mk.injEq, and_true] at h1
          obtain ⟨⟨rfl, rfl⟩, rfl⟩ := h1
          refine ⟨by rw [hel], fun j x hx => ?_⟩
          have hj : j < l.length := (List.getElem?_eq_some_iff.1 hx).1
          have hi := him j 0 (by omega) (by omega)
          have hcc := hc j (byteC x) 0 _ (by rw [← he, List.getElem?_map, hx]; rfl) rfl
          rw [conc_sc hcc] at hi
          simpa using hi
        | slnil ht => simp at hel; omega
      rw [e.1] at hct
      refine (bstr_calls b g cap _ cur _ l w hl hheap hct q3 q4 q5 (by omega) fun j x hx => hr.imm _ _ _ (e.2 j x hx)).mono ?_
      rintro e' w' ⟨rfl, rfl⟩
      obtain ⟨d1, d2, d3, d4⟩ := drew_freeze_drawn w g l.length
      refine ⟨_, G, _, _, rfl, .refl G, ?_, hres, rfl, rfl⟩
      refine hr.set (w' := w.drew.freeze ⟨g, 0, none⟩ l.length) (b := g) hb.tail (by simp only [ownBlk, q1, slBlock]) q2 d2 d3 d4 (by omega) (drew_freeze_size w g l.length) (fun b' hb' => drew_freeze_heap w g l.length b' hb') (fun i v hv => ?_) trivial (fun c hc => by cases hc)
      rw [drew_freeze_cell]; exact hr.imm _ _ _ hv⟩
end Go.Proofs

namespace Go.Proofs
open Go.Lib
abbrev rngI (n : Int) : Prop := -9223372036854775808 ≤ n ∧ n ≤ 9223372036854775807
abbrev rngL (l : List Sp) : Prop := ∀ s, s ∈ l → rngI s.f ∧ rngI s.t
def endL (n : Int) : List UInt8 := if n = -9223372036854775808 then [45] else if n = 9223372036854775807 then [43] else itoa n
theorem nd45 : ¬ isD 45 := fun h => by unfold isD at h; revert h; decide
theorem nd43 : ¬ isD 43 := fun h => by unfold isD at h; revert h; decide
theorem itoa_mem (n : Int) : ∀ c ∈ itoa n, isD c ∨ c = 45 := by
  by_cases hneg : n < 0
  · obtain ⟨u, rfl⟩ : ∃ u : Nat, n = -(u : Int) := ⟨n.natAbs, by omega⟩
    rw [itoa_neg u (by omega)]
    intro c hc
    rcases List.mem_cons.1 hc with rfl | hc
    · exact .inr rfl
    · exact .inl (dec_digs u c hc)
  · obtain ⟨u, rfl⟩ : ∃ u : Nat, n = u := ⟨n.toNat, by omega⟩
    rw [itoa_nonneg]
    exact fun c hc => .inl (dec_digs u c hc)
theorem itoa_ne (n : Int) : itoa n ≠ [45] ∧ itoa n ≠ [43] := by
  by_cases hneg : n < 0
  · obtain ⟨u, rfl⟩ : ∃ u : Nat, n = -(u : Int) := ⟨n.natAbs, by omega⟩
    rw [itoa_neg u (by omega)]
    exact ⟨fun e => dec_ne u (List.cons.inj e).2, fun e => by cases e⟩
  · obtain ⟨u, rfl⟩ : ∃ u : Nat, n = u := ⟨n.toNat, by omega⟩
    rw [itoa_nonneg]
    exact ⟨fun e => nd45 (dec_digs u 45 (by rw [e]; exact .head _)), fun e => nd43 (dec_digs u 43 (by rw [e]; exact .head _))⟩
theorem end_mem (n : Int) : ∀ c ∈ endL n, c ≠ 32 ∧ c ≠ 44 ∧ c ≠ 41 ∧ c ≠ 91 := by
  have k : ∀ c : UInt8, isD c ∨ c = 45 → c ≠ 32 ∧ c ≠ 44 ∧ c ≠ 41 ∧ c ≠ 91 := fun c h => by
    rcases h with h | rfl
    · unfold isD at h
      refine ⟨?_, ?_, ?_, ?_⟩ <;> (rintro rfl; revert h; decide)
    · decide
  intro c hc
  unfold endL at hc
  split at hc
  · rcases List.mem_cons.1 hc with rfl | hc
    · decide
    · cases hc
  · split at hc
    · rcases List.mem_cons.1 hc with rfl | hc
      · decide
      · cases hc
    · exact k c (itoa_mem n c hc)
theorem end_len (n : Int) (h : rngI n) : (endL n).length ≤ 21 := by
  unfold endL
  split
  · decide
  · split
    · decide
    · exact itoa_length_le n h.1 h.2
theorem end_lo : endL (-9223372036854775808) = [45] := by unfold endL; rw [if_pos rfl]
theorem end_hi : endL 9223372036854775807 = [43] := by unfold endL; rw [if_neg (by decide), if_pos rfl]
theorem end_mid {n : Int} (h0 : n ≠ -9223372036854775808) (h1 : n ≠ 9223372036854775807) : endL n = itoa n := by unfold endL; rw [if_neg h0, if_neg h1]
theorem end_inj {n m : Int} (hn : rngI n) (hm : rngI m) (e : endL n = endL m) : n = m := by
  have k : ∀ n, n ≠ -9223372036854775808 → n ≠ 9223372036854775807 → endL n ≠ [45] ∧ endL n ≠ [43] := fun n h0 h1 => by rw [end_mid h0 h1]; exact itoa_ne n
  by_cases a0 : n = -9223372036854775808
  · by_cases b0 : m = -9223372036854775808
    · rw [a0, b0]
    · by_cases b1 : m = 9223372036854775807
      · rw [a0, b1, end_lo, end_hi] at e; cases e
      · exfalso; rw [a0, end_lo] at e; exact (k m b0 b1).1 e.symm
  · by_cases a1 : n = 9223372036854775807
    · by_cases b0 : m = -9223372036854775808
      · rw [a1, b0, end_lo, end_hi] at e; cases e
      · by_cases b1 : m = 9223372036854775807
        · rw [a1, b1]
        · exfalso; rw [a1, end_hi] at e; exact (k m b0 b1).2 e.symm
    · by_cases b0 : m = -9223372036854775808
      · exfalso; rw [b0, end_lo] at e; exact (k n a0 a1).1 e
      · by_cases b1 : m = 9223372036854775807
        · exfalso; rw [b1, end_hi] at e; exact (k n a0 a1).2 e
        · rw [end_mid a0 a1, end_mid b0 b1] at e
          exact itoa_inj hn.1 hn.2 hm.1 hm.2 e
def EndP (s : List UInt8) (n : Int) : Prop := rngI n ∧ endL n = s
theorem EndP.inj {s : List UInt8} {n m : Int} (h : EndP s n) (h' : EndP s m) : n = m := end_inj h.1 h'.1 (h.2.trans h'.2.symm)
open Classical in
noncomputable def numS (s : List UInt8) : Option Int := if h : ∃ n, EndP s n then some h.choose else none
theorem numS_iff {s : List UInt8} {n : Int} : numS s = some n ↔ EndP s n := by
  unfold numS
  constructor
  · intro h
    split at h
    · rename_i hx; cases h; exact hx.choose_spec
    · cases h
  · intro h
    have hx : ∃ n, EndP s n := ⟨n, h⟩
    rw [dif_pos hx, hx.choose_spec.inj h]
theorem numS_none {s : List UInt8} : numS s = none ↔ ∀ n, ¬ EndP s n := by
  constructor
  · intro h n hn; rw [numS_iff.2 hn] at h; cases h
  · intro h
    cases e : numS s with
    | none => rfl
    | some n => exact absurd (numS_iff.1 e) (h n)
theorem endP_or {s : List UInt8} {n : Int} : EndP s n ↔ (s = [45] ∧ n = -9223372036854775808) ∨ (s = [43] ∧ n = 9223372036854775807) ∨ (s ≠ [45] ∧ s ≠ [43] ∧ NumP s n ∧ n ≠ -9223372036854775808 ∧ n ≠ 9223372036854775807) := by
  constructor
  · rintro ⟨h, rfl⟩
    by_cases a0 : n = -9223372036854775808
    · subst a0; exact .inl ⟨end_lo, rfl⟩
    · by_cases a1 : n = 9223372036854775807
      · subst a1; exact .inr (.inl ⟨end_hi, rfl⟩)
      · rw [end_mid a0 a1]
        exact .inr (.inr ⟨(itoa_ne n).1, (itoa_ne n).2, ⟨h.1, h.2, rfl⟩, a0, a1⟩)
  · rintro (⟨rfl, rfl⟩ | ⟨rfl, rfl⟩ | ⟨_, _, ⟨h0, h1, rfl⟩, a0, a1⟩)
    · exact ⟨⟨by decide, by decide⟩, end_lo⟩
    · exact ⟨⟨by decide, by decide⟩, end_hi⟩
    · exact ⟨⟨h0, h1⟩, end_mid a0 a1⟩
def spL (s : Sp) : List UInt8 := 91 :: (endL s.f ++ 44 :: (endL s.t ++ [41]))
theorem spL_len {s : Sp} (h : rngI s.f ∧ rngI s.t) : (spL s).length ≤ 45 := by
  unfold spL
  have := end_len s.f h.1; have := end_len s.t h.2
  simp; omega
theorem spL_sp (s : Sp) : (32 : UInt8) ∉ spL s := by
  unfold spL
  intro h
  simp only [List.mem_cons, List.mem_append] at h
  rcases h with h | h | h | h | h | h
  · revert h; decide
  · exact (end_mem _ _ h).1 rfl
  · revert h; decide
  · exact (end_mem _ _ h).1 rfl
  · revert h; decide
  · cases h
def cutA (c : UInt8) : List UInt8 → Option (List UInt8 × List UInt8)
  | [] => none
  | b :: s => if b = c then some ([], s) else (cutA c s).map fun p => (b :: p.1, p.2)
theorem cutA_app {c : UInt8} {a b : List UInt8} (h : c ∉ a) : cutA c (a ++ c :: b) = some (a, b) := by
  induction a with
  | nil => simp [cutA]
  | cons x a ih =>
    rw [List.cons_append, cutA, if_neg (fun e => h (by rw [e]; exact .head _)), ih (fun k => h (.tail _ k))]; rfl
theorem cutA_some {c : UInt8} : ∀ {s a b : List UInt8}, cutA c s = some (a, b) → s = a ++ c :: b ∧ c ∉ a
  | [], _, _, h => by cases h
  | x :: s, a, b, h => by
    rw [cutA] at h
    split at h
    · rename_i e; subst e; cases h; exact ⟨rfl, List.not_mem_nil⟩
    · rename_i e
      cases hc : cutA c s with
      | none => rw [hc] at h; cases h
      | some p =>
        obtain ⟨p, q⟩ := p
        rw [hc] at h; cases h
        obtain ⟨h1, h2⟩ := cutA_some hc
        refine ⟨by rw [h1]; rfl, fun k => ?_⟩
        rcases List.mem_cons.1 k with k | k
        · exact e k.symm
        · exact h2 k
theorem cutA_none {c : UInt8} {s : List UInt8} (h : cutA c s = none) : c ∉ s := fun k => by
  obtain ⟨a, b, rfl⟩ := List.append_of_mem k
  by_cases ha : c ∈ a
  · have : ∀ a : List UInt8, c ∈ a → cutA c (a ++ c :: b) ≠ none := by
      intro a; induction a with
      | nil => intro k; cases k
      | cons x a ih =>
        intro k e
        rw [List.cons_append, cutA] at e
        split at e
        · cases e
        · rename_i hx
          rcases List.mem_cons.1 k with k | k
          · exact hx k.symm
          · exact ih k (by simpa using e)
    exact this a ha h
  · rw [cutA_app ha] at h; cases h
theorem part_cut (s : Sp) : cutA 44 (spL s) = some (91 :: endL s.f, endL s.t ++ [41]) := by
  have : spL s = (91 :: endL s.f) ++ 44 :: (endL s.t ++ [41]) := rfl
  rw [this]
  refine cutA_app fun h => ?_
  rcases List.mem_cons.1 h with h | h
  · revert h; decide
  · exact (end_mem _ _ h).2.1 rfl
theorem spL_inj {s r : Sp} (hs : rngI s.f ∧ rngI s.t) (hr : rngI r.f ∧ rngI r.t) (e : spL s = spL r) : s = r := by
  have h := part_cut s
  rw [e, part_cut r] at h
  simp only [Option.some.injEq, Prod.mk.injEq, List.cons.injEq, true_and, List.append_cancel_right_eq] at h
  exact Sp.ext' (end_inj hs.1 hr.1 h.1.symm) (end_inj hs.2 hr.2 h.2.symm)
def splS : List UInt8 → List (List UInt8)
  | [] => [[]]
  | b :: s => if b = 32 then [] :: splS s else match splS s with | [] => [[b]] | p :: ps => (b :: p) :: ps
def joiS : List (List UInt8) → List UInt8
  | [] => []
  | p :: ps => p ++ ps.flatMap (32 :: ·)
theorem splS_ne (s : List UInt8) : splS s ≠ [] := by
  cases s with
  | nil => simp [splS]
  | cons b s => rw [splS]; split; simp; split <;> simp
theorem join_split (s : List UInt8) : joiS (splS s) = s := by
  induction s with
  | nil => rfl
  | cons b s ih =>
    rw [splS]
    cases hs : splS s with
    | nil => exact absurd hs (splS_ne s)
    | cons p ps =>
      rw [hs] at ih
      split
      · rename_i e; subst e
        show [] ++ (32 :: p ++ ps.flatMap (32 :: ·)) = _
        rw [← ih]; rfl
      · show b :: p ++ ps.flatMap (32 :: ·) = _
        rw [← ih]; rfl
theorem splS_pre {p : List UInt8} (h : (32 : UInt8) ∉ p) : splS p = [p] := by
  induction p with
  | nil => rfl
  | cons b p ih => rw [splS, if_neg (fun e => h (by rw [e]; exact .head _)), ih (fun k => h (.tail _ k))]
theorem splS_app {p r : List UInt8} (h : (32 : UInt8) ∉ p) : splS (p ++ 32 :: r) = p :: splS r := by
  induction p with
  | nil => rw [List.nil_append, splS, if_pos rfl]
  | cons b p ih => rw [List.cons_append, splS, if_neg (fun e => h (by rw [e]; exact .head _)), ih (fun k => h (.tail _ k))]
theorem split_join : ∀ {ps : List (List UInt8)}, ps ≠ [] → (∀ p, p ∈ ps → (32 : UInt8) ∉ p) → splS (joiS ps) = ps
  | [], h, _ => absurd rfl h
  | [p], _, h => by rw [joiS, List.flatMap_nil, List.append_nil]; exact splS_pre (h p (.head _))
  | p :: q :: ps, _, h => by
    have e : joiS (p :: q :: ps) = p ++ 32 :: joiS (q :: ps) := rfl
    rw [e, splS_app (h p (.head _)), split_join (by simp) (fun r hr => h r (.tail _ hr))]
abbrev noneT : List UInt8 := [110, 111, 110, 101]
def textS (l : List Sp) : List UInt8 := if l = [] then noneT else joiS (l.map spL)
theorem text_head {s : Sp} {l : List Sp} : joiS ((s :: l).map spL) ≠ noneT := fun e => by
  rw [List.map_cons, joiS, spL] at e; cases e
def Says (s : List UInt8) (l : List Sp) : Prop := SetP l ∧ rngL l ∧ s = textS l
theorem split_text {l : List Sp} (h : l ≠ []) : splS (joiS (l.map spL)) = l.map spL := split_join (by simpa using h) fun p hp => by
  obtain ⟨s, _, rfl⟩ := List.mem_map.1 hp
  exact spL_sp s
theorem map_inj : ∀ {l m : List Sp}, rngL l → rngL m → l.map spL = m.map spL → l = m
  | [], [], _, _, _ => rfl
  | [], _ :: _, _, _, h => by cases h
  | _ :: _, [], _, _, h => by cases h
  | s :: l, r :: m, hl, hm, h => by
    rw [List.map_cons, List.map_cons, List.cons.injEq] at h
    rw [spL_inj (hl s (.head _)) (hm r (.head _)) h.1, map_inj (fun x hx => hl x (.tail _ hx)) (fun x hx => hm x (.tail _ hx)) h.2]
theorem joi_inj {l m : List Sp} (hl : rngL l) (hm : rngL m) (h1 : l ≠ []) (h2 : m ≠ []) (e : joiS (l.map spL) = joiS (m.map spL)) : l = m := by
  have := split_text h1
  rw [e, split_text h2] at this
  exact map_inj hl hm this.symm
theorem Says.inj {s : List UInt8} {l m : List Sp} (h : Says s l) (h' : Says s m) : l = m := by
  obtain ⟨_, hl, rfl⟩ := h
  obtain ⟨_, hm, e⟩ := h'
  unfold textS at e
  cases l with
  | nil => cases m with
    | nil => rfl
    | cons r m => rw [if_pos rfl, if_neg (by simp)] at e; exact absurd e.symm text_head
  | cons s l => cases m with
    | nil => rw [if_neg (by simp), if_pos rfl] at e; exact absurd e text_head
    | cons r m =>
      rw [if_neg (by simp), if_neg (by simp)] at e
      exact joi_inj hl hm (by simp) (by simp) e
open Classical in
noncomputable def readS (s : List UInt8) : Option (List Sp) := if h : ∃ l, Says s l then some h.choose else none
theorem readS_iff {s : List UInt8} {l : List Sp} : readS s = some l ↔ Says s l := by
  unfold readS
  constructor
  · intro h
    split at h
    · rename_i hx; cases h; exact hx.choose_spec
    · cases h
  · intro h
    have hx : ∃ l, Says s l := ⟨l, h⟩
    rw [dif_pos hx, hx.choose_spec.inj h]
theorem readS_none {s : List UInt8} : readS s = none ↔ ∀ l, ¬ Says s l := by
  constructor
  · intro h n hn; rw [readS_iff.2 hn] at h; cases h
  · intro h
    cases e : readS s with
    | none => rfl
    | some n => exact absurd (readS_iff.1 e) (h n)
theorem says_none : Says noneT [] := ⟨.nil, fun s h => absurd h (List.not_mem_nil (a := s)), rfl⟩
theorem says_of {s : List UInt8} {l : List Sp} (h : Says s l) (hn : s ≠ noneT) : l ≠ [] ∧ splS s = l.map spL := by
  obtain ⟨_, _, rfl⟩ := h
  have h0 : l ≠ [] := fun e => hn (by rw [e]; rfl)
  refine ⟨h0, ?_⟩
  unfold textS; rw [if_neg h0]; exact split_text h0
theorem says_parts {s : List UInt8} {l : List Sp} (hp : splS s = l.map spL) (hr : rngL l) (hs : SetP l) : Says s l := by
  have h0 : l ≠ [] := fun e => splS_ne s (by rw [hp, e]; rfl)
  refine ⟨hs, hr, ?_⟩
  unfold textS; rw [if_neg h0, ← hp, join_split]
end Go.Proofs

namespace Go.Proofs
open Go.Lib
theorem index_c (c : UInt8) : ∀ s : List UInt8, index s [c] = match cutA c s with | some p => (p.1.length : Int) | none => -1
  | [] => by simp [index, cutA]
  | b :: s => by
    rw [index, cutA]
    by_cases h : b = c
    · subst h
      rw [if_pos rfl, if_pos (by simp)]; rfl
    · rw [if_neg h]
      have hp : ¬ (([c] : List UInt8).isPrefixOf (b :: s) = true) := by
        simp; exact fun e => h e.symm
      rw [if_neg hp, index_c c s]
      cases hc : cutA c s with
      | none => rfl
      | some p =>
        show (if ((p.1.length : Int) == -1) = true then _ else _) = _
        rw [if_neg (by simp only [beq_iff_eq]; omega)]
        simp
def cutV (c : UInt8) (s : List UInt8) : List UInt8 × List UInt8 × Bool := match cutA c s with | some p => (p.1, p.2, true) | none => (s, [], false)
theorem lib_cut (c : UInt8) (s : List UInt8) : cut s [c] = cutV c s := by
  unfold cut cutV
  rw [index_c]
  cases hc : cutA c s with
  | none => rfl
  | some p =>
    obtain ⟨a, b⟩ := p
    obtain ⟨rfl, _⟩ := cutA_some hc
    show (if (0 : Int) ≤ (a.length : Int) then _ else _) = _
    rw [if_pos (by omega)]
    simp
theorem splitK_c : ∀ (k : Nat) (s : List UInt8), s.count 32 ≤ k → splitK [32] 0 k s = splS s
  | 0, s, h => by
    rw [splitK, splS_pre]
    intro hm
    have := List.count_pos_iff.2 hm
    omega
  | k + 1, s, h => by
    rw [splitK, index_c]
    cases hc : cutA 32 s with
    | none =>
      show (if ((-1 : Int) == -1) = true then _ else _) = _
      rw [if_pos (by decide), splS_pre (cutA_none hc)]
    | some p =>
      obtain ⟨a, b⟩ := p
      obtain ⟨rfl, hn⟩ := cutA_some hc
      show (if ((a.length : Int) == -1) = true then _ else _) = _
      rw [if_neg (by simp only [beq_iff_eq]; omega), splS_app hn, ← splitK_c k b (by simp at h; omega)]
      simp
theorem lib_split (s : List UInt8) : (splitB ⟨[(32 : UInt8)].toArray⟩ 0 (countB ⟨s.toArray⟩ ⟨[(32 : UInt8)].toArray⟩) ⟨s.toArray⟩).map (·.data.toList) = splS s := by
  rw [splitB_data]
  show splitK [32] 0 (count s [32]) s = _
  exact splitK_c _ _ (by rw [count_one]; exact Nat.le_refl _)
def preV (c : UInt8) (s : List UInt8) : List UInt8 := match s with | [] => [] | b :: r => if b = c then r else s
def preB (c : UInt8) (s : List UInt8) : Bool := match s with | [] => false | b :: _ => b == c
theorem lib_pre (c : UInt8) (s : List UInt8) : trimPrefix s [c] = preV c s ∧ hasPrefix s [c] = preB c s := by
  unfold trimPrefix hasPrefix preV preB
  cases s with
  | nil => simp
  | cons b r =>
    by_cases h : b = c
    · subst h; simp
    · have : ¬ c = b := fun e => h e.symm
      have h2 : (b == c) = false := by simp [h]
      have h3 : (c == b) = false := by simp [this]
      simp [List.isPrefixOf, h, h2, h3]
theorem lib_suf (c : UInt8) (s : List UInt8) : (hasSuffix s [c] = true ∧ s = trimSuffix s [c] ++ [c]) ∨ (hasSuffix s [c] = false ∧ ∀ r, s ≠ r ++ [c]) := by
  unfold trimSuffix
  cases h : hasSuffix s [c] with
  | true =>
    left
    unfold hasSuffix at h
    rw [List.isSuffixOf_iff_suffix] at h
    obtain ⟨t, rfl⟩ := h
    simp
  | false =>
    right
    refine ⟨rfl, fun r e => ?_⟩
    unfold hasSuffix at h
    subst e
    have : ([c] : List UInt8).isSuffixOf (r ++ [c]) = true := by rw [List.isSuffixOf_iff_suffix]; exact ⟨r, rfl⟩
    rw [this] at h; cases h
end Go.Proofs

namespace Go.AL
open Go.Proofs
section
variable {P : Program} [GlobF P]
theorem PC.of_grownTu {f : FuncId} {us : List Value} {cs : List Value} (he : Go.Proofs.Enters P f) (h : ∀ w : World, (∀ b o u, GlobF.f P b o = some u → w.cell? ⟨b, o, none⟩ = some u) → Calls P f us.toArray w fun e w' => e = .returned (.tuple cs.toArray) ∧ Grown w w') : PC P f (us.map .sc) (.tu (cs.map .sc)) :=
  ⟨he, fun w imm vs hgl him hc => by
    rw [sc_args hc]
    exact (h w (fun b o u e => him b o u (hgl.f b o u e))).mono fun e w' ⟨h1, h2⟩ => by
      obtain ⟨imm', i1, i2⟩ := grown_imm h2 him
      refine ⟨.tuple cs.toArray, imm', h1, h2, i1, i2, .tu (by simp) fun i v x hv hx => ?_⟩
      rw [List.getElem?_map, hv] at hx; cases hx; exact .sc v⟩
theorem Grown.same (w : World) : Grown w w := ⟨rfl, rfl, rfl, Nat.le_refl _, Nat.le_refl _, fun _ _ => rfl⟩
theorem Grown.drew (w : World) (n : Nat) : Grown w (w.drewN n) := ⟨rfl, rfl, rfl, Nat.le_add_right _ _, Nat.le_refl _, fun _ _ => rfl⟩
theorem Grown.alloc (w : World) (o : Obj) : Grown w (w.alloc o) := ⟨rfl, rfl, rfl, Nat.le_refl _, by show w.heap.size ≤ (w.heap.push _).size; simp, fun b hb => by show (w.heap.push o)[b]? = _; rw [Array.getElem?_push_lt hb, Array.getElem?_eq_getElem hb]⟩
theorem PC.of_newSl {f : FuncId} {us : List Value} {cs : List Value} {t : TypeId} (he : Go.Proofs.Enters P f) (h : ∀ w : World, (∀ b o u, GlobF.f P b o = some u → w.cell? ⟨b, o, none⟩ = some u) → Calls P f us.toArray w fun e w' => e = .returned (.slice (some ⟨w.heap.size, 0, none⟩) cs.length cs.length) ∧ w' = w.alloc (.cells cs.toArray t)) : PC P f (us.map .sc) (.sl none 1 (cs.map fun v => [.sc v])) :=
  ⟨he, fun w imm vs hgl him hc => by
    rw [sc_args hc]
    exact (h w (fun b o u e => him b o u (hgl.f b o u e))).mono fun e w' ⟨h1, h2⟩ => by
      subst h2
      have hold : ∀ b o u, imm b o = some u → b < w.heap.size := fun b o u e => World.block_lt_of_cell? _ _ (him b o u e)
      refine ⟨_, fun b o => if b = w.heap.size then cs[o]? else imm b o, h1, Grown.alloc w _, fun b o hb => if_neg (by omega), fun b o u e => ?_, ?_⟩
      · dsimp only at e
        by_cases hb : b = w.heap.size
        · subst hb
          rw [if_pos rfl] at e
          have e1 : (w.alloc (.cells cs.toArray t)).heap[w.heap.size]? = some (.cells cs.toArray t) := by show (w.heap.push _)[_]? = _; simp
          unfold World.cell?
          rw [e1]; simpa using e
        · rw [if_neg hb] at e
          rw [World.cell?_alloc_old _ _ _ (by show b ≠ _; exact hb)]
          exact him b o u e
      · have hl : (cs.map fun v => [AV.sc v]).length = cs.length := by simp
        have := Conc.sl (G := Gh.of fun b o => if b = w.heap.size then cs[o]? else imm b o) (b := w.heap.size) (o := 0) (cap := cs.length) (k := 1) (tok := none) (els := cs.map fun v => [AV.sc v]) (fun i _ => cs[i]?.getD (.bool false))
          (fun e he => by obtain ⟨v, _, rfl⟩ := List.mem_map.1 he; rfl) (by simp)
          (fun i j hi hj => by
            rw [hl] at hi
            show (if w.heap.size = w.heap.size then cs[0 + i * 1 + j]? else _) = _
            rw [if_pos rfl]
            have : 0 + i * 1 + j = i := by omega
            rw [this, List.getElem?_eq_getElem hi]; rfl)
          (fun i e j x he hx => by
            rw [List.getElem?_map] at he
            cases hc : cs[i]? with
            | none => rw [hc] at he; cases he
            | some v =>
              rw [hc] at he
              simp only [Option.map_some, Option.some.injEq] at he
              subst he
              cases j with
              | zero => simp at hx; subst hx; exact .sc v
              | succ j => simp at hx)
          (fun t h => by cases h)
        rw [hl] at this
        exact this⟩
end
end Go.AL
namespace Go.AL
open Go.Proofs
section
variable {P : Program} [GlobF P] {fr : Option Nat} {N : Nat} {Q : Exit → AS → Prop} {s : AS} {ops : Array Oper} {rest : List Oper} {ty : TypeId} {pos : String} {af : Array Edge} {dst : Option Nat} {gd : Option (Nat × Bool)} {ρ : Operand → Option AV} {hp : List AObj}
theorem D_cap_nil {t e : TypeId} {x : Operand} {a : Option Addr} {n c : Nat} [hu : Und P t (.slice e)] (hx : ρ x = some (.sc (.slice a n c))) : PPOp P { dst := dst, op := .call { callee := .builtin .cap, args := #[x], argTypes := #[t] }, type := ty, pos := pos, after := af, guard := gd } ρ (.sc (.int .i64 (c : Int))) :=
  PPOp.val (by simp) (fun B G act w hR E => ⟨.int .i64 c, by
    have h1 : (Builtin.cap_ #[t] ty #[act.eval x]).run P w = .ok (.int .i64 c) w := by
      rw [conc_sc (E _ (by first | exact List.Mem.head _ | exact List.Mem.tail _ (List.Mem.head _)) _ hx)]
      simp [Builtin.cap_, run_underlying hu.h, goInt]
    rw [exec_builtin]
    simp only [builtin, List.map_toArray, List.map_cons, List.map_nil, Sem.run_bind, h1]; rfl, .sc _⟩)
end
theorem RH.newTail {P : Program} [GlobF P] {B : Base P} {G : Gh} {h : List AObj} {w : World} (hr : RH B G h w) {r b : Nat} {x0 x1 : AV} {v0 v1 : Value} {T u8 : TypeId} {cs : Array Value} {m : Nat} (hr0 : h[r]? = some (.cells [x0, x1] (some T))) (hb : G.blk r = some b) (hB : B.w.heap.size ≤ b)
    (hw : w.heap[b]? = some (.cells #[v0, v1] T (0, 0))) (hv0 : Conc G v0 x0) (him : ∀ o, G.imm b o = none) (hcs : cs.size ≤ maxLen) :
    ∃ G', G.le G' ∧ RH B G' ((h ++ [AObj.tail 0 1 u8]).set r (.cells [x0, .sl (some h.length) 1 []] (some T))) (((w.drewN m).alloc (.cells cs u8)).setCell ⟨b, 1, none⟩ (.slice (some ⟨w.heap.size, 0, none⟩) 0 cs.size)) := by
  obtain ⟨f1, f2⟩ := hr.fresh h.length (Nat.le_refl _)
  have hbl : b < w.heap.size := by
    rcases Nat.lt_or_ge b w.heap.size with h' | h'
    · exact h'
    · rw [Array.getElem?_eq_none h'] at hw; cases hw
  let sv : Value := .slice (some ⟨w.heap.size, 0, none⟩) 0 cs.size
  let G' : Gh := ⟨G.imm, G.blk, fun r j => if r = h.length ∧ j = 0 then some sv else G.tl r j⟩
  have hle : G.le G' := ⟨fun _ _ _ e => e, fun _ _ e => e, fun r j v e => by
    show (if r = h.length ∧ j = 0 then _ else G.tl r j) = some v
    rw [if_neg fun h => by obtain ⟨rfl, rfl⟩ := h; rw [f2] at e; cases e]; exact e⟩
  let w1 : World := (w.drewN m).alloc (.cells cs u8)
  have hold : ∀ b, b < w.heap.size → w1.heap[b]? = w.heap[b]? := fun b hb => by
    show (w.heap.push _)[b]? = _
    rw [Array.getElem?_push_lt hb]; exact (Array.getElem?_eq_getElem hb).symm
  have hnew : w1.heap[w.heap.size]? = some (.cells cs u8 (0, 0)) := by show (w.heap.push _)[_]? = _; simp
  have hh : RH B G' (h ++ [AObj.tail 0 1 u8]) w1 := by
    refine hr.allocObj _ hle rfl rfl rfl (Nat.le_add_right _ _) (by show w.heap.size ≤ (w.heap.push _).size; simp) hold (fun _ _ _ => rfl) (fun b o v hv => ?_) (fun r hne => ⟨rfl, fun n => if_neg fun h => hne h.1⟩) ?_ (fun b hb => ?_)
    · have := hr.imm b o v hv
      unfold World.cell? at this ⊢
      simp only [hold b (hr.lt hv)]; exact this
    · refine ⟨fun j hj => by show (if h.length = h.length ∧ j = 0 then _ else _) = none; rw [if_neg fun h => by omega]; exact f2 j, .inr ⟨w.heap.size, cs.size, cs, if_pos ⟨rfl, rfl⟩, hr.size, hnew, Nat.zero_le _, hcs, by omega, fun j _ => ?_⟩⟩
      show G.imm w.heap.size j = none
      cases hi : G.imm w.heap.size j with
      | none => rfl
      | some v => exact absurd (hr.lt hi) (by omega)
    · simp only [ownBlk] at hb
      have e1 : G'.tl h.length 0 = some sv := if_pos ⟨rfl, rfl⟩
      rw [e1] at hb; cases hb; exact Nat.le_refl _
  have hlt : r < h.length := (List.getElem?_eq_some_iff.1 hr0).1
  have hr1 : (h ++ [AObj.tail 0 1 u8])[r]? = some (.cells [x0, x1] (some T)) := by rw [List.getElem?_append_left hlt]; exact hr0
  have hw1 : w1.heap[b]? = some (.cells #[v0, v1] T (0, 0)) := (hold b hbl).trans hw
  have hset : (w1.setCell ⟨b, 1, none⟩ sv).heap[b]? = some (.cells #[v0, sv] T (0, 0)) := by
    unfold World.setCell
    simp [Array.getElem?_modify, hw1]
  have hoth : ∀ b', b' ≠ b → (w1.setCell ⟨b, 1, none⟩ sv).heap[b']? = w1.heap[b']? := fun b' e => by
    unfold World.setCell
    simp [Array.getElem?_modify, Ne.symm e]
  have hc : ConcL G' [v0, sv] [x0, .sl (some h.length) 1 []] := .cons (hv0.mono hle) (.cons (Conc.sl (els := []) (fun _ _ => .bool false) (fun _ h => by cases h) (Nat.zero_le _) (fun i j hi => by cases hi) (fun i e j x h => by simp at h) (fun t e => by cases e; exact if_pos ⟨rfl, rfl⟩)) (.nil _))
  exact ⟨G', hle, hh.set (w' := w1.setCell ⟨b, 1, none⟩ sv) (b := b) (o' := .cells [x0, .sl (some h.length) 1 []] (some T)) hr1 hb hB rfl rfl rfl (Nat.le_refl _) (by unfold World.setCell; simp) hoth (fun i v hv => by rw [show G'.imm b i = none from him i] at hv; cases hv) ⟨b, [v0, sv], ⟨T, fun T e => by cases e; rfl⟩, hb, hB, hset, hc, him⟩ (fun c hc => by
    simp only [ownBlk] at hc; rw [show G'.blk r = some b from hb] at hc; exact (Option.some.inj hc).symm)⟩
end Go.AL

namespace Go.Proofs
open Go.AL
attribute [local irreducible] Go.AL.W Go.AL.WL Go.AL.WD Go.AL.POp Go.AL.PPOp Go.AL.POpS Go.AL.PC Go.AL.AC Go.AL.YW Go.AL.Ret Go.AL.Le Go.AL.thn Go.AL.inBlk Go.AL.scp
def MaxLenOK [GlobF Tryz.prog] : Prop := ∃ m : Int, GlobF.f Tryz.prog 1 0 = some (.int .i64 m)
theorem tcut_pc [GlobF Tryz.prog] (hg : MaxLenOK) (s : List UInt8) (c : UInt8) (hs : s.length < 4294967281) : PC Tryz.prog 36 [str s, str [c]] (.tu [str (cutV c s).1, str (cutV c s).2.1, .sc (.bool (cutV c s).2.2)]) := by
  obtain ⟨m, hm⟩ := hg
  refine PC.of_grownTu (us := [.string ⟨s.toArray⟩, .string ⟨[c].toArray⟩]) (cs := [.string ⟨(cutV c s).1.toArray⟩, .string ⟨(cutV c s).2.1.toArray⟩, .bool (cutV c s).2.2]) (enters_of Tryz.func36 (by kernel_rfl) rfl) fun w hgl => ?_
  refine (Any.strings_Cut Tryz.lays145 ⟨s.toArray⟩ ⟨[c].toArray⟩ m w hs (hgl _ 0 _ hm)).mono ?_
  rintro e w' ⟨rfl, n, rfl⟩
  refine ⟨?_, Grown.drew w n⟩
  show Ending.returned (.tuple #[.string ⟨(Lib.cut s [c]).1.toArray⟩, .string ⟨(Lib.cut s [c]).2.1.toArray⟩, .bool (Lib.cut s [c]).2.2]) = _
  rw [lib_cut]
theorem tpre_pc [GlobF Tryz.prog] (s : List UInt8) (c : UInt8) : PC Tryz.prog 37 [str s, str [c]] (.tu [str (preV c s), .sc (.bool (preB c s))]) := by
  refine PC.of_grownTu (us := [.string ⟨s.toArray⟩, .string ⟨[c].toArray⟩]) (cs := [.string ⟨(preV c s).toArray⟩, .bool (preB c s)]) (enters_of Tryz.func37 (by kernel_rfl) rfl) fun w hgl => ?_
  refine (Any.strings_CutPrefix Tryz.lays103 ⟨s.toArray⟩ ⟨[c].toArray⟩ w).mono ?_
  rintro e w' ⟨rfl, rfl⟩
  refine ⟨?_, Grown.same _⟩
  show Ending.returned (.tuple #[.string ⟨(Lib.trimPrefix s [c]).toArray⟩, .bool (Lib.hasPrefix s [c])]) = _
  rw [(lib_pre c s).1, (lib_pre c s).2]
abbrev sufV (c : UInt8) (s : List UInt8) : List UInt8 := Lib.trimSuffix s [c]
abbrev sufC (c : UInt8) (s : List UInt8) : Bool := Lib.hasSuffix s [c]
theorem tsuf_pc [GlobF Tryz.prog] (s : List UInt8) (c : UInt8) (hs : s.length < 4294967281) : PC Tryz.prog 38 [str s, str [c]] (.tu [str (sufV c s), .sc (.bool (sufC c s))]) := by
  refine PC.of_grownTu (us := [.string ⟨s.toArray⟩, .string ⟨[c].toArray⟩]) (cs := [.string ⟨(sufV c s).toArray⟩, .bool (sufC c s)]) (enters_of Tryz.func38 (by kernel_rfl) rfl) fun w hgl => ?_
  refine (Any.strings_CutSuffix Tryz.lays104 ⟨s.toArray⟩ ⟨[c].toArray⟩ w (by show s.toArray.size ≤ _; simp; omega)).mono ?_
  rintro e w' ⟨rfl, rfl⟩
  exact ⟨rfl, Grown.same _⟩
abbrev tC (s : List UInt8) : List AV := [str s]
theorem tsplit_pc [GlobF Tryz.prog] (hg : MaxLenOK) (s : List UInt8) (hs : s.length < 4294967281) : PC Tryz.prog 35 [str s, str [32]] (.sl none 1 ((splS s).map tC)) := by
  obtain ⟨m, hm⟩ := hg
  have he : ((splS s).map fun l => Value.string ⟨l.toArray⟩) = (Lib.splitB ⟨[(32 : UInt8)].toArray⟩ 0 (Lib.countB ⟨s.toArray⟩ ⟨[(32 : UInt8)].toArray⟩) ⟨s.toArray⟩).map Value.string := by
    rw [← lib_split, List.map_map]
    exact List.map_congr_left fun x _ => rfl
  have hl : ((splS s).map fun l => Value.string ⟨l.toArray⟩).length = Lib.countB ⟨s.toArray⟩ ⟨[(32 : UInt8)].toArray⟩ + 1 := by
    rw [he, List.length_map]
    exact Lib.splitB_all _ (by decide) 0 _ _ rfl
  have := PC.of_newSl (P := Tryz.prog) (us := [.string ⟨s.toArray⟩, .string ⟨[32].toArray⟩]) (cs := (splS s).map fun l => Value.string ⟨l.toArray⟩) (t := Tryz.lays146_ren.t 9) (enters_of Tryz.func35 (by kernel_rfl) rfl) fun w hgl =>
    (Any.strings_Split Tryz.lays146 (by kernel_rfl) ⟨s.toArray⟩ ⟨[32].toArray⟩ m w hs (hgl _ 0 _ hm) (by decide)).mono fun e w' h => by
      rw [hl, he]; exact h
  rw [List.map_map] at this
  exact this
end Go.Proofs

namespace Go.Proofs
open Go.AL
open Go.Shelf Go.RowKit
theorem world_swap (w : World) (b : Nat) (v : Value) (o : Obj) (hb : b < w.heap.size) : ((w.setCell ⟨b, 1, none⟩ v).alloc o).drew.drew.drew = ((w.drewN 3).alloc o).setCell ⟨b, 1, none⟩ v := by
  have e : (w.setCell ⟨b, 1, none⟩ v).heap.push o = (((w.drewN 3).alloc o).setCell ⟨b, 1, none⟩ v).heap := by
    have h2 : ((w.drewN 3).alloc o).heap = w.heap.push o := rfl
    unfold World.setCell
    rw [h2]
    apply Array.ext_getElem?
    intro i
    rw [Array.getElem?_push, Array.getElem?_modify, Array.getElem?_modify, Array.getElem?_push, Array.size_modify]
    by_cases h : i = w.heap.size
    · subst h
      rw [if_pos rfl, if_pos rfl, if_neg (by show ¬ b = _; omega)]
    · rw [if_neg h, if_neg h]
  show World.mk _ _ _ _ _ = World.mk _ _ _ _ _
  congr 1
set_option maxHeartbeats 4000000 in
set_option maxRecDepth 100000 in
theorem grow_calls (b n : Nat) (T : TypeId) (w : World) (hbk : w.heap[b]? = some (.cells #[.pointer (some ⟨b, 0, none⟩), .slice none 0 0] T (0, 0))) (hn : n ≤ 140737488355328) :
    Calls Tryz.prog 48 #[.pointer (some ⟨b, 0, none⟩), .int .i64 n] w fun e w' => e = .returned (.tuple #[]) ∧ ∃ cs : Array Value, cs.size ≤ maxLen ∧ w' = ((w.drewN 3).alloc (.cells cs 5)).setCell ⟨b, 1, none⟩ (.slice (some ⟨w.heap.size, 0, none⟩) 0 cs.size) := by
  obtain ⟨cs, hrun, hle, hmax⟩ := Lib.run_makeNoZero (P := Tryz.prog) w.drew #[3] 57 5 Tryz.underlying57 n (by omega)
  have hbl : b < w.heap.size := by
    rcases Nat.lt_or_ge b w.heap.size with h' | h'
    · exact h'
    · rw [Array.getElem?_eq_none h'] at hbk; cases hbk
  have hw : IntKind.i64.wrap (IntKind.i64.wrap 0 + (n : Int)) = n := by
    rw [show IntKind.i64.wrap 0 = 0 by rfl, w64 _ (by omega) (by omega)]; omega
  have hcall : (callFunc 69 #[.int .i64 (IntKind.i64.wrap (IntKind.i64.wrap 0 + (n : Int)))]).run Tryz.prog w.drew = .ok (.value (.slice (some ⟨w.drew.heap.size, 0, none⟩) n cs.size)) (w.drew.drew.drew.alloc (.cells cs 5)) := by
    rw [hw, run_callFunc_extern Tryz.func69 (by kernel_rfl) (by kernel_rfl) (by kernel_rfl) (e := Extern.BytealgMakeNoZero.makeNoZero #[3] #[57]) (by kernel_rfl), hrun]
    rfl
  have c1 : w.drew.cell? ⟨b, 1, none⟩ = some (.slice none 0 0) := by
    have : w.drew.heap[b]? = _ := hbk
    rw [Lib.cell_of_heap this]; rfl
  have hold : (w.alloc (.cells cs 5)).heap[b]? = _ := (Lib.alloc_old w _ b hbl).trans hbk
  have c2 : (w.alloc (.cells cs 5)).cell? ⟨b, 1, none⟩ = some (.slice none 0 0) := by rw [Lib.cell_of_heap hold]; rfl
  have f2 : (w.alloc (.cells cs 5)).frozen? ⟨b, 1, none⟩ = false := Lib.frozen_of_heap hold 1
  have hcopy : ∀ W : World, (Builtin.copy_ #[57, 57] 3 #[.slice (some ⟨w.heap.size, 0, none⟩) 0 cs.size, .slice none 0 0]).run Tryz.prog W = .ok (goInt 0) W :=
    fun W => run_copy_none W 57 57 3 5 _ _ 0 cs.size 0 0 Tryz.underlying57 (by kernel_rfl) rfl
  clear hw
  have mixed : Tryz.prog.follows Departure.mixedOrders = true := by decide
  go_enter Tryz.func48, Tryz.ntmps48
  go_wp2
  go_region_o
  all_goals (go_wp2; go_end0; exact ⟨rfl, cs, hmax (by unfold maxLen; omega), world_swap w b _ _ hbl⟩)
end Go.Proofs

namespace Go.Proofs
open Go.AL
theorem grow_ac [GlobF Tryz.prog] {h : List AObj} {r T : Nat} (hr0 : h[r]? = some (.cells [.bp r 0, .sc (.slice none 0 0)] (some T))) (n : Nat) (hn : n ≤ 140737488355328) :
    AC Tryz.prog 48 [.bp r 0, .sc (.int .i64 (n : Int))] h (fun v h' => v = .tu [] ∧ h' = (h ++ [AObj.tail 0 1 5]).set r (.cells (bCells (.bp r 0) h.length [] []) (some T))) :=
  ⟨enters_of Tryz.func48 (by kernel_rfl) rfl, fun B G w vs hr hc => by
    obtain ⟨v, vs', rfl, hv, hc⟩ := hc.inv_cons
    obtain ⟨v2, vs2, rfl, hv2, hc⟩ := hc.inv_cons
    rw [hc.inv_nil, conc_sc hv2]
    obtain ⟨b, c, t, rfl, hb, hBb, hcs, hheap, himm⟩ := box_inv2 hr hr0 hv
    obtain ⟨d0, c1, rfl, k0, hcs⟩ := hcs.inv_cons
    obtain ⟨d1, c2, rfl, k1, hcs⟩ := hcs.inv_cons
    have e0 := hcs.inv_nil
    subst e0
    have e1 := conc_sc k1
    subst e1
    obtain ⟨b2, rfl, hb2⟩ := conc_bp k0
    rw [hb] at hb2
    have e2 := Option.some.inj hb2
    subst e2
    have e3 := t.2 T rfl
    rw [e3] at hheap
    refine (grow_calls b n T w hheap hn).mono ?_
    rintro e w' ⟨rfl, cs, hcs, rfl⟩
    obtain ⟨G', hle, hr'⟩ := hr.newTail (u8 := 5) (cs := cs) (m := 3) hr0 hb hBb hheap k0 himm hcs
    exact ⟨_, G', _, .tu [], rfl, hle, hr', .tu rfl (fun i v x hv => by simp at hv), rfl, rfl⟩⟩
end Go.Proofs
