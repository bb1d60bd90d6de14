/- The plain law of sorting: how values and datoms stand. No program in sight. -/
import Derived.Test.YtpfalehodcbnbaaPS1
import Derived.Test.YtpfalehodcbnbaaPL3
namespace Go.Proofs
open Go.AL Go.Sort

theorem wc_cmpI : WC cmpI := by
  constructor
  · intro x y; unfold cmpI; split <;> split <;> (try split) <;> (try split) <;> omega
  · intro x y z; unfold cmpI; intro h1 h2
    split at h1 <;> split at h2 <;> (try split at h1) <;> (try split at h2) <;> split <;> (try split) <;> omega
theorem cb_cases (x y : UInt8) (a b : List UInt8) : (x.toNat < y.toNat ∧ Lib.compareBytes (x :: a) (y :: b) = -1 ∧ Lib.compareBytes (y :: b) (x :: a) = 1) ∨ (y.toNat < x.toNat ∧ Lib.compareBytes (x :: a) (y :: b) = 1 ∧ Lib.compareBytes (y :: b) (x :: a) = -1) ∨
    (x = y ∧ Lib.compareBytes (x :: a) (y :: b) = Lib.compareBytes a b ∧ Lib.compareBytes (y :: b) (x :: a) = Lib.compareBytes b a) := by
  rcases Nat.lt_trichotomy x.toNat y.toNat with h | h | h
  · exact .inl ⟨h, cb_lt h, cb_gt h⟩
  · have e : x = y := UInt8.toNat.inj h
    subst e; exact .inr (.inr ⟨rfl, cb_eq _ _ _, cb_eq _ _ _⟩)
  · exact .inr (.inl ⟨h, cb_gt h, cb_lt h⟩)
theorem cb_anti : ∀ a b : List UInt8, Lib.compareBytes a b < 0 ↔ 0 < Lib.compareBytes b a
  | [], [] => by simp [Lib.compareBytes]
  | [], y :: b => by simp [Lib.compareBytes]
  | x :: a, [] => by simp [Lib.compareBytes]
  | x :: a, y :: b => by
    have ih := cb_anti a b
    rcases cb_cases x y a b with ⟨_, e1, e2⟩ | ⟨_, e1, e2⟩ | ⟨_, e1, e2⟩
    · rw [e1, e2]; omega
    · rw [e1, e2]; omega
    · rw [e1, e2]; exact ih
theorem cb_le : ∀ a b c : List UInt8, Lib.compareBytes a b ≤ 0 → Lib.compareBytes b c ≤ 0 → Lib.compareBytes a c ≤ 0
  | [], b, [], _, _ => by simp [Lib.compareBytes]
  | [], b, z :: c, _, _ => by simp [Lib.compareBytes]
  | x :: a, [], c, h, _ => by simp [Lib.compareBytes] at h
  | x :: a, y :: b, [], _, h => by simp [Lib.compareBytes] at h
  | x :: a, y :: b, z :: c, h1, h2 => by
    have ih := cb_le a b c
    rcases cb_cases x y a b with ⟨p, e1, _⟩ | ⟨p, e1, _⟩ | ⟨p, e1, _⟩
    · rcases cb_cases y z b c with ⟨q, e3, _⟩ | ⟨q, e3, _⟩ | ⟨q, e3, _⟩
      · rw [cb_lt (by omega)]; omega
      · rw [e3] at h2; omega
      · subst q; rw [cb_lt p]; omega
    · rw [e1] at h1; omega
    · subst p
      rcases cb_cases x z b c with ⟨q, e3, _⟩ | ⟨q, e3, _⟩ | ⟨q, e3, _⟩
      · rw [cb_lt q]; omega
      · rw [e3] at h2; omega
      · subst q; rw [cb_eq]; rw [e1] at h1; rw [e3] at h2; exact ih h1 h2
theorem wc_cb : WC Lib.compareBytes := ⟨cb_anti, cb_le⟩
theorem wc_cmpV : WC cmpV := by
  have e : cmpV = fun a b => if cmpI a.kind b.kind = 0 then (if cmpI a.n b.n = 0 then Lib.compareBytes a.s b.s else cmpI a.n b.n) else cmpI a.kind b.kind := by
    funext a b
    simp only [cmpV, orI]
    split
    · split
      · split
        · rename_i h; exact h.symm
        · rfl
      · rfl
    · rfl
  rw [e]
  exact (wc_cmpI.comap Val.kind).lex ((wc_cmpI.comap Val.n).lex (wc_cb.comap Val.s))

/-! Datoms in an order. -/
def lexD : List (Dat → Dat → Int) → Dat → Dat → Int
  | [], _, _ => 0
  | c :: cs, a, b => if c a b = 0 then lexD cs a b else c a b
theorem wc_lexD : ∀ {cs : List (Dat → Dat → Int)}, (∀ c, c ∈ cs → WC c) → WC (lexD cs)
  | [], _ => ⟨fun _ _ => by simp [lexD], fun _ _ _ _ _ => by simp [lexD]⟩
  | c :: cs, h => (h c (.head _)).lex (wc_lexD fun d hd => h d (.tail _ hd))
def cmpD (o : Int) (a b : Dat) : Int := cmpPs (part7 o a) (part7 o b)
abbrev cE (a b : Dat) : Int := cmpI a.e b.e
abbrev cA (a b : Dat) : Int := cmpI a.a b.a
abbrev cVv (a b : Dat) : Int := cmpV a.v b.v
abbrev cRest : List (Dat → Dat → Int) := [fun a b => cmpI a.t b.t, fun a b => cmpI (if a.add then 0 else 1) (if b.add then 0 else 1), fun a b => cmpI a.fr b.fr, fun a b => cmpI a.to b.to]
theorem wc_cmpD (o : Int) : WC (cmpD o) := by
  have hr : ∀ c, c ∈ cRest → WC c := fun c hc => by
    simp only [cRest, List.mem_cons, List.not_mem_nil, or_false] at hc
    rcases hc with rfl | rfl | rfl | rfl
    · exact wc_cmpI.comap Dat.t
    · exact wc_cmpI.comap fun d : Dat => if d.add then 0 else 1
    · exact wc_cmpI.comap Dat.fr
    · exact wc_cmpI.comap Dat.to
  have h3 : ∀ c1 c2 c3 : Dat → Dat → Int, WC c1 → WC c2 → WC c3 → WC (lexD (c1 :: c2 :: c3 :: cRest)) := fun c1 c2 c3 h1 h2 h3 => h1.lex (h2.lex (h3.lex (wc_lexD hr)))
  have wE : WC cE := wc_cmpI.comap Dat.e
  have wA : WC cA := wc_cmpI.comap Dat.a
  have wV : WC cVv := wc_cmpV.comap Dat.v
  by_cases h1 : o = 1
  · subst h1
    have e : cmpD 1 = lexD (cE :: cA :: cVv :: cRest) := by funext a b; rfl
    rw [e]; exact h3 _ _ _ wE wA wV
  · by_cases h2 : o = 2
    · subst h2
      have e : cmpD 2 = lexD (cA :: cE :: cVv :: cRest) := by funext a b; rfl
      rw [e]; exact h3 _ _ _ wA wE wV
    · by_cases h3' : o = 3
      · subst h3'
        have e : cmpD 3 = lexD (cA :: cVv :: cE :: cRest) := by funext a b; rfl
        rw [e]; exact h3 _ _ _ wA wV wE
      · have e4 : ∀ d, part7 o d = part7 4 d := fun d => by simp [part7, fst1, fst2, fst3, h1, h2, h3']
        have e : cmpD o = lexD (cVv :: cA :: cE :: cRest) := by funext a b; unfold cmpD; rw [e4, e4]; rfl
        rw [e]; exact h3 _ _ _ wV wA wE
theorem canP_eq {p q : Prt} (hp : canP p) (hq : canP q) (hf : p.value = q.value) (h : standI p q = 0) : p = q := by
  unfold standI at h
  by_cases e : p.value = true
  · have e' : q.value = true := hf ▸ e
    rw [if_pos e] at h
    have := (cmpV_z _ _).1 h
    rw [canP, if_pos e] at hp
    rw [canP, if_pos e'] at hq
    rw [hp, hq, this]
  · have e' : ¬ q.value = true := hf ▸ e
    rw [if_neg e] at h
    have := (cmpI_z _ _).1 h
    rw [canP, if_neg e] at hp
    rw [canP, if_neg e'] at hq
    rw [hp, hq, this]
theorem cmpD_z (o : Int) (a b : Dat) (h : cmpD o a b = 0) : a = b := by
  have h1 := (cmpPs_zero _ _).1 h
  have hp : part7 o a = part7 o b := by
    apply List.ext_getElem
    · rfl
    · intro i hi hi'
      refine canP_eq (part7_can _ (List.getElem_mem _)) (part7_can _ (List.getElem_mem _)) ?_ (h1 i hi hi')
      exact (part7_flag o a i hi).trans (part7_flag o b i hi).symm
  rw [← datOf_part7 (o := o) a, hp, datOf_part7]
theorem cmpV_zz (a b : Val) (h : cmpV a b = 0) : a = b := (cmpV_z a b).1 h
end Go.Proofs
