/- What datoms and facts weigh: small ones pass the statements' guards only if they are few. -/
import Derived.Test.YtfnmipagllofiaaGreatFP6
import Derived.Test.YtfnmipagllofiaaGreatFS5
import Derived.Test.YtfnmipagllofiaaGreatPSp2
import Derived.Test.YtfnmipagllofiaaGreatOps15
import Derived.Test.YtfnmipagllofiaaGreatOps26
namespace Go.Proofs
open Go.AL Go.Sort
abbrev wtD (d : Dat) : Nat := 1 + d.v.s.length
abbrev wtF (f : Fac) : Nat := 1 + f.v.s.length + f.sp.length
def gr6 (l : List Fac) : Nat := (l.map fun f => 20 + f.v.s.length + 4 * f.sp.length).sum
theorem gr6_take (l : List Fac) (i : Nat) (h : i < l.length) : gr6 (l.take (i + 1)) = gr6 (l.take i) + (20 + l[i].v.s.length + 4 * l[i].sp.length) := by
  unfold gr6
  rw [List.take_succ_eq_append_getElem h, List.map_append, List.sum_append]; simp
theorem gr6_wt (l : List Fac) : gr6 l ≤ 20 * (l.map wtF).sum := by
  induction l with
  | nil => simp [gr6]
  | cons f l ih => unfold gr6 at *; simp only [List.map_cons, List.sum_cons, wtF]; omega
theorem gr6_mono (l : List Fac) (i : Nat) : gr6 (l.take i) ≤ gr6 l := by
  have h : gr6 (l.take i ++ l.drop i) = gr6 (l.take i) + gr6 (l.drop i) := by unfold gr6; rw [List.map_append, List.sum_append]
  rw [List.take_append_drop] at h; omega
theorem sum_mem {α : Type} {f : α → Nat} : ∀ {l : List α} {a : α}, a ∈ l → f a ≤ (l.map f).sum
  | [], a, h => by simp at h
  | b :: l, a, h => by
    simp only [List.map_cons, List.sum_cons]
    rcases List.mem_cons.1 h with e | e
    · subst e; omega
    · have := sum_mem (f := f) e; omega
theorem sum_len {α : Type} {f : α → Nat} (c : Nat) : ∀ {l : List α}, (∀ a, a ∈ l → c ≤ f a) → c * l.length ≤ (l.map f).sum
  | [], _ => by simp
  | b :: l, h => by
    have h1 := h b List.mem_cons_self
    have h2 := sum_len c (l := l) fun a ha => h a (List.mem_cons_of_mem _ ha)
    simp only [List.map_cons, List.sum_cons, List.length_cons, Nat.mul_succ]; omega
theorem gr6_few {l : List Fac} (h : ¬ 3000 < gr6 l) : l.length ≤ 150 ∧ ∀ f, f ∈ l → f.sp.length ≤ 750 ∧ f.v.s.length ≤ 3000 := by
  have h1 := sum_len (f := fun f : Fac => 20 + f.v.s.length + 4 * f.sp.length) 20 (l := l) fun a _ => by omega
  refine ⟨by unfold gr6 at h; omega, fun f hf => ?_⟩
  have h2 := sum_mem (f := fun f : Fac => 20 + f.v.s.length + 4 * f.sp.length) hf
  unfold gr6 at h; omega
end Go.Proofs

namespace Go.Proofs
open Go.AL Go.Sort
attribute [local irreducible] Go.AL.W Go.AL.WL Go.AL.WD Go.AL.POp Go.AL.PPOp Go.AL.POpS Go.AL.PC Go.AL.AC Go.AL.YW Go.AL.Ret Go.AL.Le Go.AL.thn Go.AL.inBlk Go.AL.scp
set_option maxHeartbeats 4000000 in
theorem rset_pc [GlobF Tryz.prog] (l : List Sp) (hl : l.length < 4611686018427387904) : PC Tryz.prog 33 [sl2 l] (.sc (.bool (dP (SetP l)))) := by
  refine PC.of_body Tryz.func33 Tryz.ntmps33 rfl rfl rfl ?_
  repeat' first
    | (apply p1 (hd := rfl); case hop => (apply D_assign; rfl))
    | refine W_seq ?_
    | refine W_region ?_
    | refine WL_nil ?_
    | refine tn ?_
    | refine W_block ?_
    | fail
  refine W_loopL (X := Nat) (fun i => [(0, sl2 l), (3, .sc (.int .i64 (i : Int)))]) (fun _ => [])
    (fun i => i ≤ l.length ∧ ∀ (j : Nat) (h : j < l.length), j < i → l[j].f < l[j].t ∧ ∀ h0 : 0 < j, (l[j - 1]'(by omega)).t < l[j].f) (fun i => l.length - i) 0 ⟨by omega, fun j h h' => by omega⟩ ⟨rfl, rfl, trivial⟩ rfl ?_
  rintro i ⟨hi, hz⟩
  have hnext : ∀ (h : i < l.length), l[i].f < l[i].t → (∀ h0 : 0 < i, (l[i - 1]'(by omega)).t < l[i].f) → ∀ (j : Nat) (h : j < l.length), j < i + 1 → l[j].f < l[j].t ∧ ∀ h0 : 0 < j, (l[j - 1]'(by omega)).t < l[j].f := fun h k1 k2 j hj hji => by
    by_cases e : j = i
    · subst e; exact ⟨k1, k2⟩
    · exact hz j hj (by omega)
  have hend : l.length ≤ i → true = dP (SetP l) := fun h => dP_T ((setI_iff l).1 fun j hj => hz j hj (by omega))
  by_cases h0 : i = 0
  · subst h0
    repeat' first
      | (apply p1 (hd := rfl); case hop => first | (apply D_move; rfl) | (apply D_assign; rfl) | (apply D_int; rfl; rfl; rfl) | (apply D_lenM; rfl))
      | refine W_seq ?_
      | refine W_region ?_
      | (refine idC ?_; first | refine c1 rfl ?_ | refine c0 rfl ?_ | refine cs rfl (fun _ => ?_) (fun _ => ?_))
      | refine WL_nil ?_
      | refine tn ?_
      | refine tr ?_
      | refine br ?_
      | refine bn ?_
      | refine te ?_
      | (refine idB ?_; refine bh rfl ?_)
      | refine W_skip ?_
      | refine W_block ?_
      | refine W_exit ?_
      | refine W_ret ?_
      | (refine idR ?_; refine ret1 rfl rfl rfl ?_)
      | refine Le.bool ?_
      | (refine idW ?_; refine W_draw0 rfl ?_)
      | (apply d1 (hd := rfl); case hop => first | (apply D_move; rfl) | (apply D_load1; rfl) | (apply D_fld; rfl) | (apply D_pickT; rfl; rfl) | (apply D_pickF; rfl; rfl) | (apply D_int; rfl; rfl; rfl) | (apply D_idxAn; rfl; rfl; (first | omega | (simp; done))) | (apply D_idxA; rfl; rfl; omega; (first | omega | (simp; done) | (simp; omega))))
      | (refine idDg ?_; first | refine dg0t rfl rfl rfl ?_ | refine dg0f rfl rfl rfl ?_ | refine dg0u rfl rfl rfl ?_ | refine dgr rfl rfl ?_ | refine dgs rfl rfl (fun _ => ?_) (fun _ => ?_))
      | refine WD_nil (by first | decide +kernel | kernel_rfl | rfl) ?_
      | fail
    all_goals first
      | exact hend (by omega)
      | exact dP_F (setN 0 (by omega) (.inl (by assumption)))
      | (exfalso; omega)
      | exact ⟨rfl, 0 + 1, ⟨by omega, hnext (by omega) (by assumption) (fun h => by omega)⟩, by omega, ⟨rfl, ieq (wsucc 0 (by omega)), trivial⟩, rfl⟩
      | skip
    all_goals trace_state
  · have hsub : IntKind.i64.wrap ((i : Int) - 1) = ((i - 1 : Nat) : Int) := by rw [w64 _ (by omega) (by omega)]; omega
    have hix : (IntKind.i64.wrap ((i : Int) - 1)).toNat = i - 1 := by rw [hsub]; rfl
    repeat' first
      | (apply p1 (hd := rfl); case hop => first | (apply D_move; rfl) | (apply D_assign; rfl) | (apply D_int; rfl; rfl; rfl) | (apply D_lenM; rfl))
      | refine W_seq ?_
      | refine W_region ?_
      | (refine idC ?_; first | refine c1 rfl ?_ | refine c0 rfl ?_ | refine cs rfl (fun _ => ?_) (fun _ => ?_))
      | refine WL_nil ?_
      | refine tn ?_
      | refine tr ?_
      | refine br ?_
      | refine bn ?_
      | refine te ?_
      | (refine idB ?_; refine bh rfl ?_)
      | refine W_skip ?_
      | refine W_block ?_
      | refine W_exit ?_
      | refine W_ret ?_
      | (refine idR ?_; refine ret1 rfl rfl rfl ?_)
      | refine Le.bool ?_
      | (refine idW ?_; refine W_draw0 rfl ?_)
      | (apply d1 (hd := rfl); case hop => first | (apply D_move; rfl) | (apply D_load1; rfl) | (apply D_fld; rfl) | (apply D_pickT; rfl; rfl) | (apply D_pickF; rfl; rfl) | (apply D_int; rfl; rfl; rfl) | (apply D_idxAn; rfl; rfl; (first | omega | (simp; done))) | (apply D_idxA; rfl; rfl; omega; (first | omega | (simp; done) | (simp; omega))))
      | (refine idDg ?_; first | refine dg0t rfl rfl rfl ?_ | refine dg0f rfl rfl rfl ?_ | refine dg0u rfl rfl rfl ?_ | refine dgr rfl rfl ?_ | refine dgs rfl rfl (fun _ => ?_) (fun _ => ?_))
      | refine WD_nil (by first | decide +kernel | kernel_rfl | rfl) ?_
      | fail
    · rename_i k1 k2
      exact dP_F (setN i (by omega) (.inl k2))
    · rename_i k1 k2 k3 k4
      simp only [hix] at k4
      exact dP_F (setN i (by omega) (.inr ⟨by omega, k4⟩))
    · rename_i k1 k2 k3 k4
      simp only [hix] at k4
      exact ⟨rfl, i + 1, ⟨by omega, hnext (by omega) k2 (fun _ => k4)⟩, by omega, ⟨rfl, ieq (wsucc i (by omega)), trivial⟩, rfl⟩
    · exfalso; omega
    · exact hend (by omega)
set_option maxHeartbeats 4000000 in
theorem rin_pc [GlobF Tryz.prog] (l : List Sp) (at_ : Int) (hl : l.length < 4611686018427387904) : PC Tryz.prog 24 [sl2 l, .sc (.int .i64 at_)] (.sc (.bool (dP (inS l at_)))) := by
  refine PC.of_body Tryz.func24 Tryz.ntmps24 rfl rfl rfl ?_
  repeat' first
    | (apply p1 (hd := rfl); case hop => (apply D_assign; rfl))
    | refine W_seq ?_
    | refine W_region ?_
    | refine WL_nil ?_
    | refine tn ?_
    | refine W_block ?_
    | fail
  refine W_loopL (X := Nat) (fun i => [(0, sl2 l), (1, .sc (.int .i64 at_)), (5, .sc (.int .i64 (i : Int)))]) (fun _ => [])
    (fun i => i ≤ l.length ∧ ∀ (j : Nat) (h : j < l.length), j < i → ¬ (l[j].f ≤ at_ ∧ at_ < l[j].t)) (fun i => l.length - i) 0 ⟨by omega, fun j h h' => by omega⟩ ⟨rfl, rfl, rfl, trivial⟩ rfl ?_
  rintro i ⟨hi, hz⟩
  have hnext : ∀ (h : i < l.length), ¬ (l[i].f ≤ at_ ∧ at_ < l[i].t) → ∀ (j : Nat) (h : j < l.length), j < i + 1 → ¬ (l[j].f ≤ at_ ∧ at_ < l[j].t) := fun h k1 j hj hji => by
    by_cases e : j = i
    · subst e; exact k1
    · exact hz j hj (by omega)
  repeat' first
    | (apply p1 (hd := rfl); case hop => first | (apply D_move; rfl) | (apply D_assign; rfl) | (apply D_load1; rfl) | (apply D_fld; rfl) | (apply D_pickT; rfl; rfl) | (apply D_pickF; rfl; rfl) | (apply D_int; rfl; rfl; rfl) | (apply D_lenM; rfl) | (apply D_idxAn; rfl; rfl; (first | omega | (simp; done))))
    | refine W_seq ?_
    | refine W_region ?_
    | (refine idC ?_; first | refine c0 rfl ?_ | refine cs rfl (fun _ => ?_) (fun _ => ?_))
    | refine WL_nil ?_
    | (refine idG ?_; first | refine g0t rfl rfl rfl ?_ | refine gr rfl rfl ?_ | refine gs rfl rfl (fun _ => ?_) (fun _ => ?_))
    | refine tn ?_
    | refine tr ?_
    | refine br ?_
    | refine bn ?_
    | refine te ?_
    | (refine idB ?_; refine bh rfl ?_)
    | refine W_skip ?_
    | refine W_block ?_
    | refine W_exit ?_
    | refine W_ret ?_
    | (refine idR ?_; refine ret1 rfl rfl rfl ?_)
    | refine Le.bool ?_
    | fail
  all_goals first
    | exact dP_T ⟨l[i]'(by omega), List.getElem_mem _, by assumption, by assumption⟩
    | exact ⟨rfl, i + 1, ⟨by omega, hnext (by omega) (by omega)⟩, by omega, ⟨rfl, rfl, ieq (wsucc i (by omega)), trivial⟩, rfl⟩
    | (refine dP_F ?_; rintro ⟨s, hs, h1, h2⟩; obtain ⟨j, hj, rfl⟩ := List.getElem_of_mem hs; exact hz j hj (by omega) ⟨h1, h2⟩)
    | skip
  all_goals trace_state
theorem wc_int : WC cmpI := by
  refine ⟨fun a b => ?_, fun a b c h1 h2 => ?_⟩
  · unfold cmpI; split <;> split <;> (try split) <;> (try split) <;> omega
  · unfold cmpI at *
    split at h1 <;> (try split at h1) <;> split at h2 <;> (try split at h2) <;> split <;> (try split) <;> omega
theorem cmpI_zz : ∀ a b : Int, cmpI a b = 0 → a = b := fun a b h => (cmpI_z a b).1 h
theorem cmpI_lt (a b : Int) : cmpI a b < 0 ↔ a < b := by unfold cmpI; split <;> (try split) <;> omega
def ptsL : List Sp → List Int
  | [] => []
  | s :: l => s.f :: s.t :: ptsL l
theorem pts_len : ∀ l : List Sp, (ptsL l).length = 2 * l.length
  | [] => rfl
  | s :: l => by simp only [ptsL, List.length_cons, pts_len l]; omega
theorem pts_get : ∀ (l : List Sp) (i : Nat) (h : i < l.length), (ptsL l)[2 * i]? = some l[i].f ∧ (ptsL l)[2 * i + 1]? = some l[i].t
  | s :: l, 0, h => ⟨rfl, rfl⟩
  | s :: l, i + 1, h => by
    have := pts_get l i (by simpa using h)
    rw [show 2 * (i + 1) = 2 * i + 1 + 1 by omega]
    exact this
theorem pts_at (l : List Sp) (i : Nat) (h : i < (ptsL l).length) : (ptsL l)[i] = if i % 2 = 1 then (l[i / 2]'(by rw [pts_len] at h; omega)).t else (l[i / 2]'(by rw [pts_len] at h; omega)).f := by
  have hl : i / 2 < l.length := by rw [pts_len] at h; omega
  obtain ⟨g1, g2⟩ := pts_get l (i / 2) hl
  by_cases e : i % 2 = 1
  · rw [if_pos e]
    have e2 : 2 * (i / 2) + 1 = i := by omega
    rw [e2, List.getElem?_eq_getElem h] at g2
    exact Option.some.inj g2
  · rw [if_neg e]
    have e2 : 2 * (i / 2) = i := by omega
    rw [e2, List.getElem?_eq_getElem h] at g1
    exact Option.some.inj g1
theorem pts_mem : ∀ (l : List Sp) (s : Sp), s ∈ l → s.f ∈ ptsL l ∧ s.t ∈ ptsL l
  | r :: l, s, h => by
    rcases List.mem_cons.1 h with rfl | h
    · simp [ptsL]
    · have := pts_mem l s h; simp [ptsL, this]
def endsL (l : List Sp) : List Int := insL cmpI (ptsL l)
theorem ends_mem (l : List Sp) (n : Int) : n ∈ endsL l ↔ n ∈ ptsL l := by
  unfold endsL insL
  rw [fold_sortC wc_int cmpI_zz, sortC_mem]
theorem ends_rise (l : List Sp) : (endsL l).Pairwise (· < ·) := by
  have h : Rise cmpI (endsL l) := by
    unfold endsL insL
    rw [fold_sortC wc_int cmpI_zz]; exact sortC_rise wc_int cmpI_zz _
  exact h.imp fun {a b} h => by unfold cmpI at h; split at h <;> (try split at h) <;> omega
abbrev sl1 (l : List Int) : AV := .sl none 1 (l.map iC)
attribute [local irreducible] insL insC in
set_option maxHeartbeats 8000000 in
theorem ends_pc [GlobF Tryz.prog] (l : List Sp) (hl : l.length < 4398046511104) : PC Tryz.prog 88 [sl2 l] (sl1 (endsL l)) := by
  have hpl := pts_len l
  refine PC.of_body Tryz.func88 Tryz.ntmps88 rfl rfl rfl ?_
  repeat' first
    | (apply p1 (hd := rfl); case hop => (apply D_assign; rfl))
    | refine W_seq ?_
    | refine W_region ?_
    | refine WL_nil ?_
    | refine tn ?_
    | refine W_block ?_
    | fail
  refine W_adopt 3 1 2 rfl ?_
  refine W_ren (rg' := [(0, sl2 l), (3, sl1 []), (4, .sc (.int .i64 0))]) (h' := []) [] ⟨by decide, fun r hr => absurd hr (Nat.not_lt_zero r), fun r hr => (by cases hr), ⟨⟨_, rfl, .pur⟩, ⟨_, rfl, .slN⟩, ⟨_, rfl, .pur⟩, trivial⟩, trivial⟩ ?_
  refine W_loopR (X := Nat) (fun i => [(0, sl2 l), (3, sl1 (insL cmpI ((ptsL l).take i))), (4, .sc (.int .i64 (i : Int)))]) (fun _ => [])
    (fun i => i ≤ (ptsL l).length) (fun i => (ptsL l).length - i) 0 (Nat.zero_le _) ⟨rfl, by simp [insL, lookO], rfl, trivial⟩ rfl ?_
  intro i hi
  have hlen := insL_len cmpI (ptsL l) i hi
  have hsn := insL_snoc cmpI (ptsL l) i
  have hfin : i = (ptsL l).length → insL cmpI ((ptsL l).take i) = endsL l := fun e => by rw [e, List.take_length]; rfl
  have hpa := pts_at l i
  generalize insL cmpI ((ptsL l).take i) = O at *
  have hmul : IntKind.i64.wrap (2 * (l.length : Int)) = ((ptsL l).length : Int) := by rw [w64 _ (by omega) (by omega), hpl]; omega
  have hquo : IntKind.i64.wrap (((i : Nat) : Int).tdiv 2) = ((i / 2 : Nat) : Int) := by
    rw [Int.tdiv_eq_ediv_of_nonneg (by omega), w64 _ (by omega) (by omega)]; rfl
  have hrem : ((i : Nat) : Int).tmod 2 = ((i % 2 : Nat) : Int) := by
    rw [Int.tmod_eq_emod_of_nonneg (by omega)]; rfl
  by_cases hil : i < (ptsL l).length
  · have hd : i / 2 < l.length := by omega
    repeat' first
      | (apply p1 (hd := rfl); case hop => first | (apply D_move; rfl) | (apply D_assign; rfl) | exact D_sc (D_int rfl rfl rfl) (congrArg _ hmul) | exact D_sc (D_quo rfl rfl (by decide)) (congrArg _ hquo) | exact D_sc (D_rem rfl rfl (by decide)) (congrArg _ hrem) | (apply D_load1; rfl) | (apply D_fld; rfl) | (apply D_int; rfl; rfl; rfl) | (apply D_lenM; rfl) | (apply D_idxAn; rfl; rfl; (first | omega | (simp; done))))
      | refine W_seq ?_
      | refine W_region ?_
      | (refine idC ?_; refine cs rfl (fun _ => ?_) (fun _ => ?_))
      | refine WL_nil ?_
      | refine tn ?_
      | refine te ?_
      | (refine idB ?_; refine bh rfl ?_)
      | refine W_skip ?_
      | refine W_block ?_
      | refine W_exit ?_
      | refine W_ret ?_
      | (refine idR ?_; refine ret1 rfl rfl rfl ?_)
      | fail
    · rename_i hx1 hx2
      have hv : (ptsL l)[i] = (l[i / 2]'hd).t := by rw [hpa hil]; exact if_pos (by omega)
      have hsn := hsn hil
      rw [hv] at hsn
      refine W_loopL (X := Nat) (fun n => [(0, sl2 l), (3, sl1 O), (4, .sc (.int .i64 (i : Int))), (5, .sc (.int .i64 (l[i / 2]'hd).t)), (6, .sc (.int .i64 (n : Int)))]) (fun _ => [])
        (fun n => n ≤ O.length ∧ ∀ (j : Nat) (h : j < O.length), j < n → cmpI O[j] (l[i / 2]'hd).t < 0) (fun n => O.length - n) 0 ⟨Nat.zero_le _, fun j h hj => absurd hj (Nat.not_lt_zero j)⟩ ⟨rfl, rfl, rfl, rfl, rfl, trivial⟩ rfl ?_
      rintro n ⟨hn, hz⟩
      have hat := insC_at (c := cmpI) (l[i / 2]'hd).t n O hn hz
      generalize (l[i / 2]'hd).t = v at *
      repeat' first
        | (refine W_adopt 7 1 2 rfl ?_)
        | (apply p1 (hd := rfl); case hop => first | (apply D_move; rfl) | (apply D_assign; rfl) | (apply D_load1; rfl) | (apply D_pickT; rfl; rfl) | (apply D_pickF; rfl; rfl) | (apply D_int; rfl; rfl; rfl) | (apply D_lenM; rfl) | (apply D_idxAn; rfl; rfl; (first | omega | (simp; done))) | (apply D_lit; rfl; rfl; rfl; rfl) | (apply D_slVhM; rfl; rfl; all_goals first | omega | ((repeat rw [w64 _ (by omega) (by omega)]); omega) | decide) | (apply D_slVlM; rfl; rfl; all_goals first | omega | ((repeat rw [w64 _ (by omega) (by omega)]); omega) | decide))
        | refine W_seq ?_
        | refine W_region ?_
        | (refine idC ?_; first | refine c0 rfl ?_ | refine cs rfl (fun _ => ?_) (fun _ => ?_))
        | refine WL_nil ?_
        | (refine idG ?_; first | refine g0t rfl rfl rfl ?_ | refine gr rfl rfl ?_ | refine gs rfl rfl (fun _ => ?_) (fun _ => ?_))
        | refine tn ?_
        | refine bn ?_
        | refine te ?_
        | (refine idB ?_; refine bh rfl ?_)
        | refine W_skip ?_
        | refine W_block ?_
        | refine W_exit ?_
        | (refine idAp ?_; refine m_app rfl rfl (by first | rfl | assumption | exact get_set (by assumption) | exact get_set (get_set (by assumption)) | exact get_set (get_set (get_set (by assumption))) | ((repeat first | assumption | exact get_last | (refine get_last2 ?_; focus (simp; done)) | apply get_set | apply get_app | (apply get_ne; focus omega)); done)) ?_ rfl rfl ?_ ?_ rfl ?_; (first | rfl | focus (simp only [List.length_map, List.length_append, List.length_cons, List.length_nil, List.length_take, List.length_drop]; omega) | focus (simp; done) | focus (simp; omega)); (first | focus (simp only [List.length_map, List.length_append, List.length_cons, List.length_nil, List.length_take, List.length_drop]; omega) | focus (simp; done) | focus (simp; omega)); (first | focus (simp only [List.length_map, List.length_append, List.length_cons, List.length_nil, List.length_take, List.length_drop]; omega) | focus (simp; done) | focus (simp; omega)))
        | fail
      all_goals first
        | (have hx : O[n] < v := by assumption
           refine ⟨rfl, n + 1, ⟨by omega, fun j h hj => ?_⟩, by omega, ⟨rfl, rfl, rfl, rfl, ieq (wsucc n (by omega)), trivial⟩, rfl⟩
           by_cases e : j = n
           · subst e; exact (cmpI_lt _ _).2 hx
           · exact hz j h (by omega))
        | (exfalso; omega)
        | (have hx : O[n] = v := by assumption
           have hnl : n < O.length := by omega
           have e := (hat.1 hnl (by rw [cmpI_lt]; omega)).1 ((cmpI_z _ _).2 hx)
           refine ⟨rfl, i + 1, by omega, by omega, [], ?_⟩
           refine ⟨by decide, fun r hr => absurd hr (Nat.not_lt_zero r), fun r hr => (by cases hr), ⟨⟨_, rfl, .pur⟩, ⟨_, rfl, ?_⟩, ⟨_, rfl, ?_⟩, trivial⟩, trivial⟩
           · rw [hsn, e]; exact .slN
           · rw [wsucc i (by omega)]; exact .pur)
        | (have hx : O[n] ≠ v := by assumption
           have hnl : n < O.length := by omega
           have e := (hat.1 hnl (by rw [cmpI_lt]; omega)).2 (fun e => hx ((cmpI_z _ _).1 e))
           refine ⟨rfl, i + 1, by omega, by omega, [], ?_⟩
           refine ⟨by decide, fun r hr => absurd hr (Nat.not_lt_zero r), fun r hr => (by cases hr), ⟨⟨_, rfl, .pur⟩, ⟨_, rfl, ?_⟩, ⟨_, rfl, ?_⟩, trivial⟩, trivial⟩
           · have e2 : (insL cmpI ((ptsL l).take (i + 1))).map iC = [] ++ (O.take (n : Int).toNat).map iC ++ [iC v] ++ (O.drop (n : Int).toNat).map iC := by rw [hsn, e]; simp
             show Mv [] _ (.sl none 1 ((insL cmpI ((ptsL l).take (i + 1))).map iC)); rw [e2]; exact .slN
           · rw [wsucc i (by omega)]; exact .pur)
        | (have hnl : n = O.length := by omega
           have e := hat.2 hnl
           refine ⟨rfl, i + 1, by omega, by omega, [], ?_⟩
           refine ⟨by decide, fun r hr => absurd hr (Nat.not_lt_zero r), fun r hr => (by cases hr), ⟨⟨_, rfl, .pur⟩, ⟨_, rfl, ?_⟩, ⟨_, rfl, ?_⟩, trivial⟩, trivial⟩
           · have e2 : (insL cmpI ((ptsL l).take (i + 1))).map iC = [] ++ (O.take (n : Int).toNat).map iC ++ [iC v] ++ (O.drop (n : Int).toNat).map iC := by rw [hsn, e, hnl]; simp
             show Mv [] _ (.sl none 1 ((insL cmpI ((ptsL l).take (i + 1))).map iC)); rw [e2]; exact .slN
           · rw [wsucc i (by omega)]; exact .pur)
        | skip
      all_goals trace_state
    · rename_i hx1 hx2
      have hv : (ptsL l)[i] = (l[i / 2]'hd).f := by rw [hpa hil]; exact if_neg (by omega)
      have hsn := hsn hil
      rw [hv] at hsn
      refine W_loopL (X := Nat) (fun n => [(0, sl2 l), (3, sl1 O), (4, .sc (.int .i64 (i : Int))), (5, .sc (.int .i64 (l[i / 2]'hd).f)), (6, .sc (.int .i64 (n : Int)))]) (fun _ => [])
        (fun n => n ≤ O.length ∧ ∀ (j : Nat) (h : j < O.length), j < n → cmpI O[j] (l[i / 2]'hd).f < 0) (fun n => O.length - n) 0 ⟨Nat.zero_le _, fun j h hj => absurd hj (Nat.not_lt_zero j)⟩ ⟨rfl, rfl, rfl, rfl, rfl, trivial⟩ rfl ?_
      rintro n ⟨hn, hz⟩
      have hat := insC_at (c := cmpI) (l[i / 2]'hd).f n O hn hz
      generalize (l[i / 2]'hd).f = v at *
      repeat' first
        | (refine W_adopt 7 1 2 rfl ?_)
        | (apply p1 (hd := rfl); case hop => first | (apply D_move; rfl) | (apply D_assign; rfl) | (apply D_load1; rfl) | (apply D_pickT; rfl; rfl) | (apply D_pickF; rfl; rfl) | (apply D_int; rfl; rfl; rfl) | (apply D_lenM; rfl) | (apply D_idxAn; rfl; rfl; (first | omega | (simp; done))) | (apply D_lit; rfl; rfl; rfl; rfl) | (apply D_slVhM; rfl; rfl; all_goals first | omega | ((repeat rw [w64 _ (by omega) (by omega)]); omega) | decide) | (apply D_slVlM; rfl; rfl; all_goals first | omega | ((repeat rw [w64 _ (by omega) (by omega)]); omega) | decide))
        | refine W_seq ?_
        | refine W_region ?_
        | (refine idC ?_; first | refine c0 rfl ?_ | refine cs rfl (fun _ => ?_) (fun _ => ?_))
        | refine WL_nil ?_
        | (refine idG ?_; first | refine g0t rfl rfl rfl ?_ | refine gr rfl rfl ?_ | refine gs rfl rfl (fun _ => ?_) (fun _ => ?_))
        | refine tn ?_
        | refine bn ?_
        | refine te ?_
        | (refine idB ?_; refine bh rfl ?_)
        | refine W_skip ?_
        | refine W_block ?_
        | refine W_exit ?_
        | (refine idAp ?_; refine m_app rfl rfl (by first | rfl | assumption | exact get_set (by assumption) | exact get_set (get_set (by assumption)) | exact get_set (get_set (get_set (by assumption))) | ((repeat first | assumption | exact get_last | (refine get_last2 ?_; focus (simp; done)) | apply get_set | apply get_app | (apply get_ne; focus omega)); done)) ?_ rfl rfl ?_ ?_ rfl ?_; (first | rfl | focus (simp only [List.length_map, List.length_append, List.length_cons, List.length_nil, List.length_take, List.length_drop]; omega) | focus (simp; done) | focus (simp; omega)); (first | focus (simp only [List.length_map, List.length_append, List.length_cons, List.length_nil, List.length_take, List.length_drop]; omega) | focus (simp; done) | focus (simp; omega)); (first | focus (simp only [List.length_map, List.length_append, List.length_cons, List.length_nil, List.length_take, List.length_drop]; omega) | focus (simp; done) | focus (simp; omega)))
        | fail
      all_goals first
        | (have hx : O[n] < v := by assumption
           refine ⟨rfl, n + 1, ⟨by omega, fun j h hj => ?_⟩, by omega, ⟨rfl, rfl, rfl, rfl, ieq (wsucc n (by omega)), trivial⟩, rfl⟩
           by_cases e : j = n
           · subst e; exact (cmpI_lt _ _).2 hx
           · exact hz j h (by omega))
        | (exfalso; omega)
        | (have hx : O[n] = v := by assumption
           have hnl : n < O.length := by omega
           have e := (hat.1 hnl (by rw [cmpI_lt]; omega)).1 ((cmpI_z _ _).2 hx)
           refine ⟨rfl, i + 1, by omega, by omega, [], ?_⟩
           refine ⟨by decide, fun r hr => absurd hr (Nat.not_lt_zero r), fun r hr => (by cases hr), ⟨⟨_, rfl, .pur⟩, ⟨_, rfl, ?_⟩, ⟨_, rfl, ?_⟩, trivial⟩, trivial⟩
           · rw [hsn, e]; exact .slN
           · rw [wsucc i (by omega)]; exact .pur)
        | (have hx : O[n] ≠ v := by assumption
           have hnl : n < O.length := by omega
           have e := (hat.1 hnl (by rw [cmpI_lt]; omega)).2 (fun e => hx ((cmpI_z _ _).1 e))
           refine ⟨rfl, i + 1, by omega, by omega, [], ?_⟩
           refine ⟨by decide, fun r hr => absurd hr (Nat.not_lt_zero r), fun r hr => (by cases hr), ⟨⟨_, rfl, .pur⟩, ⟨_, rfl, ?_⟩, ⟨_, rfl, ?_⟩, trivial⟩, trivial⟩
           · have e2 : (insL cmpI ((ptsL l).take (i + 1))).map iC = [] ++ (O.take (n : Int).toNat).map iC ++ [iC v] ++ (O.drop (n : Int).toNat).map iC := by rw [hsn, e]; simp
             show Mv [] _ (.sl none 1 ((insL cmpI ((ptsL l).take (i + 1))).map iC)); rw [e2]; exact .slN
           · rw [wsucc i (by omega)]; exact .pur)
        | (have hnl : n = O.length := by omega
           have e := hat.2 hnl
           refine ⟨rfl, i + 1, by omega, by omega, [], ?_⟩
           refine ⟨by decide, fun r hr => absurd hr (Nat.not_lt_zero r), fun r hr => (by cases hr), ⟨⟨_, rfl, .pur⟩, ⟨_, rfl, ?_⟩, ⟨_, rfl, ?_⟩, trivial⟩, trivial⟩
           · have e2 : (insL cmpI ((ptsL l).take (i + 1))).map iC = [] ++ (O.take (n : Int).toNat).map iC ++ [iC v] ++ (O.drop (n : Int).toNat).map iC := by rw [hsn, e, hnl]; simp
             show Mv [] _ (.sl none 1 ((insL cmpI ((ptsL l).take (i + 1))).map iC)); rw [e2]; exact .slN
           · rw [wsucc i (by omega)]; exact .pur)
        | skip
      all_goals trace_state
    · exfalso; omega
  · repeat' first
      | (apply p1 (hd := rfl); case hop => first | (apply D_move; rfl) | (apply D_assign; rfl) | exact D_sc (D_int rfl rfl rfl) (congrArg _ hmul) | (apply D_load1; rfl) | (apply D_fld; rfl) | (apply D_int; rfl; rfl; rfl) | (apply D_lenM; rfl) | (apply D_idxA; rfl; rfl; omega; (first | omega | (simp; done) | (simp; omega))) | (apply D_quo; rfl; rfl; first | omega | ((repeat rw [w64 _ (by omega) (by omega)]); omega) | decide) | (apply D_rem; rfl; rfl; first | omega | ((repeat rw [w64 _ (by omega) (by omega)]); omega) | decide))
      | refine W_seq ?_
      | refine W_region ?_
      | (refine idC ?_; refine cs rfl (fun _ => ?_) (fun _ => ?_))
      | refine WL_nil ?_
      | refine tn ?_
      | refine te ?_
      | (refine idB ?_; refine bh rfl ?_)
      | refine W_skip ?_
      | refine W_block ?_
      | refine W_exit ?_
      | refine W_ret ?_
      | (refine idR ?_; refine ret1 rfl rfl rfl ?_)
      | fail
    all_goals first
      | (exfalso; omega)
      | (rw [← hfin (by omega)]; exact Le.of_eq rfl)
      | skip
    all_goals trace_state
end Go.Proofs

namespace Go.Proofs
open Go.AL Go.Sort
attribute [local irreducible] Go.AL.W Go.AL.WL Go.AL.WD Go.AL.POp Go.AL.PPOp Go.AL.POpS Go.AL.PC Go.AL.AC Go.AL.YW Go.AL.Ret Go.AL.Le Go.AL.thn Go.AL.inBlk Go.AL.scp
noncomputable def selB (w : Int) (a b : List Sp) (v : Int) : Bool :=
  if w = 0 then (dP (inS a v) || dP (inS b v)) else if w = 1 then (dP (inS a v) && dP (inS b v)) else (dP (inS a v) && !dP (inS b v))
noncomputable def gE (l : List Sp) (i : Nat) : Int := (endsL l)[i]?.getD 0
noncomputable def ofJ (w : Int) (a b : List Sp) (i : Nat) : List Sp := ofI (gE (a ++ b)) (selB w a b) i
noncomputable def ofL (w : Int) (a b : List Sp) : List Sp := ofJ w a b ((endsL (a ++ b)).length - 1)
theorem gE_at {l : List Sp} {i : Nat} (h : i < (endsL l).length) : gE l i = (endsL l)[i] := by unfold gE; rw [List.getElem?_eq_getElem h]; rfl
theorem ofJ_len (w : Int) (a b : List Sp) (i : Nat) : (ofJ w a b i).length ≤ i := ofI_len _ _ _
theorem ofJ_succ (w : Int) (a b : List Sp) (i : Nat) (E : List Int) (hE : endsL (a ++ b) = E) (h : i + 1 < E.length) :
    ofJ w a b (i + 1) = if selB w a b E[i] = true then jo (ofJ w a b i) E[i] E[i + 1] else ofJ w a b i := by
  subst hE
  unfold ofJ
  rw [ofI, gE_at h, gE_at (i := i) (by omega)]
theorem ends_len (l : List Sp) : (endsL l).length ≤ 2 * l.length := by
  unfold endsL insL
  rw [fold_sortC wc_int cmpI_zz]
  have := sortC_len cmpI (ptsL l)
  rw [pts_len] at this; exact this
theorem ofL_gen (w : Int) (a b : List Sp) {C : Prop → Prop → Prop} (hsel : ∀ v, selB w a b v = true ↔ C (inS a v) (inS b v)) (h0 : ∀ p q, C p q → p ∨ q) (hC : ∀ p q p' q', (p ↔ p') → (q ↔ q') → C p q → C p' q') :
    SetP (ofL w a b) ∧ ∀ x, inS (ofL w a b) x ↔ C (inS a x) (inS b x) := by
  refine of_ok (g := gE (a ++ b)) (n := (endsL (a ++ b)).length) (fun i j hij hj => ?_) (fun s hs => ?_) hsel h0 hC
  · rw [gE_at hj, gE_at (by omega)]
    exact List.pairwise_iff_getElem.1 (ends_rise (a ++ b)) i j (by omega) hj hij
  · obtain ⟨h1, h2⟩ := pts_mem (a ++ b) s hs
    obtain ⟨k, hk, e⟩ := List.getElem_of_mem ((ends_mem _ _).2 h1)
    obtain ⟨m, hm, e2⟩ := List.getElem_of_mem ((ends_mem _ _).2 h2)
    exact ⟨⟨k, hk, by rw [gE_at hk, e]⟩, m, hm, by rw [gE_at hm, e2]⟩
theorem ofL_ok2 (a b : List Sp) : SetP (ofL 2 a b) ∧ ∀ x, inS (ofL 2 a b) x ↔ (inS a x ∧ ¬ inS b x) :=
  ofL_gen 2 a b (C := fun p q => p ∧ ¬ q) (fun v => by simp [selB, dP_t, dP_f]) (fun _ _ h => .inl h.1) (fun p q p' q' h1 h2 h => by rwa [← h1, ← h2])
theorem ren1 {rg rg' : List (Nat × AV)} {h : List AObj} {q e : Nat} {els : List (List AV)} [PurLL els] (hq : h[q]? = some (.row 2 e els)) (hr : RenL [q] rg rg') : Ren ⟨[], 0⟩ [q] rg h rg' [.row 2 e els] :=
  ⟨by simp, fun r hr => absurd hr (Nat.not_lt_zero r), fun r hr => (by cases hr), hr, ⟨⟨_, hq, .row _ _ _⟩, trivial⟩⟩
set_option maxHeartbeats 64000000 in
theorem of_pc [GlobF Tryz.prog] (w : Int) (hw : w = 0 ∨ w = 1 ∨ w = 2) (a b : List Sp) (hl : a.length + b.length < 4398046511104) : PC Tryz.prog 52 [sl2 a, sl2 b, .sc (.int .i64 w)] (sl2 (ofL w a b)) := by
  have he : PC Tryz.prog 88 [.sl none 2 (([] ++ a.map sC) ++ b.map sC)] (sl1 (endsL (a ++ b))) := by
    have := ends_pc (a ++ b) (by rw [List.length_append]; omega)
    have e : ([] ++ a.map sC) ++ b.map sC = (a ++ b).map sC := by simp
    rw [e]; exact this
  have hel := ends_len (a ++ b)
  rw [List.length_append] at hel
  refine PC.of_body Tryz.func52 Tryz.ntmps52 rfl rfl rfl ?_
  repeat' first
    | (refine W_adopt 7 2 69 rfl ?_)
    | (apply p1 (hd := rfl); case hop => first | (apply D_move; rfl) | (apply D_assign; rfl) | (apply D_pc he; rfl; exact .tok rfl .nil))
    | refine W_seq ?_
    | refine W_region ?_
    | refine WL_nil ?_
    | refine tn ?_
    | refine W_block ?_
    | (refine idAp ?_; refine m_app rfl rfl (by first | rfl | assumption | exact get_set (by assumption) | exact get_set (get_set (by assumption)) | exact get_set (get_set (get_set (by assumption))) | ((repeat first | assumption | exact get_last | (refine get_last2 ?_; focus (simp; done)) | apply get_set | apply get_app | (apply get_ne; focus omega)); done)) ?_ rfl rfl ?_ ?_ rfl ?_; (first | rfl | focus (simp only [List.length_map, List.length_append, List.length_cons, List.length_nil]; omega) | focus (simp; done) | focus (simp; omega)); (first | focus (simp only [List.length_map, List.length_append, List.length_cons, List.length_nil]; omega) | focus (simp; done) | focus (simp; omega)); (first | focus (simp only [List.length_map, List.length_append, List.length_cons, List.length_nil]; omega) | focus (simp; done) | focus (simp; omega)))
    | fail
  refine W_ren (rg' := [(0, sl2 a), (1, sl2 b), (2, .sc (.int .i64 w)), (8, sl1 (endsL (a ++ b))), (9, .sc (.slice none 0 0)), (10, .sc (.int .i64 0))]) (h' := []) [] ⟨by decide, fun r hr => absurd hr (Nat.not_lt_zero r), fun r hr => (by cases hr), ⟨⟨_, rfl, .pur⟩, ⟨_, rfl, .pur⟩, ⟨_, rfl, .pur⟩, ⟨_, rfl, .pur⟩, ⟨_, rfl, .pur⟩, ⟨_, rfl, .pur⟩, trivial⟩, trivial⟩ ?_
  refine W_adoptG 9 2 69 rfl ?_
  refine W_loopR (X := Nat) (fun i => [(0, sl2 a), (1, sl2 b), (2, .sc (.int .i64 w)), (8, sl1 (endsL (a ++ b))), (9, rowA 0 (ofJ w a b i).length), (10, .sc (.int .i64 (i : Int)))]) (fun i => [.row 2 69 ((ofJ w a b i).map sC)])
    (fun i => i ≤ (endsL (a ++ b)).length - 1) (fun i => (endsL (a ++ b)).length - i) 0 (Nat.zero_le _) ⟨rfl, rfl, rfl, rfl, rfl, rfl, trivial⟩ rfl ?_
  intro i hi
  have hJ := ofJ_succ w a b i
  have hlen := ofJ_len w a b i
  have hfin : i = (endsL (a ++ b)).length - 1 → ofJ w a b i = ofL w a b := fun e => by rw [e]; rfl
  have hs1 : IntKind.i64.wrap ((i : Int) + 1) = ((i + 1 : Nat) : Int) := wsucc i (by omega)
  generalize ofJ w a b i = O at *
  generalize ofL w a b = OL at *
  generalize endsL (a ++ b) = E at *
  replace hJ := hJ E rfl
  by_cases hil : i + 1 < E.length
  · replace hJ := hJ hil
    have f1 := rin_pc a (E[i]'(by omega)) (by omega)
    have f2 := rin_pc b (E[i]'(by omega)) (by omega)
    unfold selB at hJ
    generalize dP (inS a (E[i]'(by omega))) = x at *
    generalize dP (inS b (E[i]'(by omega))) = y at *
    have hnt : Value.bool (bNot true) = .bool false := by simp [bNot]
    have hnf : Value.bool (bNot false) = .bool true := by simp [bNot]
    have e00 : Value.bool (iEq 0 0) = .bool true := by rw [(iEq_t _ _).mpr rfl]
    have e01 : Value.bool (iEq 0 1) = .bool false := by rw [(iEq_f _ _).mpr (by decide)]
    have e02 : Value.bool (iEq 0 2) = .bool false := by rw [(iEq_f _ _).mpr (by decide)]
    have e10 : Value.bool (iEq 1 0) = .bool false := by rw [(iEq_f _ _).mpr (by decide)]
    have e11 : Value.bool (iEq 1 1) = .bool true := by rw [(iEq_t _ _).mpr rfl]
    have e12 : Value.bool (iEq 1 2) = .bool false := by rw [(iEq_f _ _).mpr (by decide)]
    have e20 : Value.bool (iEq 2 0) = .bool false := by rw [(iEq_f _ _).mpr (by decide)]
    have e21 : Value.bool (iEq 2 1) = .bool false := by rw [(iEq_f _ _).mpr (by decide)]
    have e22 : Value.bool (iEq 2 2) = .bool true := by rw [(iEq_t _ _).mpr rfl]
    rcases snoc_cases O with rfl | ⟨o, p, rfl⟩
    · have hl0 : Value.bool (iLt 0 ((([] : List Sp).length : Nat) : Int)) = .bool false := by rw [(iLt_f _ _).mpr (by simp)]
      rcases hw with rfl | rfl | rfl <;> cases x <;> cases y <;> simp at hJ
      all_goals
        repeat' first
          | (refine idW ?_; refine W_dS0 (id := 16) 12 rfl rfl (by decide +kernel) ?_; simp only [List.take_succ_cons, List.take_zero, List.drop_succ_cons, List.drop_zero])
          | (apply p1 (hd := rfl); case hop => first | (apply D_move; rfl) | (apply D_assign; rfl) | (apply D_pc f1; rfl; exact .same rfl (.same rfl .nil)) | (apply D_pc f2; rfl; exact .same rfl (.same rfl .nil)) | exact D_sc (D_int rfl rfl rfl) (congrArg _ hs1) | exact D_sc (D_int rfl rfl rfl) e00 | exact D_sc (D_int rfl rfl rfl) e01 | exact D_sc (D_int rfl rfl rfl) e02 | exact D_sc (D_int rfl rfl rfl) e10 | exact D_sc (D_int rfl rfl rfl) e11 | exact D_sc (D_int rfl rfl rfl) e12 | exact D_sc (D_int rfl rfl rfl) e20 | exact D_sc (D_int rfl rfl rfl) e21 | exact D_sc (D_int rfl rfl rfl) e22 | exact D_sc (D_not rfl) hnt | exact D_sc (D_not rfl) hnf | exact D_lenG rfl | (apply D_load1; rfl) | (apply D_pickT; rfl; rfl) | (apply D_pickF; rfl; rfl) | (apply D_int; rfl; rfl; rfl) | (apply D_lenM; rfl) | (apply D_idxAn; rfl; rfl; (first | omega | (simp; done))))
          | refine W_seq ?_
          | refine W_region ?_
          | (refine idC ?_; first | refine c1 rfl ?_ | refine c0 rfl ?_ | refine cs rfl (fun _ => ?_) (fun _ => ?_))
          | refine WL_nil ?_
          | (refine idG ?_; first | refine g0t rfl rfl rfl ?_ | refine g0f rfl rfl rfl ?_ | refine g0u rfl rfl rfl ?_ | refine gr rfl rfl ?_)
          | refine tn ?_
          | refine bn ?_
          | refine te ?_
          | (refine idB ?_; refine bh rfl ?_)
          | refine W_skip ?_
          | refine W_block ?_
          | refine W_exit ?_
          | refine W_ret ?_
          | (refine idR ?_; refine ret1 rfl rfl rfl ?_)
          | (refine m_appG (d := 112) (els := []) (els' := [sC ⟨E[i]'(by omega), E[i + 1]'hil⟩]) rfl rfl rfl rfl (by simp) rfl (by simp) (by simp) rfl ?_)
          | (refine idW ?_; refine W_draw0 rfl ?_)
          | (apply d1 (hd := rfl); case hop => first | (apply D_move; rfl) | exact D_sc (D_int rfl rfl rfl) (congrArg _ hs1) | exact D_sc (D_int rfl rfl rfl) hl0 | (apply D_load1; rfl) | (apply D_pickF; rfl; rfl) | (apply D_idxAn; rfl; rfl; (first | omega | (simp; done))) | (apply D_lit; rfl; rfl; rfl; rfl) | exact D_build rfl)
          | (refine idDg ?_; refine dg0t rfl rfl rfl ?_)
          | refine WD_nil (by first | decide +kernel | kernel_rfl | rfl) ?_
          | fail
      all_goals first
        | (exfalso; omega)
        | (refine ⟨rfl, i + 1, by omega, by omega, [0], ren1 ?_ ⟨⟨_, rfl, .pur⟩, ⟨_, rfl, .pur⟩, ⟨_, rfl, .pur⟩, ⟨_, rfl, .pur⟩, ⟨_, rfl, ?_⟩, ⟨_, rfl, .pur⟩, trivial⟩⟩
           · rw [hJ]; rfl
           · rw [hJ]; exact mvRow rfl rfl)
        | (refine ⟨rfl, i + 1, by omega, by omega, [1], ren1 ?_ ⟨⟨_, rfl, .pur⟩, ⟨_, rfl, .pur⟩, ⟨_, rfl, .pur⟩, ⟨_, rfl, .pur⟩, ⟨_, rfl, ?_⟩, ⟨_, rfl, .pur⟩, trivial⟩⟩
           · rw [hJ, jo_nil]; rfl
           · rw [hJ, jo_nil]; exact mvRow rfl rfl)
        | skip
      all_goals trace_state
    · have hlo : (o ++ [p]).length = o.length + 1 := by simp
      rw [hlo] at hlen ⊢
      have hl1 : Value.bool (iLt 0 ((o.length + 1 : Nat) : Int)) = .bool true := by rw [(iLt_t _ _).mpr (by omega)]
      rcases hw with rfl | rfl | rfl <;> cases x <;> cases y <;> simp at hJ
      all_goals
        repeat' first
          | (refine idW ?_; refine W_dS0 (id := 16) 12 rfl rfl (by decide +kernel) ?_; simp only [List.take_succ_cons, List.take_zero, List.drop_succ_cons, List.drop_zero])
          | (refine dL 0 (fun hp' hs => D_ixRowN rfl (hs.trans rfl) (by simp) rfl (by omega)) rfl ?_)
          | (refine dL 0 (fun hp' hs => D_loadG1 rfl (hs.trans rfl) flat_get) rfl ?_)
          | (refine p1L (D_ixRowN rfl rfl (by simp) rfl (by omega)) rfl ?_)
          | (refine pS (S_storeG (r := 0) ((o ++ [(⟨p.f, E[i + 1]'hil⟩ : Sp)]).map sC) rfl rfl rfl rfl rfl rfl (by rw [flat2_len]; simp; omega) (by simp) sC_row flat_st (by simp)) ?_)
          | (apply p1 (hd := rfl); case hop => first | (apply D_move; rfl) | (apply D_assign; rfl) | (apply D_pc f1; rfl; exact .same rfl (.same rfl .nil)) | (apply D_pc f2; rfl; exact .same rfl (.same rfl .nil)) | exact D_sc (D_int rfl rfl rfl) (congrArg _ hs1) | exact D_sc (D_int rfl rfl rfl) e00 | exact D_sc (D_int rfl rfl rfl) e01 | exact D_sc (D_int rfl rfl rfl) e02 | exact D_sc (D_int rfl rfl rfl) e10 | exact D_sc (D_int rfl rfl rfl) e11 | exact D_sc (D_int rfl rfl rfl) e12 | exact D_sc (D_int rfl rfl rfl) e20 | exact D_sc (D_int rfl rfl rfl) e21 | exact D_sc (D_int rfl rfl rfl) e22 | exact D_sc (D_not rfl) hnt | exact D_sc (D_not rfl) hnf | exact D_lenG rfl | exact D_sub1 rfl rfl (by omega) | (apply D_load1; rfl) | (apply D_pickT; rfl; rfl) | (apply D_pickF; rfl; rfl) | (apply D_int; rfl; rfl; rfl) | (apply D_lenM; rfl) | (apply D_idxAn; rfl; rfl; (first | omega | (simp; done))) | exact D_fldB rfl)
          | refine W_seq ?_
          | refine W_region ?_
          | (refine idC ?_; first | refine c1 rfl ?_ | refine c0 rfl ?_ | refine cs rfl (fun _ => ?_) (fun _ => ?_))
          | refine WL_nil ?_
          | (refine idG ?_; first | refine g0t rfl rfl rfl ?_ | refine g0f rfl rfl rfl ?_ | refine g0u rfl rfl rfl ?_ | refine gr rfl rfl ?_)
          | refine tn ?_
          | refine bn ?_
          | refine te ?_
          | (refine idB ?_; refine bh rfl ?_)
          | refine W_skip ?_
          | refine W_block ?_
          | refine W_exit ?_
          | refine W_ret ?_
          | (refine idR ?_; refine ret1 rfl rfl rfl ?_)
          | (refine m_appG (d := 112) (els := (o ++ [p]).map sC) (els' := [sC ⟨E[i]'(by omega), E[i + 1]'hil⟩]) rfl rfl rfl (by simp) (by simp) rfl (by simp; omega) (by simp; omega) rfl ?_)
          | (refine idW ?_; refine W_draw0 rfl ?_)
          | (apply d1 (hd := rfl); case hop => first | (apply D_move; rfl) | exact D_sc (D_int rfl rfl rfl) (congrArg _ hs1) | exact D_sc (D_int rfl rfl rfl) hl1 | exact D_sub1 rfl rfl (by omega) | (apply D_load1; rfl) | (apply D_pickT; rfl; rfl) | (apply D_int; rfl; rfl; rfl) | (apply D_idxAn; rfl; rfl; (first | omega | (simp; done))) | (apply D_lit; rfl; rfl; rfl; rfl) | exact D_build rfl | exact D_fldB rfl)
          | (refine idDg ?_; refine dgr rfl rfl ?_)
          | refine WD_nil (by first | decide +kernel | kernel_rfl | rfl) ?_
          | fail
      all_goals first
        | (exfalso; omega)
        | (refine ⟨rfl, i + 1, by omega, by omega, [0], ren1 ?_ ⟨⟨_, rfl, .pur⟩, ⟨_, rfl, .pur⟩, ⟨_, rfl, .pur⟩, ⟨_, rfl, .pur⟩, ⟨_, rfl, ?_⟩, ⟨_, rfl, .pur⟩, trivial⟩⟩
           · first
               | (rw [hJ]; rfl)
               | (rw [hJ, jo_snoc, if_pos (by assumption)]; rfl)
           · first
               | (rw [hJ]; exact mvRow rfl (by simp))
               | (rw [hJ, jo_snoc, if_pos (by assumption)]; exact mvRow rfl (by simp)))
        | (refine ⟨rfl, i + 1, by omega, by omega, [1], ren1 ?_ ⟨⟨_, rfl, .pur⟩, ⟨_, rfl, .pur⟩, ⟨_, rfl, .pur⟩, ⟨_, rfl, .pur⟩, ⟨_, rfl, ?_⟩, ⟨_, rfl, .pur⟩, trivial⟩⟩
           · rw [hJ, jo_snoc, if_neg (by assumption), show ((o ++ [p]) ++ [(⟨E[i]'(by omega), E[i + 1]'hil⟩ : Sp)]).map sC = (o ++ [p]).map sC ++ [sC ⟨E[i]'(by omega), E[i + 1]'hil⟩] by simp]; rfl
           · rw [hJ, jo_snoc, if_neg (by assumption)]; exact mvRow rfl (by simp))
        | skip
      all_goals trace_state
  · have hE : i = E.length - 1 := by omega
    have hO := hfin hE
    subst hO
    rcases snoc_cases O with rfl | ⟨o, p, rfl⟩
    · repeat' first
        | (apply p1 (hd := rfl); case hop => first | (apply D_move; rfl) | (apply D_assign; rfl) | exact D_sc (D_int rfl rfl rfl) (congrArg _ hs1) | (apply D_load1; rfl) | (apply D_int; rfl; rfl; rfl) | (apply D_lenM; rfl) | (apply D_idxAn; rfl; rfl; (first | omega | (simp; done))))
        | refine W_seq ?_
        | refine W_region ?_
        | (refine idC ?_; refine cs rfl (fun _ => ?_) (fun _ => ?_))
        | refine WL_nil ?_
        | refine tn ?_
        | refine te ?_
        | (refine idB ?_; refine bh rfl ?_)
        | refine W_skip ?_
        | refine W_block ?_
        | refine W_exit ?_
        | refine W_ret ?_
        | (refine idR ?_; refine ret1 rfl rfl rfl ?_)
        | fail
      all_goals first
        | (exfalso; omega)
        | exact Le.row0
        | skip
      all_goals trace_state
    · have hlo : (o ++ [p]).length = o.length + 1 := by simp
      rw [hlo] at hlen ⊢
      repeat' first
        | (refine WL_rowM 9 0 rfl rfl (by simp) (by simp) ?_; intro sp2; refine WL_frz 9 0 2 (els := (o ++ [p]).map sC) (sp := sp2) rfl rfl (by simp) sC_row ?_)
        | (apply p1 (hd := rfl); case hop => first | (apply D_move; rfl) | (apply D_assign; rfl) | exact D_sc (D_int rfl rfl rfl) (congrArg _ hs1) | (apply D_load1; rfl) | (apply D_int; rfl; rfl; rfl) | (apply D_lenM; rfl) | (apply D_idxAn; rfl; rfl; (first | omega | (simp; done))))
        | refine W_seq ?_
        | refine W_region ?_
        | (refine idC ?_; refine cs rfl (fun _ => ?_) (fun _ => ?_))
        | refine WL_nil ?_
        | refine tn ?_
        | refine te ?_
        | (refine idB ?_; refine bh rfl ?_)
        | refine W_skip ?_
        | refine W_block ?_
        | refine W_exit ?_
        | refine W_ret ?_
        | (refine idR ?_; refine ret1 rfl rfl rfl ?_)
        | fail
      all_goals first
        | (exfalso; omega)
        | (rw [List.take_of_length_le (by simp)]; exact Le.of_eq rfl)
        | skip
      all_goals trace_state
end Go.Proofs

namespace Go.Proofs
open Go.AL Go.Sort
attribute [local irreducible] Go.AL.W Go.AL.WL Go.AL.WD Go.AL.POp Go.AL.PPOp Go.AL.POpS Go.AL.PC Go.AL.AC Go.AL.YW Go.AL.Ret Go.AL.Le Go.AL.thn Go.AL.inBlk Go.AL.scp
theorem ofL_min {a b : List Sp} (ha : SetP a) (hb : SetP b) (ra : ∀ x, inS a x → loT ≤ x ∧ x < hiT) (rb : rngS b) : ofL 2 a b = minL a b := by
  obtain ⟨k1, k2⟩ := ofL_ok2 a b
  obtain ⟨j1, j2⟩ := min_ok ha hb ra rb
  exact set_ext k1 j1 fun x => by rw [k2, j2]
end Go.Proofs
