/- The statement FactsInstants: what the code does. -/
import Derived.Test.YtfnmipagllofiaaGreatFF8
import Derived.Test.YtfnmipagllofiaaGreatFP4
import Derived.Test.YtfnmipagllofiaaGreatFF4
namespace Go.Proofs
open Go.AL Go.Sort
attribute [local irreducible] Go.AL.W Go.AL.WL Go.AL.WD Go.AL.POp Go.AL.PPOp Go.AL.POpS Go.AL.PC Go.AL.AC Go.AL.YW Go.AL.Ret Go.AL.Le Go.AL.thn Go.AL.inBlk Go.AL.scp

set_option maxHeartbeats 4000000 in
theorem rin_pc' [GlobF Tryz.prog] (l : List Sp) (at_ : Int) (hl : l.length < 4611686018427387904) : PC Tryz.prog 24 [sl2 l, .sc (.int .i64 at_)] (.sc (.bool (dP (inS l at_)))) := by
  refine PC.of_body Tryz.func24 Tryz.ntmps24 rfl rfl rfl ?_
  repeat' first
    | (apply p1 (hd := rfl); case hop => first | (apply D_move; rfl) | (apply D_assign; rfl) | (apply D_load1; rfl) | (apply D_fld; rfl) | (apply D_pickT; rfl; rfl) | (apply D_pickF; rfl; rfl) | (apply D_int; rfl; rfl; rfl) | (apply D_lenM; rfl) | (apply D_len_sl; rfl) | (apply D_loadW; rfl; rfl) | (apply D_loadA; rfl; rfl) | (apply D_len_nil; rfl) | (apply D_idxAn; rfl; rfl; (first | omega | (simp; done))) | (apply D_idxA; rfl; rfl; omega; (first | omega | (simp; done) | (simp; omega))) | (apply D_idxA0; rfl; rfl; omega; (first | omega | (simp; done) | (simp; omega))) | exact D_fldB rfl | (apply D_lenR; rfl) | (apply D_ixRn; rfl; rfl; (first | omega | (simp; done))) | (apply D_ixR; rfl; rfl; all_goals first | omega | ((repeat rw [w64 _ (by omega) (by omega)]); omega) | decide))
    | refine W_seq ?_
    | refine W_region ?_
    | (refine idC ?_; first | refine c1 rfl ?_ | refine c0 rfl ?_ | refine cs rfl (fun _ => ?_) (fun _ => ?_))
    | refine WL_nil ?_
    | (refine idG ?_; first | refine g0t rfl rfl rfl ?_ | refine g0f rfl rfl rfl ?_ | refine g0u rfl rfl rfl ?_ | refine gr rfl rfl ?_ | refine gs rfl rfl (fun _ => ?_) (fun _ => ?_) | refine grn rfl rfl ?_)
    | refine tn ?_
    | refine tr ?_
    | refine br ?_
    | refine bn ?_
    | refine te ?_
    | (refine idB ?_; first | refine bh rfl ?_ | refine bm rfl ?_)
    | refine W_skip ?_
    | refine W_block ?_
    | refine W_exit ?_
    | refine W_ret ?_
    | refine W_label ?_
    | refine W_scope ?_
    | refine sn ?_
    | refine sr ?_
    | refine se ?_
    | (refine idR ?_; first | refine ret1 rfl rfl rfl ?_ | refine rL1 rfl (by first | exact trivial | exact ⟨rfl, trivial⟩) (by first | exact ResO.tmp rfl | exact ResO.cellBA rfl rfl rfl | exact ResO.cellB1 rfl rfl rfl | exact ResO.cellEA rfl rfl | exact ResO.cellE1 rfl) ?_)
    | (refine idLd ?_; first | refine p1L (D_loadB1 rfl rfl rfl) rfl ?_ | refine p1L (D_loadBA rfl rfl rfl) rfl ?_ | refine p1L (D_loadB1 rfl (by (repeat first | assumption | exact get_last | (refine get_last2 ?_; focus (simp; done)) | apply get_set | apply get_app | (apply get_ne; focus omega) | (apply get_ne; focus (simp only [List.length_set, List.length_append, List.length_cons, List.length_nil]; omega))); done) (by rfl)) rfl ?_ | refine p1L (D_loadBA rfl (by (repeat first | assumption | exact get_last | (refine get_last2 ?_; focus (simp; done)) | apply get_set | apply get_app | (apply get_ne; focus omega) | (apply get_ne; focus (simp only [List.length_set, List.length_append, List.length_cons, List.length_nil]; omega))); done) (by rfl)) rfl ?_)
    | refine Le.bool ?_
    | refine Le.int ?_
    | refine Le.str ?_
  refine W_loopL (X := Nat) (fun i => [(0, sl2 l), (1, .sc (.int .i64 at_)), (5, .sc (.int .i64 (i : Int)))]) (fun _ => [])
    (fun i => i ≤ l.length ∧ ∀ (j : Nat) (h : j < l.length), j < i → ¬ (l[j].f ≤ at_ ∧ at_ < l[j].t)) (fun i => l.length - i) 0 ⟨by omega, fun j h h' => by omega⟩ ⟨rfl, rfl, rfl, trivial⟩ rfl ?_
  rintro i ⟨hi, hz⟩
  have hnext : ∀ (h : i < l.length), ¬ (l[i].f ≤ at_ ∧ at_ < l[i].t) → ∀ (j : Nat) (h : j < l.length), j < i + 1 → ¬ (l[j].f ≤ at_ ∧ at_ < l[j].t) := fun h k1 j hj hji => by
    by_cases e : j = i
    · subst e; exact k1
    · exact hz j hj (by omega)
  repeat' first
    | (apply p1 (hd := rfl); case hop => first | (apply D_move; rfl) | (apply D_assign; rfl) | (apply D_load1; rfl) | (apply D_fld; rfl) | (apply D_pickT; rfl; rfl) | (apply D_pickF; rfl; rfl) | (apply D_int; rfl; rfl; rfl) | (apply D_lenM; rfl) | (apply D_len_sl; rfl) | (apply D_loadW; rfl; rfl) | (apply D_loadA; rfl; rfl) | (apply D_len_nil; rfl) | (apply D_idxAn; rfl; rfl; (first | omega | (simp; done))) | (apply D_idxA; rfl; rfl; omega; (first | omega | (simp; done) | (simp; omega))) | (apply D_idxA0; rfl; rfl; omega; (first | omega | (simp; done) | (simp; omega))) | exact D_fldB rfl | (apply D_lenR; rfl) | (apply D_ixRn; rfl; rfl; (first | omega | (simp; done))) | (apply D_ixR; rfl; rfl; all_goals first | omega | ((repeat rw [w64 _ (by omega) (by omega)]); omega) | decide))
    | refine W_seq ?_
    | refine W_region ?_
    | (refine idC ?_; first | refine c1 rfl ?_ | refine c0 rfl ?_ | refine cs rfl (fun _ => ?_) (fun _ => ?_))
    | refine WL_nil ?_
    | (refine idG ?_; first | refine g0t rfl rfl rfl ?_ | refine g0f rfl rfl rfl ?_ | refine g0u rfl rfl rfl ?_ | refine gr rfl rfl ?_ | refine gs rfl rfl (fun _ => ?_) (fun _ => ?_) | refine grn rfl rfl ?_)
    | refine tn ?_
    | refine tr ?_
    | refine br ?_
    | refine bn ?_
    | refine te ?_
    | (refine idB ?_; first | refine bh rfl ?_ | refine bm rfl ?_)
    | refine W_skip ?_
    | refine W_block ?_
    | refine W_exit ?_
    | refine W_ret ?_
    | refine W_label ?_
    | refine W_scope ?_
    | refine sn ?_
    | refine sr ?_
    | refine se ?_
    | (refine idR ?_; first | refine ret1 rfl rfl rfl ?_ | refine rL1 rfl (by first | exact trivial | exact ⟨rfl, trivial⟩) (by first | exact ResO.tmp rfl | exact ResO.cellBA rfl rfl rfl | exact ResO.cellB1 rfl rfl rfl | exact ResO.cellEA rfl rfl | exact ResO.cellE1 rfl) ?_)
    | (refine idLd ?_; first | refine p1L (D_loadB1 rfl rfl rfl) rfl ?_ | refine p1L (D_loadBA rfl rfl rfl) rfl ?_ | refine p1L (D_loadB1 rfl (by (repeat first | assumption | exact get_last | (refine get_last2 ?_; focus (simp; done)) | apply get_set | apply get_app | (apply get_ne; focus omega) | (apply get_ne; focus (simp only [List.length_set, List.length_append, List.length_cons, List.length_nil]; omega))); done) (by rfl)) rfl ?_ | refine p1L (D_loadBA rfl (by (repeat first | assumption | exact get_last | (refine get_last2 ?_; focus (simp; done)) | apply get_set | apply get_app | (apply get_ne; focus omega) | (apply get_ne; focus (simp only [List.length_set, List.length_append, List.length_cons, List.length_nil]; omega))); done) (by rfl)) rfl ?_)
    | refine Le.bool ?_
    | refine Le.int ?_
    | refine Le.str ?_
  all_goals first
    | exact dP_T ⟨l[i]'(by omega), List.getElem_mem _, by assumption, by assumption⟩
    | exact ⟨rfl, i + 1, ⟨by omega, hnext (by omega) (by omega)⟩, by omega, ⟨rfl, rfl, ieq (wsucc i (by omega)), trivial⟩, rfl⟩
    | (refine dP_F ?_; rintro ⟨s, hs, h1, h2⟩; obtain ⟨j, hj, rfl⟩ := List.getElem_of_mem hs; exact hz j hj (by omega) ⟨h1, h2⟩)
    | skip
  all_goals trace_state
/-- What the loop has seen: the last one that covers the instant. -/
def lastP (l : List Dat) (d : Dat) (y : Int) (i : Nat) (T : Int) (b : Bool) : Prop :=
  (T = 0 ∧ b = false ∧ ∀ (j : Nat) (h : j < l.length), j < i → ¬ (alP l[j] d ∧ covD l[j] y)) ∨
  (0 < T ∧ ∃ (j : Nat) (h : j < l.length), j < i ∧ alP l[j] d ∧ covD l[j] y ∧ l[j].t = T ∧ l[j].add = b ∧ ∀ (j' : Nat) (h' : j' < l.length), j' < i → alP l[j'] d → covD l[j'] y → l[j'].t ≤ T)
theorem lastP_0 (l : List Dat) (d : Dat) (y : Int) : lastP l d y 0 0 false := .inl ⟨rfl, rfl, fun j h h' => by omega⟩
theorem lastP_take {l : List Dat} {d : Dat} {y : Int} {i : Nat} {T : Int} {b : Bool} (h : lastP l d y i T b) (hi : i < l.length) (ha : alP l[i] d) (hc : covD l[i] y) (ht : T < l[i].t) : lastP l d y (i + 1) l[i].t l[i].add := by
  refine .inr ⟨?_, i, hi, by omega, ha, hc, rfl, rfl, fun j h' hj k1 k2 => ?_⟩
  · rcases h with ⟨h, _⟩ | ⟨h, _⟩ <;> omega
  · by_cases e : j = i
    · subst e; exact Int.le_refl _
    · rcases h with ⟨_, _, h⟩ | ⟨_, _, _, _, _, _, _, _, h⟩
      · exact absurd ⟨k1, k2⟩ (h j h' (by omega))
      · have := h j h' (by omega) k1 k2; omega
theorem lastP_skip {l : List Dat} {d : Dat} {y : Int} {i : Nat} {T : Int} {b : Bool} (h : lastP l d y i T b) (hi : i < l.length) (hm : dmayP l[i]) (hn : ¬ (alP l[i] d ∧ covD l[i] y ∧ T < l[i].t)) : lastP l d y (i + 1) T b := by
  have h1 := hm.2.2.2.2.2.1
  rcases h with ⟨h, hb, hz⟩ | ⟨h0, j, hj, hji, ha, hc, ht, hb, hz⟩
  · refine .inl ⟨h, hb, fun j hj hji => ?_⟩
    by_cases e : j = i
    · subst e; exact fun k => hn ⟨k.1, k.2, by omega⟩
    · exact hz j hj (by omega)
  · refine .inr ⟨h0, j, hj, by omega, ha, hc, ht, hb, fun j' hj' hji' k1 k2 => ?_⟩
    by_cases e : j' = i
    · subst e
      by_cases hlt : T < l[j'].t
      · exact absurd ⟨k1, k2, hlt⟩ hn
      · omega
    · exact hz j' hj' (by omega) k1 k2
theorem lastP_end {l : List Dat} {d : Dat} {y : Int} {T : Int} {b : Bool} (h : lastP l d y l.length T b) (hk : ¬ confK l) : b = true ↔ holdK l (keyF d) y := by
  rcases h with ⟨h, hb, hz⟩ | ⟨h0, j, hj, hji, ha, hc, ht, hb, hz⟩
  · subst hb
    refine Iff.intro (fun h => by cases h) ?_
    rintro ⟨d0, hd0, k1, _, k2, _⟩
    obtain ⟨j, hj, rfl⟩ := List.getElem_of_mem hd0
    exact absurd ⟨alP_iff.2 k1, k2⟩ (hz j hj hj)
  · constructor
    · intro h
      refine ⟨l[j], List.getElem_mem _, alP_iff.1 ha, by rw [hb]; exact h, hc, fun d' hd' k1 k2 => ?_⟩
      obtain ⟨j', hj', rfl⟩ := List.getElem_of_mem hd'
      have := hz j' hj' hj' (alP_iff.2 k1) k2; omega
    · rintro ⟨d0, hd0, k1, k3, k2, k4⟩
      obtain ⟨j', hj', rfl⟩ := List.getElem_of_mem hd0
      have h1 := hz j' hj' hj' (alP_iff.2 k1) k2
      have h2 := k4 l[j] (List.getElem_mem _) (alP_iff.1 ha) hc
      cases hbb : b with
      | true => rfl
      | false => exact absurd ⟨l[j'], List.getElem_mem _, l[j], List.getElem_mem _, (alP_iff.2 k1).trans ha.sym, by omega, k3, by rw [hb, hbb], y, k2, hc⟩ hk
theorem fac_sl {F : List Fac} (h : allF F) {f : Fac} (hf : f ∈ F) : f.v.s.length < 9223372036854775808 := by
  obtain ⟨i, hi, rfl⟩ := List.getElem_of_mem hf
  have h := (h i hi hi).1.1.2.2.2.2.1
  have h : MayP F[i].v := by unfold mayB at h; rwa [dP_t] at h
  rcases h with ⟨_, _, _, h⟩ | ⟨_, h⟩ | ⟨_, h, _⟩ | ⟨_, _, h⟩ | ⟨_, _, h⟩
  · rw [h]; decide
  · rw [h]; decide
  · rw [h]; decide
  · omega
  · unfold WordP at h; omega
theorem findL_len {F : List Fac} {n : Nat} (k : Fac) (h : ∀ f, f ∈ F → f.sp.length ≤ n) : (findL F k).length ≤ n := by
  unfold findL
  cases hf : F.find? fun g => decide (cmpF g k = 0) with
  | none => exact Nat.zero_le _
  | some f0 => exact h f0 (List.mem_of_find?_eq_some hf)
set_option maxHeartbeats 32000000 in
theorem factsInst_core [GlobF Tryz.prog] (l : List Dat) (n_ at_ : Int) (h1 : -9223372036854775808 ≤ n_) (h2 : n_ ≤ 9223372036854775807) (hl : l.length < 1759218604442) (hl0 : 0 < l.length) (hsl : ∀ d, d ∈ l → d.v.s.length < 9223372036854775808) (hrg : rgD l) (hgr : ¬ 4000 < grS 0 l) :
    PC Tryz.prog 4 [sl9 l, .sc (.int .i64 n_), .sc (.int .i64 at_)] (.sc (.bool true)) := by
  have hg := great_pc l (by omega)
  rw [if_neg hgr] at hg
  have hb1 : -(l.length : Int) < n_.tmod l.length ∧ n_.tmod l.length < l.length := by
    constructor
    · have := Int.lt_tmod_of_pos n_ (b := (l.length : Int)) (by omega); omega
    · have := Int.tmod_lt_of_pos n_ (b := (l.length : Int)) (by omega); omega
  obtain ⟨M, hM⟩ : ∃ M : Nat, (M : Int) = n_.tmod l.length + l.length := ⟨(n_.tmod l.length + l.length).toNat, by omega⟩
  have hw1 : Value.int .i64 (IntKind.i64.wrap (n_.tmod l.length + l.length)) = .int .i64 (M : Int) := by rw [w64 _ (by omega) (by omega), hM]
  obtain ⟨n, hn⟩ : ∃ n, n = M % l.length := ⟨_, rfl⟩
  have hnl : n < l.length := by rw [hn]; exact Nat.mod_lt _ hl0
  have hw2 : Value.int .i64 ((M : Int).tmod l.length) = .int .i64 (n : Int) := by
    rw [Int.tmod_eq_emod_of_nonneg (by omega), hn]; rfl
  have hr1 : (l.length : Int) ≠ 0 := by omega
  have hfl := fold_pc l (by omega) hsl hrg
  obtain ⟨fl1, fl2⟩ := foldR_len l
  have hll : Value.bool (iEq (l.length : Int) 0) = .bool false := by rw [(iEq_f _ _).mpr (by omega)]
  have h00 : Value.bool (iLt 0 0) = .bool false := by rw [(iLt_f _ _).mpr (by omega)]
  have hnt : Value.bool (bNot true) = .bool false := by simp [bNot]
  cases hF : foldR l with
  | none =>
    rw [hF] at hfl
    have hfl : PC Tryz.prog 23 [sl9 l] (.tu [sl6 [], .sc (.int .i64 60)]) := hfl
    have h60 : Value.bool (bNot (iEq 60 0)) = .bool true := by rw [(iEq_f _ _).mpr (by omega)]; simp [bNot]
    refine PC.of_body Tryz.func4 Tryz.ntmps4 rfl rfl rfl ?_
    repeat' first
      | (apply p1 (hd := rfl); case hop => first | (apply D_move; rfl) | (apply D_assign; rfl) | (apply D_pc falive_pc; rfl; exact .nil) | (apply D_pc hg; rfl; exact .same rfl .nil) | (apply D_pc hfl; rfl; exact .same rfl .nil) | exact D_sc (D_int rfl rfl rfl) h00 | exact D_sc (D_int rfl rfl rfl) hll | exact D_sc (D_not rfl) hnt | exact D_sc (D_int rfl rfl rfl) hw1 | exact D_sc (D_rem rfl rfl hr1) hw2 | exact D_rem rfl rfl hr1 | (apply D_load1; rfl) | (apply D_fld; rfl) | (apply D_pickT; rfl; rfl) | (apply D_pickF; rfl; rfl) | (apply D_int; rfl; rfl; rfl) | (apply D_lenM; rfl) | (apply D_len_sl; rfl) | (apply D_ext; rfl; rfl) | (apply D_not; rfl) | (apply D_loadW; rfl; rfl) | (apply D_loadA; rfl; rfl) | (apply D_len_nil; rfl) | (apply D_beq; rfl; rfl) | (apply D_bne; rfl; rfl) | (apply D_idxAn; rfl; rfl; (first | omega | (simp; done))) | (apply D_idxA; rfl; rfl; omega; (first | omega | (simp; done) | (simp; omega))) | (apply D_idxA0; rfl; rfl; omega; (first | omega | (simp; done) | (simp; omega))) | exact D_fldB rfl | (apply D_lenR; rfl) | (apply D_ixRn; rfl; rfl; (first | omega | (simp; done))) | (apply D_ixR; rfl; rfl; all_goals first | omega | ((repeat rw [w64 _ (by omega) (by omega)]); omega) | decide) | exact D_eqA rfl rfl rfl rfl rfl rfl rfl | exact D_neA rfl rfl rfl rfl rfl rfl rfl | (apply D_rem; rfl; rfl; first | omega | ((repeat rw [w64 _ (by omega) (by omega)]); omega) | decide))
      | refine W_seq ?_
      | refine W_region ?_
      | (refine idC ?_; first | refine c1 rfl ?_ | refine c0 rfl ?_ | refine cs rfl (fun _ => ?_) (fun _ => ?_))
      | refine WL_nil ?_
      | (refine idG ?_; first | refine g0t rfl rfl rfl ?_ | refine g0f rfl rfl rfl ?_ | refine g0u rfl rfl rfl ?_ | refine gr rfl rfl ?_ | refine gs rfl rfl (fun _ => ?_) (fun _ => ?_) | refine grn rfl rfl ?_)
      | refine tn ?_
      | refine tr ?_
      | refine br ?_
      | refine bn ?_
      | refine te ?_
      | (refine idB ?_; first | refine bh rfl ?_ | refine bm rfl ?_)
      | refine W_skip ?_
      | refine W_block ?_
      | refine W_exit ?_
      | refine W_ret ?_
      | refine W_label ?_
      | refine W_scope ?_
      | refine sn ?_
      | refine sr ?_
      | refine se ?_
      | (refine idR ?_; first | refine ret1 rfl rfl rfl ?_ | refine rL1 rfl (by first | exact trivial | exact ⟨rfl, trivial⟩) (by first | exact ResO.tmp rfl | exact ResO.cellBA rfl rfl rfl | exact ResO.cellB1 rfl rfl rfl | exact ResO.cellEA rfl rfl | exact ResO.cellE1 rfl) ?_)
      | (refine idLd ?_; first | refine p1L (D_loadB1 rfl rfl rfl) rfl ?_ | refine p1L (D_loadBA rfl rfl rfl) rfl ?_ | refine p1L (D_loadB1 rfl (by (repeat first | assumption | exact get_last | (refine get_last2 ?_; focus (simp; done)) | apply get_set | apply get_app | (apply get_ne; focus omega) | (apply get_ne; focus (simp only [List.length_set, List.length_append, List.length_cons, List.length_nil]; omega))); done) (by rfl)) rfl ?_ | refine p1L (D_loadBA rfl (by (repeat first | assumption | exact get_last | (refine get_last2 ?_; focus (simp; done)) | apply get_set | apply get_app | (apply get_ne; focus omega) | (apply get_ne; focus (simp only [List.length_set, List.length_append, List.length_cons, List.length_nil]; omega))); done) (by rfl)) rfl ?_)
      | (refine idA ?_; first | refine m_var rfl rfl rfl rfl rfl rfl rfl ?_ | refine m_alloc rfl ?_)
      | (refine idS ?_; first | refine pS (S_store rfl rfl rfl rfl rfl rfl rfl) ?_ | refine pS (S_store rfl rfl rfl (by (repeat first | assumption | exact get_last | (refine get_last2 ?_; focus (simp; done)) | apply get_set | apply get_app | (apply get_ne; focus omega) | (apply get_ne; focus (simp only [List.length_set, List.length_append, List.length_cons, List.length_nil]; omega))); done) (by rfl) (by rfl) (by rfl)) ?_)
      | refine Le.bool ?_
      | refine Le.int ?_
      | refine Le.str ?_
      | (refine idW ?_; first | refine W_draw0 rfl ?_ | refine W_draw1 rfl ?_ | refine W_draw2 rfl ?_ | refine W_draw3 rfl ?_)
      | (apply d1 (hd := rfl); case hop => first | (apply D_move; rfl) | (apply D_assign; rfl) | (apply D_pc falive_pc; rfl; exact .nil) | (apply D_pc hg; rfl; exact .same rfl .nil) | (apply D_pc hfl; rfl; exact .same rfl .nil) | exact D_sc (D_int rfl rfl rfl) h00 | exact D_sc (D_int rfl rfl rfl) hll | exact D_sc (D_not rfl) hnt | exact D_sc (D_int rfl rfl rfl) hw1 | exact D_sc (D_rem rfl rfl hr1) hw2 | exact D_rem rfl rfl hr1 | (apply D_load1; rfl) | (apply D_fld; rfl) | (apply D_pickT; rfl; rfl) | (apply D_pickF; rfl; rfl) | (apply D_int; rfl; rfl; rfl) | (apply D_lenM; rfl) | (apply D_len_sl; rfl) | (apply D_ext; rfl; rfl) | (apply D_not; rfl) | (apply D_loadW; rfl; rfl) | (apply D_loadA; rfl; rfl) | (apply D_len_nil; rfl) | (apply D_beq; rfl; rfl) | (apply D_bne; rfl; rfl) | (apply D_idxAn; rfl; rfl; (first | omega | (simp; done))) | (apply D_idxA; rfl; rfl; omega; (first | omega | (simp; done) | (simp; omega))) | (apply D_idxA0; rfl; rfl; omega; (first | omega | (simp; done) | (simp; omega))) | exact D_fldB rfl | (apply D_lenR; rfl) | (apply D_ixRn; rfl; rfl; (first | omega | (simp; done))) | (apply D_ixR; rfl; rfl; all_goals first | omega | ((repeat rw [w64 _ (by omega) (by omega)]); omega) | decide) | exact D_eqA rfl rfl rfl rfl rfl rfl rfl | exact D_neA rfl rfl rfl rfl rfl rfl rfl | (apply D_rem; rfl; rfl; first | omega | ((repeat rw [w64 _ (by omega) (by omega)]); omega) | decide))
      | (refine idDg ?_; first | refine dg0t rfl rfl rfl ?_ | refine dg0f rfl rfl rfl ?_ | refine dg0u rfl rfl rfl ?_ | refine dgr rfl rfl ?_ | refine dgs rfl rfl (fun _ => ?_) (fun _ => ?_))
      | (refine idDn ?_; first | refine dL _ (fun hp' hs => D_loadB1 rfl (hs.trans rfl) rfl) rfl ?_ | refine dL _ (fun hp' hs => D_loadBA rfl (hs.trans rfl) rfl) rfl ?_ | refine dS (S_store rfl rfl rfl rfl rfl rfl rfl) rfl ?_ | refine dV (S_alloc 0 rfl) rfl rfl ?_ | refine dV (S_alloc 1 rfl) rfl rfl ?_ | refine dV (S_alloc 2 rfl) rfl rfl ?_ | refine dV (S_alloc 3 rfl) rfl rfl ?_ | refine dV (S_alloc 4 rfl) rfl rfl ?_ | refine dV (S_alloc 5 rfl) rfl rfl ?_ | refine dV (S_alloc 6 rfl) rfl rfl ?_ | refine dV (S_alloc 7 rfl) rfl rfl ?_)
      | refine WD_nil (by first | decide +kernel | kernel_rfl | rfl) ?_
    all_goals first
      | rfl
      | (exfalso; omega)
      | skip
    all_goals trace_state
  | some F =>
  have hok := foldR_ok l hrg
  rw [hF] at hfl hok fl1 fl2
  have hfl : PC Tryz.prog 23 [sl9 l] (.tu [sl6 F, .sc (.int .i64 0)]) := hfl
  have fl1 : F.length ≤ l.length := fl1
  have fl2 : ∀ f, f ∈ F → f.sp.length ≤ 2 * l.length := fl2
  obtain ⟨hmay, haf, hrs, hcf, hfk⟩ := hok
  refine PC.of_body Tryz.func4 Tryz.ntmps4 rfl rfl rfl ?_
  have hsp := fspans_pc F (keyF l[n]) (by omega) (fun f hf => ⟨fac_sl haf hf, by have := fl2 f hf; omega⟩)
  rw [← dP_T haf, if_pos rfl, if_pos rfl] at hsp
  have hin := rin_pc' (findL F (keyF l[n])) at_ (by have := findL_len (n := 2 * l.length) (keyF l[n]) fl2; omega)
  have hfk := hfk (keyF l[n]) at_
  generalize findL F (keyF l[n]) = S at *
  repeat' first
    | (apply p1 (hd := rfl); case hop => first | (apply D_move; rfl) | (apply D_assign; rfl) | (apply D_pc falive_pc; rfl; exact .nil) | (apply D_pc hg; rfl; exact .same rfl .nil) | (apply D_pc hfl; rfl; exact .same rfl .nil) | exact D_sc (D_int rfl rfl rfl) h00 | exact D_sc (D_int rfl rfl rfl) hll | exact D_sc (D_not rfl) hnt | exact D_sc (D_int rfl rfl rfl) hw1 | exact D_sc (D_rem rfl rfl hr1) hw2 | exact D_rem rfl rfl hr1 | (apply D_load1; rfl) | (apply D_fld; rfl) | (apply D_pickT; rfl; rfl) | (apply D_pickF; rfl; rfl) | (apply D_int; rfl; rfl; rfl) | (apply D_lenM; rfl) | (apply D_len_sl; rfl) | (apply D_ext; rfl; rfl) | (apply D_not; rfl) | (apply D_loadW; rfl; rfl) | (apply D_loadA; rfl; rfl) | (apply D_len_nil; rfl) | (apply D_beq; rfl; rfl) | (apply D_bne; rfl; rfl) | (apply D_idxAn; rfl; rfl; (first | omega | (simp; done))) | (apply D_idxA; rfl; rfl; omega; (first | omega | (simp; done) | (simp; omega))) | (apply D_idxA0; rfl; rfl; omega; (first | omega | (simp; done) | (simp; omega))) | exact D_fldB rfl | (apply D_lenR; rfl) | (apply D_ixRn; rfl; rfl; (first | omega | (simp; done))) | (apply D_ixR; rfl; rfl; all_goals first | omega | ((repeat rw [w64 _ (by omega) (by omega)]); omega) | decide) | exact D_eqA rfl rfl rfl rfl rfl rfl rfl | exact D_neA rfl rfl rfl rfl rfl rfl rfl | (apply D_rem; rfl; rfl; first | omega | ((repeat rw [w64 _ (by omega) (by omega)]); omega) | decide))
    | refine W_seq ?_
    | refine W_region ?_
    | (refine idC ?_; first | refine c1 rfl ?_ | refine c0 rfl ?_ | refine cs rfl (fun _ => ?_) (fun _ => ?_))
    | refine WL_nil ?_
    | (refine idG ?_; first | refine g0t rfl rfl rfl ?_ | refine g0f rfl rfl rfl ?_ | refine g0u rfl rfl rfl ?_ | refine gr rfl rfl ?_ | refine gs rfl rfl (fun _ => ?_) (fun _ => ?_) | refine grn rfl rfl ?_)
    | refine tn ?_
    | refine tr ?_
    | refine br ?_
    | refine bn ?_
    | refine te ?_
    | (refine idB ?_; first | refine bh rfl ?_ | refine bm rfl ?_)
    | refine W_skip ?_
    | refine W_block ?_
    | refine W_exit ?_
    | refine W_ret ?_
    | refine W_label ?_
    | refine W_scope ?_
    | refine sn ?_
    | refine sr ?_
    | refine se ?_
    | (refine idR ?_; first | refine ret1 rfl rfl rfl ?_ | refine rL1 rfl (by first | exact trivial | exact ⟨rfl, trivial⟩) (by first | exact ResO.tmp rfl | exact ResO.cellBA rfl rfl rfl | exact ResO.cellB1 rfl rfl rfl | exact ResO.cellEA rfl rfl | exact ResO.cellE1 rfl) ?_)
    | (refine idLd ?_; first | refine p1L (D_loadB1 rfl rfl rfl) rfl ?_ | refine p1L (D_loadBA rfl rfl rfl) rfl ?_ | refine p1L (D_loadB1 rfl (by (repeat first | assumption | exact get_last | (refine get_last2 ?_; focus (simp; done)) | apply get_set | apply get_app | (apply get_ne; focus omega) | (apply get_ne; focus (simp only [List.length_set, List.length_append, List.length_cons, List.length_nil]; omega))); done) (by rfl)) rfl ?_ | refine p1L (D_loadBA rfl (by (repeat first | assumption | exact get_last | (refine get_last2 ?_; focus (simp; done)) | apply get_set | apply get_app | (apply get_ne; focus omega) | (apply get_ne; focus (simp only [List.length_set, List.length_append, List.length_cons, List.length_nil]; omega))); done) (by rfl)) rfl ?_)
    | (refine idA ?_; first | refine m_var rfl rfl rfl rfl rfl rfl rfl ?_ | refine m_alloc rfl ?_)
    | (refine idS ?_; first | refine pS (S_store rfl rfl rfl rfl rfl rfl rfl) ?_ | refine pS (S_store rfl rfl rfl (by (repeat first | assumption | exact get_last | (refine get_last2 ?_; focus (simp; done)) | apply get_set | apply get_app | (apply get_ne; focus omega) | (apply get_ne; focus (simp only [List.length_set, List.length_append, List.length_cons, List.length_nil]; omega))); done) (by rfl) (by rfl) (by rfl)) ?_)
    | refine Le.bool ?_
    | refine Le.int ?_
    | refine Le.str ?_
    | (refine idW ?_; first | refine W_draw0 rfl ?_ | refine W_draw1 rfl ?_ | refine W_draw2 rfl ?_ | refine W_draw3 rfl ?_)
    | (apply d1 (hd := rfl); case hop => first | (apply D_move; rfl) | (apply D_assign; rfl) | (apply D_pc falive_pc; rfl; exact .nil) | (apply D_pc hg; rfl; exact .same rfl .nil) | (apply D_pc hfl; rfl; exact .same rfl .nil) | exact D_sc (D_int rfl rfl rfl) h00 | exact D_sc (D_int rfl rfl rfl) hll | exact D_sc (D_not rfl) hnt | exact D_sc (D_int rfl rfl rfl) hw1 | exact D_sc (D_rem rfl rfl hr1) hw2 | exact D_rem rfl rfl hr1 | (apply D_load1; rfl) | (apply D_fld; rfl) | (apply D_pickT; rfl; rfl) | (apply D_pickF; rfl; rfl) | (apply D_int; rfl; rfl; rfl) | (apply D_lenM; rfl) | (apply D_len_sl; rfl) | (apply D_ext; rfl; rfl) | (apply D_not; rfl) | (apply D_loadW; rfl; rfl) | (apply D_loadA; rfl; rfl) | (apply D_len_nil; rfl) | (apply D_beq; rfl; rfl) | (apply D_bne; rfl; rfl) | (apply D_idxAn; rfl; rfl; (first | omega | (simp; done))) | (apply D_idxA; rfl; rfl; omega; (first | omega | (simp; done) | (simp; omega))) | (apply D_idxA0; rfl; rfl; omega; (first | omega | (simp; done) | (simp; omega))) | exact D_fldB rfl | (apply D_lenR; rfl) | (apply D_ixRn; rfl; rfl; (first | omega | (simp; done))) | (apply D_ixR; rfl; rfl; all_goals first | omega | ((repeat rw [w64 _ (by omega) (by omega)]); omega) | decide) | exact D_eqA rfl rfl rfl rfl rfl rfl rfl | exact D_neA rfl rfl rfl rfl rfl rfl rfl | (apply D_rem; rfl; rfl; first | omega | ((repeat rw [w64 _ (by omega) (by omega)]); omega) | decide))
    | (refine idDg ?_; first | refine dg0t rfl rfl rfl ?_ | refine dg0f rfl rfl rfl ?_ | refine dg0u rfl rfl rfl ?_ | refine dgr rfl rfl ?_ | refine dgs rfl rfl (fun _ => ?_) (fun _ => ?_))
    | (refine idDn ?_; first | refine dL _ (fun hp' hs => D_loadB1 rfl (hs.trans rfl) rfl) rfl ?_ | refine dL _ (fun hp' hs => D_loadBA rfl (hs.trans rfl) rfl) rfl ?_ | refine dS (S_store rfl rfl rfl rfl rfl rfl rfl) rfl ?_ | refine dV (S_alloc 0 rfl) rfl rfl ?_ | refine dV (S_alloc 1 rfl) rfl rfl ?_ | refine dV (S_alloc 2 rfl) rfl rfl ?_ | refine dV (S_alloc 3 rfl) rfl rfl ?_ | refine dV (S_alloc 4 rfl) rfl rfl ?_ | refine dV (S_alloc 5 rfl) rfl rfl ?_ | refine dV (S_alloc 6 rfl) rfl rfl ?_ | refine dV (S_alloc 7 rfl) rfl rfl ?_)
    | refine WD_nil (by first | decide +kernel | kernel_rfl | rfl) ?_
  · rfl
  refine W_loopL (X := Nat × Int × Bool) (fun c => [(0, sl9 l), (2, .sc (.int .i64 at_)), (7, .sc (.bool true)), (8, .ep (dC l[n])), (9, sl6 F), (11, .sc (.int .i64 c.2.1)), (12, .sc (.bool c.2.2)), (13, .sc (.int .i64 (c.1 : Int)))]) (fun _ => [])
    (fun c => c.1 ≤ l.length ∧ lastP l l[n] at_ c.1 c.2.1 c.2.2) (fun c => l.length - c.1) (0, 0, false) ⟨by show 0 ≤ _; omega, lastP_0 _ _ _⟩ ⟨rfl, rfl, rfl, rfl, rfl, rfl, rfl, rfl, trivial⟩ rfl ?_
  rintro ⟨i, T, b⟩ ⟨hi, hI⟩
  dsimp only at hi hI
  dsimp only
  repeat' first
    | (apply p1 (hd := rfl); case hop => first | (apply D_move; rfl) | (apply D_assign; rfl) | (apply D_pc hsp; rfl; exact .same rfl (.same rfl (.same rfl (.same rfl .nil)))) | (apply D_pc hin; rfl; exact .same rfl (.same rfl .nil)) | (apply D_load1; rfl) | (apply D_fld; rfl) | (apply D_pickT; rfl; rfl) | (apply D_pickF; rfl; rfl) | (apply D_int; rfl; rfl; rfl) | (apply D_lenM; rfl) | (apply D_len_sl; rfl) | (apply D_ext; rfl; rfl) | (apply D_not; rfl) | (apply D_loadW; rfl; rfl) | (apply D_loadA; rfl; rfl) | (apply D_len_nil; rfl) | (apply D_beq; rfl; rfl) | (apply D_bne; rfl; rfl) | (apply D_idxAn; rfl; rfl; (first | omega | (simp; done))) | (apply D_idxA; rfl; rfl; omega; (first | omega | (simp; done) | (simp; omega))) | (apply D_idxA0; rfl; rfl; omega; (first | omega | (simp; done) | (simp; omega))) | exact D_fldB rfl | (apply D_lenR; rfl) | (apply D_ixRn; rfl; rfl; (first | omega | (simp; done))) | (apply D_ixR; rfl; rfl; all_goals first | omega | ((repeat rw [w64 _ (by omega) (by omega)]); omega) | decide) | exact D_eqA rfl rfl rfl rfl rfl rfl rfl | exact D_neA rfl rfl rfl rfl rfl rfl rfl | (apply D_rem; rfl; rfl; first | omega | ((repeat rw [w64 _ (by omega) (by omega)]); omega) | decide))
    | refine W_seq ?_
    | refine W_region ?_
    | (refine idC ?_; first | refine c1 rfl ?_ | refine c0 rfl ?_ | refine cs rfl (fun _ => ?_) (fun _ => ?_))
    | refine WL_nil ?_
    | (refine idG ?_; first | refine g0t rfl rfl rfl ?_ | refine g0f rfl rfl rfl ?_ | refine g0u rfl rfl rfl ?_ | refine gr rfl rfl ?_ | refine gs rfl rfl (fun _ => ?_) (fun _ => ?_) | refine grn rfl rfl ?_)
    | refine tn ?_
    | refine tr ?_
    | refine br ?_
    | refine bn ?_
    | refine te ?_
    | (refine idB ?_; first | refine bh rfl ?_ | refine bm rfl ?_)
    | refine W_skip ?_
    | refine W_block ?_
    | refine W_exit ?_
    | refine W_ret ?_
    | refine W_label ?_
    | refine W_scope ?_
    | refine sn ?_
    | refine sr ?_
    | refine se ?_
    | (refine idR ?_; first | refine ret1 rfl rfl rfl ?_ | refine rL1 rfl (by first | exact trivial | exact ⟨rfl, trivial⟩) (by first | exact ResO.tmp rfl | exact ResO.cellBA rfl rfl rfl | exact ResO.cellB1 rfl rfl rfl | exact ResO.cellEA rfl rfl | exact ResO.cellE1 rfl) ?_)
    | (refine idLd ?_; first | refine p1L (D_loadB1 rfl rfl rfl) rfl ?_ | refine p1L (D_loadBA rfl rfl rfl) rfl ?_ | refine p1L (D_loadB1 rfl (by (repeat first | assumption | exact get_last | (refine get_last2 ?_; focus (simp; done)) | apply get_set | apply get_app | (apply get_ne; focus omega) | (apply get_ne; focus (simp only [List.length_set, List.length_append, List.length_cons, List.length_nil]; omega))); done) (by rfl)) rfl ?_ | refine p1L (D_loadBA rfl (by (repeat first | assumption | exact get_last | (refine get_last2 ?_; focus (simp; done)) | apply get_set | apply get_app | (apply get_ne; focus omega) | (apply get_ne; focus (simp only [List.length_set, List.length_append, List.length_cons, List.length_nil]; omega))); done) (by rfl)) rfl ?_)
    | (refine idA ?_; first | refine m_var rfl rfl rfl rfl rfl rfl rfl ?_ | refine m_alloc rfl ?_)
    | (refine idS ?_; first | refine pS (S_store rfl rfl rfl rfl rfl rfl rfl) ?_ | refine pS (S_store rfl rfl rfl (by (repeat first | assumption | exact get_last | (refine get_last2 ?_; focus (simp; done)) | apply get_set | apply get_app | (apply get_ne; focus omega) | (apply get_ne; focus (simp only [List.length_set, List.length_append, List.length_cons, List.length_nil]; omega))); done) (by rfl) (by rfl) (by rfl)) ?_)
    | refine Le.bool ?_
    | refine Le.int ?_
    | refine Le.str ?_
    | (refine idW ?_; first | refine W_draw0 rfl ?_ | refine W_draw1 rfl ?_ | refine W_draw2 rfl ?_ | refine W_draw3 rfl ?_)
    | (apply d1 (hd := rfl); case hop => first | (apply D_move; rfl) | (apply D_assign; rfl) | (apply D_pc hsp; rfl; exact .same rfl (.same rfl (.same rfl (.same rfl .nil)))) | (apply D_pc hin; rfl; exact .same rfl (.same rfl .nil)) | (apply D_load1; rfl) | (apply D_fld; rfl) | (apply D_pickT; rfl; rfl) | (apply D_pickF; rfl; rfl) | (apply D_int; rfl; rfl; rfl) | (apply D_lenM; rfl) | (apply D_len_sl; rfl) | (apply D_ext; rfl; rfl) | (apply D_not; rfl) | (apply D_loadW; rfl; rfl) | (apply D_loadA; rfl; rfl) | (apply D_len_nil; rfl) | (apply D_beq; rfl; rfl) | (apply D_bne; rfl; rfl) | (apply D_idxAn; rfl; rfl; (first | omega | (simp; done))) | (apply D_idxA; rfl; rfl; omega; (first | omega | (simp; done) | (simp; omega))) | (apply D_idxA0; rfl; rfl; omega; (first | omega | (simp; done) | (simp; omega))) | exact D_fldB rfl | (apply D_lenR; rfl) | (apply D_ixRn; rfl; rfl; (first | omega | (simp; done))) | (apply D_ixR; rfl; rfl; all_goals first | omega | ((repeat rw [w64 _ (by omega) (by omega)]); omega) | decide) | exact D_eqA rfl rfl rfl rfl rfl rfl rfl | exact D_neA rfl rfl rfl rfl rfl rfl rfl | (apply D_rem; rfl; rfl; first | omega | ((repeat rw [w64 _ (by omega) (by omega)]); omega) | decide))
    | (refine idDg ?_; first | refine dg0t rfl rfl rfl ?_ | refine dg0f rfl rfl rfl ?_ | refine dg0u rfl rfl rfl ?_ | refine dgr rfl rfl ?_ | refine dgs rfl rfl (fun _ => ?_) (fun _ => ?_))
    | (refine idDn ?_; first | refine dL _ (fun hp' hs => D_loadB1 rfl (hs.trans rfl) rfl) rfl ?_ | refine dL _ (fun hp' hs => D_loadBA rfl (hs.trans rfl) rfl) rfl ?_ | refine dS (S_store rfl rfl rfl rfl rfl rfl rfl) rfl ?_ | refine dV (S_alloc 0 rfl) rfl rfl ?_ | refine dV (S_alloc 1 rfl) rfl rfl ?_ | refine dV (S_alloc 2 rfl) rfl rfl ?_ | refine dV (S_alloc 3 rfl) rfl rfl ?_ | refine dV (S_alloc 4 rfl) rfl rfl ?_ | refine dV (S_alloc 5 rfl) rfl rfl ?_ | refine dV (S_alloc 6 rfl) rfl rfl ?_ | refine dV (S_alloc 7 rfl) rfl rfl ?_)
    | refine WD_nil (by first | decide +kernel | kernel_rfl | rfl) ?_
  all_goals first
    | exact ⟨rfl, (i + 1, l[i].t, l[i].add), ⟨by show i + 1 ≤ _; omega, lastP_take hI (by omega) ⟨by assumption, by assumption, encV_eq.1 (by assumption)⟩ ⟨by assumption, by assumption⟩ (by assumption)⟩, by show l.length - (i + 1) < l.length - i; omega, ⟨rfl, rfl, rfl, rfl, rfl, rfl, rfl, ieq (wsucc i (by omega)), trivial⟩, rfl⟩
    | exact ⟨rfl, (i + 1, T, b), ⟨by show i + 1 ≤ _; omega, lastP_skip hI (by omega) (hmay _ (List.getElem_mem _)) (by
        rintro ⟨⟨e1, e2, e3⟩, ⟨c1, c2⟩, c3⟩
        have e4 := encV_eq.2 e3
        first | contradiction | omega | exact absurd c3 (Int.not_lt.2 (by assumption)) | (trace_state; fail))⟩, by show l.length - (i + 1) < l.length - i; omega, ⟨rfl, rfl, rfl, rfl, rfl, rfl, rfl, ieq (wsucc i (by omega)), trivial⟩, rfl⟩
    | (refine (?_ : bEq _ _ = true); rw [bEq_t]; have hI := lastP_end (show lastP l l[n] at_ l.length T b by rw [show l.length = i by omega]; exact hI) hcf; rw [← hfk] at hI; cases b with
        | true => exact dP_t.mpr (hI.1 rfl)
        | false => exact dP_f.mpr fun h => by cases hI.2 h)
    | (exfalso; omega)
    | skip
  all_goals trace_state
set_option maxHeartbeats 16000000 in
theorem factsInst_pc [GlobF Tryz.prog] (l : List Dat) (n_ at_ : Int) (h1 : -9223372036854775808 ≤ n_ ∧ n_ ≤ 9223372036854775807) (hl : l.length * 80 ≤ 140737488355328) (hsl : ∀ d, d ∈ l → d.v.s.length < 9223372036854775808) (hrg : rgD l) :
    PC Tryz.prog 4 [sl9 l, .sc (.int .i64 n_), .sc (.int .i64 at_)] (.sc (.bool true)) := by
  by_cases hgr : 4000 < grS 0 l
  · have hg := great_pc l (by omega)
    rw [if_pos hgr] at hg
    refine PC.of_body Tryz.func4 Tryz.ntmps4 rfl rfl rfl ?_
    repeat' first
      | (exfalso; omega)
      | (apply p1 (hd := rfl); case hop => first | (apply D_move; rfl) | (apply D_assign; rfl) | (apply D_pc falive_pc; rfl; exact .nil) | (apply D_pc hg; rfl; exact .same rfl .nil) | (apply D_load1; rfl) | (apply D_fld; rfl) | (apply D_pickT; rfl; rfl) | (apply D_pickF; rfl; rfl) | (apply D_int; rfl; rfl; rfl) | (apply D_lenM; rfl) | (apply D_len_sl; rfl) | (apply D_ext; rfl; rfl) | (apply D_not; rfl) | (apply D_loadW; rfl; rfl) | (apply D_loadA; rfl; rfl) | (apply D_len_nil; rfl) | (apply D_beq; rfl; rfl) | (apply D_bne; rfl; rfl) | (apply D_idxAn; rfl; rfl; (first | omega | (simp; done))) | (apply D_idxA; rfl; rfl; omega; (first | omega | (simp; done) | (simp; omega))) | (apply D_idxA0; rfl; rfl; omega; (first | omega | (simp; done) | (simp; omega))) | exact D_fldB rfl | (apply D_lenR; rfl) | (apply D_ixRn; rfl; rfl; (first | omega | (simp; done))) | (apply D_ixR; rfl; rfl; all_goals first | omega | ((repeat rw [w64 _ (by omega) (by omega)]); omega) | decide) | exact D_eqA rfl rfl rfl rfl rfl rfl rfl | exact D_neA rfl rfl rfl rfl rfl rfl rfl | (apply D_rem; rfl; rfl; first | omega | ((repeat rw [w64 _ (by omega) (by omega)]); omega) | decide))
      | refine W_seq ?_
      | refine W_region ?_
      | (refine idC ?_; first | refine c1 rfl ?_ | refine c0 rfl ?_ | refine cs rfl (fun _ => ?_) (fun _ => ?_))
      | refine WL_nil ?_
      | (refine idG ?_; first | refine g0t rfl rfl rfl ?_ | refine g0f rfl rfl rfl ?_ | refine g0u rfl rfl rfl ?_ | refine gr rfl rfl ?_ | refine gs rfl rfl (fun _ => ?_) (fun _ => ?_) | refine grn rfl rfl ?_)
      | refine tn ?_
      | refine tr ?_
      | refine br ?_
      | refine bn ?_
      | refine te ?_
      | (refine idB ?_; first | refine bh rfl ?_ | refine bm rfl ?_)
      | refine W_skip ?_
      | refine W_block ?_
      | refine W_exit ?_
      | refine W_ret ?_
      | refine W_label ?_
      | refine W_scope ?_
      | refine sn ?_
      | refine sr ?_
      | refine se ?_
      | (refine idR ?_; first | refine ret1 rfl rfl rfl ?_ | refine rL1 rfl (by first | exact trivial | exact ⟨rfl, trivial⟩) (by first | exact ResO.tmp rfl | exact ResO.cellBA rfl rfl rfl | exact ResO.cellB1 rfl rfl rfl | exact ResO.cellEA rfl rfl | exact ResO.cellE1 rfl) ?_)
      | (refine idLd ?_; first | refine p1L (D_loadB1 rfl rfl rfl) rfl ?_ | refine p1L (D_loadBA rfl rfl rfl) rfl ?_ | refine p1L (D_loadB1 rfl (by (repeat first | assumption | exact get_last | (refine get_last2 ?_; focus (simp; done)) | apply get_set | apply get_app | (apply get_ne; focus omega) | (apply get_ne; focus (simp only [List.length_set, List.length_append, List.length_cons, List.length_nil]; omega))); done) (by rfl)) rfl ?_ | refine p1L (D_loadBA rfl (by (repeat first | assumption | exact get_last | (refine get_last2 ?_; focus (simp; done)) | apply get_set | apply get_app | (apply get_ne; focus omega) | (apply get_ne; focus (simp only [List.length_set, List.length_append, List.length_cons, List.length_nil]; omega))); done) (by rfl)) rfl ?_)
      | (refine idA ?_; first | refine m_var rfl rfl rfl rfl rfl rfl rfl ?_ | refine m_alloc rfl ?_)
      | (refine idS ?_; first | refine pS (S_store rfl rfl rfl rfl rfl rfl rfl) ?_ | refine pS (S_store rfl rfl rfl (by (repeat first | assumption | exact get_last | (refine get_last2 ?_; focus (simp; done)) | apply get_set | apply get_app | (apply get_ne; focus omega) | (apply get_ne; focus (simp only [List.length_set, List.length_append, List.length_cons, List.length_nil]; omega))); done) (by rfl) (by rfl) (by rfl)) ?_)
      | refine Le.bool ?_
      | refine Le.int ?_
      | refine Le.str ?_
      | (refine idW ?_; first | refine W_draw0 rfl ?_ | refine W_draw1 rfl ?_ | refine W_draw2 rfl ?_ | refine W_draw3 rfl ?_)
      | (apply d1 (hd := rfl); case hop => first | (apply D_move; rfl) | (apply D_assign; rfl) | (apply D_pc falive_pc; rfl; exact .nil) | (apply D_pc hg; rfl; exact .same rfl .nil) | (apply D_load1; rfl) | (apply D_fld; rfl) | (apply D_pickT; rfl; rfl) | (apply D_pickF; rfl; rfl) | (apply D_int; rfl; rfl; rfl) | (apply D_lenM; rfl) | (apply D_len_sl; rfl) | (apply D_ext; rfl; rfl) | (apply D_not; rfl) | (apply D_loadW; rfl; rfl) | (apply D_loadA; rfl; rfl) | (apply D_len_nil; rfl) | (apply D_beq; rfl; rfl) | (apply D_bne; rfl; rfl) | (apply D_idxAn; rfl; rfl; (first | omega | (simp; done))) | (apply D_idxA; rfl; rfl; omega; (first | omega | (simp; done) | (simp; omega))) | (apply D_idxA0; rfl; rfl; omega; (first | omega | (simp; done) | (simp; omega))) | exact D_fldB rfl | (apply D_lenR; rfl) | (apply D_ixRn; rfl; rfl; (first | omega | (simp; done))) | (apply D_ixR; rfl; rfl; all_goals first | omega | ((repeat rw [w64 _ (by omega) (by omega)]); omega) | decide) | exact D_eqA rfl rfl rfl rfl rfl rfl rfl | exact D_neA rfl rfl rfl rfl rfl rfl rfl | (apply D_rem; rfl; rfl; first | omega | ((repeat rw [w64 _ (by omega) (by omega)]); omega) | decide))
      | (refine idDg ?_; first | refine dg0t rfl rfl rfl ?_ | refine dg0f rfl rfl rfl ?_ | refine dg0u rfl rfl rfl ?_ | refine dgr rfl rfl ?_ | refine dgs rfl rfl (fun _ => ?_) (fun _ => ?_))
      | (refine idDn ?_; first | refine dL _ (fun hp' hs => D_loadB1 rfl (hs.trans rfl) rfl) rfl ?_ | refine dL _ (fun hp' hs => D_loadBA rfl (hs.trans rfl) rfl) rfl ?_ | refine dS (S_store rfl rfl rfl rfl rfl rfl rfl) rfl ?_ | refine dV (S_alloc 0 rfl) rfl rfl ?_ | refine dV (S_alloc 1 rfl) rfl rfl ?_ | refine dV (S_alloc 2 rfl) rfl rfl ?_ | refine dV (S_alloc 3 rfl) rfl rfl ?_ | refine dV (S_alloc 4 rfl) rfl rfl ?_ | refine dV (S_alloc 5 rfl) rfl rfl ?_ | refine dV (S_alloc 6 rfl) rfl rfl ?_ | refine dV (S_alloc 7 rfl) rfl rfl ?_)
      | refine WD_nil (by first | decide +kernel | kernel_rfl | rfl) ?_
    all_goals first
      | rfl
      | (exfalso; omega)
      | contradiction
      | skip
    all_goals trace_state
  · rcases Nat.eq_zero_or_pos l.length with h0 | h0
    · have hg := great_pc l (by omega)
      rw [if_neg hgr] at hg
      have hll : Value.bool (iEq (l.length : Int) 0) = .bool true := by rw [(iEq_t _ _).mpr (by omega)]
      have h00 : Value.bool (iLt 0 0) = .bool false := by rw [(iLt_f _ _).mpr (by omega)]
      refine PC.of_body Tryz.func4 Tryz.ntmps4 rfl rfl rfl ?_
      repeat' first
        | (apply p1 (hd := rfl); case hop => first | (apply D_move; rfl) | (apply D_assign; rfl) | (apply D_pc falive_pc; rfl; exact .nil) | (apply D_pc hg; rfl; exact .same rfl .nil) | exact D_sc (D_int rfl rfl rfl) h00 | exact D_sc (D_int rfl rfl rfl) hll | (apply D_load1; rfl) | (apply D_fld; rfl) | (apply D_pickT; rfl; rfl) | (apply D_pickF; rfl; rfl) | (apply D_int; rfl; rfl; rfl) | (apply D_lenM; rfl) | (apply D_len_sl; rfl) | (apply D_ext; rfl; rfl) | (apply D_not; rfl) | (apply D_loadW; rfl; rfl) | (apply D_loadA; rfl; rfl) | (apply D_len_nil; rfl) | (apply D_beq; rfl; rfl) | (apply D_bne; rfl; rfl) | (apply D_idxAn; rfl; rfl; (first | omega | (simp; done))) | (apply D_idxA; rfl; rfl; omega; (first | omega | (simp; done) | (simp; omega))) | (apply D_idxA0; rfl; rfl; omega; (first | omega | (simp; done) | (simp; omega))) | exact D_fldB rfl | (apply D_lenR; rfl) | (apply D_ixRn; rfl; rfl; (first | omega | (simp; done))) | (apply D_ixR; rfl; rfl; all_goals first | omega | ((repeat rw [w64 _ (by omega) (by omega)]); omega) | decide) | exact D_eqA rfl rfl rfl rfl rfl rfl rfl | exact D_neA rfl rfl rfl rfl rfl rfl rfl | (apply D_rem; rfl; rfl; first | omega | ((repeat rw [w64 _ (by omega) (by omega)]); omega) | decide))
        | refine W_seq ?_
        | refine W_region ?_
        | (refine idC ?_; first | refine c1 rfl ?_ | refine c0 rfl ?_ | refine cs rfl (fun _ => ?_) (fun _ => ?_))
        | refine WL_nil ?_
        | (refine idG ?_; first | refine g0t rfl rfl rfl ?_ | refine g0f rfl rfl rfl ?_ | refine g0u rfl rfl rfl ?_ | refine gr rfl rfl ?_ | refine gs rfl rfl (fun _ => ?_) (fun _ => ?_) | refine grn rfl rfl ?_)
        | refine tn ?_
        | refine tr ?_
        | refine br ?_
        | refine bn ?_
        | refine te ?_
        | (refine idB ?_; first | refine bh rfl ?_ | refine bm rfl ?_)
        | refine W_skip ?_
        | refine W_block ?_
        | refine W_exit ?_
        | refine W_ret ?_
        | refine W_label ?_
        | refine W_scope ?_
        | refine sn ?_
        | refine sr ?_
        | refine se ?_
        | (refine idR ?_; first | refine ret1 rfl rfl rfl ?_ | refine rL1 rfl (by first | exact trivial | exact ⟨rfl, trivial⟩) (by first | exact ResO.tmp rfl | exact ResO.cellBA rfl rfl rfl | exact ResO.cellB1 rfl rfl rfl | exact ResO.cellEA rfl rfl | exact ResO.cellE1 rfl) ?_)
        | (refine idLd ?_; first | refine p1L (D_loadB1 rfl rfl rfl) rfl ?_ | refine p1L (D_loadBA rfl rfl rfl) rfl ?_ | refine p1L (D_loadB1 rfl (by (repeat first | assumption | exact get_last | (refine get_last2 ?_; focus (simp; done)) | apply get_set | apply get_app | (apply get_ne; focus omega) | (apply get_ne; focus (simp only [List.length_set, List.length_append, List.length_cons, List.length_nil]; omega))); done) (by rfl)) rfl ?_ | refine p1L (D_loadBA rfl (by (repeat first | assumption | exact get_last | (refine get_last2 ?_; focus (simp; done)) | apply get_set | apply get_app | (apply get_ne; focus omega) | (apply get_ne; focus (simp only [List.length_set, List.length_append, List.length_cons, List.length_nil]; omega))); done) (by rfl)) rfl ?_)
        | (refine idA ?_; first | refine m_var rfl rfl rfl rfl rfl rfl rfl ?_ | refine m_alloc rfl ?_)
        | (refine idS ?_; first | refine pS (S_store rfl rfl rfl rfl rfl rfl rfl) ?_ | refine pS (S_store rfl rfl rfl (by (repeat first | assumption | exact get_last | (refine get_last2 ?_; focus (simp; done)) | apply get_set | apply get_app | (apply get_ne; focus omega) | (apply get_ne; focus (simp only [List.length_set, List.length_append, List.length_cons, List.length_nil]; omega))); done) (by rfl) (by rfl) (by rfl)) ?_)
        | refine Le.bool ?_
        | refine Le.int ?_
        | refine Le.str ?_
        | (refine idW ?_; first | refine W_draw0 rfl ?_ | refine W_draw1 rfl ?_ | refine W_draw2 rfl ?_ | refine W_draw3 rfl ?_)
        | (apply d1 (hd := rfl); case hop => first | (apply D_move; rfl) | (apply D_assign; rfl) | (apply D_pc falive_pc; rfl; exact .nil) | (apply D_pc hg; rfl; exact .same rfl .nil) | exact D_sc (D_int rfl rfl rfl) h00 | exact D_sc (D_int rfl rfl rfl) hll | (apply D_load1; rfl) | (apply D_fld; rfl) | (apply D_pickT; rfl; rfl) | (apply D_pickF; rfl; rfl) | (apply D_int; rfl; rfl; rfl) | (apply D_lenM; rfl) | (apply D_len_sl; rfl) | (apply D_ext; rfl; rfl) | (apply D_not; rfl) | (apply D_loadW; rfl; rfl) | (apply D_loadA; rfl; rfl) | (apply D_len_nil; rfl) | (apply D_beq; rfl; rfl) | (apply D_bne; rfl; rfl) | (apply D_idxAn; rfl; rfl; (first | omega | (simp; done))) | (apply D_idxA; rfl; rfl; omega; (first | omega | (simp; done) | (simp; omega))) | (apply D_idxA0; rfl; rfl; omega; (first | omega | (simp; done) | (simp; omega))) | exact D_fldB rfl | (apply D_lenR; rfl) | (apply D_ixRn; rfl; rfl; (first | omega | (simp; done))) | (apply D_ixR; rfl; rfl; all_goals first | omega | ((repeat rw [w64 _ (by omega) (by omega)]); omega) | decide) | exact D_eqA rfl rfl rfl rfl rfl rfl rfl | exact D_neA rfl rfl rfl rfl rfl rfl rfl | (apply D_rem; rfl; rfl; first | omega | ((repeat rw [w64 _ (by omega) (by omega)]); omega) | decide))
        | (refine idDg ?_; first | refine dg0t rfl rfl rfl ?_ | refine dg0f rfl rfl rfl ?_ | refine dg0u rfl rfl rfl ?_ | refine dgr rfl rfl ?_ | refine dgs rfl rfl (fun _ => ?_) (fun _ => ?_))
        | (refine idDn ?_; first | refine dL _ (fun hp' hs => D_loadB1 rfl (hs.trans rfl) rfl) rfl ?_ | refine dL _ (fun hp' hs => D_loadBA rfl (hs.trans rfl) rfl) rfl ?_ | refine dS (S_store rfl rfl rfl rfl rfl rfl rfl) rfl ?_ | refine dV (S_alloc 0 rfl) rfl rfl ?_ | refine dV (S_alloc 1 rfl) rfl rfl ?_ | refine dV (S_alloc 2 rfl) rfl rfl ?_ | refine dV (S_alloc 3 rfl) rfl rfl ?_ | refine dV (S_alloc 4 rfl) rfl rfl ?_ | refine dV (S_alloc 5 rfl) rfl rfl ?_ | refine dV (S_alloc 6 rfl) rfl rfl ?_ | refine dV (S_alloc 7 rfl) rfl rfl ?_)
        | refine WD_nil (by first | decide +kernel | kernel_rfl | rfl) ?_
      all_goals first
        | rfl
        | (exfalso; omega)
        | contradiction
        | skip
      all_goals trace_state
    · exact factsInst_core l n_ at_ h1.1 h1.2 (by omega) h0 hsl hrg hgr
end Go.Proofs
