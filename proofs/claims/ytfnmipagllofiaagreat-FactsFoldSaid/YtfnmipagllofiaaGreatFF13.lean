/- The statement FactsInstants: what the code does. -/
import Derived.Test.YtfnmipagllofiaaGreatFF8
import Derived.Test.YtfnmipagllofiaaGreatFP6
import Derived.Test.YtfnmipagllofiaaGreatFS9
import Derived.Test.YtfnmipagllofiaaGreatFD3
namespace Go.Proofs
open Go.AL Go.Sort
attribute [local irreducible] Go.AL.W Go.AL.WL Go.AL.WD Go.AL.POp Go.AL.PPOp Go.AL.POpS Go.AL.PC Go.AL.AC Go.AL.YW Go.AL.Ret Go.AL.Le Go.AL.thn Go.AL.inBlk Go.AL.scp
set_option maxHeartbeats 4000000 in
theorem rin_pc' [GlobF Tryz.prog] (l : List Sp) (at_ : Int) (hl : l.length < 4611686018427387904) : PC Tryz.prog 24 [sl2 l, .sc (.int .i64 at_)] (.sc (.bool (dP (inS l at_)))) := by
  refine PC.of_body Tryz.func24 Tryz.ntmps24 rfl rfl rfl ?_
  repeat' first
    | (apply p1 (hd := rfl); case hop => (apply D_assign; rfl))
    | refine W_seq ?_
    | refine W_region ?_
    | refine WL_nil ?_
    | refine tn ?_
    | refine W_block ?_
    | fail
  refine W_loopL (X := Nat) (fun i => [(0, sl2 l), (1, .sc (.int .i64 at_)), (5, .sc (.int .i64 (i : Int)))]) (fun _ => [])
    (fun i => i ≤ l.length ∧ ∀ (j : Nat) (h : j < l.length), j < i → ¬ (l[j].f ≤ at_ ∧ at_ < l[j].t)) (fun i => l.length - i) 0 ⟨by omega, fun j h h' => by omega⟩ ⟨rfl, rfl, rfl, trivial⟩ rfl ?_
  rintro i ⟨hi, hz⟩
  have hnext : ∀ (h : i < l.length), ¬ (l[i].f ≤ at_ ∧ at_ < l[i].t) → ∀ (j : Nat) (h : j < l.length), j < i + 1 → ¬ (l[j].f ≤ at_ ∧ at_ < l[j].t) := fun h k1 j hj hji => by
    by_cases e : j = i
    · subst e; exact k1
    · exact hz j hj (by omega)
  repeat' first
    | (apply p1 (hd := rfl); case hop => first | (apply D_move; rfl) | (apply D_assign; rfl) | (apply D_load1; rfl) | (apply D_fld; rfl) | (apply D_pickT; rfl; rfl) | (apply D_pickF; rfl; rfl) | (apply D_int; rfl; rfl; rfl) | (apply D_lenM; rfl) | (apply D_idxAn; rfl; rfl; (first | omega | (simp; done))))
    | refine W_seq ?_
    | refine W_region ?_
    | (refine idC ?_; first | refine c0 rfl ?_ | refine cs rfl (fun _ => ?_) (fun _ => ?_))
    | refine WL_nil ?_
    | (refine idG ?_; first | refine g0t rfl rfl rfl ?_ | refine gr rfl rfl ?_ | refine gs rfl rfl (fun _ => ?_) (fun _ => ?_))
    | refine tn ?_
    | refine tr ?_
    | refine br ?_
    | refine bn ?_
    | refine te ?_
    | (refine idB ?_; refine bh rfl ?_)
    | refine W_skip ?_
    | refine W_block ?_
    | refine W_exit ?_
    | refine W_ret ?_
    | (refine idR ?_; refine ret1 rfl rfl rfl ?_)
    | refine Le.bool ?_
    | fail
  all_goals first
    | exact dP_T ⟨l[i]'(by omega), List.getElem_mem _, by assumption, by assumption⟩
    | exact ⟨rfl, i + 1, ⟨by omega, hnext (by omega) (by omega)⟩, by omega, ⟨rfl, rfl, ieq (wsucc i (by omega)), trivial⟩, rfl⟩
    | (refine dP_F ?_; rintro ⟨s, hs, h1, h2⟩; obtain ⟨j, hj, rfl⟩ := List.getElem_of_mem hs; exact hz j hj (by omega) ⟨h1, h2⟩)
    | skip
  all_goals trace_state
theorem fac_sl {F : List Fac} (h : allF F) {f : Fac} (hf : f ∈ F) : f.v.s.length < 9223372036854775808 := by
  obtain ⟨i, hi, rfl⟩ := List.getElem_of_mem hf
  have h := (h i hi hi).1.1.2.2.2.2.1
  have h : MayP F[i].v := by unfold mayB at h; rwa [dP_t] at h
  rcases h with ⟨_, _, _, h⟩ | ⟨_, h⟩ | ⟨_, h, _⟩ | ⟨_, _, h⟩ | ⟨_, _, h⟩
  · rw [h]; decide
  · rw [h]; decide
  · rw [h]; decide
  · omega
  · unfold WordP at h; omega
end Go.Proofs

namespace Go.Proofs
open Go.AL Go.Sort
attribute [local irreducible] Go.AL.W Go.AL.WL Go.AL.WD Go.AL.POp Go.AL.PPOp Go.AL.POpS Go.AL.PC Go.AL.AC Go.AL.YW Go.AL.Ret Go.AL.Le Go.AL.thn Go.AL.inBlk Go.AL.scp
set_option maxHeartbeats 4000000 in
theorem rcompare_pc [GlobF Tryz.prog] (a b : Fac) (ha : a.v.s.length < 9223372036854775808) : PC Tryz.prog 34 [eF a, eF b] (.sc (.int .i64 (cmpF a b))) := by
  have hc := compare1_pc a.v b.v ha
  refine PC.of_body Tryz.func34 Tryz.ntmps34 rfl rfl rfl ?_
  repeat' first
    | (apply p1 (hd := rfl); case hop => first | (apply D_move; rfl) | (apply D_assign; rfl) | (apply D_pc hc; rfl; exact .same rfl (.same rfl .nil)) | (apply D_load1; rfl) | (apply D_fld; rfl) | (apply D_pickT; rfl; rfl) | (apply D_pickF; rfl; rfl) | (apply D_int; rfl; rfl; rfl) | (apply D_loadA; rfl; rfl) | (apply D_box; rfl; rfl))
    | refine W_seq ?_
    | refine W_region ?_
    | (refine idC ?_; first | refine c1 rfl ?_ | refine c0 rfl ?_ | refine cs rfl (fun _ => ?_) (fun _ => ?_))
    | refine WL_nil ?_
    | (refine idG ?_; first | refine g0t rfl rfl rfl ?_ | refine g0f rfl rfl rfl ?_ | refine g0u rfl rfl rfl ?_ | refine gr rfl rfl ?_ | refine gs rfl rfl (fun _ => ?_) (fun _ => ?_))
    | refine tn ?_
    | refine tr ?_
    | refine W_skip ?_
    | refine W_ret ?_
    | (refine idR ?_; refine ret1 rfl rfl rfl ?_)
    | refine Le.int ?_
    | fail
  all_goals (rw [cmpF_if]; unfold cmpI)
  all_goals first
    | (repeat' split) <;> first | rfl | (exfalso; omega) | omega
    | skip
  all_goals trace_state
set_option maxHeartbeats 4000000 in
theorem ralike_pc [GlobF Tryz.prog] (a b : Dat) : PC Tryz.prog 87 [eD a, eD b] (.sc (.bool (dP (alP a b)))) := by
  refine PC.of_body Tryz.func87 Tryz.ntmps87 rfl rfl rfl ?_
  repeat' first
    | (apply p1 (hd := rfl); case hop => first | (apply D_move; rfl) | (apply D_assign; rfl) | (apply D_load1; rfl) | (apply D_fld; rfl) | (apply D_pickT; rfl; rfl) | (apply D_pickF; rfl; rfl) | (apply D_int; rfl; rfl; rfl) | (apply D_loadA; rfl; rfl) | (apply D_box; rfl; rfl) | exact D_eqA rfl rfl rfl rfl rfl rfl rfl)
    | refine W_seq ?_
    | refine W_region ?_
    | refine WL_nil ?_
    | (refine idG ?_; first | refine g0t rfl rfl rfl ?_ | refine gr rfl rfl ?_ | refine gs rfl rfl (fun _ => ?_) (fun _ => ?_))
    | refine tn ?_
    | refine W_ret ?_
    | (refine idR ?_; refine ret1 rfl rfl rfl ?_)
    | refine Le.bool ?_
    | fail
  all_goals first
    | (refine dP_F ?_; rintro ⟨h1, h2, h3⟩; contradiction)
    | (refine dP_eq ?_; rw [lEq_t]; exact ⟨fun h => ⟨by assumption, by assumption, encV_eq.1 h⟩, fun h => encV_eq.2 h.2.2⟩)
    | skip
  all_goals trace_state
set_option maxHeartbeats 8000000 in
theorem rmay_pc [GlobF Tryz.prog] (l : List Fac) (hl : l.length < 4611686018427387904) (hb : bndF l) : PC Tryz.prog 10 [sl6 l] (.sc (.bool (dP (allF l)))) := by
  refine PC.of_body Tryz.func10 Tryz.ntmps10 rfl rfl rfl ?_
  repeat' first
    | (apply p1 (hd := rfl); case hop => (apply D_assign; rfl))
    | refine W_seq ?_
    | refine W_region ?_
    | refine WL_nil ?_
    | refine tn ?_
    | refine W_block ?_
    | fail
  refine W_loopR (X := Nat) (fun i => [(0, sl6 l), (3, .sc (.int .i64 (i : Int)))]) (fun _ => [])
    (fun i => i ≤ l.length ∧ allI l i) (fun i => l.length - i) 0 ⟨Nat.zero_le _, fun j h hj => absurd hj (Nat.not_lt_zero j)⟩ ⟨rfl, rfl, trivial⟩ rfl ?_
  rintro i ⟨hi, hz⟩
  by_cases hil : i < l.length
  · have hm := dmay1_pc (datF (l[i]'hil)) (hb _ (List.getElem_mem _)).1
    have hs := rset_pc (l[i]'hil).sp (hb _ (List.getElem_mem _)).2
    have hnext : mayF (l[i]'hil) → (∀ h0 : 0 < i, cmpF (l[i - 1]'(by omega)) l[i] < 0) → allI l (i + 1) := fun h1 h2 j hj hji => by
      by_cases e : j = i
      · subst e; exact ⟨h1, h2⟩
      · exact hz j hj (by omega)
    have hno : ¬ (mayF (l[i]'hil) ∧ ∀ h0 : 0 < i, cmpF (l[i - 1]'(by omega)) l[i] < 0) → false = dP (allF l) := fun h => dP_F fun e => h (e i hil hil)
    by_cases h1 : dmayP (datF (l[i]'hil))
    · rw [← dP_T h1] at hm
      by_cases h2 : SetP (l[i]'hil).sp
      · rw [← dP_T h2] at hs
        by_cases h0 : i = 0
        · subst h0
          repeat' first
            | (apply p1 (hd := rfl); case hop => first | (apply D_move; rfl) | (apply D_assign; rfl) | (apply D_int; rfl; rfl; rfl) | (apply D_lenM; rfl))
            | refine W_seq ?_
            | refine W_region ?_
            | (refine idC ?_; first | refine c1 rfl ?_ | refine c0 rfl ?_ | refine cs rfl (fun _ => ?_) (fun _ => ?_))
            | refine WL_nil ?_
            | refine tn ?_
            | refine tr ?_
            | refine br ?_
            | refine bn ?_
            | refine te ?_
            | (refine idB ?_; refine bh rfl ?_)
            | refine W_skip ?_
            | refine W_block ?_
            | refine W_exit ?_
            | refine W_ret ?_
            | (refine idR ?_; refine ret1 rfl rfl rfl ?_)
            | refine Le.bool ?_
            | (refine idW ?_; first | refine W_draw0 rfl ?_ | refine W_draw1 rfl ?_)
            | (apply d1 (hd := rfl); case hop => first | (apply D_move; rfl) | (apply D_pc hm; rfl; exact .same rfl .nil) | (apply D_pc hs; rfl; exact .same rfl .nil) | (apply D_load1; rfl) | (apply D_fld; rfl) | (apply D_pickT; rfl; rfl) | (apply D_pickF; rfl; rfl) | (apply D_int; rfl; rfl; rfl) | (apply D_lenM; rfl) | (apply D_not; rfl) | (apply D_loadW; rfl; rfl) | (apply D_loadA; rfl; rfl) | (apply D_idxAn; rfl; rfl; (first | omega | (simp; done))) | (apply D_idxA; rfl; rfl; omega; (first | omega | (simp; done) | (simp; omega))) | exact D_build rfl)
            | (refine idDg ?_; first | refine dg0t rfl rfl rfl ?_ | refine dg0f rfl rfl rfl ?_ | refine dg0u rfl rfl rfl ?_ | refine dgr rfl rfl ?_ | refine dgs rfl rfl (fun _ => ?_) (fun _ => ?_))
            | (refine idDn ?_; first | refine dL _ (fun hp' hs => D_loadBA rfl (hs.trans rfl) rfl) rfl ?_ | refine dS (S_store rfl rfl rfl rfl rfl rfl rfl) rfl ?_ | refine dV (S_alloc 0 rfl) rfl rfl ?_)
            | refine WD_nil (by first | decide +kernel | kernel_rfl | rfl) ?_
            | fail
          all_goals first
            | (exfalso; omega)
            | contradiction
            | exact ⟨rfl, 0 + 1, ⟨by omega, hnext ⟨h1, by omega, h2⟩ fun h => absurd h (Nat.lt_irrefl 0)⟩, by omega, [], renN ⟨⟨_, rfl, .pur⟩, ⟨_, rfl, by rw [wsucc 0 (by omega)]; exact .pur⟩, trivial⟩⟩
            | (refine hno fun h => ?_; have := h.1.2.1; omega)
            | skip
          all_goals trace_state
        · have hsub : IntKind.i64.wrap ((i : Int) - 1) = ((i - 1 : Nat) : Int) := by rw [w64 _ (by omega) (by omega)]; omega
          have hc := rcompare_pc (l[i - 1]'(by omega)) (l[i]'hil) (hb _ (List.getElem_mem _)).1
          repeat' first
            | (apply p1 (hd := rfl); case hop => first | (apply D_move; rfl) | (apply D_assign; rfl) | (apply D_int; rfl; rfl; rfl) | (apply D_lenM; rfl))
            | refine W_seq ?_
            | refine W_region ?_
            | (refine idC ?_; first | refine c1 rfl ?_ | refine c0 rfl ?_ | refine cs rfl (fun _ => ?_) (fun _ => ?_))
            | refine WL_nil ?_
            | refine tn ?_
            | refine tr ?_
            | refine br ?_
            | refine bn ?_
            | refine te ?_
            | (refine idB ?_; refine bh rfl ?_)
            | refine W_skip ?_
            | refine W_block ?_
            | refine W_exit ?_
            | refine W_ret ?_
            | (refine idR ?_; refine ret1 rfl rfl rfl ?_)
            | refine Le.bool ?_
            | (refine idW ?_; first | refine W_draw0 rfl ?_ | refine W_draw1 rfl ?_)
            | (apply d1 (hd := rfl); case hop => first | (apply D_move; rfl) | (apply D_pc hm; rfl; exact .same rfl .nil) | (apply D_pc hs; rfl; exact .same rfl .nil) | exact D_sc (D_int rfl rfl rfl) (congrArg _ hsub) | (apply D_pc hc; rfl; exact .same rfl (.same rfl .nil)) | (apply D_load1; rfl) | (apply D_fld; rfl) | (apply D_pickT; rfl; rfl) | (apply D_pickF; rfl; rfl) | (apply D_int; rfl; rfl; rfl) | (apply D_lenM; rfl) | (apply D_not; rfl) | (apply D_loadW; rfl; rfl) | (apply D_loadA; rfl; rfl) | (apply D_idxAn; rfl; rfl; (first | omega | (simp; done))) | exact D_build rfl)
            | (refine idDg ?_; first | refine dg0t rfl rfl rfl ?_ | refine dg0f rfl rfl rfl ?_ | refine dg0u rfl rfl rfl ?_ | refine dgr rfl rfl ?_ | refine dgs rfl rfl (fun _ => ?_) (fun _ => ?_))
            | (refine idDn ?_; first | refine dL _ (fun hp' hs => D_loadBA rfl (hs.trans rfl) rfl) rfl ?_ | refine dS (S_store rfl rfl rfl rfl rfl rfl rfl) rfl ?_ | refine dV (S_alloc 0 rfl) rfl rfl ?_)
            | refine WD_nil (by first | decide +kernel | kernel_rfl | rfl) ?_
            | fail
          all_goals first
            | (exfalso; omega)
            | contradiction
            | exact ⟨rfl, i + 1, ⟨by omega, hnext ⟨h1, by omega, h2⟩ fun h => by omega⟩, by omega, [], renN ⟨⟨_, rfl, .pur⟩, ⟨_, rfl, by rw [wsucc i (by omega)]; exact .pur⟩, trivial⟩⟩
            | (refine hno fun h => ?_; have := h.2 (by omega); omega)
            | (refine hno fun h => ?_; have := h.1.2.1; omega)
            | skip
          all_goals trace_state
      · rw [← dP_F h2] at hs
        repeat' first
          | (apply p1 (hd := rfl); case hop => first | (apply D_move; rfl) | (apply D_assign; rfl) | (apply D_int; rfl; rfl; rfl) | (apply D_lenM; rfl))
          | refine W_seq ?_
          | refine W_region ?_
          | (refine idC ?_; first | refine c1 rfl ?_ | refine c0 rfl ?_ | refine cs rfl (fun _ => ?_) (fun _ => ?_))
          | refine WL_nil ?_
          | refine tn ?_
          | refine tr ?_
          | refine br ?_
          | refine bn ?_
          | refine te ?_
          | (refine idB ?_; refine bh rfl ?_)
          | refine W_skip ?_
          | refine W_block ?_
          | refine W_exit ?_
          | refine W_ret ?_
          | (refine idR ?_; refine ret1 rfl rfl rfl ?_)
          | refine Le.bool ?_
          | (refine idW ?_; first | refine W_draw0 rfl ?_ | refine W_draw1 rfl ?_)
          | (apply d1 (hd := rfl); case hop => first | (apply D_move; rfl) | (apply D_pc hm; rfl; exact .same rfl .nil) | (apply D_pc hs; rfl; exact .same rfl .nil) | (apply D_load1; rfl) | (apply D_fld; rfl) | (apply D_pickT; rfl; rfl) | (apply D_pickF; rfl; rfl) | (apply D_int; rfl; rfl; rfl) | (apply D_lenM; rfl) | (apply D_not; rfl) | (apply D_loadA; rfl; rfl) | (apply D_idxAn; rfl; rfl; (first | omega | (simp; done))) | exact D_build rfl)
          | (refine idDg ?_; first | refine dg0t rfl rfl rfl ?_ | refine dg0f rfl rfl rfl ?_ | refine dg0u rfl rfl rfl ?_ | refine dgr rfl rfl ?_ | refine dgs rfl rfl (fun _ => ?_) (fun _ => ?_))
          | (refine idDn ?_; first | refine dL _ (fun hp' hs => D_loadBA rfl (hs.trans rfl) rfl) rfl ?_ | refine dS (S_store rfl rfl rfl rfl rfl rfl rfl) rfl ?_ | refine dV (S_alloc 0 rfl) rfl rfl ?_)
          | refine WD_nil (by first | decide +kernel | kernel_rfl | rfl) ?_
          | fail
        all_goals first
          | (exfalso; omega)
          | contradiction
          | exact hno fun h => h2 h.1.2.2
          | skip
        all_goals trace_state
    · rw [← dP_F h1] at hm
      repeat' first
        | (apply p1 (hd := rfl); case hop => first | (apply D_move; rfl) | (apply D_assign; rfl) | (apply D_int; rfl; rfl; rfl) | (apply D_lenM; rfl))
        | refine W_seq ?_
        | refine W_region ?_
        | (refine idC ?_; first | refine c1 rfl ?_ | refine cs rfl (fun _ => ?_) (fun _ => ?_))
        | refine WL_nil ?_
        | refine tn ?_
        | refine tr ?_
        | refine br ?_
        | refine te ?_
        | (refine idB ?_; refine bh rfl ?_)
        | refine W_skip ?_
        | refine W_block ?_
        | refine W_exit ?_
        | refine W_ret ?_
        | (refine idR ?_; refine ret1 rfl rfl rfl ?_)
        | refine Le.bool ?_
        | (refine idW ?_; first | refine W_draw0 rfl ?_ | refine W_draw1 rfl ?_)
        | (apply d1 (hd := rfl); case hop => first | (apply D_move; rfl) | (apply D_pc hm; rfl; exact .same rfl .nil) | (apply D_load1; rfl) | (apply D_fld; rfl) | (apply D_pickT; rfl; rfl) | (apply D_pickF; rfl; rfl) | (apply D_int; rfl; rfl; rfl) | (apply D_lenM; rfl) | (apply D_not; rfl) | (apply D_loadA; rfl; rfl) | (apply D_idxAn; rfl; rfl; (first | omega | (simp; done))) | exact D_build rfl)
        | (refine idDg ?_; first | refine dg0f rfl rfl rfl ?_ | refine dg0u rfl rfl rfl ?_ | refine dgr rfl rfl ?_ | refine dgs rfl rfl (fun _ => ?_) (fun _ => ?_))
        | (refine idDn ?_; first | refine dL _ (fun hp' hs => D_loadBA rfl (hs.trans rfl) rfl) rfl ?_ | refine dS (S_store rfl rfl rfl rfl rfl rfl rfl) rfl ?_ | refine dV (S_alloc 0 rfl) rfl rfl ?_)
        | refine WD_nil (by first | decide +kernel | kernel_rfl | rfl) ?_
        | fail
      all_goals first
        | (exfalso; omega)
        | contradiction
        | exact hno fun h => h1 h.1.1
        | skip
      all_goals trace_state
  · have e : i = l.length := by omega
    subst e
    repeat' first
      | (apply p1 (hd := rfl); case hop => first | (apply D_move; rfl) | (apply D_assign; rfl) | (apply D_int; rfl; rfl; rfl) | (apply D_lenM; rfl))
      | refine W_seq ?_
      | refine W_region ?_
      | (refine idC ?_; refine cs rfl (fun _ => ?_) (fun _ => ?_))
      | refine WL_nil ?_
      | refine tn ?_
      | refine te ?_
      | (refine idB ?_; refine bh rfl ?_)
      | refine W_skip ?_
      | refine W_block ?_
      | refine W_exit ?_
      | refine W_ret ?_
      | (refine idR ?_; refine ret1 rfl rfl rfl ?_)
      | refine Le.bool ?_
      | (refine idW ?_; first | refine W_draw0 rfl ?_ | refine W_draw1 rfl ?_)
      | (apply d1 (hd := rfl); case hop => first | (apply D_move; rfl) | (apply D_load1; rfl) | (apply D_fld; rfl) | (apply D_loadA; rfl; rfl) | (apply D_idxAn; rfl; rfl; (first | omega | (simp; done))) | exact D_build rfl)
      | (refine idDn ?_; first | refine dL _ (fun hp' hs => D_loadBA rfl (hs.trans rfl) rfl) rfl ?_ | refine dS (S_store rfl rfl rfl rfl rfl rfl rfl) rfl ?_ | refine dV (S_alloc 0 rfl) rfl rfl ?_)
      | refine WD_nil (by first | decide +kernel | kernel_rfl | rfl) ?_
      | fail
    all_goals first
      | (exfalso; omega)
      | exact dP_T hz
      | skip
    all_goals trace_state
end Go.Proofs
