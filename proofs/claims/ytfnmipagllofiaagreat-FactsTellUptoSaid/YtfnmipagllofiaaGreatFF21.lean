/- The statement FactsInstants: what the code does. -/
import Derived.Test.YtfnmipagllofiaaGreatFF8
import Derived.Test.YtfnmipagllofiaaGreatFP6
import Derived.Test.YtfnmipagllofiaaGreatFS9
import Derived.Test.YtfnmipagllofiaaGreatFD3
namespace Go.Proofs
open Go.AL Go.Sort
attribute [local irreducible] Go.AL.W Go.AL.WL Go.AL.WD Go.AL.POp Go.AL.PPOp Go.AL.POpS Go.AL.PC Go.AL.AC Go.AL.YW Go.AL.Ret Go.AL.Le Go.AL.thn Go.AL.inBlk Go.AL.scp
set_option maxHeartbeats 4000000 in
theorem rin_pc' [GlobF Tryz.prog] (l : List Sp) (at_ : Int) (hl : l.length < 4611686018427387904) : PC Tryz.prog 24 [sl2 l, .sc (.int .i64 at_)] (.sc (.bool (dP (inS l at_)))) := by
  refine PC.of_body Tryz.func24 Tryz.ntmps24 rfl rfl rfl ?_
  repeat' first
    | (apply p1 (hd := rfl); case hop => (apply D_assign; rfl))
    | refine W_seq ?_
    | refine W_region ?_
    | refine WL_nil ?_
    | refine tn ?_
    | refine W_block ?_
    | fail
  refine W_loopL (X := Nat) (fun i => [(0, sl2 l), (1, .sc (.int .i64 at_)), (5, .sc (.int .i64 (i : Int)))]) (fun _ => [])
    (fun i => i ≤ l.length ∧ ∀ (j : Nat) (h : j < l.length), j < i → ¬ (l[j].f ≤ at_ ∧ at_ < l[j].t)) (fun i => l.length - i) 0 ⟨by omega, fun j h h' => by omega⟩ ⟨rfl, rfl, rfl, trivial⟩ rfl ?_
  rintro i ⟨hi, hz⟩
  have hnext : ∀ (h : i < l.length), ¬ (l[i].f ≤ at_ ∧ at_ < l[i].t) → ∀ (j : Nat) (h : j < l.length), j < i + 1 → ¬ (l[j].f ≤ at_ ∧ at_ < l[j].t) := fun h k1 j hj hji => by
    by_cases e : j = i
    · subst e; exact k1
    · exact hz j hj (by omega)
  repeat' first
    | (apply p1 (hd := rfl); case hop => first | (apply D_move; rfl) | (apply D_assign; rfl) | (apply D_load1; rfl) | (apply D_fld; rfl) | (apply D_pickT; rfl; rfl) | (apply D_pickF; rfl; rfl) | (apply D_int; rfl; rfl; rfl) | (apply D_lenM; rfl) | (apply D_idxAn; rfl; rfl; (first | omega | (simp; done))))
    | refine W_seq ?_
    | refine W_region ?_
    | (refine idC ?_; first | refine c0 rfl ?_ | refine cs rfl (fun _ => ?_) (fun _ => ?_))
    | refine WL_nil ?_
    | (refine idG ?_; first | refine g0t rfl rfl rfl ?_ | refine gr rfl rfl ?_ | refine gs rfl rfl (fun _ => ?_) (fun _ => ?_))
    | refine tn ?_
    | refine tr ?_
    | refine br ?_
    | refine bn ?_
    | refine te ?_
    | (refine idB ?_; refine bh rfl ?_)
    | refine W_skip ?_
    | refine W_block ?_
    | refine W_exit ?_
    | refine W_ret ?_
    | (refine idR ?_; refine ret1 rfl rfl rfl ?_)
    | refine Le.bool ?_
    | fail
  all_goals first
    | exact dP_T ⟨l[i]'(by omega), List.getElem_mem _, by assumption, by assumption⟩
    | exact ⟨rfl, i + 1, ⟨by omega, hnext (by omega) (by omega)⟩, by omega, ⟨rfl, rfl, ieq (wsucc i (by omega)), trivial⟩, rfl⟩
    | (refine dP_F ?_; rintro ⟨s, hs, h1, h2⟩; obtain ⟨j, hj, rfl⟩ := List.getElem_of_mem hs; exact hz j hj (by omega) ⟨h1, h2⟩)
    | skip
  all_goals trace_state
theorem findL_len {F : List Fac} {n : Nat} (k : Fac) (h : ∀ f, f ∈ F → f.sp.length ≤ n) : (findL F k).length ≤ n := by
  unfold findL
  cases hf : F.find? fun g => decide (cmpF g k = 0) with
  | none => exact Nat.zero_le _
  | some f0 => exact h f0 (List.mem_of_find?_eq_some hf)
end Go.Proofs

namespace Go.Proofs
open Go.AL Go.Sort
attribute [local irreducible] Go.AL.W Go.AL.WL Go.AL.WD Go.AL.POp Go.AL.PPOp Go.AL.POpS Go.AL.PC Go.AL.AC Go.AL.YW Go.AL.Ret Go.AL.Le Go.AL.thn Go.AL.inBlk Go.AL.scp
set_option maxHeartbeats 4000000 in
theorem rcompare_pc [GlobF Tryz.prog] (a b : Fac) (ha : a.v.s.length < 9223372036854775808) : PC Tryz.prog 34 [eF a, eF b] (.sc (.int .i64 (cmpF a b))) := by
  have hc := compare1_pc a.v b.v ha
  refine PC.of_body Tryz.func34 Tryz.ntmps34 rfl rfl rfl ?_
  repeat' first
    | (apply p1 (hd := rfl); case hop => first | (apply D_move; rfl) | (apply D_assign; rfl) | (apply D_pc hc; rfl; exact .same rfl (.same rfl .nil)) | (apply D_load1; rfl) | (apply D_fld; rfl) | (apply D_pickT; rfl; rfl) | (apply D_pickF; rfl; rfl) | (apply D_int; rfl; rfl; rfl) | (apply D_loadA; rfl; rfl) | (apply D_box; rfl; rfl))
    | refine W_seq ?_
    | refine W_region ?_
    | (refine idC ?_; first | refine c1 rfl ?_ | refine c0 rfl ?_ | refine cs rfl (fun _ => ?_) (fun _ => ?_))
    | refine WL_nil ?_
    | (refine idG ?_; first | refine g0t rfl rfl rfl ?_ | refine g0f rfl rfl rfl ?_ | refine g0u rfl rfl rfl ?_ | refine gr rfl rfl ?_ | refine gs rfl rfl (fun _ => ?_) (fun _ => ?_))
    | refine tn ?_
    | refine tr ?_
    | refine W_skip ?_
    | refine W_ret ?_
    | (refine idR ?_; refine ret1 rfl rfl rfl ?_)
    | refine Le.int ?_
    | fail
  all_goals (rw [cmpF_if]; unfold cmpI)
  all_goals first
    | (repeat' split) <;> first | rfl | (exfalso; omega) | omega
    | skip
  all_goals trace_state
set_option maxHeartbeats 4000000 in
theorem rgreat6_pc [GlobF Tryz.prog] (l : List Fac) (hw : (l.map wtF).sum ≤ 1048576) : PC Tryz.prog 9 [sl6 l] (.sc (.int .i64 (if 3000 < gr6 l then 1 else 0))) := by
  have hwt := gr6_wt l
  have hll := sum_len (f := wtF) 1 (l := l) fun a _ => by show 1 ≤ 1 + _ + _; omega
  refine PC.of_body Tryz.func9 Tryz.ntmps9 rfl rfl rfl ?_
  repeat' first
    | (apply p1 (hd := rfl); case hop => (apply D_assign; rfl))
    | refine W_seq ?_
    | refine W_region ?_
    | refine WL_nil ?_
    | refine tn ?_
    | refine W_block ?_
    | fail
  refine W_loopL (X := Nat) (fun i => [(0, sl6 l), (3, .sc (.int .i64 ((gr6 (l.take i) : Nat) : Int))), (4, .sc (.int .i64 (i : Int)))]) (fun _ => [])
    (fun i => i ≤ l.length) (fun i => l.length - i) 0 (Nat.zero_le _) ⟨rfl, rfl, rfl, trivial⟩ rfl ?_
  intro i hi
  have hm := gr6_mono l i
  by_cases hil : i < l.length
  · have ht := gr6_take l i hil
    have hm2 := gr6_mono l (i + 1)
    repeat' first
      | (apply p1 (hd := rfl); case hop => first | (apply D_move; rfl) | (apply D_assign; rfl) | (apply D_int; rfl; rfl; rfl) | (apply D_lenM; rfl))
      | refine W_seq ?_
      | refine W_region ?_
      | (refine idC ?_; refine cs rfl (fun _ => ?_) (fun _ => ?_))
      | refine WL_nil ?_
      | refine tn ?_
      | refine tr ?_
      | refine bn ?_
      | refine te ?_
      | (refine idB ?_; refine bh rfl ?_)
      | refine W_skip ?_
      | refine W_block ?_
      | refine W_exit ?_
      | refine W_ret ?_
      | (refine idR ?_; refine ret1 rfl rfl rfl ?_)
      | refine Le.int ?_
      | (refine idW ?_; refine W_draw0 rfl ?_)
      | (apply d1 (hd := rfl); case hop => first | (apply D_move; rfl) | (apply D_assign; rfl) | (apply D_load1; rfl) | (apply D_fld; rfl) | (apply D_int; rfl; rfl; rfl) | (apply D_lenM; rfl) | (apply D_len_str; rfl) | (apply D_idxAn; rfl; rfl; (first | omega | (simp; done))))
      | refine WD_nil (by first | decide +kernel | kernel_rfl | rfl) ?_
      | fail
    all_goals first
      | (exfalso; omega)
      | (refine ⟨rfl, i + 1, by omega, by omega, ⟨rfl, ieq ?_, ieq (wsucc i (by omega)), trivial⟩, rfl⟩
         rw [w64 ((gr6 (l.take i) : Int) + 20) (by omega) (by omega), w64 ((gr6 (l.take i) : Int) + 20 + _) (by omega) (by omega), w64 (4 * _) (by omega) (by omega), w64 _ (by omega) (by omega)]
         omega)
      | skip
    all_goals trace_state
  · have e : i = l.length := by omega
    subst e
    rw [List.take_length] at *
    repeat' first
      | (apply p1 (hd := rfl); case hop => first | (apply D_move; rfl) | (apply D_assign; rfl) | (apply D_int; rfl; rfl; rfl) | (apply D_lenM; rfl))
      | refine W_seq ?_
      | refine W_region ?_
      | (refine idC ?_; refine cs rfl (fun _ => ?_) (fun _ => ?_))
      | refine WL_nil ?_
      | refine tn ?_
      | refine tr ?_
      | refine bn ?_
      | refine te ?_
      | (refine idB ?_; refine bh rfl ?_)
      | refine W_skip ?_
      | refine W_block ?_
      | refine W_exit ?_
      | refine W_ret ?_
      | (refine idR ?_; refine ret1 rfl rfl rfl ?_)
      | refine Le.int ?_
      | (refine idW ?_; refine W_draw0 rfl ?_)
      | (apply d1 (hd := rfl); case hop => first | (apply D_move; rfl) | (apply D_assign; rfl) | (apply D_load1; rfl) | (apply D_fld; rfl) | (apply D_int; rfl; rfl; rfl) | (apply D_lenM; rfl) | (apply D_len_str; rfl) | (apply D_idxAn; rfl; rfl; (first | omega | (simp; done))))
      | refine WD_nil (by first | decide +kernel | kernel_rfl | rfl) ?_
      | fail
    all_goals first
      | (exfalso; omega)
      | (rw [if_pos (by omega)])
      | (rw [if_neg (by omega)])
      | skip
    all_goals trace_state
set_option maxHeartbeats 8000000 in
theorem rmay_pc [GlobF Tryz.prog] (l : List Fac) (hl : l.length < 4611686018427387904) (hb : bndF l) : PC Tryz.prog 10 [sl6 l] (.sc (.bool (dP (allF l)))) := by
  refine PC.of_body Tryz.func10 Tryz.ntmps10 rfl rfl rfl ?_
  repeat' first
    | (apply p1 (hd := rfl); case hop => (apply D_assign; rfl))
    | refine W_seq ?_
    | refine W_region ?_
    | refine WL_nil ?_
    | refine tn ?_
    | refine W_block ?_
    | fail
  refine W_loopR (X := Nat) (fun i => [(0, sl6 l), (3, .sc (.int .i64 (i : Int)))]) (fun _ => [])
    (fun i => i ≤ l.length ∧ allI l i) (fun i => l.length - i) 0 ⟨Nat.zero_le _, fun j h hj => absurd hj (Nat.not_lt_zero j)⟩ ⟨rfl, rfl, trivial⟩ rfl ?_
  rintro i ⟨hi, hz⟩
  by_cases hil : i < l.length
  · have hm := dmay1_pc (datF (l[i]'hil)) (hb _ (List.getElem_mem _)).1
    have hs := rset_pc (l[i]'hil).sp (hb _ (List.getElem_mem _)).2
    have hnext : mayF (l[i]'hil) → (∀ h0 : 0 < i, cmpF (l[i - 1]'(by omega)) l[i] < 0) → allI l (i + 1) := fun h1 h2 j hj hji => by
      by_cases e : j = i
      · subst e; exact ⟨h1, h2⟩
      · exact hz j hj (by omega)
    have hno : ¬ (mayF (l[i]'hil) ∧ ∀ h0 : 0 < i, cmpF (l[i - 1]'(by omega)) l[i] < 0) → false = dP (allF l) := fun h => dP_F fun e => h (e i hil hil)
    by_cases h1 : dmayP (datF (l[i]'hil))
    · rw [← dP_T h1] at hm
      by_cases h2 : SetP (l[i]'hil).sp
      · rw [← dP_T h2] at hs
        by_cases h0 : i = 0
        · subst h0
          repeat' first
            | (apply p1 (hd := rfl); case hop => first | (apply D_move; rfl) | (apply D_assign; rfl) | (apply D_int; rfl; rfl; rfl) | (apply D_lenM; rfl))
            | refine W_seq ?_
            | refine W_region ?_
            | (refine idC ?_; first | refine c1 rfl ?_ | refine c0 rfl ?_ | refine cs rfl (fun _ => ?_) (fun _ => ?_))
            | refine WL_nil ?_
            | refine tn ?_
            | refine tr ?_
            | refine br ?_
            | refine bn ?_
            | refine te ?_
            | (refine idB ?_; refine bh rfl ?_)
            | refine W_skip ?_
            | refine W_block ?_
            | refine W_exit ?_
            | refine W_ret ?_
            | (refine idR ?_; refine ret1 rfl rfl rfl ?_)
            | refine Le.bool ?_
            | (refine idW ?_; first | refine W_draw0 rfl ?_ | refine W_draw1 rfl ?_)
            | (apply d1 (hd := rfl); case hop => first | (apply D_move; rfl) | (apply D_pc hm; rfl; exact .same rfl .nil) | (apply D_pc hs; rfl; exact .same rfl .nil) | (apply D_load1; rfl) | (apply D_fld; rfl) | (apply D_pickT; rfl; rfl) | (apply D_pickF; rfl; rfl) | (apply D_int; rfl; rfl; rfl) | (apply D_lenM; rfl) | (apply D_not; rfl) | (apply D_loadW; rfl; rfl) | (apply D_loadA; rfl; rfl) | (apply D_idxAn; rfl; rfl; (first | omega | (simp; done))) | (apply D_idxA; rfl; rfl; omega; (first | omega | (simp; done) | (simp; omega))) | exact D_build rfl)
            | (refine idDg ?_; first | refine dg0t rfl rfl rfl ?_ | refine dg0f rfl rfl rfl ?_ | refine dg0u rfl rfl rfl ?_ | refine dgr rfl rfl ?_ | refine dgs rfl rfl (fun _ => ?_) (fun _ => ?_))
            | (refine idDn ?_; first | refine dL _ (fun hp' hs => D_loadBA rfl (hs.trans rfl) rfl) rfl ?_ | refine dS (S_store rfl rfl rfl rfl rfl rfl rfl) rfl ?_ | refine dV (S_alloc 0 rfl) rfl rfl ?_)
            | refine WD_nil (by first | decide +kernel | kernel_rfl | rfl) ?_
            | fail
          all_goals first
            | (exfalso; omega)
            | contradiction
            | exact ⟨rfl, 0 + 1, ⟨by omega, hnext ⟨h1, by omega, h2⟩ fun h => absurd h (Nat.lt_irrefl 0)⟩, by omega, [], renN ⟨⟨_, rfl, .pur⟩, ⟨_, rfl, by rw [wsucc 0 (by omega)]; exact .pur⟩, trivial⟩⟩
            | (refine hno fun h => ?_; have := h.1.2.1; omega)
            | skip
          all_goals trace_state
        · have hsub : IntKind.i64.wrap ((i : Int) - 1) = ((i - 1 : Nat) : Int) := by rw [w64 _ (by omega) (by omega)]; omega
          have hc := rcompare_pc (l[i - 1]'(by omega)) (l[i]'hil) (hb _ (List.getElem_mem _)).1
          repeat' first
            | (apply p1 (hd := rfl); case hop => first | (apply D_move; rfl) | (apply D_assign; rfl) | (apply D_int; rfl; rfl; rfl) | (apply D_lenM; rfl))
            | refine W_seq ?_
            | refine W_region ?_
            | (refine idC ?_; first | refine c1 rfl ?_ | refine c0 rfl ?_ | refine cs rfl (fun _ => ?_) (fun _ => ?_))
            | refine WL_nil ?_
            | refine tn ?_
            | refine tr ?_
            | refine br ?_
            | refine bn ?_
            | refine te ?_
            | (refine idB ?_; refine bh rfl ?_)
            | refine W_skip ?_
            | refine W_block ?_
            | refine W_exit ?_
            | refine W_ret ?_
            | (refine idR ?_; refine ret1 rfl rfl rfl ?_)
            | refine Le.bool ?_
            | (refine idW ?_; first | refine W_draw0 rfl ?_ | refine W_draw1 rfl ?_)
            | (apply d1 (hd := rfl); case hop => first | (apply D_move; rfl) | (apply D_pc hm; rfl; exact .same rfl .nil) | (apply D_pc hs; rfl; exact .same rfl .nil) | exact D_sc (D_int rfl rfl rfl) (congrArg _ hsub) | (apply D_pc hc; rfl; exact .same rfl (.same rfl .nil)) | (apply D_load1; rfl) | (apply D_fld; rfl) | (apply D_pickT; rfl; rfl) | (apply D_pickF; rfl; rfl) | (apply D_int; rfl; rfl; rfl) | (apply D_lenM; rfl) | (apply D_not; rfl) | (apply D_loadW; rfl; rfl) | (apply D_loadA; rfl; rfl) | (apply D_idxAn; rfl; rfl; (first | omega | (simp; done))) | exact D_build rfl)
            | (refine idDg ?_; first | refine dg0t rfl rfl rfl ?_ | refine dg0f rfl rfl rfl ?_ | refine dg0u rfl rfl rfl ?_ | refine dgr rfl rfl ?_ | refine dgs rfl rfl (fun _ => ?_) (fun _ => ?_))
            | (refine idDn ?_; first | refine dL _ (fun hp' hs => D_loadBA rfl (hs.trans rfl) rfl) rfl ?_ | refine dS (S_store rfl rfl rfl rfl rfl rfl rfl) rfl ?_ | refine dV (S_alloc 0 rfl) rfl rfl ?_)
            | refine WD_nil (by first | decide +kernel | kernel_rfl | rfl) ?_
            | fail
          all_goals first
            | (exfalso; omega)
            | contradiction
            | exact ⟨rfl, i + 1, ⟨by omega, hnext ⟨h1, by omega, h2⟩ fun h => by omega⟩, by omega, [], renN ⟨⟨_, rfl, .pur⟩, ⟨_, rfl, by rw [wsucc i (by omega)]; exact .pur⟩, trivial⟩⟩
            | (refine hno fun h => ?_; have := h.2 (by omega); omega)
            | (refine hno fun h => ?_; have := h.1.2.1; omega)
            | skip
          all_goals trace_state
      · rw [← dP_F h2] at hs
        repeat' first
          | (apply p1 (hd := rfl); case hop => first | (apply D_move; rfl) | (apply D_assign; rfl) | (apply D_int; rfl; rfl; rfl) | (apply D_lenM; rfl))
          | refine W_seq ?_
          | refine W_region ?_
          | (refine idC ?_; first | refine c1 rfl ?_ | refine c0 rfl ?_ | refine cs rfl (fun _ => ?_) (fun _ => ?_))
          | refine WL_nil ?_
          | refine tn ?_
          | refine tr ?_
          | refine br ?_
          | refine bn ?_
          | refine te ?_
          | (refine idB ?_; refine bh rfl ?_)
          | refine W_skip ?_
          | refine W_block ?_
          | refine W_exit ?_
          | refine W_ret ?_
          | (refine idR ?_; refine ret1 rfl rfl rfl ?_)
          | refine Le.bool ?_
          | (refine idW ?_; first | refine W_draw0 rfl ?_ | refine W_draw1 rfl ?_)
          | (apply d1 (hd := rfl); case hop => first | (apply D_move; rfl) | (apply D_pc hm; rfl; exact .same rfl .nil) | (apply D_pc hs; rfl; exact .same rfl .nil) | (apply D_load1; rfl) | (apply D_fld; rfl) | (apply D_pickT; rfl; rfl) | (apply D_pickF; rfl; rfl) | (apply D_int; rfl; rfl; rfl) | (apply D_lenM; rfl) | (apply D_not; rfl) | (apply D_loadA; rfl; rfl) | (apply D_idxAn; rfl; rfl; (first | omega | (simp; done))) | exact D_build rfl)
          | (refine idDg ?_; first | refine dg0t rfl rfl rfl ?_ | refine dg0f rfl rfl rfl ?_ | refine dg0u rfl rfl rfl ?_ | refine dgr rfl rfl ?_ | refine dgs rfl rfl (fun _ => ?_) (fun _ => ?_))
          | (refine idDn ?_; first | refine dL _ (fun hp' hs => D_loadBA rfl (hs.trans rfl) rfl) rfl ?_ | refine dS (S_store rfl rfl rfl rfl rfl rfl rfl) rfl ?_ | refine dV (S_alloc 0 rfl) rfl rfl ?_)
          | refine WD_nil (by first | decide +kernel | kernel_rfl | rfl) ?_
          | fail
        all_goals first
          | (exfalso; omega)
          | contradiction
          | exact hno fun h => h2 h.1.2.2
          | skip
        all_goals trace_state
    · rw [← dP_F h1] at hm
      repeat' first
        | (apply p1 (hd := rfl); case hop => first | (apply D_move; rfl) | (apply D_assign; rfl) | (apply D_int; rfl; rfl; rfl) | (apply D_lenM; rfl))
        | refine W_seq ?_
        | refine W_region ?_
        | (refine idC ?_; first | refine c1 rfl ?_ | refine cs rfl (fun _ => ?_) (fun _ => ?_))
        | refine WL_nil ?_
        | refine tn ?_
        | refine tr ?_
        | refine br ?_
        | refine te ?_
        | (refine idB ?_; refine bh rfl ?_)
        | refine W_skip ?_
        | refine W_block ?_
        | refine W_exit ?_
        | refine W_ret ?_
        | (refine idR ?_; refine ret1 rfl rfl rfl ?_)
        | refine Le.bool ?_
        | (refine idW ?_; first | refine W_draw0 rfl ?_ | refine W_draw1 rfl ?_)
        | (apply d1 (hd := rfl); case hop => first | (apply D_move; rfl) | (apply D_pc hm; rfl; exact .same rfl .nil) | (apply D_load1; rfl) | (apply D_fld; rfl) | (apply D_pickT; rfl; rfl) | (apply D_pickF; rfl; rfl) | (apply D_int; rfl; rfl; rfl) | (apply D_lenM; rfl) | (apply D_not; rfl) | (apply D_loadA; rfl; rfl) | (apply D_idxAn; rfl; rfl; (first | omega | (simp; done))) | exact D_build rfl)
        | (refine idDg ?_; first | refine dg0f rfl rfl rfl ?_ | refine dg0u rfl rfl rfl ?_ | refine dgr rfl rfl ?_ | refine dgs rfl rfl (fun _ => ?_) (fun _ => ?_))
        | (refine idDn ?_; first | refine dL _ (fun hp' hs => D_loadBA rfl (hs.trans rfl) rfl) rfl ?_ | refine dS (S_store rfl rfl rfl rfl rfl rfl rfl) rfl ?_ | refine dV (S_alloc 0 rfl) rfl rfl ?_)
        | refine WD_nil (by first | decide +kernel | kernel_rfl | rfl) ?_
        | fail
      all_goals first
        | (exfalso; omega)
        | contradiction
        | exact hno fun h => h1 h.1.1
        | skip
      all_goals trace_state
  · have e : i = l.length := by omega
    subst e
    repeat' first
      | (apply p1 (hd := rfl); case hop => first | (apply D_move; rfl) | (apply D_assign; rfl) | (apply D_int; rfl; rfl; rfl) | (apply D_lenM; rfl))
      | refine W_seq ?_
      | refine W_region ?_
      | (refine idC ?_; refine cs rfl (fun _ => ?_) (fun _ => ?_))
      | refine WL_nil ?_
      | refine tn ?_
      | refine te ?_
      | (refine idB ?_; refine bh rfl ?_)
      | refine W_skip ?_
      | refine W_block ?_
      | refine W_exit ?_
      | refine W_ret ?_
      | (refine idR ?_; refine ret1 rfl rfl rfl ?_)
      | refine Le.bool ?_
      | (refine idW ?_; first | refine W_draw0 rfl ?_ | refine W_draw1 rfl ?_)
      | (apply d1 (hd := rfl); case hop => first | (apply D_move; rfl) | (apply D_load1; rfl) | (apply D_fld; rfl) | (apply D_loadA; rfl; rfl) | (apply D_idxAn; rfl; rfl; (first | omega | (simp; done))) | exact D_build rfl)
      | (refine idDn ?_; first | refine dL _ (fun hp' hs => D_loadBA rfl (hs.trans rfl) rfl) rfl ?_ | refine dS (S_store rfl rfl rfl rfl rfl rfl rfl) rfl ?_ | refine dV (S_alloc 0 rfl) rfl rfl ?_)
      | refine WD_nil (by first | decide +kernel | kernel_rfl | rfl) ?_
      | fail
    all_goals first
      | (exfalso; omega)
      | exact dP_T hz
      | skip
    all_goals trace_state
theorem find_step {l : List Fac} {f : Fac} {i : Nat} (h : i < l.length) (hz : ∀ (j : Nat) (h : j < l.length), j < i → cmpF l[j] f ≠ 0) (he : cmpF l[i] f = 0) : findL l f = l[i].sp := by
  unfold findL
  rw [find_at l i h (fun j hj hji => by simpa using hz j hj hji) (by simpa using he)]; rfl
theorem find_end {l : List Fac} {f : Fac} (hz : ∀ (j : Nat) (h : j < l.length), cmpF l[j] f ≠ 0) : findL l f = [] := by
  unfold findL
  rw [find_no fun j hj => by simpa using hz j hj]; rfl
set_option maxHeartbeats 8000000 in
theorem rfind_pc [GlobF Tryz.prog] (l : List Fac) (f : Fac) (hl : l.length < 4611686018427387904) (hb : bndF l) : PC Tryz.prog 46 [sl6 l, eF f] (sl2 (findL l f)) := by
  refine PC.of_body Tryz.func46 Tryz.ntmps46 rfl rfl rfl ?_
  repeat' first
    | (apply p1 (hd := rfl); case hop => first | (apply D_assign; rfl) | (apply D_box; rfl; rfl))
    | refine W_seq ?_
    | refine W_region ?_
    | refine WL_nil ?_
    | refine tn ?_
    | refine W_block ?_
    | fail
  refine W_loopL (X := Nat) (fun i => [(0, sl6 l), (3, .ep (fC f)), (5, .sc (.int .i64 (i : Int)))]) (fun _ => [])
    (fun i => i ≤ l.length ∧ ∀ (j : Nat) (h : j < l.length), j < i → cmpF l[j] f ≠ 0) (fun i => l.length - i) 0 ⟨Nat.zero_le _, fun j h hj => absurd hj (Nat.not_lt_zero j)⟩ ⟨rfl, rfl, rfl, trivial⟩ rfl ?_
  rintro i ⟨hi, hz⟩
  by_cases hil : i < l.length
  · have hc := rcompare_pc (l[i]'hil) f (hb _ (List.getElem_mem _)).1
    repeat' first
      | (apply p1 (hd := rfl); case hop => first | (apply D_move; rfl) | (apply D_assign; rfl) | (apply D_load1; rfl) | (apply D_fld; rfl) | (apply D_int; rfl; rfl; rfl) | (apply D_lenM; rfl) | (apply D_idxAn; rfl; rfl; (first | omega | (simp; done))))
      | refine W_seq ?_
      | refine W_region ?_
      | (refine idC ?_; refine cs rfl (fun _ => ?_) (fun _ => ?_))
      | refine WL_nil ?_
      | refine tn ?_
      | refine tr ?_
      | refine br ?_
      | refine bn ?_
      | refine te ?_
      | (refine idB ?_; refine bh rfl ?_)
      | refine W_skip ?_
      | refine W_block ?_
      | refine W_exit ?_
      | refine W_ret ?_
      | (refine idR ?_; refine ret1 rfl rfl rfl ?_)
      | (refine idW ?_; refine W_draw0 rfl ?_)
      | (apply d1 (hd := rfl); case hop => first | (apply D_move; rfl) | (apply D_pc hc; rfl; exact .same rfl (.same rfl .nil)) | (apply D_int; rfl; rfl; rfl) | (apply D_loadW; rfl; rfl) | (apply D_idxAn; rfl; rfl; (first | omega | (simp; done))))
      | refine WD_nil (by first | decide +kernel | kernel_rfl | rfl) ?_
      | fail
    all_goals first
      | (exfalso; omega)
      | (refine ⟨rfl, i + 1, ⟨by omega, fun j h hj => ?_⟩, by omega, ⟨rfl, rfl, ieq (wsucc i (by omega)), trivial⟩, rfl⟩
         by_cases e : j = i
         · subst e; assumption
         · exact hz j h (by omega))
      | (rw [find_step hil hz (by assumption)]; exact Le.of_eq rfl)
      | skip
    all_goals trace_state
  · rw [find_end fun j hj => hz j hj (by omega)]
    repeat' first
      | (apply p1 (hd := rfl); case hop => first | (apply D_move; rfl) | (apply D_assign; rfl) | (apply D_int; rfl; rfl; rfl) | (apply D_lenM; rfl))
      | refine W_seq ?_
      | refine W_region ?_
      | (refine idC ?_; refine cs rfl (fun _ => ?_) (fun _ => ?_))
      | refine WL_nil ?_
      | refine tn ?_
      | refine te ?_
      | (refine idB ?_; refine bh rfl ?_)
      | refine W_skip ?_
      | refine W_block ?_
      | refine W_exit ?_
      | refine W_ret ?_
      | (refine idR ?_; refine ret1 rfl rfl rfl ?_)
      | (refine idW ?_; refine W_draw0 rfl ?_)
      | (apply d1 (hd := rfl); case hop => first | (apply D_move; rfl) | (apply D_loadW; rfl; rfl) | (apply D_idxAn; rfl; rfl; (first | omega | (simp; done))))
      | fail
    all_goals first
      | (exfalso; omega)
      | exact Le.nil rfl
      | skip
    all_goals trace_state
set_option maxHeartbeats 8000000 in
theorem rspans_pc [GlobF Tryz.prog] (l : List Fac) (f : Fac) (hl : l.length < 4611686018427387904) (hb : bndF l) : PC Tryz.prog 19 [sl6 l, .sc (.int .i64 f.e), .sc (.int .i64 f.a), eV f.v] (.tu [sl2 (if dP (allF l) then findL l f else []), .sc (.int .i64 (if dP (allF l) then 0 else 60))]) := by
  have hm := rmay_pc l hl hb
  have hf := rfind_pc l ⟨f.e, f.a, f.v, []⟩ hl hb
  have e : findL l ⟨f.e, f.a, f.v, []⟩ = findL l f := rfl
  rw [e] at hf
  cases hx : dP (allF l) <;> rw [hx] at hm
  · refine PC.of_body Tryz.func19 Tryz.ntmps19 rfl rfl rfl ?_
    repeat' first
      | (apply p1 (hd := rfl); case hop => first | (apply D_move; rfl) | (apply D_assign; rfl) | (apply D_pc hm; rfl; exact .same rfl .nil) | (apply D_not; rfl) | (apply D_loadW; rfl; rfl) | (apply D_box; rfl; rfl) | exact D_build rfl)
      | refine W_seq ?_
      | refine W_region ?_
      | (refine idC ?_; refine cs rfl (fun _ => ?_) (fun _ => ?_))
      | refine WL_nil ?_
      | refine tn ?_
      | refine tr ?_
      | refine W_skip ?_
      | refine W_ret ?_
      | (refine idR ?_; refine ret2 rfl rfl rfl rfl ?_ ?_)
      | refine Le.int ?_
      | fail
    all_goals first | exact Le.nil rfl | rfl | contradiction | skip
    all_goals trace_state
  · rw [if_pos rfl, if_pos rfl]
    refine PC.of_body Tryz.func19 Tryz.ntmps19 rfl rfl rfl ?_
    repeat' first
      | (apply p1 (hd := rfl); case hop => first | (apply D_move; rfl) | (apply D_assign; rfl) | (apply D_pc hm; rfl; exact .same rfl .nil) | (apply D_pc hf; rfl; exact .same rfl (.cons rfl (leF _ _ _ _ _) .nil)) | (apply D_not; rfl) | (apply D_loadW; rfl; rfl) | (apply D_box; rfl; rfl) | exact D_build rfl)
      | refine W_seq ?_
      | refine W_region ?_
      | (refine idC ?_; refine cs rfl (fun _ => ?_) (fun _ => ?_))
      | refine WL_nil ?_
      | refine tn ?_
      | refine tr ?_
      | refine W_skip ?_
      | refine W_ret ?_
      | (refine idR ?_; refine ret2 rfl rfl rfl rfl ?_ ?_)
      | refine Le.int ?_
      | fail
    all_goals first | exact Le.of_eq rfl | rfl | contradiction | skip
    all_goals trace_state
end Go.Proofs

namespace Go.Proofs
open Go.AL Go.Sort
attribute [local irreducible] Go.AL.W Go.AL.WL Go.AL.WD Go.AL.POp Go.AL.PPOp Go.AL.POpS Go.AL.PC Go.AL.AC Go.AL.YW Go.AL.Ret Go.AL.Le Go.AL.thn Go.AL.inBlk Go.AL.scp
set_option maxHeartbeats 16000000 in
theorem rless0_ac [GlobF Tryz.prog] (a b : List Fac) (T : Int) (put : Bool) (ha : allF a) (hb : allF b) (ra : rngF a) (rb : rngF b) (hal : a.length < 1759218604500) (hbl : b.length < 1759218604500) (hba : bndG a) (hbb : bndG b) (hf : ∀ f, f ∈ a → f.sp.length + (findL b f).length < 4398046511104) (hO : (lessL a b T put).length * 80 ≤ 140737488355328) :
    AC Tryz.prog 41 [sl6 a, sl6 b, .sc (.int .i64 T), .sc (.bool put)] [] (fun v h' => v = .sl (some 0) 9 ((lessL a b T put).map dC) ∧ h' = [.tail (lessL a b T put).length 9 52]) := by
  have hp : ∀ i, (lessL (a.take i) b T put).length ≤ (lessL a b T put).length := fun i => by
    have h : lessL (a.take i ++ a.drop i) b T put = lessL (a.take i) b T put ++ lessL (a.drop i) b T put := by unfold lessL; rw [List.flatMap_append]
    rw [List.take_append_drop] at h; rw [h, List.length_append]; omega
  refine AC.of_body Tryz.func41 Tryz.ntmps41 rfl rfl rfl ?_
  repeat' first
    | (apply p1 (hd := rfl); case hop => (apply D_assign; rfl))
    | refine W_seq ?_
    | refine W_region ?_
    | refine WL_nil ?_
    | refine tn ?_
    | refine W_block ?_
    | fail
  refine W_adopt 9 9 52 rfl ?_
  refine W_loopL (X := Nat) (fun i => [(0, sl6 a), (1, sl6 b), (2, .sc (.int .i64 T)), (3, .sc (.bool put)), (9, .sl (some 0) 9 ((lessL (a.take i) b T put).map dC)), (10, .sc (.int .i64 (i : Int)))]) (fun i => [.tail (lessL (a.take i) b T put).length 9 52])
    (fun i => i ≤ a.length) (fun i => a.length - i) 0 (Nat.zero_le _) ⟨rfl, rfl, rfl, rfl, rfl, rfl, trivial⟩ rfl ?_
  intro i hi
  by_cases hil : i < a.length
  · have hfi := rfind_pc b (a[i]'hil) (by omega) hbb.f
    have hof := of_pc 2 (.inr (.inr rfl)) (a[i]'hil).sp (findL b (a[i]'hil)) (hf _ (List.getElem_mem _))
    rw [ofL_min (may_of ha (List.getElem_mem hil)).2.2 (find_set hb _) (fun _ h => rng_in (ra _ (List.getElem_mem hil)) h) (find_rng rb _)] at hof
    have hml := min_len (a[i]'hil).sp (findL b (a[i]'hil))
    have hfl := hf _ (List.getElem_mem hil)
    have hle := hp (i + 1)
    have hsn := lessL_take a b T put hil
    rw [hsn, List.length_append, sayD_len] at hle
    generalize minL (a[i]'hil).sp (findL b (a[i]'hil)) = D at *
    generalize findL b (a[i]'hil) = W at *
    generalize lessL (a.take i) b T put = E at *
    repeat' first
      | (apply p1 (hd := rfl); case hop => first | (apply D_move; rfl) | (apply D_assign; rfl) | (apply D_int; rfl; rfl; rfl) | (apply D_lenM; rfl))
      | refine W_seq ?_
      | refine W_region ?_
      | (refine idC ?_; refine cs rfl (fun _ => ?_) (fun _ => ?_))
      | refine WL_nil ?_
      | refine tn ?_
      | refine te ?_
      | (refine idB ?_; refine bh rfl ?_)
      | refine W_skip ?_
      | refine W_block ?_
      | refine W_exit ?_
      | refine W_ret ?_
      | (refine idW ?_; refine W_draw0 rfl ?_)
      | (apply d1 (hd := rfl); case hop => first | (apply D_move; rfl) | (apply D_assign; rfl) | (apply D_pc hfi; rfl; exact .same rfl (.same rfl .nil)) | (apply D_pc hof; rfl; exact .same rfl (.same rfl (.same rfl .nil))) | (apply D_load1; rfl) | (apply D_fld; rfl) | (apply D_loadW; rfl; rfl) | (apply D_idxAn; rfl; rfl; (first | omega | (simp; done))))
      | refine WD_nil (by first | decide +kernel | kernel_rfl | rfl) ?_
      | fail
    all_goals first
      | contradiction
      | (exfalso; omega)
      | skip
    refine W_loopL (X := Nat) (fun k => [(0, sl6 a), (1, sl6 b), (2, .sc (.int .i64 T)), (3, .sc (.bool put)), (9, .sl (some 0) 9 ((E ++ sayD (a[i]'hil) T put (D.take k)).map dC)), (10, .sc (.int .i64 (i : Int))), (11, sl2 D), (12, .sc (.int .i64 (k : Int)))]) (fun k => [.tail (E ++ sayD (a[i]'hil) T put (D.take k)).length 9 52])
      (fun k => k ≤ D.length) (fun k => D.length - k) 0 (Nat.zero_le _) ⟨rfl, rfl, rfl, rfl, by simp [sayD, lookO, look], rfl, rfl, rfl, trivial⟩ (by simp [sayD]) ?_
    intro k hk
    have hlen : (E ++ sayD (a[i]'hil) T put (D.take k)).length ≤ E.length + k := by rw [List.length_append, sayD_len, List.length_take]; omega
    by_cases hkl : k < D.length
    · have hsk : E ++ sayD (a[i]'hil) T put (D.take (k + 1)) = (E ++ sayD (a[i]'hil) T put (D.take k)) ++ [⟨(a[i]'hil).e, (a[i]'hil).a, (a[i]'hil).v, T, put, (D[k]'hkl).f, (D[k]'hkl).t⟩] := by rw [sayD_take (a[i]'hil) T put hkl, List.append_assoc]
      generalize E ++ sayD (a[i]'hil) T put (D.take k) = G at *
      repeat' first
        | (refine idW ?_; refine W_dS0 (id := 9) 30 rfl rfl (by decide +kernel) ?_; simp only [List.take_succ_cons, List.take_zero, List.drop_succ_cons, List.drop_zero])
        | (apply p1 (hd := rfl); case hop => first | (apply D_move; rfl) | (apply D_assign; rfl) | (apply D_int; rfl; rfl; rfl) | (apply D_lenM; rfl))
        | refine W_seq ?_
        | refine W_region ?_
        | (refine idC ?_; refine cs rfl (fun _ => ?_) (fun _ => ?_))
        | refine WL_nil ?_
        | refine tn ?_
        | refine bn ?_
        | refine te ?_
        | (refine idB ?_; refine bh rfl ?_)
        | refine W_skip ?_
        | refine W_block ?_
        | refine W_exit ?_
        | (refine idAp ?_; refine m_appB rfl rfl rfl (by first | rfl | assumption | exact get_set (by assumption) | exact get_set (get_set (by assumption)) | exact get_set (get_set (get_set (by assumption))) | ((repeat first | assumption | exact get_last | (refine get_last2 ?_; focus (simp; done)) | apply get_set | apply get_app | (apply get_ne; focus omega)); done)) ?_ rfl rfl ?_ ?_ rfl ?_; (first | rfl | focus (simp only [List.length_map, List.length_append, List.length_cons, List.length_nil]; omega) | focus (simp; done) | focus (simp; omega)); (first | focus (simp only [List.length_map, List.length_append, List.length_cons, List.length_nil]; omega) | focus (simp; done) | focus (simp; omega)); (first | focus (simp only [List.length_map, List.length_append, List.length_cons, List.length_nil]; omega) | focus (simp; done) | focus (simp; omega)))
        | (apply d1 (hd := rfl); case hop => first | (apply D_move; rfl) | (apply D_load1; rfl) | (apply D_fld; rfl) | (apply D_loadA; rfl; rfl) | (apply D_idxAn; rfl; rfl; (first | omega | (simp; done))) | (apply D_lit; rfl; rfl; rfl; rfl) | exact D_build rfl)
        | refine WD_nil (by first | decide +kernel | kernel_rfl | rfl) ?_
        | fail
      all_goals first
        | (exfalso; omega)
        | (refine ⟨rfl, k + 1, by omega, by omega, ⟨rfl, rfl, rfl, rfl, ?_, rfl, rfl, ieq (wsucc k (by omega)), trivial⟩, ?_⟩
           · rw [hsk, List.map_append]; rfl
           · rw [hsk, List.length_append, ← List.length_map (f := dC)]; rfl)
        | skip
      all_goals trace_state
    · have e : k = D.length := by omega
      subst e
      rw [List.take_length] at *
      rw [← hsn] at *
      repeat' first
        | (apply p1 (hd := rfl); case hop => first | (apply D_move; rfl) | (apply D_assign; rfl) | (apply D_int; rfl; rfl; rfl) | (apply D_lenM; rfl))
        | refine W_seq ?_
        | refine W_region ?_
        | (refine idC ?_; refine cs rfl (fun _ => ?_) (fun _ => ?_))
        | refine WL_nil ?_
        | refine tn ?_
        | refine bn ?_
        | refine te ?_
        | (refine idB ?_; refine bh rfl ?_)
        | refine W_skip ?_
        | refine W_block ?_
        | refine W_exit ?_
        | (refine idW ?_; refine W_draw0 rfl ?_)
        | (apply d1 (hd := rfl); case hop => first | (apply D_move; rfl) | (apply D_load1; rfl) | (apply D_fld; rfl) | (apply D_loadA; rfl; rfl) | (apply D_idxAn; rfl; rfl; (first | omega | (simp; done))) | (apply D_lit; rfl; rfl; rfl; rfl) | exact D_build rfl)
        | fail
      all_goals first
        | (exfalso; omega)
        | (refine ⟨rfl, i + 1, by omega, by omega, ⟨rfl, rfl, rfl, rfl, rfl, ieq (wsucc i (by omega)), trivial⟩, rfl⟩)
        | skip
      all_goals trace_state
  · have e : i = a.length := by omega
    subst e
    rw [List.take_length] at *
    generalize lessL a b T put = E at *
    repeat' first
      | (apply p1 (hd := rfl); case hop => first | (apply D_move; rfl) | (apply D_assign; rfl) | (apply D_int; rfl; rfl; rfl) | (apply D_lenM; rfl))
      | refine W_seq ?_
      | refine W_region ?_
      | (refine idC ?_; refine cs rfl (fun _ => ?_) (fun _ => ?_))
      | refine WL_nil ?_
      | refine tn ?_
      | refine te ?_
      | (refine idB ?_; refine bh rfl ?_)
      | refine W_skip ?_
      | refine W_block ?_
      | refine W_exit ?_
      | refine W_ret ?_
      | (refine idW ?_; refine W_draw0 rfl ?_)
      | (apply d1 (hd := rfl); case hop => first | (apply D_move; rfl) | (apply D_load1; rfl) | (apply D_fld; rfl) | (apply D_loadW; rfl; rfl) | (apply D_idxAn; rfl; rfl; (first | omega | (simp; done))))
      | fail
    all_goals first
      | (exfalso; omega)
      | exact retK1 (.inl rfl) rfl rfl (ResO.tmp rfl) ⟨rfl, rfl⟩
      | exact retK1 (.inr rfl) rfl rfl (ResO.tmp rfl) ⟨rfl, rfl⟩
      | skip
    all_goals trace_state
set_option maxHeartbeats 16000000 in
theorem rless1_ac [GlobF Tryz.prog] (n : Nat) (a b : List Fac) (T : Int) (put : Bool) (ha : allF a) (hb : allF b) (ra : rngF a) (rb : rngF b) (hal : a.length < 1759218604500) (hbl : b.length < 1759218604500) (hba : bndG a) (hbb : bndG b) (hf : ∀ f, f ∈ a → f.sp.length + (findL b f).length < 4398046511104) (hO : (lessL a b T put).length * 80 ≤ 140737488355328) :
    AC Tryz.prog 41 [sl6 a, sl6 b, .sc (.int .i64 T), .sc (.bool put)] [.tail n 9 52] (fun v h' => v = .sl (some 1) 9 ((lessL a b T put).map dC) ∧ h' = [.tail n 9 52, .tail (lessL a b T put).length 9 52]) := by
  have hp : ∀ i, (lessL (a.take i) b T put).length ≤ (lessL a b T put).length := fun i => by
    have h : lessL (a.take i ++ a.drop i) b T put = lessL (a.take i) b T put ++ lessL (a.drop i) b T put := by unfold lessL; rw [List.flatMap_append]
    rw [List.take_append_drop] at h; rw [h, List.length_append]; omega
  refine AC.of_body Tryz.func41 Tryz.ntmps41 rfl rfl rfl ?_
  repeat' first
    | (apply p1 (hd := rfl); case hop => (apply D_assign; rfl))
    | refine W_seq ?_
    | refine W_region ?_
    | refine WL_nil ?_
    | refine tn ?_
    | refine W_block ?_
    | fail
  refine W_adopt 9 9 52 rfl ?_
  refine W_loopL (X := Nat) (fun i => [(0, sl6 a), (1, sl6 b), (2, .sc (.int .i64 T)), (3, .sc (.bool put)), (9, .sl (some 1) 9 ((lessL (a.take i) b T put).map dC)), (10, .sc (.int .i64 (i : Int)))]) (fun i => [.tail n 9 52, .tail (lessL (a.take i) b T put).length 9 52])
    (fun i => i ≤ a.length) (fun i => a.length - i) 0 (Nat.zero_le _) ⟨rfl, rfl, rfl, rfl, rfl, rfl, trivial⟩ rfl ?_
  intro i hi
  by_cases hil : i < a.length
  · have hfi := rfind_pc b (a[i]'hil) (by omega) hbb.f
    have hof := of_pc 2 (.inr (.inr rfl)) (a[i]'hil).sp (findL b (a[i]'hil)) (hf _ (List.getElem_mem _))
    rw [ofL_min (may_of ha (List.getElem_mem hil)).2.2 (find_set hb _) (fun _ h => rng_in (ra _ (List.getElem_mem hil)) h) (find_rng rb _)] at hof
    have hml := min_len (a[i]'hil).sp (findL b (a[i]'hil))
    have hfl := hf _ (List.getElem_mem hil)
    have hle := hp (i + 1)
    have hsn := lessL_take a b T put hil
    rw [hsn, List.length_append, sayD_len] at hle
    generalize minL (a[i]'hil).sp (findL b (a[i]'hil)) = D at *
    generalize findL b (a[i]'hil) = W at *
    generalize lessL (a.take i) b T put = E at *
    repeat' first
      | (apply p1 (hd := rfl); case hop => first | (apply D_move; rfl) | (apply D_assign; rfl) | (apply D_int; rfl; rfl; rfl) | (apply D_lenM; rfl))
      | refine W_seq ?_
      | refine W_region ?_
      | (refine idC ?_; refine cs rfl (fun _ => ?_) (fun _ => ?_))
      | refine WL_nil ?_
      | refine tn ?_
      | refine te ?_
      | (refine idB ?_; refine bh rfl ?_)
      | refine W_skip ?_
      | refine W_block ?_
      | refine W_exit ?_
      | refine W_ret ?_
      | (refine idW ?_; refine W_draw0 rfl ?_)
      | (apply d1 (hd := rfl); case hop => first | (apply D_move; rfl) | (apply D_assign; rfl) | (apply D_pc hfi; rfl; exact .same rfl (.same rfl .nil)) | (apply D_pc hof; rfl; exact .same rfl (.same rfl (.same rfl .nil))) | (apply D_load1; rfl) | (apply D_fld; rfl) | (apply D_loadW; rfl; rfl) | (apply D_idxAn; rfl; rfl; (first | omega | (simp; done))))
      | refine WD_nil (by first | decide +kernel | kernel_rfl | rfl) ?_
      | fail
    all_goals first
      | contradiction
      | (exfalso; omega)
      | skip
    refine W_loopL (X := Nat) (fun k => [(0, sl6 a), (1, sl6 b), (2, .sc (.int .i64 T)), (3, .sc (.bool put)), (9, .sl (some 1) 9 ((E ++ sayD (a[i]'hil) T put (D.take k)).map dC)), (10, .sc (.int .i64 (i : Int))), (11, sl2 D), (12, .sc (.int .i64 (k : Int)))]) (fun k => [.tail n 9 52, .tail (E ++ sayD (a[i]'hil) T put (D.take k)).length 9 52])
      (fun k => k ≤ D.length) (fun k => D.length - k) 0 (Nat.zero_le _) ⟨rfl, rfl, rfl, rfl, by simp [sayD, lookO, look], rfl, rfl, rfl, trivial⟩ (by simp [sayD]) ?_
    intro k hk
    have hlen : (E ++ sayD (a[i]'hil) T put (D.take k)).length ≤ E.length + k := by rw [List.length_append, sayD_len, List.length_take]; omega
    by_cases hkl : k < D.length
    · have hsk : E ++ sayD (a[i]'hil) T put (D.take (k + 1)) = (E ++ sayD (a[i]'hil) T put (D.take k)) ++ [⟨(a[i]'hil).e, (a[i]'hil).a, (a[i]'hil).v, T, put, (D[k]'hkl).f, (D[k]'hkl).t⟩] := by rw [sayD_take (a[i]'hil) T put hkl, List.append_assoc]
      generalize E ++ sayD (a[i]'hil) T put (D.take k) = G at *
      repeat' first
        | (refine idW ?_; refine W_dS0 (id := 9) 30 rfl rfl (by decide +kernel) ?_; simp only [List.take_succ_cons, List.take_zero, List.drop_succ_cons, List.drop_zero])
        | (apply p1 (hd := rfl); case hop => first | (apply D_move; rfl) | (apply D_assign; rfl) | (apply D_int; rfl; rfl; rfl) | (apply D_lenM; rfl))
        | refine W_seq ?_
        | refine W_region ?_
        | (refine idC ?_; refine cs rfl (fun _ => ?_) (fun _ => ?_))
        | refine WL_nil ?_
        | refine tn ?_
        | refine bn ?_
        | refine te ?_
        | (refine idB ?_; refine bh rfl ?_)
        | refine W_skip ?_
        | refine W_block ?_
        | refine W_exit ?_
        | (refine idAp ?_; refine m_appB rfl rfl rfl (by first | rfl | assumption | exact get_set (by assumption) | exact get_set (get_set (by assumption)) | exact get_set (get_set (get_set (by assumption))) | ((repeat first | assumption | exact get_last | (refine get_last2 ?_; focus (simp; done)) | apply get_set | apply get_app | (apply get_ne; focus omega)); done)) ?_ rfl rfl ?_ ?_ rfl ?_; (first | rfl | focus (simp only [List.length_map, List.length_append, List.length_cons, List.length_nil]; omega) | focus (simp; done) | focus (simp; omega)); (first | focus (simp only [List.length_map, List.length_append, List.length_cons, List.length_nil]; omega) | focus (simp; done) | focus (simp; omega)); (first | focus (simp only [List.length_map, List.length_append, List.length_cons, List.length_nil]; omega) | focus (simp; done) | focus (simp; omega)))
        | (apply d1 (hd := rfl); case hop => first | (apply D_move; rfl) | (apply D_load1; rfl) | (apply D_fld; rfl) | (apply D_loadA; rfl; rfl) | (apply D_idxAn; rfl; rfl; (first | omega | (simp; done))) | (apply D_lit; rfl; rfl; rfl; rfl) | exact D_build rfl)
        | refine WD_nil (by first | decide +kernel | kernel_rfl | rfl) ?_
        | fail
      all_goals first
        | (exfalso; omega)
        | (refine ⟨rfl, k + 1, by omega, by omega, ⟨rfl, rfl, rfl, rfl, ?_, rfl, rfl, ieq (wsucc k (by omega)), trivial⟩, ?_⟩
           · rw [hsk, List.map_append]; rfl
           · rw [hsk, List.length_append, ← List.length_map (f := dC)]; rfl)
        | skip
      all_goals trace_state
    · have e : k = D.length := by omega
      subst e
      rw [List.take_length] at *
      rw [← hsn] at *
      repeat' first
        | (apply p1 (hd := rfl); case hop => first | (apply D_move; rfl) | (apply D_assign; rfl) | (apply D_int; rfl; rfl; rfl) | (apply D_lenM; rfl))
        | refine W_seq ?_
        | refine W_region ?_
        | (refine idC ?_; refine cs rfl (fun _ => ?_) (fun _ => ?_))
        | refine WL_nil ?_
        | refine tn ?_
        | refine bn ?_
        | refine te ?_
        | (refine idB ?_; refine bh rfl ?_)
        | refine W_skip ?_
        | refine W_block ?_
        | refine W_exit ?_
        | (refine idW ?_; refine W_draw0 rfl ?_)
        | (apply d1 (hd := rfl); case hop => first | (apply D_move; rfl) | (apply D_load1; rfl) | (apply D_fld; rfl) | (apply D_loadA; rfl; rfl) | (apply D_idxAn; rfl; rfl; (first | omega | (simp; done))) | (apply D_lit; rfl; rfl; rfl; rfl) | exact D_build rfl)
        | fail
      all_goals first
        | (exfalso; omega)
        | (refine ⟨rfl, i + 1, by omega, by omega, ⟨rfl, rfl, rfl, rfl, rfl, ieq (wsucc i (by omega)), trivial⟩, rfl⟩)
        | skip
      all_goals trace_state
  · have e : i = a.length := by omega
    subst e
    rw [List.take_length] at *
    generalize lessL a b T put = E at *
    repeat' first
      | (apply p1 (hd := rfl); case hop => first | (apply D_move; rfl) | (apply D_assign; rfl) | (apply D_int; rfl; rfl; rfl) | (apply D_lenM; rfl))
      | refine W_seq ?_
      | refine W_region ?_
      | (refine idC ?_; refine cs rfl (fun _ => ?_) (fun _ => ?_))
      | refine WL_nil ?_
      | refine tn ?_
      | refine te ?_
      | (refine idB ?_; refine bh rfl ?_)
      | refine W_skip ?_
      | refine W_block ?_
      | refine W_exit ?_
      | refine W_ret ?_
      | (refine idW ?_; refine W_draw0 rfl ?_)
      | (apply d1 (hd := rfl); case hop => first | (apply D_move; rfl) | (apply D_load1; rfl) | (apply D_fld; rfl) | (apply D_loadW; rfl; rfl) | (apply D_idxAn; rfl; rfl; (first | omega | (simp; done))))
      | fail
    all_goals first
      | (exfalso; omega)
      | exact retK1 (.inl rfl) rfl rfl (ResO.tmp rfl) ⟨rfl, rfl⟩
      | exact retK1 (.inr rfl) rfl rfl (ResO.tmp rfl) ⟨rfl, rfl⟩
      | skip
    all_goals trace_state
end Go.Proofs
