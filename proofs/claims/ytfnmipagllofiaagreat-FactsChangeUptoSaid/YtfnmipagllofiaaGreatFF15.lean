/- Contracts of the document's functions on facts: how two stand, may some be, the instants of one, which hold at an instant. -/
import Derived.Test.YtfnmipagllofiaaGreatFF12
import Derived.Test.YtfnmipagllofiaaGreatFD3
import Derived.Test.YtfnmipagllofiaaGreatFS7
import Derived.Test.YtfnmipagllofiaaGreatOps26
namespace Go.Proofs
open Go.AL Go.Sort
attribute [local irreducible] Go.AL.W Go.AL.WL Go.AL.WD Go.AL.POp Go.AL.PPOp Go.AL.POpS Go.AL.PC Go.AL.AC Go.AL.YW Go.AL.Ret Go.AL.Le Go.AL.thn Go.AL.inBlk Go.AL.scp
set_option maxHeartbeats 4000000 in
theorem rgreat6_pc [GlobF Tryz.prog] (l : List Fac) (hw : (l.map wtF).sum ≤ 1048576) : PC Tryz.prog 9 [sl6 l] (.sc (.int .i64 (if 3000 < gr6 l then 1 else 0))) := by
  have hwt := gr6_wt l
  have hll := sum_len (f := wtF) 1 (l := l) fun a _ => by show 1 ≤ 1 + _ + _; omega
  refine PC.of_body Tryz.func9 Tryz.ntmps9 rfl rfl rfl ?_
  repeat' first
    | (apply p1 (hd := rfl); case hop => (apply D_assign; rfl))
    | refine W_seq ?_
    | refine W_region ?_
    | refine WL_nil ?_
    | refine tn ?_
    | refine W_block ?_
    | fail
  refine W_loopL (X := Nat) (fun i => [(0, sl6 l), (3, .sc (.int .i64 ((gr6 (l.take i) : Nat) : Int))), (4, .sc (.int .i64 (i : Int)))]) (fun _ => [])
    (fun i => i ≤ l.length) (fun i => l.length - i) 0 (Nat.zero_le _) ⟨rfl, rfl, rfl, trivial⟩ rfl ?_
  intro i hi
  have hm := gr6_mono l i
  by_cases hil : i < l.length
  · have ht := gr6_take l i hil
    have hm2 := gr6_mono l (i + 1)
    repeat' first
      | (apply p1 (hd := rfl); case hop => first | (apply D_move; rfl) | (apply D_assign; rfl) | (apply D_int; rfl; rfl; rfl) | (apply D_lenM; rfl))
      | refine W_seq ?_
      | refine W_region ?_
      | (refine idC ?_; refine cs rfl (fun _ => ?_) (fun _ => ?_))
      | refine WL_nil ?_
      | refine tn ?_
      | refine tr ?_
      | refine bn ?_
      | refine te ?_
      | (refine idB ?_; refine bh rfl ?_)
      | refine W_skip ?_
      | refine W_block ?_
      | refine W_exit ?_
      | refine W_ret ?_
      | (refine idR ?_; refine ret1 rfl rfl rfl ?_)
      | refine Le.int ?_
      | (refine idW ?_; refine W_draw0 rfl ?_)
      | (apply d1 (hd := rfl); case hop => first | (apply D_move; rfl) | (apply D_assign; rfl) | (apply D_load1; rfl) | (apply D_fld; rfl) | (apply D_int; rfl; rfl; rfl) | (apply D_lenM; rfl) | (apply D_len_str; rfl) | (apply D_idxAn; rfl; rfl; (first | omega | (simp; done))))
      | refine WD_nil (by first | decide +kernel | kernel_rfl | rfl) ?_
      | fail
    all_goals first
      | (exfalso; omega)
      | (refine ⟨rfl, i + 1, by omega, by omega, ⟨rfl, ieq ?_, ieq (wsucc i (by omega)), trivial⟩, rfl⟩
         rw [w64 ((gr6 (l.take i) : Int) + 20) (by omega) (by omega), w64 ((gr6 (l.take i) : Int) + 20 + _) (by omega) (by omega), w64 (4 * _) (by omega) (by omega), w64 _ (by omega) (by omega)]
         omega)
      | skip
    all_goals trace_state
  · have e : i = l.length := by omega
    subst e
    rw [List.take_length] at *
    repeat' first
      | (apply p1 (hd := rfl); case hop => first | (apply D_move; rfl) | (apply D_assign; rfl) | (apply D_int; rfl; rfl; rfl) | (apply D_lenM; rfl))
      | refine W_seq ?_
      | refine W_region ?_
      | (refine idC ?_; refine cs rfl (fun _ => ?_) (fun _ => ?_))
      | refine WL_nil ?_
      | refine tn ?_
      | refine tr ?_
      | refine bn ?_
      | refine te ?_
      | (refine idB ?_; refine bh rfl ?_)
      | refine W_skip ?_
      | refine W_block ?_
      | refine W_exit ?_
      | refine W_ret ?_
      | (refine idR ?_; refine ret1 rfl rfl rfl ?_)
      | refine Le.int ?_
      | (refine idW ?_; refine W_draw0 rfl ?_)
      | (apply d1 (hd := rfl); case hop => first | (apply D_move; rfl) | (apply D_assign; rfl) | (apply D_load1; rfl) | (apply D_fld; rfl) | (apply D_int; rfl; rfl; rfl) | (apply D_lenM; rfl) | (apply D_len_str; rfl) | (apply D_idxAn; rfl; rfl; (first | omega | (simp; done))))
      | refine WD_nil (by first | decide +kernel | kernel_rfl | rfl) ?_
      | fail
    all_goals first
      | (exfalso; omega)
      | (rw [if_pos (by omega)])
      | (rw [if_neg (by omega)])
      | skip
    all_goals trace_state
end Go.Proofs

namespace Go.Proofs
open Go.AL Go.Sort
attribute [local irreducible] Go.AL.W Go.AL.WL Go.AL.WD Go.AL.POp Go.AL.PPOp Go.AL.POpS Go.AL.PC Go.AL.AC Go.AL.YW Go.AL.Ret Go.AL.Le Go.AL.thn Go.AL.inBlk Go.AL.scp
theorem lessL_len (b : List Fac) (T : Int) (put : Bool) (K : Nat) : ∀ (a : List Fac), (∀ f, f ∈ a → (minL f.sp (findL b f)).length ≤ K) → (lessL a b T put).length ≤ a.length * K
  | [], _ => Nat.zero_le _
  | f :: a, h => by
    have h1 := h f List.mem_cons_self
    have h2 := lessL_len b T put K a fun g hg => h g (List.mem_cons_of_mem _ hg)
    have e : lessL (f :: a) b T put = sayD f T put (minL f.sp (findL b f)) ++ lessL a b T put := by unfold lessL; rw [List.flatMap_cons]
    rw [e, List.length_append, sayD_len, List.length_cons, Nat.succ_mul]; omega
def tMax (l : List Dat) : Int := l.foldl (fun t d => max t (d.t + 1)) 1
theorem tMax_take (l : List Dat) (i : Nat) (h : i < l.length) : tMax (l.take (i + 1)) = max (tMax (l.take i)) (l[i].t + 1) := by
  unfold tMax
  rw [List.take_succ_eq_append_getElem h, List.foldl_append]; rfl
theorem tMax_ok (l : List Dat) : 1 ≤ tMax l ∧ ∀ d, d ∈ l → d.t < tMax l := by
  have key : ∀ (l : List Dat) (t : Int), t ≤ l.foldl (fun t d => max t (d.t + 1)) t ∧ ∀ d, d ∈ l → d.t < l.foldl (fun t d => max t (d.t + 1)) t := by
    intro l
    induction l with
    | nil => intro t; exact ⟨Int.le_refl _, fun d h => by simp at h⟩
    | cons e l ih =>
      intro t
      obtain ⟨h1, h2⟩ := ih (max t (e.t + 1))
      simp only [List.foldl_cons]
      refine ⟨by omega, fun d hd => ?_⟩
      rcases List.mem_cons.1 hd with q | q
      · subst q; omega
      · exact h2 d q
  exact key l 1
theorem wtD_sl {l : List Dat} (hw : (l.map wtD).sum ≤ 1048576) : l.length ≤ 1048576 ∧ ∀ d, d ∈ l → d.v.s.length < 9223372036854775808 := by
  have h1 := sum_len (f := wtD) 1 (l := l) fun a _ => by show 1 ≤ 1 + _; omega
  refine ⟨by omega, fun d hd => ?_⟩
  have h2 : 1 + d.v.s.length ≤ _ := sum_mem (f := wtD) hd
  omega
theorem wtF_sl {l : List Fac} (hw : (l.map wtF).sum ≤ 1048576) : l.length ≤ 1048576 ∧ bndG l := by
  have h1 := sum_len (f := wtF) 1 (l := l) fun a _ => by show 1 ≤ 1 + _ + _; omega
  refine ⟨by omega, fun d hd => ?_⟩
  have h2 : 1 + d.v.s.length + d.sp.length ≤ _ := sum_mem (f := wtF) hd
  omega
set_option maxHeartbeats 32000000 in
theorem factsChange_pc [GlobF Tryz.prog] (l : List Dat) (now : List Fac) (hwl : (l.map wtD).sum ≤ 1048576) (hwn : (now.map wtF).sum ≤ 1048576) (hrg : rgD l) (hrn : rngF now) :
    PC Tryz.prog 7 [sl9 l, sl6 now] (.sc (.bool true)) := by
  obtain ⟨hll, hsl⟩ := wtD_sl hwl
  obtain ⟨hnl, hbn⟩ := wtF_sl hwn
  have hg := great_pc l (by omega)
  have hg6 := rgreat6_pc now hwn
  have h00 : Value.bool (iLt 0 0) = .bool false := by rw [(iLt_f _ _).mpr (by omega)]
  have h01 : Value.bool (iLt 0 1) = .bool true := by rw [(iLt_t _ _).mpr (by omega)]
  have hnt : Value.bool (bNot true) = .bool false := by simp [bNot]
  have z0 : Value.bool (iEq 0 0) = .bool true := by rw [(iEq_t _ _).mpr rfl]
  have n0 : Value.bool (bNot (iEq 0 0)) = .bool false := by rw [(iEq_t _ _).mpr rfl]; exact hnt
  have n60 : Value.bool (bNot (iEq 60 0)) = .bool true := by rw [(iEq_f _ _).mpr (by omega)]; simp [bNot]
  refine PC.of_body Tryz.func7 Tryz.ntmps7 rfl rfl rfl ?_
  by_cases c1 : 4000 < grS 0 l
  · rw [if_pos c1] at hg
    repeat' first
      | (apply p1 (hd := rfl); case hop => first | (apply D_move; rfl) | (apply D_assign; rfl) | (apply D_pc falive_pc; rfl; exact .nil) | (apply D_pc hg; rfl; exact .same rfl .nil) | exact D_sc (D_int rfl rfl rfl) h01 | (apply D_pickT; rfl; rfl))
      | refine W_seq ?_
      | refine W_region ?_
      | (refine idC ?_; refine cs rfl (fun _ => ?_) (fun _ => ?_))
      | refine WL_nil ?_
      | (refine idG ?_; refine g0f rfl rfl rfl ?_)
      | refine tn ?_
      | refine tr ?_
      | refine W_skip ?_
      | refine W_ret ?_
      | (refine idR ?_; refine ret1 rfl rfl rfl ?_)
      | refine Le.bool ?_
      | fail
    all_goals first | rfl | contradiction | (exfalso; omega) | skip
    all_goals trace_state
  rw [if_neg c1] at hg
  by_cases c2 : 3000 < gr6 now
  · rw [if_pos c2] at hg6
    repeat' first
      | (apply p1 (hd := rfl); case hop => first | (apply D_move; rfl) | (apply D_assign; rfl) | (apply D_pc falive_pc; rfl; exact .nil) | (apply D_pc hg; rfl; exact .same rfl .nil) | (apply D_pc hg6; rfl; exact .same rfl .nil) | exact D_sc (D_int rfl rfl rfl) h00 | exact D_sc (D_int rfl rfl rfl) h01 | (apply D_pickT; rfl; rfl) | (apply D_pickF; rfl; rfl))
      | refine W_seq ?_
      | refine W_region ?_
      | (refine idC ?_; refine cs rfl (fun _ => ?_) (fun _ => ?_))
      | refine WL_nil ?_
      | (refine idG ?_; first | refine g0f rfl rfl rfl ?_ | refine gr rfl rfl ?_)
      | refine tn ?_
      | refine tr ?_
      | refine W_skip ?_
      | refine W_ret ?_
      | (refine idR ?_; refine ret1 rfl rfl rfl ?_)
      | refine Le.bool ?_
      | fail
    all_goals first | rfl | contradiction | (exfalso; omega) | skip
    all_goals trace_state
  rw [if_neg c2] at hg6
  have w1 := grS_few hwl c1
  obtain ⟨w2, w3⟩ := gr6_few c2
  have hfl := fold_pc l (by omega) hsl hrg
  obtain ⟨fl1, fl2⟩ := foldR_len l
  have hfo := foldR_ok l hrg
  cases hF : foldR l with
  | none =>
    rw [hF] at hfl
    have hfl : PC Tryz.prog 23 [sl9 l] (.tu [sl6 [], .sc (.int .i64 60)]) := hfl
    repeat' first
      | (apply p1 (hd := rfl); case hop => first | (apply D_move; rfl) | (apply D_assign; rfl) | (apply D_pc falive_pc; rfl; exact .nil) | (apply D_pc hg; rfl; exact .same rfl .nil) | (apply D_pc hg6; rfl; exact .same rfl .nil) | exact D_sc (D_int rfl rfl rfl) h00 | exact D_sc (D_not rfl) hnt | (apply D_pc hfl; rfl; exact .same rfl .nil) | (apply D_pickT; rfl; rfl) | (apply D_pickF; rfl; rfl) | (apply D_int; rfl; rfl; rfl) | (apply D_ext; rfl; rfl))
      | refine W_seq ?_
      | refine W_region ?_
      | (refine idC ?_; first | refine c0 rfl ?_ | refine cs rfl (fun _ => ?_) (fun _ => ?_))
      | refine WL_nil ?_
      | (refine idG ?_; first | refine g0f rfl rfl rfl ?_ | refine gr rfl rfl ?_ | refine gs rfl rfl (fun _ => ?_) (fun _ => ?_))
      | refine tn ?_
      | refine tr ?_
      | refine W_skip ?_
      | refine W_block ?_
      | refine W_ret ?_
      | (refine idR ?_; refine ret1 rfl rfl rfl ?_)
      | refine Le.bool ?_
      | fail
    all_goals first | rfl | contradiction | (exfalso; omega) | skip
    all_goals trace_state
  | some F =>
  rw [hF] at hfl fl1 fl2 hfo
  have hfl : PC Tryz.prog 23 [sl9 l] (.tu [sl6 F, .sc (.int .i64 0)]) := hfl
  have fl1 : F.length ≤ l.length := fl1
  have fl2 : ∀ f, f ∈ F → f.sp.length ≤ 2 * l.length := fl2
  obtain ⟨hmay, haF, hrF, hcf, hfk⟩ := hfo
  have hbF : bndG F := fun f hf => ⟨fac_sl haF hf, by have := fl2 f hf; omega⟩
  have hck := fcheck_pc now (by omega) hbn.f
  by_cases hn : allF now
  rotate_left 1
  · rw [← dP_F hn, if_neg (by decide)] at hck
    repeat' first
      | (apply p1 (hd := rfl); case hop => first | (apply D_move; rfl) | (apply D_assign; rfl) | (apply D_pc falive_pc; rfl; exact .nil) | (apply D_pc hg; rfl; exact .same rfl .nil) | (apply D_pc hg6; rfl; exact .same rfl .nil) | exact D_sc (D_int rfl rfl rfl) h00 | exact D_sc (D_not rfl) hnt | (apply D_pc hfl; rfl; exact .same rfl .nil) | (apply D_pc hck; rfl; exact .same rfl .nil) | exact D_sc (D_int rfl rfl rfl) n0 | exact D_sc (D_int rfl rfl rfl) n60 | (apply D_pickF; rfl; rfl) | (apply D_ext; rfl; rfl))
      | refine W_seq ?_
      | refine W_region ?_
      | (refine idC ?_; first | refine c0 rfl ?_ | refine cs rfl (fun _ => ?_) (fun _ => ?_))
      | refine WL_nil ?_
      | (refine idG ?_; refine gr rfl rfl ?_)
      | refine tn ?_
      | refine tr ?_
      | refine W_skip ?_
      | refine W_block ?_
      | refine W_ret ?_
      | (refine idR ?_; refine ret1 rfl rfl rfl ?_)
      | refine Le.bool ?_
      | fail
    all_goals first | rfl | contradiction | (exfalso; omega) | skip
    all_goals trace_state
  rw [← dP_T hn, if_pos rfl] at hck
  have hcF := fcheck_pc F (by omega) hbF.f
  rw [← dP_T haF, if_pos rfl] at hcF
  obtain ⟨T1, T2⟩ := tMax_ok l
  have hd2 : ∀ d, d ∈ l → d.t ≤ 1099511627776 := fun d hd => by have := hmay d hd; unfold dmayP at this; exact this.2.2.2.2.2.2.1
  have hd1 : ∀ d, d ∈ l → 1 ≤ d.t := fun d hd => by have := hmay d hd; unfold dmayP at this; exact this.2.2.2.2.2.1
  have k1 : ∀ f, f ∈ now → f.sp.length + (findL F f).length + 1 ≤ 1151 := fun f hf => by
    have h1 := (w3 f hf).1
    have h2 := findL_len (n := 400) f (fun g hg => by have := fl2 g hg; omega)
    omega
  have k2 : ∀ f, f ∈ F → f.sp.length + (findL now f).length + 1 ≤ 1151 := fun f hf => by
    have h1 := fl2 f hf
    have h2 := findL_len (n := 750) f (fun g hg => (w3 g hg).1)
    omega
  have hcl : (chgL F now (tMax l)).length ≤ 402850 := by
    have h1 := lessL_len F (tMax l) true 1151 now fun f hf => by have := min_len f.sp (findL F f); have := k1 f hf; omega
    have h2 := lessL_len now (tMax l) false 1151 F fun f hf => by have := min_len f.sp (findL now f); have := k2 f hf; omega
    have h3 : now.length * 1151 ≤ 150 * 1151 := Nat.mul_le_mul_right _ w2
    have h4 : F.length * 1151 ≤ 200 * 1151 := Nat.mul_le_mul_right _ (by omega)
    unfold chgL; rw [List.length_append]; omega
  have hcD := dsortL_len 1 (chgL F now (tMax l))
  repeat' first
    | (apply p1 (hd := rfl); case hop => first | (apply D_move; rfl) | (apply D_assign; rfl) | (apply D_pc falive_pc; rfl; exact .nil) | (apply D_pc hg; rfl; exact .same rfl .nil) | (apply D_pc hg6; rfl; exact .same rfl .nil) | exact D_sc (D_int rfl rfl rfl) h00 | exact D_sc (D_not rfl) hnt | (apply D_pc hfl; rfl; exact .same rfl .nil) | (apply D_pc hck; rfl; exact .same rfl .nil) | exact D_sc (D_int rfl rfl rfl) n0 | (apply D_pickF; rfl; rfl) | (apply D_ext; rfl; rfl))
    | refine W_seq ?_
    | refine W_region ?_
    | (refine idC ?_; refine c0 rfl ?_)
    | refine WL_nil ?_
    | (refine idG ?_; refine gr rfl rfl ?_)
    | refine tn ?_
    | refine W_skip ?_
    | refine W_block ?_
    | fail
  all_goals first | contradiction | (exfalso; omega) | skip
  refine W_loopL (X := Nat) (fun i => [(0, sl9 l), (1, sl6 now), (5, .sc (.bool true)), (6, sl6 F), (8, .sc (.int .i64 (tMax (l.take i)))), (9, .sc (.int .i64 (i : Int)))]) (fun _ => [])
    (fun i => i ≤ l.length ∧ tMax (l.take i) ≤ 1099511627777) (fun i => l.length - i) 0 ⟨Nat.zero_le _, by show (1 : Int) ≤ _; decide⟩ ⟨rfl, rfl, rfl, rfl, rfl, rfl, trivial⟩ rfl ?_
  rintro i ⟨hi, hI⟩
  by_cases hil : i < l.length
  · have ht := tMax_take l i hil
    have hw : Value.int .i64 (IntKind.i64.wrap (l[i].t + 1)) = .int .i64 (l[i].t + 1) := by
      have h1 := hd1 _ (List.getElem_mem hil)
      have h2 := hd2 _ (List.getElem_mem hil)
      rw [w64 _ (by omega) (by omega)]
    have h2 := hd2 _ (List.getElem_mem hil)
    repeat' first
      | (apply p1 (hd := rfl); case hop => first | (apply D_move; rfl) | (apply D_assign; rfl) | exact D_max rfl rfl | exact D_sc (D_int rfl rfl rfl) hw | (apply D_load1; rfl) | (apply D_fld; rfl) | (apply D_int; rfl; rfl; rfl) | (apply D_lenM; rfl) | (apply D_idxAn; rfl; rfl; (first | omega | (simp; done))))
      | refine W_seq ?_
      | refine W_region ?_
      | (refine idC ?_; refine cs rfl (fun _ => ?_) (fun _ => ?_))
      | refine WL_nil ?_
      | refine tn ?_
      | refine tr ?_
      | refine bn ?_
      | refine te ?_
      | (refine idB ?_; refine bh rfl ?_)
      | refine W_skip ?_
      | refine W_block ?_
      | refine W_exit ?_
      | refine W_ret ?_
      | (refine idR ?_; refine ret1 rfl rfl rfl ?_)
      | refine Le.bool ?_
      | fail
    all_goals first
      | (exfalso; omega)
      | exact ⟨rfl, i + 1, ⟨by omega, by omega⟩, by omega, ⟨rfl, rfl, rfl, rfl, by rw [ht]; rfl, ieq (wsucc i (by omega)), trivial⟩, rfl⟩
      | skip
    all_goals trace_state
  have e : i = l.length := by omega
  subst e
  rw [List.take_length] at *
  by_cases hT : 1099511627776 < tMax l
  · have hgt : Value.bool (iLt 1099511627776 (tMax l)) = .bool true := by rw [(iLt_t _ _).mpr hT]
    repeat' first
      | (apply p1 (hd := rfl); case hop => first | (apply D_move; rfl) | (apply D_assign; rfl) | exact D_sc (D_int rfl rfl rfl) hgt | (apply D_load1; rfl) | (apply D_fld; rfl) | (apply D_int; rfl; rfl; rfl) | (apply D_lenM; rfl) | (apply D_idxAn; rfl; rfl; (first | omega | (simp; done))))
      | refine W_seq ?_
      | refine W_region ?_
      | (refine idC ?_; refine cs rfl (fun _ => ?_) (fun _ => ?_))
      | refine WL_nil ?_
      | refine tn ?_
      | refine tr ?_
      | refine te ?_
      | (refine idB ?_; refine bh rfl ?_)
      | refine W_skip ?_
      | refine W_block ?_
      | refine W_exit ?_
      | refine W_ret ?_
      | (refine idR ?_; refine ret1 rfl rfl rfl ?_)
      | refine Le.bool ?_
      | fail
    all_goals first | rfl | contradiction | (exfalso; omega) | skip
    all_goals trace_state
  have hgt : Value.bool (iLt 1099511627776 (tMax l)) = .bool false := by rw [(iLt_f _ _).mpr (by omega)]
  have hch := changes_pc F now (tMax l) haF hn T1 (by omega) (by omega) (by omega) hbF hbn (fun f hf => by have := k1 f hf; omega) (fun f hf => by have := k2 f hf; omega) (by omega)
  have hcn := changes_pc now now (tMax l) hn hn T1 (by omega) (by omega) (by omega) hbn hbn (fun f hf => by have := (w3 f hf).1; have := findL_len (n := 750) f (fun g hg => (w3 g hg).1); omega) (fun f hf => by have := (w3 f hf).1; have := findL_len (n := 750) f (fun g hg => (w3 g hg).1); omega) (by rw [change_none hn hrn]; simp)
  rw [change_none hn hrn] at hcn
  have hds : dsortL 1 [] = [] := List.length_eq_zero_iff.1 (Nat.le_zero.1 (dsortL_len 1 []))
  rw [hds] at hcn
  obtain ⟨o1, o2, o3⟩ := change_ok hrg hF hn hrn T2 T1 (by omega : tMax l ≤ 1099511627776)
  have hf2 := fold_pc (l ++ dsortL 1 (chgL F now (tMax l))) (by rw [List.length_append]; omega) (fun d hd => (List.mem_append.1 hd).elim (hsl d) (o3 d)) (fun d hd => (List.mem_append.1 hd).elim (hrg d) (o2 d))
  rw [o1] at hf2
  have hsm := fsame_pc now now (by omega) (fun f hf => by have := (w3 f hf).1; omega)
  rw [← dP_T rfl] at hsm
  generalize dsortL 1 (chgL F now (tMax l)) = D at *
  have hf2 : PC Tryz.prog 23 [.sl none 9 ([] ++ l.map dC ++ D.map dC)] (.tu [sl6 now, .sc (.int .i64 0)]) := by
    have e : [] ++ l.map dC ++ D.map dC = (l ++ D).map dC := by simp
    rw [e]; exact hf2
  generalize tMax l = T at *
  repeat' first
    | (refine WL_adopt 68 9 52 rfl ?_; refine m_app (d := 70) (els := []) (els' := l.map dC) rfl rfl rfl rfl rfl rfl (by simp only [List.length_map, List.length_nil]; omega) (by simp only [List.length_map, List.length_nil]; omega) rfl ?_)
    | (refine m_app (d := 73) (els := [] ++ l.map dC) (els' := D.map dC) rfl rfl rfl (by simp) rfl rfl (by simp only [List.length_map, List.length_nil, List.length_append]; omega) (by simp only [List.length_map, List.length_nil, List.length_append]; omega) rfl ?_)
    | (apply p1 (hd := rfl); case hop => first | (apply D_move; rfl) | (apply D_assign; rfl) | exact D_sc (D_int rfl rfl rfl) hgt | (apply D_pc hch; rfl; exact .same rfl (.same rfl (.same rfl .nil))) | (apply D_pc hcn; rfl; exact .same rfl (.same rfl (.same rfl .nil))) | (apply D_pc hf2; rfl; exact .tok rfl .nil) | (apply D_pc hcF; rfl; exact .same rfl .nil) | (apply D_pc hsm; rfl; exact .same rfl (.same rfl .nil)) | exact D_sc (D_int rfl rfl rfl) z0 | (apply D_load1; rfl) | (apply D_fld; rfl) | (apply D_pickT; rfl; rfl) | (apply D_int; rfl; rfl; rfl) | (apply D_lenM; rfl) | (apply D_ext; rfl; rfl) | (apply D_idxAn; rfl; rfl; (first | omega | (simp; done))))
    | refine W_seq ?_
    | refine W_region ?_
    | (refine idC ?_; first | refine c0 rfl ?_ | refine cs rfl (fun _ => ?_) (fun _ => ?_))
    | refine WL_nil ?_
    | (refine idG ?_; refine gr rfl rfl ?_)
    | refine tn ?_
    | refine te ?_
    | (refine idB ?_; refine bh rfl ?_)
    | refine W_skip ?_
    | refine W_block ?_
    | refine W_exit ?_
    | refine W_ret ?_
    | (refine idR ?_; refine ret1 rfl rfl rfl ?_)
    | refine Le.bool ?_
    | fail
  all_goals first | rfl | contradiction | (exfalso; omega) | skip
  all_goals trace_state
end Go.Proofs
