/- Contracts: the datoms of a view. -/
import Derived.Test.YtfnmipagllofiaaGreatFF21
import Derived.Test.YtfnmipagllofiaaGreatFF18
namespace Go.Proofs
open Go.AL Go.Sort
attribute [local irreducible] Go.AL.W Go.AL.WL Go.AL.WD Go.AL.POp Go.AL.PPOp Go.AL.POpS Go.AL.PC Go.AL.AC Go.AL.YW Go.AL.Ret Go.AL.Le Go.AL.thn Go.AL.inBlk Go.AL.scp
structure Vw where
  up : Int
  af : Int
  at_ : Int
  one : Bool
  no : Bool
def wC (v : Vw) : List AV := [.sc (.int .i64 v.up), .sc (.int .i64 v.af), .sc (.int .i64 v.at_), .sc (.bool v.one), .sc (.bool v.no)]
instance (v : Vw) : PurL (wC v) := by unfold wC; infer_instance
def eW (v : Vw) : AV := .ag (wC v)
instance (v : Vw) : Pur (eW v) := by unfold eW; infer_instance
end Go.Proofs

namespace Go.Proofs
open Go.AL Go.Sort
attribute [local irreducible] Go.AL.W Go.AL.WL Go.AL.WD Go.AL.POp Go.AL.PPOp Go.AL.POpS Go.AL.PC Go.AL.AC Go.AL.YW Go.AL.Ret Go.AL.Le Go.AL.thn Go.AL.inBlk Go.AL.scp
theorem atL_eq {l : List Fac} (h : allF l) (at_ : Int) : atL l at_ = l.filter fun f => dP (inS f.sp at_) := by
  unfold atL
  refine List.filter_congr fun f hf => ?_
  have hs := (may_of h hf).2.2
  by_cases hi : inS f.sp at_
  · rw [← dP_T hi, ← dP_T ⟨hs, hi⟩]
  · rw [← dP_F hi, ← dP_F fun k => hi k.2]
set_option maxHeartbeats 8000000 in
theorem rat_pc [GlobF Tryz.prog] (l : List Fac) (at_ : Int) (hl : l.length < 1759218604500) (hb : bndF l) : PC Tryz.prog 13 [sl6 l, .sc (.int .i64 at_)] (.tu [sl6 (if dP (allF l) then atL l at_ else []), .sc (.int .i64 (if dP (allF l) then 0 else 60))]) := by
  have hm := rmay_pc l (by omega) hb
  by_cases ha : allF l
  rotate_left 1
  · rw [← dP_F ha] at hm
    rw [← dP_F ha]
    refine PC.of_body Tryz.func13 Tryz.ntmps13 rfl rfl rfl ?_
    repeat' first
      | (apply p1 (hd := rfl); case hop => first | (apply D_move; rfl) | (apply D_assign; rfl) | (apply D_pc hm; rfl; exact .same rfl .nil) | (apply D_not; rfl))
      | refine W_seq ?_
      | refine W_region ?_
      | (refine idC ?_; refine cs rfl (fun _ => ?_) (fun _ => ?_))
      | refine WL_nil ?_
      | refine tn ?_
      | refine tr ?_
      | refine W_skip ?_
      | refine W_block ?_
      | refine W_ret ?_
      | (refine idR ?_; refine ret2 rfl rfl rfl rfl ?_ ?_)
      | refine Le.int ?_
      | fail
    all_goals first | contradiction | exact Le.nil rfl | rfl | skip
    all_goals trace_state
  rw [← dP_T ha] at hm
  rw [← dP_T ha, if_pos rfl, if_pos rfl, atL_eq ha]
  refine PC.of_body Tryz.func13 Tryz.ntmps13 rfl rfl rfl ?_
  repeat' first
    | (apply p1 (hd := rfl); case hop => first | (apply D_move; rfl) | (apply D_assign; rfl) | (apply D_pc hm; rfl; exact .same rfl .nil) | (apply D_not; rfl))
    | refine W_seq ?_
    | refine W_region ?_
    | (refine idC ?_; refine cs rfl (fun _ => ?_) (fun _ => ?_))
    | refine WL_nil ?_
    | refine tn ?_
    | refine tr ?_
    | refine W_skip ?_
    | refine W_block ?_
    | refine W_ret ?_
    | (refine idR ?_; refine ret2 rfl rfl rfl rfl ?_ ?_)
    | refine Le.int ?_
    | fail
  all_goals first | contradiction | skip
  refine W_adopt 7 6 42 rfl ?_
  refine W_loopL (X := Nat) (fun i => [(0, sl6 l), (1, .sc (.int .i64 at_)), (7, .sl (some 0) 6 (((l.take i).filter fun f => dP (inS f.sp at_)).map fC)), (8, .sc (.int .i64 (i : Int)))]) (fun i => [.tail ((l.take i).filter fun f => dP (inS f.sp at_)).length 6 42])
    (fun i => i ≤ l.length) (fun i => l.length - i) 0 (Nat.zero_le _) ⟨rfl, rfl, rfl, rfl, trivial⟩ rfl ?_
  intro i hi
  have hlen : ((l.take i).filter fun f => dP (inS f.sp at_)).length ≤ i := Nat.le_trans (List.length_filter_le _ _) (by simp; omega)
  by_cases hil : i < l.length
  · have hs := rin_pc' (l[i]'hil).sp at_ (by have := (hb _ (List.getElem_mem hil)).2; omega)
    have hsn : ((l.take (i + 1)).filter fun f => dP (inS f.sp at_)) = ((l.take i).filter fun f => dP (inS f.sp at_)) ++ (if dP (inS (l[i]'hil).sp at_) = true then [l[i]'hil] else []) := by
      rw [List.take_succ_eq_append_getElem hil, List.filter_append]
      congr 1
      by_cases hb : dP (inS (l[i]'hil).sp at_) = true <;> simp [List.filter_cons, hb]
    generalize ((l.take i).filter fun f => dP (inS f.sp at_)) = O at *
    generalize dP (inS (l[i]'hil).sp at_) = b at *
    cases b
    · rw [if_neg (by decide), List.append_nil] at hsn
      repeat' first
        | (apply p1 (hd := rfl); case hop => first | (apply D_move; rfl) | (apply D_assign; rfl) | (apply D_pc hs; rfl; exact .same rfl (.same rfl .nil)) | (apply D_load1; rfl) | (apply D_fld; rfl) | (apply D_int; rfl; rfl; rfl) | (apply D_lenM; rfl) | (apply D_idxAn; rfl; rfl; (first | omega | (simp; done))))
        | refine W_seq ?_
        | refine W_region ?_
        | (refine idC ?_; first | refine c0 rfl ?_ | refine cs rfl (fun _ => ?_) (fun _ => ?_))
        | refine WL_nil ?_
        | refine tn ?_
        | refine bn ?_
        | refine te ?_
        | (refine idB ?_; refine bh rfl ?_)
        | refine W_skip ?_
        | refine W_block ?_
        | refine W_exit ?_
        | refine W_ret ?_
        | (refine idR ?_; refine ret2 rfl rfl rfl rfl ?_ ?_)
        | refine Le.int ?_
        | fail
      all_goals first
        | (exfalso; omega)
        | contradiction
        | (refine ⟨rfl, i + 1, by omega, by omega, ⟨rfl, rfl, ?_, ieq (wsucc i (by omega)), trivial⟩, ?_⟩
           · rw [hsn]; rfl
           · rw [hsn])
        | skip
      all_goals trace_state
    · rw [if_pos rfl] at hsn
      repeat' first
        | (apply p1 (hd := rfl); case hop => first | (apply D_move; rfl) | (apply D_assign; rfl) | (apply D_pc hs; rfl; exact .same rfl (.same rfl .nil)) | (apply D_load1; rfl) | (apply D_fld; rfl) | (apply D_int; rfl; rfl; rfl) | (apply D_lenM; rfl) | (apply D_loadW; rfl; rfl) | (apply D_idxAn; rfl; rfl; (first | omega | (simp; done))) | (apply D_lit; rfl; rfl; rfl; rfl))
        | refine W_seq ?_
        | refine W_region ?_
        | (refine idC ?_; first | refine c1 rfl ?_ | refine cs rfl (fun _ => ?_) (fun _ => ?_))
        | refine WL_nil ?_
        | refine tn ?_
        | refine bn ?_
        | refine te ?_
        | (refine idB ?_; refine bh rfl ?_)
        | refine W_skip ?_
        | refine W_block ?_
        | refine W_exit ?_
        | refine W_ret ?_
        | (refine idR ?_; refine ret2 rfl rfl rfl rfl ?_ ?_)
        | refine Le.int ?_
        | (refine idAp ?_; refine m_app rfl rfl (by first | rfl | assumption | exact get_set (by assumption) | exact get_set (get_set (by assumption)) | exact get_set (get_set (get_set (by assumption))) | ((repeat first | assumption | exact get_last | (refine get_last2 ?_; focus (simp; done)) | apply get_set | apply get_app | (apply get_ne; focus omega)); done)) ?_ rfl rfl ?_ ?_ rfl ?_; (first | rfl | focus (simp only [List.length_map, List.length_append, List.length_cons, List.length_nil]; omega) | focus (simp; done) | focus (simp; omega)); (first | focus (simp only [List.length_map, List.length_append, List.length_cons, List.length_nil]; omega) | focus (simp; done) | focus (simp; omega)); (first | focus (simp only [List.length_map, List.length_append, List.length_cons, List.length_nil]; omega) | focus (simp; done) | focus (simp; omega)))
        | fail
      all_goals first
        | (exfalso; omega)
        | contradiction
        | (refine ⟨rfl, i + 1, by omega, by omega, ⟨rfl, rfl, ?_, ieq (wsucc i (by omega)), trivial⟩, ?_⟩
           · rw [hsn, List.map_append]; rfl
           · rw [hsn, List.length_append, ← List.length_map (f := fC)]; rfl)
        | skip
      all_goals trace_state
  · have e : i = l.length := by omega
    subst e
    rw [List.take_length] at hlen ⊢
    repeat' first
      | (apply p1 (hd := rfl); case hop => first | (apply D_move; rfl) | (apply D_assign; rfl) | (apply D_load1; rfl) | (apply D_fld; rfl) | (apply D_int; rfl; rfl; rfl) | (apply D_lenM; rfl) | (apply D_idxAn; rfl; rfl; (first | omega | (simp; done))))
      | refine W_seq ?_
      | refine W_region ?_
      | (refine idC ?_; refine cs rfl (fun _ => ?_) (fun _ => ?_))
      | refine WL_nil ?_
      | refine tn ?_
      | refine te ?_
      | (refine idB ?_; refine bh rfl ?_)
      | refine W_skip ?_
      | refine W_block ?_
      | refine W_exit ?_
      | refine W_ret ?_
      | (refine idR ?_; refine ret2 rfl rfl rfl rfl ?_ ?_)
      | refine Le.int ?_
      | fail
    all_goals first
      | (exfalso; omega)
      | exact Le.of_eq rfl
      | exact Le.tokq rfl
      | rfl
      | skip
    all_goals trace_state
end Go.Proofs
