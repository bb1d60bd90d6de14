/- Contracts of calc's functions: the reference's Known; right. -/
import Derived.Test.YtaphfieahcimcaaDoorQC1
namespace Go.Proofs
open Go.AL
attribute [local irreducible] Go.AL.W Go.AL.WL Go.AL.WD Go.AL.POp Go.AL.PPOp Go.AL.POpS Go.AL.PC Go.AL.AC Go.AL.YW Go.AL.Ret Go.AL.Le Go.AL.thn Go.AL.inBlk Go.AL.scp

abbrev namesL : List (List UInt8) := [[33, 61], [42], [43], [45], [47], [60], [60, 61], [61], [62], [62, 61], [97, 98, 115], [98, 101, 103, 105, 110, 115], [99, 97, 116], [101, 110, 100, 115], [104, 97, 115], [107, 105, 110, 100], [108, 101, 110], [109, 97, 120], [109, 105, 110], [109, 111, 100], [110, 97, 109, 101], [110, 101, 103], [110, 117, 109, 98, 101, 114], [115, 117, 98], [116, 101, 120, 116], [116, 105, 109, 101], [118, 97, 108, 117, 101]]
abbrev onesL : List (List UInt8) := [[110, 101, 103], [97, 98, 115], [108, 101, 110], [116, 101, 120, 116], [118, 97, 108, 117, 101], [110, 117, 109, 98, 101, 114], [116, 105, 109, 101], [110, 97, 109, 101]]
abbrev predsL : List (List UInt8) := [[61], [33, 61], [60], [60, 61], [62], [62, 61], [98, 101, 103, 105, 110, 115], [101, 110, 100, 115], [104, 97, 115], [107, 105, 110, 100]]

set_option maxHeartbeats 4000000 in
theorem names_pc [GlobF Tryd.prog] : PC Tryd.prog 12 [] (.sl none 1 (namesL.map sC)) := by
  refine PC.of_body Tryd.func12 Tryd.ntmps12 rfl rfl rfl ?_
  repeat' first
    | (apply p1 (hd := rfl); case hop => first | (apply D_assign; rfl) | (apply D_lit; rfl; rfl; rfl; rfl))
    | refine W_seq ?_
    | refine W_region ?_
    | refine WL_nil ?_
    | refine tn ?_
    | refine tr ?_
    | refine br ?_
    | refine bn ?_
    | refine te ?_
    | (refine idB ?_; first | refine bh rfl ?_ | refine bm rfl ?_)
    | refine W_skip ?_
    | refine W_block ?_
    | refine W_exit ?_
    | refine W_ret ?_
    | refine W_label ?_
    | refine W_scope ?_
    | refine sn ?_
    | refine sr ?_
    | refine se ?_
    | (refine idR ?_; first | refine ret1 rfl rfl rfl ?_ | refine rL1 rfl (by first | exact trivial | exact ⟨rfl, trivial⟩) (by first | exact ResO.tmp rfl | exact ResO.cellBA rfl rfl rfl | exact ResO.cellB1 rfl rfl rfl | exact ResO.cellEA rfl rfl | exact ResO.cellE1 rfl) ?_)
    | refine Le.bool ?_
    | refine Le.int ?_
    | refine Le.str ?_
  all_goals exact Le.of_eq rfl

theorem names_sub : ∀ s, s ∈ namesL → s ∈ preds ∨ s ∈ twos ∨ s ∈ ones ∨ s = [115, 117, 98] := by decide
theorem preds_sub : ∀ s, s ∈ preds → s ∈ namesL := by decide
theorem twos_sub : ∀ s, s ∈ twos → s ∈ namesL := by decide
theorem ones_sub : ∀ s, s ∈ ones → s ∈ namesL := by decide
theorem ones_not : ∀ s, s ∈ ones → ¬ s ∈ preds ∧ ¬ s ∈ twos := by decide
theorem sub_not : ¬ [115, 117, 98] ∈ preds ∧ ¬ [115, 117, 98] ∈ twos ∧ ¬ [115, 117, 98] ∈ ones ∧ [115, 117, 98] ∈ namesL := by decide

set_option maxHeartbeats 4000000 in
theorem known1_pc [GlobF Tryd.prog] (s : List UInt8) : PC Tryd.prog 10 [str s] (knownV s) := by
  refine PC.of_body Tryd.func10 Tryd.ntmps10 rfl rfl rfl ?_
  repeat' first
    | (apply p1 (hd := rfl); case hop => first | (apply D_move; rfl) | (apply D_assign; rfl) | (apply D_pc names_pc; rfl; exact .nil) | (apply D_pc (inl_pc s namesL (by decide)); rfl; exact .same rfl (.same rfl .nil)) | (apply D_pc (inl_pc s onesL (by decide)); rfl; exact .same rfl (.same rfl .nil)) | (apply D_pc (inl_pc s predsL (by decide)); rfl; exact .same rfl (.same rfl .nil)) | (apply D_str; rfl; rfl; rfl) | (apply D_not; rfl) | (apply D_lit; rfl; rfl; rfl; rfl))
    | refine W_seq ?_
    | refine W_region ?_
    | (refine idC ?_; first | refine c1 rfl ?_ | refine c0 rfl ?_ | refine cs rfl (fun _ => ?_) (fun _ => ?_))
    | refine WL_nil ?_
    | refine tn ?_
    | refine tr ?_
    | refine br ?_
    | refine bn ?_
    | refine te ?_
    | (refine idB ?_; first | refine bh rfl ?_ | refine bm rfl ?_)
    | refine W_skip ?_
    | refine W_block ?_
    | refine W_exit ?_
    | refine W_ret ?_
    | refine W_label ?_
    | refine W_scope ?_
    | refine sn ?_
    | refine sr ?_
    | refine se ?_
    | (refine idR ?_; first | refine ret3 rfl rfl rfl rfl rfl ?_ ?_ ?_ | refine rL3 rfl (by first | exact trivial | exact ⟨rfl, trivial⟩) (by first | exact ResO.tmp rfl | exact ResO.cellBA rfl rfl rfl | exact ResO.cellB1 rfl rfl rfl | exact ResO.cellEA rfl rfl | exact ResO.cellE1 rfl) (by first | exact ResO.tmp rfl | exact ResO.cellBA rfl rfl rfl | exact ResO.cellB1 rfl rfl rfl | exact ResO.cellEA rfl rfl | exact ResO.cellE1 rfl) (by first | exact ResO.tmp rfl | exact ResO.cellBA rfl rfl rfl | exact ResO.cellB1 rfl rfl rfl | exact ResO.cellEA rfl rfl | exact ResO.cellE1 rfl) ?_ ?_ ?_)
    | refine Le.bool ?_
    | refine Le.int ?_
    | refine Le.str ?_
  · rename_i h
    have h1 : ¬ s ∈ preds := fun e => h (preds_sub s e)
    have h2 : ¬ s ∈ twos := fun e => h (twos_sub s e)
    have h3 : ¬ s ∈ ones := fun e => h (ones_sub s e)
    have h4 : ¬ s = [115, 117, 98] := fun e => h (e ▸ sub_not.2.2.2)
    simp [knownI, h1, h2, h3, h4]
  · rename_i h
    exact dP_F fun e => h (preds_sub s e)
  · rename_i h
    refine dP_F fun e => ?_
    rcases e with e | e | e | e
    · exact h (preds_sub s e)
    · exact h (twos_sub s e)
    · exact h (ones_sub s e)
    · exact h (e ▸ sub_not.2.2.2)
  · rename_i h h3
    have h3' : s ∈ ones := h3
    obtain ⟨h1, h2⟩ := ones_not s h3'
    simp [knownI, h1, h2, h3']
  · rename_i h h3
    exact dP_F (ones_not s h3).1
  · rename_i h h3
    exact dP_T (.inr (.inr (.inl h3)))
  · rename_i h h3 h4
    subst h4
    simp [knownI, sub_not.1, sub_not.2.1, sub_not.2.2.1]
  · rename_i h h3 h4
    subst h4
    exact dP_F sub_not.1
  · rename_i h h3 h4
    exact dP_T (.inr (.inr (.inr h4)))
  · rename_i h h3 h4
    have hk := names_sub s h
    have h3' : ¬ s ∈ ones := h3
    have h12 : s ∈ preds ∨ s ∈ twos := by
      rcases hk with e | e | e | e
      · exact .inl e
      · exact .inr e
      · exact absurd e h3'
      · exact absurd e h4
    simp [knownI, h12]
  · rfl
  · rename_i h h3 h4
    exact dP_T (names_sub s h)
end Go.Proofs
