/- Contracts of calc's functions: the reference's Known; right. -/
import Derived.Test.YtaphfieahcimcaaC2
namespace Go.Proofs
open Go.AL
attribute [local irreducible] Go.AL.W Go.AL.WL Go.AL.WD Go.AL.POp Go.AL.PPOp Go.AL.POpS Go.AL.PC Go.AL.AC Go.AL.YW Go.AL.Ret Go.AL.Le Go.AL.thn Go.AL.inBlk

abbrev namesL : List (List UInt8) := [[33, 61], [42], [43], [45], [47], [60], [60, 61], [61], [62], [62, 61], [97, 98, 115], [98, 101, 103, 105, 110, 115], [99, 97, 116], [101, 110, 100, 115], [104, 97, 115], [107, 105, 110, 100], [108, 101, 110], [109, 97, 120], [109, 105, 110], [109, 111, 100], [110, 97, 109, 101], [110, 101, 103], [110, 117, 109, 98, 101, 114], [115, 117, 98], [116, 101, 120, 116], [116, 105, 109, 101], [118, 97, 108, 117, 101]]
abbrev onesL : List (List UInt8) := [[110, 101, 103], [97, 98, 115], [108, 101, 110], [116, 101, 120, 116], [118, 97, 108, 117, 101], [110, 117, 109, 98, 101, 114], [116, 105, 109, 101], [110, 97, 109, 101]]
abbrev predsL : List (List UInt8) := [[61], [33, 61], [60], [60, 61], [62], [62, 61], [98, 101, 103, 105, 110, 115], [101, 110, 100, 115], [104, 97, 115], [107, 105, 110, 100]]

set_option maxHeartbeats 4000000 in
theorem names_pc [GlobF Try.prog] : PC Try.prog 36 [] (.sl none 1 (namesL.map sC)) := by
  refine PC.of_body Try.func36 Try.ntmps36 rfl rfl rfl ?_
  repeat' first
    | (apply p1 (hd := rfl); case hop => first | (apply D_move; rfl) | (apply D_assign; rfl) | (apply D_load1; rfl) | (apply D_fld; rfl) | (apply D_pickT; rfl; rfl) | (apply D_pickF; rfl; rfl) | (apply D_int; rfl; rfl; rfl) | (apply D_lenM; rfl) | (apply D_len_sl; rfl) | (apply D_len_str; rfl) | (apply D_str; rfl; rfl; rfl) | (apply D_ext; rfl; rfl) | (apply D_not; rfl) | (apply D_loadW; rfl; rfl) | (apply D_loadA; rfl; rfl) | (apply D_box; rfl; rfl) | (apply D_conv_int; rfl) | (apply D_conv_str; rfl) | (apply D_s2b; rfl) | (apply D_len_nil; rfl) | (apply D_beq; rfl; rfl) | (apply D_bne; rfl; rfl) | (apply D_idxAn; rfl; rfl; (first | omega | (simp; done))) | (apply D_idxSn; rfl; rfl; (first | omega | (simp; done))) | (apply D_idxA; rfl; rfl; omega; (first | omega | (simp; done) | (simp; omega))) | (apply D_idxS; rfl; rfl; omega; (first | omega | (simp; done) | (simp; omega))) | (apply D_lit; rfl; rfl; rfl; rfl) | exact D_xcmp rfl rfl rfl | exact D_xidx rfl rfl rfl | exact D_mkfn rfl | (apply D_slS; rfl; rfl; rfl; all_goals first | omega | ((repeat rw [w64 _ (by omega) (by omega)]); omega)) | (apply D_slSh; rfl; rfl; all_goals first | omega | ((repeat rw [w64 _ (by omega) (by omega)]); omega)) | (apply D_slSl; rfl; rfl; all_goals first | omega | ((repeat rw [w64 _ (by omega) (by omega)]); omega)) | exact D_build rfl | exact D_buildA rfl | (apply D_slV; rfl; rfl; rfl; all_goals first | omega | ((repeat rw [w64 _ (by omega) (by omega)]); omega)) | (apply D_slVh; rfl; rfl; all_goals first | omega | ((repeat rw [w64 _ (by omega) (by omega)]); omega)) | (apply D_slVl; rfl; rfl; all_goals first | omega | ((repeat rw [w64 _ (by omega) (by omega)]); omega)) | exact D_fldB rfl | (apply D_neg; rfl) | (apply D_cat; rfl; rfl; all_goals first | omega | ((repeat rw [w64 _ (by omega) (by omega)]); omega)))
    | refine W_seq ?_
    | refine W_region ?_
    | (refine idC ?_; first | refine c1 rfl ?_ | refine c0 rfl ?_ | refine cs rfl (fun _ => ?_) (fun _ => ?_))
    | refine WL_nil ?_
    | (refine idG ?_; first | refine g0t rfl rfl rfl ?_ | refine g0f rfl rfl rfl ?_ | refine g0u rfl rfl rfl ?_ | refine gr rfl rfl ?_ | refine gs rfl rfl (fun _ => ?_) (fun _ => ?_) | refine grn rfl rfl ?_)
    | refine tn ?_
    | refine tr ?_
    | refine br ?_
    | refine bn ?_
    | refine te ?_
    | (refine idB ?_; first | refine bh rfl ?_ | refine bm rfl ?_)
    | refine W_skip ?_
    | refine W_block ?_
    | refine W_exit ?_
    | refine W_ret ?_
    | refine W_label ?_
    | (refine idR ?_; first | refine ret1 rfl rfl rfl ?_ | refine ret2 rfl rfl rfl rfl ?_ ?_ | refine ret3 rfl rfl rfl rfl rfl ?_ ?_ ?_ | refine rL1 rfl trivial (by first | exact ResO.tmp rfl | exact ResO.cellBA rfl rfl rfl | exact ResO.cellB1 rfl rfl rfl | exact ResO.cellEA rfl rfl | exact ResO.cellE1 rfl) ?_ | refine rL2 rfl trivial (by first | exact ResO.tmp rfl | exact ResO.cellBA rfl rfl rfl | exact ResO.cellB1 rfl rfl rfl | exact ResO.cellEA rfl rfl | exact ResO.cellE1 rfl) (by first | exact ResO.tmp rfl | exact ResO.cellBA rfl rfl rfl | exact ResO.cellB1 rfl rfl rfl | exact ResO.cellEA rfl rfl | exact ResO.cellE1 rfl) ?_ ?_ | refine rL3 rfl trivial (by first | exact ResO.tmp rfl | exact ResO.cellBA rfl rfl rfl | exact ResO.cellB1 rfl rfl rfl | exact ResO.cellEA rfl rfl | exact ResO.cellE1 rfl) (by first | exact ResO.tmp rfl | exact ResO.cellBA rfl rfl rfl | exact ResO.cellB1 rfl rfl rfl | exact ResO.cellEA rfl rfl | exact ResO.cellE1 rfl) (by first | exact ResO.tmp rfl | exact ResO.cellBA rfl rfl rfl | exact ResO.cellB1 rfl rfl rfl | exact ResO.cellEA rfl rfl | exact ResO.cellE1 rfl) ?_ ?_ ?_ | refine rL4 rfl trivial (by first | exact ResO.tmp rfl | exact ResO.cellBA rfl rfl rfl | exact ResO.cellB1 rfl rfl rfl | exact ResO.cellEA rfl rfl | exact ResO.cellE1 rfl) (by first | exact ResO.tmp rfl | exact ResO.cellBA rfl rfl rfl | exact ResO.cellB1 rfl rfl rfl | exact ResO.cellEA rfl rfl | exact ResO.cellE1 rfl) (by first | exact ResO.tmp rfl | exact ResO.cellBA rfl rfl rfl | exact ResO.cellB1 rfl rfl rfl | exact ResO.cellEA rfl rfl | exact ResO.cellE1 rfl) (by first | exact ResO.tmp rfl | exact ResO.cellBA rfl rfl rfl | exact ResO.cellB1 rfl rfl rfl | exact ResO.cellEA rfl rfl | exact ResO.cellE1 rfl) ?_ ?_ ?_ ?_)
    | (refine idLd ?_; first | refine p1L (D_loadB1 rfl rfl rfl) rfl ?_ | refine p1L (D_loadBA rfl rfl rfl) rfl ?_)
    | (refine idA ?_; first | refine m_var rfl rfl rfl rfl rfl rfl rfl ?_ | refine m_alloc rfl ?_)
    | (refine idS ?_; first | refine pS (S_store rfl rfl rfl rfl rfl rfl rfl) ?_)
    | refine Le.bool ?_
    | refine Le.int ?_
    | refine Le.str ?_
    | (refine idW ?_; first | refine W_draw0 rfl ?_ | refine W_draw1 rfl ?_ | refine W_draw2 rfl ?_ | refine W_draw3 rfl ?_)
    | (apply d1 (hd := rfl); case hop => first | (apply D_move; rfl) | (apply D_assign; rfl) | (apply D_load1; rfl) | (apply D_fld; rfl) | (apply D_pickT; rfl; rfl) | (apply D_pickF; rfl; rfl) | (apply D_int; rfl; rfl; rfl) | (apply D_lenM; rfl) | (apply D_len_sl; rfl) | (apply D_len_str; rfl) | (apply D_str; rfl; rfl; rfl) | (apply D_ext; rfl; rfl) | (apply D_not; rfl) | (apply D_loadW; rfl; rfl) | (apply D_loadA; rfl; rfl) | (apply D_box; rfl; rfl) | (apply D_conv_int; rfl) | (apply D_conv_str; rfl) | (apply D_s2b; rfl) | (apply D_len_nil; rfl) | (apply D_beq; rfl; rfl) | (apply D_bne; rfl; rfl) | (apply D_idxAn; rfl; rfl; (first | omega | (simp; done))) | (apply D_idxSn; rfl; rfl; (first | omega | (simp; done))) | (apply D_idxA; rfl; rfl; omega; (first | omega | (simp; done) | (simp; omega))) | (apply D_idxS; rfl; rfl; omega; (first | omega | (simp; done) | (simp; omega))) | (apply D_lit; rfl; rfl; rfl; rfl) | exact D_xcmp rfl rfl rfl | exact D_xidx rfl rfl rfl | exact D_mkfn rfl | (apply D_slS; rfl; rfl; rfl; all_goals first | omega | ((repeat rw [w64 _ (by omega) (by omega)]); omega)) | (apply D_slSh; rfl; rfl; all_goals first | omega | ((repeat rw [w64 _ (by omega) (by omega)]); omega)) | (apply D_slSl; rfl; rfl; all_goals first | omega | ((repeat rw [w64 _ (by omega) (by omega)]); omega)) | exact D_build rfl | exact D_buildA rfl | (apply D_slV; rfl; rfl; rfl; all_goals first | omega | ((repeat rw [w64 _ (by omega) (by omega)]); omega)) | (apply D_slVh; rfl; rfl; all_goals first | omega | ((repeat rw [w64 _ (by omega) (by omega)]); omega)) | (apply D_slVl; rfl; rfl; all_goals first | omega | ((repeat rw [w64 _ (by omega) (by omega)]); omega)) | exact D_fldB rfl | (apply D_neg; rfl) | (apply D_cat; rfl; rfl; all_goals first | omega | ((repeat rw [w64 _ (by omega) (by omega)]); omega)))
    | (refine idDg ?_; first | refine dg0t rfl rfl rfl ?_ | refine dg0f rfl rfl rfl ?_ | refine dg0u rfl rfl rfl ?_ | refine dgr rfl rfl ?_ | refine dgs rfl rfl (fun _ => ?_) (fun _ => ?_))
    | (refine idDn ?_; first | refine dL _ (fun hp' hs => D_loadB1 rfl (hs.trans rfl) rfl) rfl ?_ | refine dL _ (fun hp' hs => D_loadBA rfl (hs.trans rfl) rfl) rfl ?_ | refine dS (S_store rfl rfl rfl rfl rfl rfl rfl) rfl ?_ | refine dV (S_alloc 0 rfl) rfl rfl ?_ | refine dV (S_alloc 1 rfl) rfl rfl ?_ | refine dV (S_alloc 2 rfl) rfl rfl ?_ | refine dV (S_alloc 3 rfl) rfl rfl ?_ | refine dV (S_alloc 4 rfl) rfl rfl ?_ | refine dV (S_alloc 5 rfl) rfl rfl ?_ | refine dV (S_alloc 6 rfl) rfl rfl ?_ | refine dV (S_alloc 7 rfl) rfl rfl ?_)
    | refine WD_nil (by decide +kernel) ?_
  all_goals exact Le.of_eq rfl

theorem names_sub : ∀ s, s ∈ namesL → s ∈ preds ∨ s ∈ twos ∨ s ∈ ones ∨ s = [115, 117, 98] := by decide
theorem preds_sub : ∀ s, s ∈ preds → s ∈ namesL := by decide
theorem twos_sub : ∀ s, s ∈ twos → s ∈ namesL := by decide
theorem ones_sub : ∀ s, s ∈ ones → s ∈ namesL := by decide
theorem ones_not : ∀ s, s ∈ ones → ¬ s ∈ preds ∧ ¬ s ∈ twos := by decide
theorem sub_not : ¬ [115, 117, 98] ∈ preds ∧ ¬ [115, 117, 98] ∈ twos ∧ ¬ [115, 117, 98] ∈ ones ∧ [115, 117, 98] ∈ namesL := by decide

set_option maxHeartbeats 4000000 in
theorem known1_pc [GlobF Try.prog] (s : List UInt8) : PC Try.prog 25 [str s] (knownV s) := by
  refine PC.of_body Try.func25 Try.ntmps25 rfl rfl rfl ?_
  repeat' first
    | (apply p1 (hd := rfl); case hop => first | (apply D_move; rfl) | (apply D_assign; rfl) | (apply D_pc names_pc; rfl; exact .nil) | (apply D_pc (inl_pc s namesL (by decide)); rfl; exact .same rfl (.same rfl .nil)) | (apply D_pc (inl_pc s onesL (by decide)); rfl; exact .same rfl (.same rfl .nil)) | (apply D_pc (inl_pc s predsL (by decide)); rfl; exact .same rfl (.same rfl .nil)) | (apply D_load1; rfl) | (apply D_fld; rfl) | (apply D_pickT; rfl; rfl) | (apply D_pickF; rfl; rfl) | (apply D_int; rfl; rfl; rfl) | (apply D_lenM; rfl) | (apply D_len_sl; rfl) | (apply D_len_str; rfl) | (apply D_str; rfl; rfl; rfl) | (apply D_ext; rfl; rfl) | (apply D_not; rfl) | (apply D_loadW; rfl; rfl) | (apply D_loadA; rfl; rfl) | (apply D_box; rfl; rfl) | (apply D_conv_int; rfl) | (apply D_conv_str; rfl) | (apply D_s2b; rfl) | (apply D_len_nil; rfl) | (apply D_beq; rfl; rfl) | (apply D_bne; rfl; rfl) | (apply D_idxAn; rfl; rfl; (first | omega | (simp; done))) | (apply D_idxSn; rfl; rfl; (first | omega | (simp; done))) | (apply D_idxA; rfl; rfl; omega; (first | omega | (simp; done) | (simp; omega))) | (apply D_idxS; rfl; rfl; omega; (first | omega | (simp; done) | (simp; omega))) | (apply D_lit; rfl; rfl; rfl; rfl) | exact D_xcmp rfl rfl rfl | exact D_xidx rfl rfl rfl | exact D_mkfn rfl | (apply D_slS; rfl; rfl; rfl; all_goals first | omega | ((repeat rw [w64 _ (by omega) (by omega)]); omega)) | (apply D_slSh; rfl; rfl; all_goals first | omega | ((repeat rw [w64 _ (by omega) (by omega)]); omega)) | (apply D_slSl; rfl; rfl; all_goals first | omega | ((repeat rw [w64 _ (by omega) (by omega)]); omega)) | exact D_build rfl | exact D_buildA rfl | (apply D_slV; rfl; rfl; rfl; all_goals first | omega | ((repeat rw [w64 _ (by omega) (by omega)]); omega)) | (apply D_slVh; rfl; rfl; all_goals first | omega | ((repeat rw [w64 _ (by omega) (by omega)]); omega)) | (apply D_slVl; rfl; rfl; all_goals first | omega | ((repeat rw [w64 _ (by omega) (by omega)]); omega)) | exact D_fldB rfl | (apply D_neg; rfl) | (apply D_cat; rfl; rfl; all_goals first | omega | ((repeat rw [w64 _ (by omega) (by omega)]); omega)))
    | refine W_seq ?_
    | refine W_region ?_
    | (refine idC ?_; first | refine c1 rfl ?_ | refine c0 rfl ?_ | refine cs rfl (fun _ => ?_) (fun _ => ?_))
    | refine WL_nil ?_
    | (refine idG ?_; first | refine g0t rfl rfl rfl ?_ | refine g0f rfl rfl rfl ?_ | refine g0u rfl rfl rfl ?_ | refine gr rfl rfl ?_ | refine gs rfl rfl (fun _ => ?_) (fun _ => ?_) | refine grn rfl rfl ?_)
    | refine tn ?_
    | refine tr ?_
    | refine br ?_
    | refine bn ?_
    | refine te ?_
    | (refine idB ?_; first | refine bh rfl ?_ | refine bm rfl ?_)
    | refine W_skip ?_
    | refine W_block ?_
    | refine W_exit ?_
    | refine W_ret ?_
    | refine W_label ?_
    | (refine idR ?_; first | refine ret1 rfl rfl rfl ?_ | refine ret2 rfl rfl rfl rfl ?_ ?_ | refine ret3 rfl rfl rfl rfl rfl ?_ ?_ ?_ | refine rL1 rfl trivial (by first | exact ResO.tmp rfl | exact ResO.cellBA rfl rfl rfl | exact ResO.cellB1 rfl rfl rfl | exact ResO.cellEA rfl rfl | exact ResO.cellE1 rfl) ?_ | refine rL2 rfl trivial (by first | exact ResO.tmp rfl | exact ResO.cellBA rfl rfl rfl | exact ResO.cellB1 rfl rfl rfl | exact ResO.cellEA rfl rfl | exact ResO.cellE1 rfl) (by first | exact ResO.tmp rfl | exact ResO.cellBA rfl rfl rfl | exact ResO.cellB1 rfl rfl rfl | exact ResO.cellEA rfl rfl | exact ResO.cellE1 rfl) ?_ ?_ | refine rL3 rfl trivial (by first | exact ResO.tmp rfl | exact ResO.cellBA rfl rfl rfl | exact ResO.cellB1 rfl rfl rfl | exact ResO.cellEA rfl rfl | exact ResO.cellE1 rfl) (by first | exact ResO.tmp rfl | exact ResO.cellBA rfl rfl rfl | exact ResO.cellB1 rfl rfl rfl | exact ResO.cellEA rfl rfl | exact ResO.cellE1 rfl) (by first | exact ResO.tmp rfl | exact ResO.cellBA rfl rfl rfl | exact ResO.cellB1 rfl rfl rfl | exact ResO.cellEA rfl rfl | exact ResO.cellE1 rfl) ?_ ?_ ?_ | refine rL4 rfl trivial (by first | exact ResO.tmp rfl | exact ResO.cellBA rfl rfl rfl | exact ResO.cellB1 rfl rfl rfl | exact ResO.cellEA rfl rfl | exact ResO.cellE1 rfl) (by first | exact ResO.tmp rfl | exact ResO.cellBA rfl rfl rfl | exact ResO.cellB1 rfl rfl rfl | exact ResO.cellEA rfl rfl | exact ResO.cellE1 rfl) (by first | exact ResO.tmp rfl | exact ResO.cellBA rfl rfl rfl | exact ResO.cellB1 rfl rfl rfl | exact ResO.cellEA rfl rfl | exact ResO.cellE1 rfl) (by first | exact ResO.tmp rfl | exact ResO.cellBA rfl rfl rfl | exact ResO.cellB1 rfl rfl rfl | exact ResO.cellEA rfl rfl | exact ResO.cellE1 rfl) ?_ ?_ ?_ ?_)
    | (refine idLd ?_; first | refine p1L (D_loadB1 rfl rfl rfl) rfl ?_ | refine p1L (D_loadBA rfl rfl rfl) rfl ?_)
    | (refine idA ?_; first | refine m_var rfl rfl rfl rfl rfl rfl rfl ?_ | refine m_alloc rfl ?_)
    | (refine idS ?_; first | refine pS (S_store rfl rfl rfl rfl rfl rfl rfl) ?_)
    | refine Le.bool ?_
    | refine Le.int ?_
    | refine Le.str ?_
    | (refine idW ?_; first | refine W_draw0 rfl ?_ | refine W_draw1 rfl ?_ | refine W_draw2 rfl ?_ | refine W_draw3 rfl ?_)
    | (apply d1 (hd := rfl); case hop => first | (apply D_move; rfl) | (apply D_assign; rfl) | (apply D_pc names_pc; rfl; exact .nil) | (apply D_pc (inl_pc s namesL (by decide)); rfl; exact .same rfl (.same rfl .nil)) | (apply D_pc (inl_pc s onesL (by decide)); rfl; exact .same rfl (.same rfl .nil)) | (apply D_pc (inl_pc s predsL (by decide)); rfl; exact .same rfl (.same rfl .nil)) | (apply D_load1; rfl) | (apply D_fld; rfl) | (apply D_pickT; rfl; rfl) | (apply D_pickF; rfl; rfl) | (apply D_int; rfl; rfl; rfl) | (apply D_lenM; rfl) | (apply D_len_sl; rfl) | (apply D_len_str; rfl) | (apply D_str; rfl; rfl; rfl) | (apply D_ext; rfl; rfl) | (apply D_not; rfl) | (apply D_loadW; rfl; rfl) | (apply D_loadA; rfl; rfl) | (apply D_box; rfl; rfl) | (apply D_conv_int; rfl) | (apply D_conv_str; rfl) | (apply D_s2b; rfl) | (apply D_len_nil; rfl) | (apply D_beq; rfl; rfl) | (apply D_bne; rfl; rfl) | (apply D_idxAn; rfl; rfl; (first | omega | (simp; done))) | (apply D_idxSn; rfl; rfl; (first | omega | (simp; done))) | (apply D_idxA; rfl; rfl; omega; (first | omega | (simp; done) | (simp; omega))) | (apply D_idxS; rfl; rfl; omega; (first | omega | (simp; done) | (simp; omega))) | (apply D_lit; rfl; rfl; rfl; rfl) | exact D_xcmp rfl rfl rfl | exact D_xidx rfl rfl rfl | exact D_mkfn rfl | (apply D_slS; rfl; rfl; rfl; all_goals first | omega | ((repeat rw [w64 _ (by omega) (by omega)]); omega)) | (apply D_slSh; rfl; rfl; all_goals first | omega | ((repeat rw [w64 _ (by omega) (by omega)]); omega)) | (apply D_slSl; rfl; rfl; all_goals first | omega | ((repeat rw [w64 _ (by omega) (by omega)]); omega)) | exact D_build rfl | exact D_buildA rfl | (apply D_slV; rfl; rfl; rfl; all_goals first | omega | ((repeat rw [w64 _ (by omega) (by omega)]); omega)) | (apply D_slVh; rfl; rfl; all_goals first | omega | ((repeat rw [w64 _ (by omega) (by omega)]); omega)) | (apply D_slVl; rfl; rfl; all_goals first | omega | ((repeat rw [w64 _ (by omega) (by omega)]); omega)) | exact D_fldB rfl | (apply D_neg; rfl) | (apply D_cat; rfl; rfl; all_goals first | omega | ((repeat rw [w64 _ (by omega) (by omega)]); omega)))
    | (refine idDg ?_; first | refine dg0t rfl rfl rfl ?_ | refine dg0f rfl rfl rfl ?_ | refine dg0u rfl rfl rfl ?_ | refine dgr rfl rfl ?_ | refine dgs rfl rfl (fun _ => ?_) (fun _ => ?_))
    | (refine idDn ?_; first | refine dL _ (fun hp' hs => D_loadB1 rfl (hs.trans rfl) rfl) rfl ?_ | refine dL _ (fun hp' hs => D_loadBA rfl (hs.trans rfl) rfl) rfl ?_ | refine dS (S_store rfl rfl rfl rfl rfl rfl rfl) rfl ?_ | refine dV (S_alloc 0 rfl) rfl rfl ?_ | refine dV (S_alloc 1 rfl) rfl rfl ?_ | refine dV (S_alloc 2 rfl) rfl rfl ?_ | refine dV (S_alloc 3 rfl) rfl rfl ?_ | refine dV (S_alloc 4 rfl) rfl rfl ?_ | refine dV (S_alloc 5 rfl) rfl rfl ?_ | refine dV (S_alloc 6 rfl) rfl rfl ?_ | refine dV (S_alloc 7 rfl) rfl rfl ?_)
    | refine WD_nil (by decide +kernel) ?_
  · rename_i h
    have h1 : ¬ s ∈ preds := fun e => h (preds_sub s e)
    have h2 : ¬ s ∈ twos := fun e => h (twos_sub s e)
    have h3 : ¬ s ∈ ones := fun e => h (ones_sub s e)
    have h4 : ¬ s = [115, 117, 98] := fun e => h (e ▸ sub_not.2.2.2)
    simp [knownI, h1, h2, h3, h4]
  · rename_i h
    exact dP_F fun e => h (preds_sub s e)
  · rename_i h
    refine dP_F fun e => ?_
    rcases e with e | e | e | e
    · exact h (preds_sub s e)
    · exact h (twos_sub s e)
    · exact h (ones_sub s e)
    · exact h (e ▸ sub_not.2.2.2)
  · rename_i h h3
    have h3' : s ∈ ones := h3
    obtain ⟨h1, h2⟩ := ones_not s h3'
    simp [knownI, h1, h2, h3']
  · rename_i h h3
    exact dP_F (ones_not s h3).1
  · rename_i h h3
    exact dP_T (.inr (.inr (.inl h3)))
  · rename_i h h3 h4
    subst h4
    simp [knownI, sub_not.1, sub_not.2.1, sub_not.2.2.1]
  · rename_i h h3 h4
    subst h4
    exact dP_F sub_not.1
  · rename_i h h3 h4
    exact dP_T (.inr (.inr (.inr h4)))
  · rename_i h h3 h4
    have hk := names_sub s h
    have h3' : ¬ s ∈ ones := h3
    have h12 : s ∈ preds ∨ s ∈ twos := by
      rcases hk with e | e | e | e
      · exact .inl e
      · exact .inr e
      · exact absurd e h3'
      · exact absurd e h4
    simp [knownI, h12]
  · rfl
  · rename_i h h3 h4
    exact dP_T (names_sub s h)
end Go.Proofs
