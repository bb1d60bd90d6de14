/- Contracts of the program's readers of values' texts: value.Parse. -/
import Derived.Test.YtaphfieahcimcaaDoorQT9
namespace Go.Proofs
open Go.AL
attribute [local irreducible] Go.AL.W Go.AL.WL Go.AL.WD Go.AL.POp Go.AL.PPOp Go.AL.POpS Go.AL.PC Go.AL.AC Go.AL.YW Go.AL.Ret Go.AL.Le Go.AL.thn Go.AL.inBlk Go.AL.scp

theorem suf_t (s : List UInt8) (h : 1 ≤ s.length) : s.drop (s.length - 1) = [34] ↔ s.getLast? = some 34 := by
  have hne : s ≠ [] := by intro e; rw [e] at h; simp at h
  have e := List.dropLast_concat_getLast hne
  have el : s.length - 1 = s.dropLast.length := by rw [List.length_dropLast]
  have e2 : s.drop (s.length - 1) = [s.getLast hne] := by
    rw [el]
    conv => lhs; arg 2; rw [← e]
    rw [List.drop_left]
  rw [e2, List.getLast?_eq_some_getLast hne]; simp
open Classical in
noncomputable def sufB (s : List UInt8) : Bool := decide (s.getLast? = some 34)
theorem sufB_t {s : List UInt8} : sufB s = true ↔ s.getLast? = some 34 := by unfold sufB; simp
noncomputable def cutL (s : List UInt8) : List UInt8 := if sufB s then s.dropLast else s
theorem lw (s : List UInt8) (hs : s.length < 281474976710656) (h : 1 ≤ s.length) : IntKind.i64.wrap ((s.length : Int) - (([34] : List UInt8).length : Int)) = ((s.length - 1 : Nat) : Int) := by
  show IntKind.i64.wrap ((s.length : Int) - 1) = _
  rw [w64 _ (by omega) (by omega)]; omega
set_option maxHeartbeats 4000000 in
theorem hsuf_pc [GlobF Tryd.prog] (s : List UInt8) (hs : s.length < 281474976710656) : PC Tryd.prog 50 [str s, str [34]] (.sc (.bool (sufB s))) := by
  refine PC.of_body Tryd.func50 Tryd.ntmps50 rfl rfl rfl ?_
  repeat' first
    | (apply p1 (hd := rfl); case hop => first | (apply D_move; rfl) | (apply D_assign; rfl) | (apply D_pickT; rfl; rfl) | (apply D_pickF; rfl; rfl) | (apply D_int; rfl; rfl; rfl) | (apply D_len_str; rfl) | (apply D_str; rfl; rfl; rfl) | (apply D_slS; rfl; rfl; rfl; all_goals first | omega | ((repeat rw [w64 _ (by omega) (by omega)]); omega) | decide) | (apply D_slSh; rfl; rfl; all_goals first | omega | ((repeat rw [w64 _ (by omega) (by omega)]); omega) | decide) | (apply D_slSl; rfl; rfl; all_goals first | omega | ((repeat rw [w64 _ (by omega) (by omega)]); omega) | decide))
    | refine W_seq ?_
    | refine W_region ?_
    | refine WL_nil ?_
    | (refine idG ?_; first | refine g0t rfl rfl rfl ?_ | refine g0f rfl rfl rfl ?_ | refine g0u rfl rfl rfl ?_ | refine gr rfl rfl ?_ | refine gs rfl rfl (fun _ => ?_) (fun _ => ?_) | refine grn rfl rfl ?_)
    | refine tn ?_
    | refine tr ?_
    | refine br ?_
    | refine bn ?_
    | refine te ?_
    | (refine idB ?_; first | refine bh rfl ?_ | refine bm rfl ?_)
    | refine W_skip ?_
    | refine W_block ?_
    | refine W_exit ?_
    | refine W_ret ?_
    | refine W_label ?_
    | refine W_scope ?_
    | refine sn ?_
    | refine sr ?_
    | refine se ?_
    | (refine idR ?_; first | refine ret1 rfl rfl rfl ?_ | refine rL1 rfl (by first | exact trivial | exact ⟨rfl, trivial⟩) (by first | exact ResO.tmp rfl | exact ResO.cellBA rfl rfl rfl | exact ResO.cellB1 rfl rfl rfl | exact ResO.cellEA rfl rfl | exact ResO.cellE1 rfl) ?_)
    | refine Le.bool ?_
    | refine Le.int ?_
    | refine Le.str ?_
  · rename_i h
    have h1 : 1 ≤ s.length := by have h' : (1 : Int) ≤ (s.length : Int) := h; omega
    rw [lw s hs h1, Int.toNat_natCast, Bool.eq_iff_iff, sufB_t, sEq_t]
    exact suf_t s h1
  · rename_i h
    have h0 : s = [] := by
      have h' : (s.length : Int) < 1 := h
      exact List.length_eq_zero_iff.1 (by omega)
    subst h0
    cases hb : sufB [] with
    | false => rfl
    | true => rw [sufB_t] at hb; simp at hb
set_option maxHeartbeats 4000000 in
theorem cut0_pc [GlobF Tryd.prog] (s : List UInt8) (hs : s.length < 281474976710656) : PC Tryd.prog 113 [str s, str [34]] (.tu [str (cutL s), .sc (.bool (sufB s))]) := by
  refine PC.of_body Tryd.func113 Tryd.ntmps113 rfl rfl rfl ?_
  by_cases hb : sufB s = true
  · have h1 : 1 ≤ s.length := by
      rw [sufB_t] at hb; cases s with
      | nil => simp at hb
      | cons c r => simp
    have hlw := lw s hs h1
    repeat' first
      | (apply p1 (hd := rfl); case hop => first | (apply D_move; rfl) | (apply D_assign; rfl) | (apply D_pc (hsuf_pc s hs); rfl; exact .same rfl (.same rfl .nil)) | (apply D_slSh; rfl; rfl; all_goals (rw [hlw]; omega)) | (apply D_int; rfl; rfl; rfl) | (apply D_len_str; rfl) | (apply D_not; rfl) | (apply D_slS; rfl; rfl; rfl; all_goals first | omega | ((repeat rw [w64 _ (by omega) (by omega)]); omega) | decide) | (apply D_slSh; rfl; rfl; all_goals first | omega | ((repeat rw [w64 _ (by omega) (by omega)]); omega) | decide) | (apply D_slSl; rfl; rfl; all_goals first | omega | ((repeat rw [w64 _ (by omega) (by omega)]); omega) | decide))
      | refine W_seq ?_
      | refine W_region ?_
      | (refine idC ?_; first | refine c1 rfl ?_ | refine c0 rfl ?_ | refine cs rfl (fun _ => ?_) (fun _ => ?_))
      | refine WL_nil ?_
      | refine tn ?_
      | refine tr ?_
      | refine br ?_
      | refine bn ?_
      | refine te ?_
      | (refine idB ?_; first | refine bh rfl ?_ | refine bm rfl ?_)
      | refine W_skip ?_
      | refine W_block ?_
      | refine W_exit ?_
      | refine W_ret ?_
      | refine W_label ?_
      | refine W_scope ?_
      | refine sn ?_
      | refine sr ?_
      | refine se ?_
      | (refine idR ?_; first | refine ret2 rfl rfl rfl rfl ?_ ?_ | refine rL2 rfl (by first | exact trivial | exact ⟨rfl, trivial⟩) (by first | exact ResO.tmp rfl | exact ResO.cellBA rfl rfl rfl | exact ResO.cellB1 rfl rfl rfl | exact ResO.cellEA rfl rfl | exact ResO.cellE1 rfl) (by first | exact ResO.tmp rfl | exact ResO.cellBA rfl rfl rfl | exact ResO.cellB1 rfl rfl rfl | exact ResO.cellEA rfl rfl | exact ResO.cellE1 rfl) ?_ ?_)
      | refine Le.bool ?_
      | refine Le.int ?_
      | refine Le.str ?_
    · rename_i h; rw [hb] at h; cases h
    · rename_i h; rw [hb] at h; cases h
    · rw [hlw, Int.toNat_natCast]; unfold cutL; rw [if_pos hb, List.dropLast_eq_take]
    · exact hb.symm
  · have hb' : sufB s = false := by cases h : sufB s <;> simp_all
    repeat' first
      | (apply p1 (hd := rfl); case hop => first | (apply D_move; rfl) | (apply D_assign; rfl) | (apply D_pc (hsuf_pc s hs); rfl; exact .same rfl (.same rfl .nil)) | (apply D_int; rfl; rfl; rfl) | (apply D_len_str; rfl) | (apply D_not; rfl) | (apply D_slS; rfl; rfl; rfl; all_goals first | omega | ((repeat rw [w64 _ (by omega) (by omega)]); omega) | decide) | (apply D_slSh; rfl; rfl; all_goals first | omega | ((repeat rw [w64 _ (by omega) (by omega)]); omega) | decide) | (apply D_slSl; rfl; rfl; all_goals first | omega | ((repeat rw [w64 _ (by omega) (by omega)]); omega) | decide))
      | refine W_seq ?_
      | refine W_region ?_
      | (refine idC ?_; first | refine c1 rfl ?_ | refine c0 rfl ?_ | refine cs rfl (fun _ => ?_) (fun _ => ?_))
      | refine WL_nil ?_
      | refine tn ?_
      | refine tr ?_
      | refine br ?_
      | refine bn ?_
      | refine te ?_
      | (refine idB ?_; first | refine bh rfl ?_ | refine bm rfl ?_)
      | refine W_skip ?_
      | refine W_block ?_
      | refine W_exit ?_
      | refine W_ret ?_
      | refine W_label ?_
      | refine W_scope ?_
      | refine sn ?_
      | refine sr ?_
      | refine se ?_
      | (refine idR ?_; first | refine ret2 rfl rfl rfl rfl ?_ ?_ | refine rL2 rfl (by first | exact trivial | exact ⟨rfl, trivial⟩) (by first | exact ResO.tmp rfl | exact ResO.cellBA rfl rfl rfl | exact ResO.cellB1 rfl rfl rfl | exact ResO.cellEA rfl rfl | exact ResO.cellE1 rfl) (by first | exact ResO.tmp rfl | exact ResO.cellBA rfl rfl rfl | exact ResO.cellB1 rfl rfl rfl | exact ResO.cellEA rfl rfl | exact ResO.cellE1 rfl) ?_ ?_)
      | refine Le.bool ?_
      | refine Le.int ?_
      | refine Le.str ?_
    · unfold cutL; rw [if_neg hb]
    · exact hb'.symm
    all_goals (rename_i h; exact absurd h hb)
set_option maxHeartbeats 4000000 in
theorem cut_pc [GlobF Tryd.prog] (s : List UInt8) (hs : s.length < 281474976710656) : PC Tryd.prog 91 [str s, str [34]] (.tu [str (cutL s), .sc (.bool (sufB s))]) := by
  refine PC.of_body Tryd.func91 Tryd.ntmps91 rfl rfl rfl ?_
  repeat' first
    | (apply p1 (hd := rfl); case hop => first | (apply D_move; rfl) | (apply D_assign; rfl) | (apply D_pc (cut0_pc s hs); rfl; exact .same rfl (.same rfl .nil)) | (apply D_ext; rfl; rfl))
    | refine W_seq ?_
    | refine W_region ?_
    | refine WL_nil ?_
    | refine tn ?_
    | refine tr ?_
    | refine br ?_
    | refine bn ?_
    | refine te ?_
    | (refine idB ?_; first | refine bh rfl ?_ | refine bm rfl ?_)
    | refine W_skip ?_
    | refine W_block ?_
    | refine W_exit ?_
    | refine W_ret ?_
    | refine W_label ?_
    | refine W_scope ?_
    | refine sn ?_
    | refine sr ?_
    | refine se ?_
    | (refine idR ?_; first | refine ret2 rfl rfl rfl rfl ?_ ?_ | refine rL2 rfl (by first | exact trivial | exact ⟨rfl, trivial⟩) (by first | exact ResO.tmp rfl | exact ResO.cellBA rfl rfl rfl | exact ResO.cellB1 rfl rfl rfl | exact ResO.cellEA rfl rfl | exact ResO.cellE1 rfl) (by first | exact ResO.tmp rfl | exact ResO.cellBA rfl rfl rfl | exact ResO.cellB1 rfl rfl rfl | exact ResO.cellEA rfl rfl | exact ResO.cellE1 rfl) ?_ ?_)
    | refine Le.bool ?_
    | refine Le.int ?_
    | refine Le.str ?_
  all_goals rfl
end Go.Proofs
