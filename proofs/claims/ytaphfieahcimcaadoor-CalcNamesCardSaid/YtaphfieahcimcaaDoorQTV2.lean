/- Contracts of the value layer's functions: how two stand. -/
import Derived.Test.YtaphfieahcimcaaDoorQTV1
namespace Go.Proofs
open Go.AL
attribute [local irreducible] Go.AL.W Go.AL.WL Go.AL.WD Go.AL.POp Go.AL.PPOp Go.AL.POpS Go.AL.PC Go.AL.AC Go.AL.YW Go.AL.Ret Go.AL.Le Go.AL.thn Go.AL.inBlk Go.AL.scp

abbrev iC (n : Int) : List AV := [.sc (.int .i64 n)]

def cmpI (a b : Int) : Int := if a < b then -1 else if b < a then 1 else 0
def orI : List Int → Int
  | [] => 0
  | x :: l => if x = 0 then orI l else x

instance : Xt Tryd.prog 93 Extern.BytealgCompare.compare := ⟨run_callFunc_extern Tryd.func93 (by kernel_rfl) (by kernel_rfl) (by kernel_rfl) (by kernel_rfl)⟩

set_option maxHeartbeats 400000 in
theorem isNaN_pc [GlobF Tryd.prog] (n : Int) : PC Tryd.prog 66 [.sc (.int .i64 n)] (.sc (.bool false)) := by
  refine PC.of_body Tryd.func66 Tryd.ntmps66 rfl rfl rfl ?_
  repeat' first
    | (apply p1 (hd := rfl); case hop => first | (apply D_move; rfl) | (apply D_assign; rfl) | (apply D_int; rfl; rfl; rfl))
    | refine W_seq ?_
    | refine W_region ?_
    | refine WL_nil ?_
    | refine tn ?_
    | refine tr ?_
    | refine br ?_
    | refine bn ?_
    | refine te ?_
    | (refine idB ?_; first | refine bh rfl ?_ | refine bm rfl ?_)
    | refine W_skip ?_
    | refine W_block ?_
    | refine W_exit ?_
    | refine W_ret ?_
    | refine W_label ?_
    | refine W_scope ?_
    | refine sn ?_
    | refine sr ?_
    | refine se ?_
    | (refine idR ?_; first | refine ret1 rfl rfl rfl ?_ | refine rL1 rfl (by first | exact trivial | exact ⟨rfl, trivial⟩) (by first | exact ResO.tmp rfl | exact ResO.cellBA rfl rfl rfl | exact ResO.cellB1 rfl rfl rfl | exact ResO.cellEA rfl rfl | exact ResO.cellE1 rfl) ?_)
    | refine Le.bool ?_
    | refine Le.int ?_
    | refine Le.str ?_
  simp [bNot, iEq]

set_option maxHeartbeats 400000 in
theorem isNaN64_pc [GlobF Tryd.prog] (n : Int) : PC Tryd.prog 67 [.sc (.int .i64 n)] (.sc (.bool false)) := by
  refine PC.of_body Tryd.func67 Tryd.ntmps67 rfl rfl rfl ?_
  repeat' first
    | (apply p1 (hd := rfl); case hop => first | (apply D_move; rfl) | (apply D_assign; rfl) | (apply D_int; rfl; rfl; rfl))
    | refine W_seq ?_
    | refine W_region ?_
    | refine WL_nil ?_
    | refine tn ?_
    | refine tr ?_
    | refine br ?_
    | refine bn ?_
    | refine te ?_
    | (refine idB ?_; first | refine bh rfl ?_ | refine bm rfl ?_)
    | refine W_skip ?_
    | refine W_block ?_
    | refine W_exit ?_
    | refine W_ret ?_
    | refine W_label ?_
    | refine W_scope ?_
    | refine sn ?_
    | refine sr ?_
    | refine se ?_
    | (refine idR ?_; first | refine ret1 rfl rfl rfl ?_ | refine rL1 rfl (by first | exact trivial | exact ⟨rfl, trivial⟩) (by first | exact ResO.tmp rfl | exact ResO.cellBA rfl rfl rfl | exact ResO.cellB1 rfl rfl rfl | exact ResO.cellEA rfl rfl | exact ResO.cellE1 rfl) ?_)
    | refine Le.bool ?_
    | refine Le.int ?_
    | refine Le.str ?_
  simp [bNot, iEq]

set_option maxHeartbeats 400000 in
theorem cmpInt_pc [GlobF Tryd.prog] (a b : Int) : PC Tryd.prog 46 [.sc (.int .i64 a), .sc (.int .i64 b)] (.sc (.int .i64 (cmpI a b))) := by
  refine PC.of_body Tryd.func46 Tryd.ntmps46 rfl rfl rfl ?_
  repeat' first
    | (apply p1 (hd := rfl); case hop => first | (apply D_move; rfl) | (apply D_assign; rfl) | (apply D_pc (isNaN_pc a); rfl; exact .same rfl .nil) | (apply D_pc (isNaN_pc b); rfl; exact .same rfl .nil) | (apply D_int; rfl; rfl; rfl))
    | refine W_seq ?_
    | refine W_region ?_
    | (refine idC ?_; first | refine c1 rfl ?_ | refine c0 rfl ?_ | refine cs rfl (fun _ => ?_) (fun _ => ?_))
    | refine WL_nil ?_
    | refine tn ?_
    | refine tr ?_
    | refine br ?_
    | refine bn ?_
    | refine te ?_
    | (refine idB ?_; first | refine bh rfl ?_ | refine bm rfl ?_)
    | refine W_skip ?_
    | refine W_block ?_
    | refine W_exit ?_
    | refine W_ret ?_
    | refine W_label ?_
    | refine W_scope ?_
    | refine sn ?_
    | refine sr ?_
    | refine se ?_
    | (refine idR ?_; first | refine ret1 rfl rfl rfl ?_ | refine rL1 rfl (by first | exact trivial | exact ⟨rfl, trivial⟩) (by first | exact ResO.tmp rfl | exact ResO.cellBA rfl rfl rfl | exact ResO.cellB1 rfl rfl rfl | exact ResO.cellEA rfl rfl | exact ResO.cellE1 rfl) ?_)
    | refine Le.bool ?_
    | refine Le.int ?_
    | refine Le.str ?_
  all_goals (unfold cmpI; split <;> first | rfl | omega | (split <;> first | rfl | omega))

set_option maxHeartbeats 400000 in
theorem cmpInt64_pc [GlobF Tryd.prog] (a b : Int) : PC Tryd.prog 47 [.sc (.int .i64 a), .sc (.int .i64 b)] (.sc (.int .i64 (cmpI a b))) := by
  refine PC.of_body Tryd.func47 Tryd.ntmps47 rfl rfl rfl ?_
  repeat' first
    | (apply p1 (hd := rfl); case hop => first | (apply D_move; rfl) | (apply D_assign; rfl) | (apply D_pc (isNaN64_pc a); rfl; exact .same rfl .nil) | (apply D_pc (isNaN64_pc b); rfl; exact .same rfl .nil) | (apply D_int; rfl; rfl; rfl))
    | refine W_seq ?_
    | refine W_region ?_
    | (refine idC ?_; first | refine c1 rfl ?_ | refine c0 rfl ?_ | refine cs rfl (fun _ => ?_) (fun _ => ?_))
    | refine WL_nil ?_
    | refine tn ?_
    | refine tr ?_
    | refine br ?_
    | refine bn ?_
    | refine te ?_
    | (refine idB ?_; first | refine bh rfl ?_ | refine bm rfl ?_)
    | refine W_skip ?_
    | refine W_block ?_
    | refine W_exit ?_
    | refine W_ret ?_
    | refine W_label ?_
    | refine W_scope ?_
    | refine sn ?_
    | refine sr ?_
    | refine se ?_
    | (refine idR ?_; first | refine ret1 rfl rfl rfl ?_ | refine rL1 rfl (by first | exact trivial | exact ⟨rfl, trivial⟩) (by first | exact ResO.tmp rfl | exact ResO.cellBA rfl rfl rfl | exact ResO.cellB1 rfl rfl rfl | exact ResO.cellEA rfl rfl | exact ResO.cellE1 rfl) ?_)
    | refine Le.bool ?_
    | refine Le.int ?_
    | refine Le.str ?_
  all_goals (unfold cmpI; split <;> first | rfl | omega | (split <;> first | rfl | omega))

set_option maxHeartbeats 400000 in
theorem cmpStr0_pc [GlobF Tryd.prog] (a b : List UInt8) : PC Tryd.prog 68 [str a, str b] (.sc (.int .i64 (Lib.compareBytes a b))) := by
  refine PC.of_body Tryd.func68 Tryd.ntmps68 rfl rfl rfl ?_
  repeat' first
    | (apply p1 (hd := rfl); case hop => first | (apply D_move; rfl) | (apply D_assign; rfl) | exact D_xcmp rfl rfl rfl | exact D_xidx rfl rfl rfl)
    | refine W_seq ?_
    | refine W_region ?_
    | refine WL_nil ?_
    | refine tn ?_
    | refine tr ?_
    | refine br ?_
    | refine bn ?_
    | refine te ?_
    | (refine idB ?_; first | refine bh rfl ?_ | refine bm rfl ?_)
    | refine W_skip ?_
    | refine W_block ?_
    | refine W_exit ?_
    | refine W_ret ?_
    | refine W_label ?_
    | refine W_scope ?_
    | refine sn ?_
    | refine sr ?_
    | refine se ?_
    | (refine idR ?_; first | refine ret1 rfl rfl rfl ?_ | refine rL1 rfl (by first | exact trivial | exact ⟨rfl, trivial⟩) (by first | exact ResO.tmp rfl | exact ResO.cellBA rfl rfl rfl | exact ResO.cellB1 rfl rfl rfl | exact ResO.cellEA rfl rfl | exact ResO.cellE1 rfl) ?_)
    | refine Le.bool ?_
    | refine Le.int ?_
    | refine Le.str ?_
  rfl
set_option maxHeartbeats 400000 in
theorem cmpStr_pc [GlobF Tryd.prog] (a b : List UInt8) : PC Tryd.prog 48 [str a, str b] (.sc (.int .i64 (Lib.compareBytes a b))) := by
  refine PC.of_body Tryd.func48 Tryd.ntmps48 rfl rfl rfl ?_
  repeat' first
    | (apply p1 (hd := rfl); case hop => first | (apply D_move; rfl) | (apply D_assign; rfl) | (apply D_pc (cmpStr0_pc a b); rfl; exact .same rfl (.same rfl .nil)))
    | refine W_seq ?_
    | refine W_region ?_
    | refine WL_nil ?_
    | refine tn ?_
    | refine tr ?_
    | refine br ?_
    | refine bn ?_
    | refine te ?_
    | (refine idB ?_; first | refine bh rfl ?_ | refine bm rfl ?_)
    | refine W_skip ?_
    | refine W_block ?_
    | refine W_exit ?_
    | refine W_ret ?_
    | refine W_label ?_
    | refine W_scope ?_
    | refine sn ?_
    | refine sr ?_
    | refine se ?_
    | (refine idR ?_; first | refine ret1 rfl rfl rfl ?_ | refine rL1 rfl (by first | exact trivial | exact ⟨rfl, trivial⟩) (by first | exact ResO.tmp rfl | exact ResO.cellBA rfl rfl rfl | exact ResO.cellB1 rfl rfl rfl | exact ResO.cellEA rfl rfl | exact ResO.cellE1 rfl) ?_)
    | refine Le.bool ?_
    | refine Le.int ?_
    | refine Le.str ?_
  rfl

theorem orI_zeros : ∀ (l : List Int) (i : Nat), (∀ j, j < i → l[j]? = some 0) → orI l = orI (l.drop i)
  | _, 0, _ => rfl
  | [], i + 1, h => by have := h 0 (by omega); simp at this
  | x :: l, i + 1, h => by
    have h0 := h 0 (by omega)
    simp at h0; subst h0
    simp only [orI, if_true, List.drop_succ_cons]
    exact orI_zeros l i fun j hj => by have := h (j + 1) (by omega); simpa using this

set_option maxHeartbeats 400000 in
theorem or_pc [GlobF Tryd.prog] (l : List Int) (hl : l.length < 9223372036854775808) : PC Tryd.prog 45 [.sl none 1 (l.map iC)] (.sc (.int .i64 (orI l))) := by
  refine PC.of_body Tryd.func45 Tryd.ntmps45 rfl rfl rfl ?_
  repeat' first
    | (apply p1 (hd := rfl); case hop => first | (apply D_move; rfl) | (apply D_assign; rfl) | (apply D_load1; rfl) | (apply D_int; rfl; rfl; rfl) | (apply D_lenM; rfl) | (apply D_len_sl; rfl) | (apply D_loadW; rfl; rfl) | (apply D_loadA; rfl; rfl) | (apply D_len_nil; rfl) | (apply D_idxAn; rfl; rfl; (first | omega | (simp; done))) | (apply D_idxA; rfl; rfl; omega; (first | omega | (simp; done) | (simp; omega))) | (apply D_idxA0; rfl; rfl; omega; (first | omega | (simp; done) | (simp; omega))) | (apply D_lenR; rfl) | (apply D_ixRn; rfl; rfl; (first | omega | (simp; done))) | (apply D_ixR; rfl; rfl; all_goals first | omega | ((repeat rw [w64 _ (by omega) (by omega)]); omega) | decide))
    | refine W_seq ?_
    | refine W_region ?_
    | (refine idC ?_; first | refine c1 rfl ?_ | refine c0 rfl ?_ | refine cs rfl (fun _ => ?_) (fun _ => ?_))
    | refine WL_nil ?_
    | refine tn ?_
    | refine tr ?_
    | refine br ?_
    | refine bn ?_
    | refine te ?_
    | (refine idB ?_; first | refine bh rfl ?_ | refine bm rfl ?_)
    | refine W_skip ?_
    | refine W_block ?_
    | refine W_exit ?_
    | refine W_ret ?_
    | refine W_label ?_
    | refine W_scope ?_
    | refine sn ?_
    | refine sr ?_
    | refine se ?_
    | (refine idR ?_; first | refine ret1 rfl rfl rfl ?_ | refine rL1 rfl (by first | exact trivial | exact ⟨rfl, trivial⟩) (by first | exact ResO.tmp rfl | exact ResO.cellBA rfl rfl rfl | exact ResO.cellB1 rfl rfl rfl | exact ResO.cellEA rfl rfl | exact ResO.cellE1 rfl) ?_)
    | refine Le.bool ?_
    | refine Le.int ?_
    | refine Le.str ?_
  refine W_loopL (X := Nat) (fun i => [(3, .sc (.int .i64 0)), (6, .sl none 1 (l.map iC)), (7, .sc (.int .i64 (l.length : Int))), (8, .sc (.int .i64 (i : Int)))]) (fun _ => [])
    (fun i => i ≤ l.length ∧ ∀ j, j < i → l[j]? = some 0) (fun i => l.length - i) 0 ⟨by omega, fun j h => by omega⟩ ⟨rfl, rfl, rfl, rfl, trivial⟩ rfl ?_
  rintro i ⟨hi, hz⟩
  repeat' first
    | (apply p1 (hd := rfl); case hop => first | (apply D_move; rfl) | (apply D_assign; rfl) | (apply D_load1; rfl) | (apply D_int; rfl; rfl; rfl) | (apply D_lenM; rfl) | (apply D_len_sl; rfl) | (apply D_loadW; rfl; rfl) | (apply D_loadA; rfl; rfl) | (apply D_len_nil; rfl) | (apply D_idxAn; rfl; rfl; (first | omega | (simp; done))) | (apply D_idxA; rfl; rfl; omega; (first | omega | (simp; done) | (simp; omega))) | (apply D_idxA0; rfl; rfl; omega; (first | omega | (simp; done) | (simp; omega))) | (apply D_lenR; rfl) | (apply D_ixRn; rfl; rfl; (first | omega | (simp; done))) | (apply D_ixR; rfl; rfl; all_goals first | omega | ((repeat rw [w64 _ (by omega) (by omega)]); omega) | decide))
    | refine W_seq ?_
    | refine W_region ?_
    | (refine idC ?_; first | refine c1 rfl ?_ | refine c0 rfl ?_ | refine cs rfl (fun _ => ?_) (fun _ => ?_))
    | refine WL_nil ?_
    | refine tn ?_
    | refine tr ?_
    | refine br ?_
    | refine bn ?_
    | refine te ?_
    | (refine idB ?_; first | refine bh rfl ?_ | refine bm rfl ?_)
    | refine W_skip ?_
    | refine W_block ?_
    | refine W_exit ?_
    | refine W_ret ?_
    | refine W_label ?_
    | refine W_scope ?_
    | refine sn ?_
    | refine sr ?_
    | refine se ?_
    | (refine idR ?_; first | refine ret1 rfl rfl rfl ?_ | refine rL1 rfl (by first | exact trivial | exact ⟨rfl, trivial⟩) (by first | exact ResO.tmp rfl | exact ResO.cellBA rfl rfl rfl | exact ResO.cellB1 rfl rfl rfl | exact ResO.cellEA rfl rfl | exact ResO.cellE1 rfl) ?_)
    | refine Le.bool ?_
    | refine Le.int ?_
    | refine Le.str ?_
  · rename_i hlt hne
    have hlt' : i < l.length := by omega
    rw [orI_zeros l i hz, List.drop_eq_getElem_cons hlt', orI, if_neg hne]
  · rename_i hlt heq
    refine ⟨rfl, i + 1, ⟨by omega, fun j hj => ?_⟩, by omega, ⟨rfl, rfl, rfl, ieq (wsucc i (by omega)), trivial⟩, rfl⟩
    by_cases e : j = i
    · subst e; rw [List.getElem?_eq_getElem (by omega), heq]
    · exact hz j (by omega)
  · rw [orI_zeros l i hz, List.drop_eq_nil_of_le (by omega)]; rfl

/-! Words. -/

def cmpV (a b : Val) : Int := orI [cmpI a.kind b.kind, cmpI a.n b.n, Lib.compareBytes a.s b.s]
set_option maxHeartbeats 1000000 in
theorem compare_pc [GlobF Tryd.prog] (a b : Val) : PC Tryd.prog 30 [eV a, eV b] (.sc (.int .i64 (cmpV a b))) := by
  refine PC.of_body Tryd.func30 Tryd.ntmps30 rfl rfl rfl ?_
  repeat' first
    | (apply p1 (hd := rfl); case hop => first | (apply D_assign; rfl) | (apply D_pc (cmpInt_pc _ _); rfl; exact .same rfl (.same rfl .nil)) | (apply D_pc (cmpInt64_pc _ _); rfl; exact .same rfl (.same rfl .nil)) | (apply D_pc (cmpStr_pc _ _); rfl; exact .same rfl (.same rfl .nil)) | (apply D_pc (or_pc [cmpI a.kind b.kind, cmpI a.n b.n, Lib.compareBytes a.s b.s] (by show 3 < _; decide)); rfl; exact .same rfl .nil) | (apply D_load1; rfl) | (apply D_fld; rfl) | (apply D_loadW; rfl; rfl) | (apply D_loadA; rfl; rfl) | (apply D_box; rfl; rfl) | (apply D_lit; rfl; rfl; rfl; rfl) | exact D_fldB rfl)
    | refine W_seq ?_
    | refine W_region ?_
    | refine WL_nil ?_
    | refine tn ?_
    | refine tr ?_
    | refine br ?_
    | refine bn ?_
    | refine te ?_
    | (refine idB ?_; first | refine bh rfl ?_ | refine bm rfl ?_)
    | refine W_skip ?_
    | refine W_block ?_
    | refine W_exit ?_
    | refine W_ret ?_
    | refine W_label ?_
    | refine W_scope ?_
    | refine sn ?_
    | refine sr ?_
    | refine se ?_
    | (refine idR ?_; first | refine ret1 rfl rfl rfl ?_ | refine rL1 rfl (by first | exact trivial | exact ⟨rfl, trivial⟩) (by first | exact ResO.tmp rfl | exact ResO.cellBA rfl rfl rfl | exact ResO.cellB1 rfl rfl rfl | exact ResO.cellEA rfl rfl | exact ResO.cellE1 rfl) ?_)
    | (refine idLd ?_; first | refine p1L (D_loadB1 rfl rfl rfl) rfl ?_ | refine p1L (D_loadBA rfl rfl rfl) rfl ?_ | refine p1L (D_loadB1 rfl (by (repeat first | assumption | exact get_last | (refine get_last2 ?_; focus (simp; done)) | apply get_set | apply get_app | (apply get_ne; focus omega) | (apply get_ne; focus (simp only [List.length_set, List.length_append, List.length_cons, List.length_nil]; omega))); done) (by rfl)) rfl ?_ | refine p1L (D_loadBA rfl (by (repeat first | assumption | exact get_last | (refine get_last2 ?_; focus (simp; done)) | apply get_set | apply get_app | (apply get_ne; focus omega) | (apply get_ne; focus (simp only [List.length_set, List.length_append, List.length_cons, List.length_nil]; omega))); done) (by rfl)) rfl ?_)
    | refine Le.bool ?_
    | refine Le.int ?_
    | refine Le.str ?_
    | (refine idW ?_; first | refine W_draw0 rfl ?_ | refine W_draw1 rfl ?_ | refine W_draw2 rfl ?_ | refine W_draw3 rfl ?_)
    | (apply d1 (hd := rfl); case hop => first | (apply D_assign; rfl) | (apply D_pc (cmpInt_pc _ _); rfl; exact .same rfl (.same rfl .nil)) | (apply D_pc (cmpInt64_pc _ _); rfl; exact .same rfl (.same rfl .nil)) | (apply D_pc (cmpStr_pc _ _); rfl; exact .same rfl (.same rfl .nil)) | (apply D_pc (or_pc [cmpI a.kind b.kind, cmpI a.n b.n, Lib.compareBytes a.s b.s] (by show 3 < _; decide)); rfl; exact .same rfl .nil) | (apply D_load1; rfl) | (apply D_fld; rfl) | (apply D_loadW; rfl; rfl) | (apply D_loadA; rfl; rfl) | (apply D_box; rfl; rfl) | (apply D_lit; rfl; rfl; rfl; rfl) | exact D_fldB rfl)
    | (refine idDn ?_; first | refine dL _ (fun hp' hs => D_loadB1 rfl (hs.trans rfl) rfl) rfl ?_ | refine dL _ (fun hp' hs => D_loadBA rfl (hs.trans rfl) rfl) rfl ?_ | refine dS (S_store rfl rfl rfl rfl rfl rfl rfl) rfl ?_ | refine dV (S_alloc 0 rfl) rfl rfl ?_ | refine dV (S_alloc 1 rfl) rfl rfl ?_ | refine dV (S_alloc 2 rfl) rfl rfl ?_ | refine dV (S_alloc 3 rfl) rfl rfl ?_ | refine dV (S_alloc 4 rfl) rfl rfl ?_ | refine dV (S_alloc 5 rfl) rfl rfl ?_ | refine dV (S_alloc 6 rfl) rfl rfl ?_ | refine dV (S_alloc 7 rfl) rfl rfl ?_)
    | refine WD_nil (by first | decide +kernel | kernel_rfl | rfl) ?_
  all_goals rfl

theorem cmpI_z (a b : Int) : cmpI a b = 0 ↔ a = b := by
  unfold cmpI; split
  · omega
  · split <;> omega
theorem cmpB_z : ∀ (a b : List UInt8), Lib.compareBytes a b = 0 ↔ a = b
  | [], [] => by simp [Lib.compareBytes]
  | [], _ :: _ => by simp [Lib.compareBytes]
  | _ :: _, [] => by simp [Lib.compareBytes]
  | x :: a, y :: b => by
    simp only [Lib.compareBytes]
    by_cases h1 : x < y
    · rw [if_pos h1]
      exact ⟨fun h => (by cases h), fun h => (by injection h with h _; rw [h] at h1; exact absurd h1 (UInt8.lt_irrefl _))⟩
    · rw [if_neg h1]
      by_cases h2 : y < x
      · rw [if_pos h2]
        exact ⟨fun h => (by cases h), fun h => (by injection h with h _; rw [h] at h2; exact absurd h2 (UInt8.lt_irrefl _))⟩
      · rw [if_neg h2, cmpB_z a b]
        have : x = y := UInt8.le_antisymm (UInt8.not_lt.1 h2) (UInt8.not_lt.1 h1)
        simp [this]
theorem cmpV_z (a b : Val) : cmpV a b = 0 ↔ a = b := by
  obtain ⟨k, n, s⟩ := a
  obtain ⟨k', n', s'⟩ := b
  have h1 := cmpI_z k k'
  have h2 := cmpI_z n n'
  have h3 := cmpB_z s s'
  simp only [cmpV, orI, Val.mk.injEq]
  by_cases e1 : k = k'
  · rw [if_pos (h1.2 e1)]
    by_cases e2 : n = n'
    · rw [if_pos (h2.2 e2)]
      by_cases e3 : s = s'
      · rw [if_pos (h3.2 e3)]; simp [e1, e2, e3]
      · rw [if_neg fun h => e3 (h3.1 h)]; simp [e1, e2, e3, h3]
    · rw [if_neg fun h => e2 (h2.1 h)]; simp [e1, e2, h2]
  · rw [if_neg fun h => e1 (h1.1 h)]; simp [e1, h1]

end Go.Proofs
