/- Contracts of the value layer's functions: how two stand. -/
import Derived.Test.YtpfalehodcbnbaaDoorTV1
namespace Go.Proofs
open Go.AL
attribute [local irreducible] Go.AL.W Go.AL.WL Go.AL.WD Go.AL.POp Go.AL.PPOp Go.AL.POpS Go.AL.PC Go.AL.AC Go.AL.YW Go.AL.Ret Go.AL.Le Go.AL.thn Go.AL.inBlk Go.AL.scp

abbrev iC (n : Int) : List AV := [.sc (.int .i64 n)]

def cmpI (a b : Int) : Int := if a < b then -1 else if b < a then 1 else 0
def orI : List Int → Int
  | [] => 0
  | x :: l => if x = 0 then orI l else x

instance : Xt Tryd.prog 48 Extern.BytealgCompare.compare := ⟨run_callFunc_extern Tryd.func48 (by kernel_rfl) (by kernel_rfl) (by kernel_rfl) (by kernel_rfl)⟩

set_option maxHeartbeats 400000 in
theorem isNaN_pc [GlobF Tryd.prog] (n : Int) : PC Tryd.prog 34 [.sc (.int .i64 n)] (.sc (.bool false)) := by
  refine PC.of_body Tryd.func34 Tryd.ntmps34 rfl rfl rfl ?_
  repeat' first
    | (apply p1 (hd := rfl); case hop => first | (apply D_move; rfl) | (apply D_assign; rfl) | (apply D_int; rfl; rfl; rfl))
    | refine W_seq ?_
    | refine W_region ?_
    | refine WL_nil ?_
    | refine tn ?_
    | refine tr ?_
    | refine br ?_
    | refine bn ?_
    | refine te ?_
    | (refine idB ?_; first | refine bh rfl ?_ | refine bm rfl ?_)
    | refine W_skip ?_
    | refine W_block ?_
    | refine W_exit ?_
    | refine W_ret ?_
    | refine W_label ?_
    | refine W_scope ?_
    | refine sn ?_
    | refine sr ?_
    | refine se ?_
    | (refine idR ?_; first | refine ret1 rfl rfl rfl ?_ | refine rL1 rfl (by first | exact trivial | exact ⟨rfl, trivial⟩) (by first | exact ResO.tmp rfl | exact ResO.cellBA rfl rfl rfl | exact ResO.cellB1 rfl rfl rfl | exact ResO.cellEA rfl rfl | exact ResO.cellE1 rfl) ?_)
    | refine Le.bool ?_
    | refine Le.int ?_
    | refine Le.str ?_
  simp [bNot, iEq]

set_option maxHeartbeats 400000 in
theorem isNaN64_pc [GlobF Tryd.prog] (n : Int) : PC Tryd.prog 35 [.sc (.int .i64 n)] (.sc (.bool false)) := by
  refine PC.of_body Tryd.func35 Tryd.ntmps35 rfl rfl rfl ?_
  repeat' first
    | (apply p1 (hd := rfl); case hop => first | (apply D_move; rfl) | (apply D_assign; rfl) | (apply D_int; rfl; rfl; rfl))
    | refine W_seq ?_
    | refine W_region ?_
    | refine WL_nil ?_
    | refine tn ?_
    | refine tr ?_
    | refine br ?_
    | refine bn ?_
    | refine te ?_
    | (refine idB ?_; first | refine bh rfl ?_ | refine bm rfl ?_)
    | refine W_skip ?_
    | refine W_block ?_
    | refine W_exit ?_
    | refine W_ret ?_
    | refine W_label ?_
    | refine W_scope ?_
    | refine sn ?_
    | refine sr ?_
    | refine se ?_
    | (refine idR ?_; first | refine ret1 rfl rfl rfl ?_ | refine rL1 rfl (by first | exact trivial | exact ⟨rfl, trivial⟩) (by first | exact ResO.tmp rfl | exact ResO.cellBA rfl rfl rfl | exact ResO.cellB1 rfl rfl rfl | exact ResO.cellEA rfl rfl | exact ResO.cellE1 rfl) ?_)
    | refine Le.bool ?_
    | refine Le.int ?_
    | refine Le.str ?_
  simp [bNot, iEq]

set_option maxHeartbeats 400000 in
theorem cmpInt_pc [GlobF Tryd.prog] (a b : Int) : PC Tryd.prog 16 [.sc (.int .i64 a), .sc (.int .i64 b)] (.sc (.int .i64 (cmpI a b))) := by
  refine PC.of_body Tryd.func16 Tryd.ntmps16 rfl rfl rfl ?_
  repeat' first
    | (apply p1 (hd := rfl); case hop => first | (apply D_move; rfl) | (apply D_assign; rfl) | (apply D_pc (isNaN_pc a); rfl; exact .same rfl .nil) | (apply D_pc (isNaN_pc b); rfl; exact .same rfl .nil) | (apply D_int; rfl; rfl; rfl))
    | refine W_seq ?_
    | refine W_region ?_
    | (refine idC ?_; first | refine c1 rfl ?_ | refine c0 rfl ?_ | refine cs rfl (fun _ => ?_) (fun _ => ?_))
    | refine WL_nil ?_
    | refine tn ?_
    | refine tr ?_
    | refine br ?_
    | refine bn ?_
    | refine te ?_
    | (refine idB ?_; first | refine bh rfl ?_ | refine bm rfl ?_)
    | refine W_skip ?_
    | refine W_block ?_
    | refine W_exit ?_
    | refine W_ret ?_
    | refine W_label ?_
    | refine W_scope ?_
    | refine sn ?_
    | refine sr ?_
    | refine se ?_
    | (refine idR ?_; first | refine ret1 rfl rfl rfl ?_ | refine rL1 rfl (by first | exact trivial | exact ⟨rfl, trivial⟩) (by first | exact ResO.tmp rfl | exact ResO.cellBA rfl rfl rfl | exact ResO.cellB1 rfl rfl rfl | exact ResO.cellEA rfl rfl | exact ResO.cellE1 rfl) ?_)
    | refine Le.bool ?_
    | refine Le.int ?_
    | refine Le.str ?_
  all_goals (unfold cmpI; split <;> first | rfl | omega | (split <;> first | rfl | omega))

set_option maxHeartbeats 400000 in
theorem cmpInt64_pc [GlobF Tryd.prog] (a b : Int) : PC Tryd.prog 17 [.sc (.int .i64 a), .sc (.int .i64 b)] (.sc (.int .i64 (cmpI a b))) := by
  refine PC.of_body Tryd.func17 Tryd.ntmps17 rfl rfl rfl ?_
  repeat' first
    | (apply p1 (hd := rfl); case hop => first | (apply D_move; rfl) | (apply D_assign; rfl) | (apply D_pc (isNaN64_pc a); rfl; exact .same rfl .nil) | (apply D_pc (isNaN64_pc b); rfl; exact .same rfl .nil) | (apply D_int; rfl; rfl; rfl))
    | refine W_seq ?_
    | refine W_region ?_
    | (refine idC ?_; first | refine c1 rfl ?_ | refine c0 rfl ?_ | refine cs rfl (fun _ => ?_) (fun _ => ?_))
    | refine WL_nil ?_
    | refine tn ?_
    | refine tr ?_
    | refine br ?_
    | refine bn ?_
    | refine te ?_
    | (refine idB ?_; first | refine bh rfl ?_ | refine bm rfl ?_)
    | refine W_skip ?_
    | refine W_block ?_
    | refine W_exit ?_
    | refine W_ret ?_
    | refine W_label ?_
    | refine W_scope ?_
    | refine sn ?_
    | refine sr ?_
    | refine se ?_
    | (refine idR ?_; first | refine ret1 rfl rfl rfl ?_ | refine rL1 rfl (by first | exact trivial | exact ⟨rfl, trivial⟩) (by first | exact ResO.tmp rfl | exact ResO.cellBA rfl rfl rfl | exact ResO.cellB1 rfl rfl rfl | exact ResO.cellEA rfl rfl | exact ResO.cellE1 rfl) ?_)
    | refine Le.bool ?_
    | refine Le.int ?_
    | refine Le.str ?_
  all_goals (unfold cmpI; split <;> first | rfl | omega | (split <;> first | rfl | omega))

set_option maxHeartbeats 400000 in
theorem cmpStr0_pc [GlobF Tryd.prog] (a b : List UInt8) : PC Tryd.prog 36 [str a, str b] (.sc (.int .i64 (Lib.compareBytes a b))) := by
  refine PC.of_body Tryd.func36 Tryd.ntmps36 rfl rfl rfl ?_
  repeat' first
    | (apply p1 (hd := rfl); case hop => first | (apply D_move; rfl) | (apply D_assign; rfl) | exact D_xcmp rfl rfl rfl | exact D_xidx rfl rfl rfl)
    | refine W_seq ?_
    | refine W_region ?_
    | refine WL_nil ?_
    | refine tn ?_
    | refine tr ?_
    | refine br ?_
    | refine bn ?_
    | refine te ?_
    | (refine idB ?_; first | refine bh rfl ?_ | refine bm rfl ?_)
    | refine W_skip ?_
    | refine W_block ?_
    | refine W_exit ?_
    | refine W_ret ?_
    | refine W_label ?_
    | refine W_scope ?_
    | refine sn ?_
    | refine sr ?_
    | refine se ?_
    | (refine idR ?_; first | refine ret1 rfl rfl rfl ?_ | refine rL1 rfl (by first | exact trivial | exact ⟨rfl, trivial⟩) (by first | exact ResO.tmp rfl | exact ResO.cellBA rfl rfl rfl | exact ResO.cellB1 rfl rfl rfl | exact ResO.cellEA rfl rfl | exact ResO.cellE1 rfl) ?_)
    | refine Le.bool ?_
    | refine Le.int ?_
    | refine Le.str ?_
  rfl
set_option maxHeartbeats 400000 in
theorem cmpStr_pc [GlobF Tryd.prog] (a b : List UInt8) : PC Tryd.prog 18 [str a, str b] (.sc (.int .i64 (Lib.compareBytes a b))) := by
  refine PC.of_body Tryd.func18 Tryd.ntmps18 rfl rfl rfl ?_
  repeat' first
    | (apply p1 (hd := rfl); case hop => first | (apply D_move; rfl) | (apply D_assign; rfl) | (apply D_pc (cmpStr0_pc a b); rfl; exact .same rfl (.same rfl .nil)))
    | refine W_seq ?_
    | refine W_region ?_
    | refine WL_nil ?_
    | refine tn ?_
    | refine tr ?_
    | refine br ?_
    | refine bn ?_
    | refine te ?_
    | (refine idB ?_; first | refine bh rfl ?_ | refine bm rfl ?_)
    | refine W_skip ?_
    | refine W_block ?_
    | refine W_exit ?_
    | refine W_ret ?_
    | refine W_label ?_
    | refine W_scope ?_
    | refine sn ?_
    | refine sr ?_
    | refine se ?_
    | (refine idR ?_; first | refine ret1 rfl rfl rfl ?_ | refine rL1 rfl (by first | exact trivial | exact ⟨rfl, trivial⟩) (by first | exact ResO.tmp rfl | exact ResO.cellBA rfl rfl rfl | exact ResO.cellB1 rfl rfl rfl | exact ResO.cellEA rfl rfl | exact ResO.cellE1 rfl) ?_)
    | refine Le.bool ?_
    | refine Le.int ?_
    | refine Le.str ?_
  rfl

theorem orI_zeros : ∀ (l : List Int) (i : Nat), (∀ j, j < i → l[j]? = some 0) → orI l = orI (l.drop i)
  | _, 0, _ => rfl
  | [], i + 1, h => by have := h 0 (by omega); simp at this
  | x :: l, i + 1, h => by
    have h0 := h 0 (by omega)
    simp at h0; subst h0
    simp only [orI, if_true, List.drop_succ_cons]
    exact orI_zeros l i fun j hj => by have := h (j + 1) (by omega); simpa using this

set_option maxHeartbeats 400000 in
theorem or_pc [GlobF Tryd.prog] (l : List Int) (hl : l.length < 9223372036854775808) : PC Tryd.prog 15 [.sl none 1 (l.map iC)] (.sc (.int .i64 (orI l))) := by
  refine PC.of_body Tryd.func15 Tryd.ntmps15 rfl rfl rfl ?_
  repeat' first
    | (apply p1 (hd := rfl); case hop => first | (apply D_move; rfl) | (apply D_assign; rfl) | (apply D_load1; rfl) | (apply D_int; rfl; rfl; rfl) | (apply D_lenM; rfl) | (apply D_len_sl; rfl) | (apply D_loadW; rfl; rfl) | (apply D_loadA; rfl; rfl) | (apply D_len_nil; rfl) | (apply D_idxAn; rfl; rfl; (first | omega | (simp; done))) | (apply D_idxA; rfl; rfl; omega; (first | omega | (simp; done) | (simp; omega))) | (apply D_idxA0; rfl; rfl; omega; (first | omega | (simp; done) | (simp; omega))) | (apply D_lenR; rfl) | (apply D_ixRn; rfl; rfl; (first | omega | (simp; done))) | (apply D_ixR; rfl; rfl; all_goals first | omega | ((repeat rw [w64 _ (by omega) (by omega)]); omega) | decide))
    | refine W_seq ?_
    | refine W_region ?_
    | (refine idC ?_; first | refine c1 rfl ?_ | refine c0 rfl ?_ | refine cs rfl (fun _ => ?_) (fun _ => ?_))
    | refine WL_nil ?_
    | refine tn ?_
    | refine tr ?_
    | refine br ?_
    | refine bn ?_
    | refine te ?_
    | (refine idB ?_; first | refine bh rfl ?_ | refine bm rfl ?_)
    | refine W_skip ?_
    | refine W_block ?_
    | refine W_exit ?_
    | refine W_ret ?_
    | refine W_label ?_
    | refine W_scope ?_
    | refine sn ?_
    | refine sr ?_
    | refine se ?_
    | (refine idR ?_; first | refine ret1 rfl rfl rfl ?_ | refine rL1 rfl (by first | exact trivial | exact ⟨rfl, trivial⟩) (by first | exact ResO.tmp rfl | exact ResO.cellBA rfl rfl rfl | exact ResO.cellB1 rfl rfl rfl | exact ResO.cellEA rfl rfl | exact ResO.cellE1 rfl) ?_)
    | refine Le.bool ?_
    | refine Le.int ?_
    | refine Le.str ?_
  refine W_loopL (X := Nat) (fun i => [(3, .sc (.int .i64 0)), (6, .sl none 1 (l.map iC)), (7, .sc (.int .i64 (l.length : Int))), (8, .sc (.int .i64 (i : Int)))]) (fun _ => [])
    (fun i => i ≤ l.length ∧ ∀ j, j < i → l[j]? = some 0) (fun i => l.length - i) 0 ⟨by omega, fun j h => by omega⟩ ⟨rfl, rfl, rfl, rfl, trivial⟩ rfl ?_
  rintro i ⟨hi, hz⟩
  repeat' first
    | (apply p1 (hd := rfl); case hop => first | (apply D_move; rfl) | (apply D_assign; rfl) | (apply D_load1; rfl) | (apply D_int; rfl; rfl; rfl) | (apply D_lenM; rfl) | (apply D_len_sl; rfl) | (apply D_loadW; rfl; rfl) | (apply D_loadA; rfl; rfl) | (apply D_len_nil; rfl) | (apply D_idxAn; rfl; rfl; (first | omega | (simp; done))) | (apply D_idxA; rfl; rfl; omega; (first | omega | (simp; done) | (simp; omega))) | (apply D_idxA0; rfl; rfl; omega; (first | omega | (simp; done) | (simp; omega))) | (apply D_lenR; rfl) | (apply D_ixRn; rfl; rfl; (first | omega | (simp; done))) | (apply D_ixR; rfl; rfl; all_goals first | omega | ((repeat rw [w64 _ (by omega) (by omega)]); omega) | decide))
    | refine W_seq ?_
    | refine W_region ?_
    | (refine idC ?_; first | refine c1 rfl ?_ | refine c0 rfl ?_ | refine cs rfl (fun _ => ?_) (fun _ => ?_))
    | refine WL_nil ?_
    | refine tn ?_
    | refine tr ?_
    | refine br ?_
    | refine bn ?_
    | refine te ?_
    | (refine idB ?_; first | refine bh rfl ?_ | refine bm rfl ?_)
    | refine W_skip ?_
    | refine W_block ?_
    | refine W_exit ?_
    | refine W_ret ?_
    | refine W_label ?_
    | refine W_scope ?_
    | refine sn ?_
    | refine sr ?_
    | refine se ?_
    | (refine idR ?_; first | refine ret1 rfl rfl rfl ?_ | refine rL1 rfl (by first | exact trivial | exact ⟨rfl, trivial⟩) (by first | exact ResO.tmp rfl | exact ResO.cellBA rfl rfl rfl | exact ResO.cellB1 rfl rfl rfl | exact ResO.cellEA rfl rfl | exact ResO.cellE1 rfl) ?_)
    | refine Le.bool ?_
    | refine Le.int ?_
    | refine Le.str ?_
  · rename_i hlt hne
    have hlt' : i < l.length := by omega
    rw [orI_zeros l i hz, List.drop_eq_getElem_cons hlt', orI, if_neg hne]
  · rename_i hlt heq
    refine ⟨rfl, i + 1, ⟨by omega, fun j hj => ?_⟩, by omega, ⟨rfl, rfl, rfl, ieq (wsucc i (by omega)), trivial⟩, rfl⟩
    by_cases e : j = i
    · subst e; rw [List.getElem?_eq_getElem (by omega), heq]
    · exact hz j (by omega)
  · rw [orI_zeros l i hz, List.drop_eq_nil_of_le (by omega)]; rfl

/-! Words. -/

def cmpV (a b : Val) : Int := orI [cmpI a.kind b.kind, cmpI a.n b.n, Lib.compareBytes a.s b.s]
set_option maxHeartbeats 1000000 in
theorem compare_pc [GlobF Tryd.prog] (a b : Val) : PC Tryd.prog 8 [eV a, eV b] (.sc (.int .i64 (cmpV a b))) := by
  refine PC.of_body Tryd.func8 Tryd.ntmps8 rfl rfl rfl ?_
  repeat' first
    | (apply p1 (hd := rfl); case hop => first | (apply D_assign; rfl) | (apply D_pc (cmpInt_pc _ _); rfl; exact .same rfl (.same rfl .nil)) | (apply D_pc (cmpInt64_pc _ _); rfl; exact .same rfl (.same rfl .nil)) | (apply D_pc (cmpStr_pc _ _); rfl; exact .same rfl (.same rfl .nil)) | (apply D_pc (or_pc [cmpI a.kind b.kind, cmpI a.n b.n, Lib.compareBytes a.s b.s] (by show 3 < _; decide)); rfl; exact .same rfl .nil) | (apply D_load1; rfl) | (apply D_fld; rfl) | (apply D_loadW; rfl; rfl) | (apply D_loadA; rfl; rfl) | (apply D_box; rfl; rfl) | (apply D_lit; rfl; rfl; rfl; rfl) | exact D_fldB rfl)
    | refine W_seq ?_
    | refine W_region ?_
    | refine WL_nil ?_
    | refine tn ?_
    | refine tr ?_
    | refine br ?_
    | refine bn ?_
    | refine te ?_
    | (refine idB ?_; first | refine bh rfl ?_ | refine bm rfl ?_)
    | refine W_skip ?_
    | refine W_block ?_
    | refine W_exit ?_
    | refine W_ret ?_
    | refine W_label ?_
    | refine W_scope ?_
    | refine sn ?_
    | refine sr ?_
    | refine se ?_
    | (refine idR ?_; first | refine ret1 rfl rfl rfl ?_ | refine rL1 rfl (by first | exact trivial | exact ⟨rfl, trivial⟩) (by first | exact ResO.tmp rfl | exact ResO.cellBA rfl rfl rfl | exact ResO.cellB1 rfl rfl rfl | exact ResO.cellEA rfl rfl | exact ResO.cellE1 rfl) ?_)
    | (refine idLd ?_; first | refine p1L (D_loadB1 rfl rfl rfl) rfl ?_ | refine p1L (D_loadBA rfl rfl rfl) rfl ?_ | refine p1L (D_loadB1 rfl (by (repeat first | assumption | exact get_last | (refine get_last2 ?_; focus (simp; done)) | apply get_set | apply get_app | (apply get_ne; focus omega) | (apply get_ne; focus (simp only [List.length_set, List.length_append, List.length_cons, List.length_nil]; omega))); done) (by rfl)) rfl ?_ | refine p1L (D_loadBA rfl (by (repeat first | assumption | exact get_last | (refine get_last2 ?_; focus (simp; done)) | apply get_set | apply get_app | (apply get_ne; focus omega) | (apply get_ne; focus (simp only [List.length_set, List.length_append, List.length_cons, List.length_nil]; omega))); done) (by rfl)) rfl ?_)
    | refine Le.bool ?_
    | refine Le.int ?_
    | refine Le.str ?_
    | (refine idW ?_; first | refine W_draw0 rfl ?_ | refine W_draw1 rfl ?_ | refine W_draw2 rfl ?_ | refine W_draw3 rfl ?_)
    | (apply d1 (hd := rfl); case hop => first | (apply D_assign; rfl) | (apply D_pc (cmpInt_pc _ _); rfl; exact .same rfl (.same rfl .nil)) | (apply D_pc (cmpInt64_pc _ _); rfl; exact .same rfl (.same rfl .nil)) | (apply D_pc (cmpStr_pc _ _); rfl; exact .same rfl (.same rfl .nil)) | (apply D_pc (or_pc [cmpI a.kind b.kind, cmpI a.n b.n, Lib.compareBytes a.s b.s] (by show 3 < _; decide)); rfl; exact .same rfl .nil) | (apply D_load1; rfl) | (apply D_fld; rfl) | (apply D_loadW; rfl; rfl) | (apply D_loadA; rfl; rfl) | (apply D_box; rfl; rfl) | (apply D_lit; rfl; rfl; rfl; rfl) | exact D_fldB rfl)
    | (refine idDn ?_; first | refine dL _ (fun hp' hs => D_loadB1 rfl (hs.trans rfl) rfl) rfl ?_ | refine dL _ (fun hp' hs => D_loadBA rfl (hs.trans rfl) rfl) rfl ?_ | refine dS (S_store rfl rfl rfl rfl rfl rfl rfl) rfl ?_ | refine dV (S_alloc 0 rfl) rfl rfl ?_ | refine dV (S_alloc 1 rfl) rfl rfl ?_ | refine dV (S_alloc 2 rfl) rfl rfl ?_ | refine dV (S_alloc 3 rfl) rfl rfl ?_ | refine dV (S_alloc 4 rfl) rfl rfl ?_ | refine dV (S_alloc 5 rfl) rfl rfl ?_ | refine dV (S_alloc 6 rfl) rfl rfl ?_ | refine dV (S_alloc 7 rfl) rfl rfl ?_)
    | refine WD_nil (by first | decide +kernel | kernel_rfl | rfl) ?_
  all_goals rfl

theorem cmpI_z (a b : Int) : cmpI a b = 0 ↔ a = b := by
  unfold cmpI; split
  · omega
  · split <;> omega
theorem cmpB_z : ∀ (a b : List UInt8), Lib.compareBytes a b = 0 ↔ a = b
  | [], [] => by simp [Lib.compareBytes]
  | [], _ :: _ => by simp [Lib.compareBytes]
  | _ :: _, [] => by simp [Lib.compareBytes]
  | x :: a, y :: b => by
    simp only [Lib.compareBytes]
    by_cases h1 : x < y
    · rw [if_pos h1]
      exact ⟨fun h => (by cases h), fun h => (by injection h with h _; rw [h] at h1; exact absurd h1 (UInt8.lt_irrefl _))⟩
    · rw [if_neg h1]
      by_cases h2 : y < x
      · rw [if_pos h2]
        exact ⟨fun h => (by cases h), fun h => (by injection h with h _; rw [h] at h2; exact absurd h2 (UInt8.lt_irrefl _))⟩
      · rw [if_neg h2, cmpB_z a b]
        have : x = y := UInt8.le_antisymm (UInt8.not_lt.1 h2) (UInt8.not_lt.1 h1)
        simp [this]
theorem cmpV_z (a b : Val) : cmpV a b = 0 ↔ a = b := by
  obtain ⟨k, n, s⟩ := a
  obtain ⟨k', n', s'⟩ := b
  have h1 := cmpI_z k k'
  have h2 := cmpI_z n n'
  have h3 := cmpB_z s s'
  simp only [cmpV, orI, Val.mk.injEq]
  by_cases e1 : k = k'
  · rw [if_pos (h1.2 e1)]
    by_cases e2 : n = n'
    · rw [if_pos (h2.2 e2)]
      by_cases e3 : s = s'
      · rw [if_pos (h3.2 e3)]; simp [e1, e2, e3]
      · rw [if_neg fun h => e3 (h3.1 h)]; simp [e1, e2, e3, h3]
    · rw [if_neg fun h => e2 (h2.1 h)]; simp [e1, e2, h2]
  · rw [if_neg fun h => e1 (h1.1 h)]; simp [e1, h1]

end Go.Proofs

/- The plain law of the values' order. -/
namespace Go.Proofs
open Go.AL

/-- How two stand, soundly. -/
structure WC {α : Type} (c : α → α → Int) : Prop where
  anti : ∀ x y, c x y < 0 ↔ 0 < c y x
  le : ∀ x y z, c x y ≤ 0 → c y z ≤ 0 → c x z ≤ 0
theorem WC.refl {α : Type} {c : α → α → Int} (h : WC c) (x : α) : c x x = 0 := by have := h.anti x x; omega
theorem WC.sym {α : Type} {c : α → α → Int} (h : WC c) {x y : α} (e : c x y = 0) : c y x = 0 := by have h1 := h.anti x y; have h2 := h.anti y x; omega
theorem WC.lt {α : Type} {c : α → α → Int} (h : WC c) {x y z : α} (h1 : c x y ≤ 0) (h2 : c y z ≤ 0) (h3 : c x y < 0 ∨ c y z < 0) : c x z < 0 := by
  have h4 := h.le x y z h1 h2
  rcases Int.lt_or_eq_of_le h4 with h5 | h5
  · exact h5
  · exfalso
    have h6 := h.sym h5
    rcases h3 with h3 | h3
    · have := h.le y z x h2 (by omega)
      have := (h.anti x y).1 h3; omega
    · have := h.le z x y (by omega) h1
      have := (h.anti y z).1 h3; omega
theorem WC.comap {α β : Type} {c : α → α → Int} (h : WC c) (f : β → α) : WC (fun x y => c (f x) (f y)) := ⟨fun _ _ => h.anti _ _, fun _ _ _ => h.le _ _ _⟩
theorem WC.lex {α : Type} {c d : α → α → Int} (h : WC c) (h' : WC d) : WC (fun x y => if c x y = 0 then d x y else c x y) := by
  refine ⟨fun x y => ?_, fun x y z h1 h2 => ?_⟩
  · have a1 := h.anti x y
    have a2 := h.anti y x
    have b1 := h'.anti x y
    by_cases e : c x y = 0
    · rw [if_pos e, if_pos (h.sym e)]; exact b1
    · rw [if_neg e, if_neg (fun e' => e (h.sym e'))]; exact a1
  · by_cases e1 : c x y = 0
    · rw [if_pos e1] at h1
      by_cases e2 : c y z = 0
      · rw [if_pos e2] at h2
        have e3 : c x z = 0 := by
          have l1 := h.le x y z (by omega) (by omega)
          have l2 := h.le z y x (by have := h.sym e2; omega) (by have := h.sym e1; omega)
          have := h.anti x z
          omega
        rw [if_pos e3]; exact h'.le x y z h1 h2
      · rw [if_neg e2] at h2
        have := h.lt (x := x) (y := y) (z := z) (by omega) h2 (.inr (by omega))
        rw [if_neg (by omega)]; omega
    · rw [if_neg e1] at h1
      have h3 : c y z ≤ 0 := by
        by_cases e2 : c y z = 0
        · omega
        · rw [if_neg e2] at h2; exact h2
      have := h.lt (x := x) (y := y) (z := z) h1 h3 (.inl (by omega))
      rw [if_neg (by omega)]; omega
theorem cb_lt {x y : UInt8} {a b : List UInt8} (h : x.toNat < y.toNat) : Lib.compareBytes (x :: a) (y :: b) = -1 := by
  rw [Lib.compareBytes, if_pos (UInt8.lt_iff_toNat_lt.2 h)]
theorem cb_gt {x y : UInt8} {a b : List UInt8} (h : y.toNat < x.toNat) : Lib.compareBytes (x :: a) (y :: b) = 1 := by
  rw [Lib.compareBytes, if_neg (by rw [UInt8.lt_iff_toNat_lt]; omega), if_pos (UInt8.lt_iff_toNat_lt.2 h)]
theorem cb_eq (x : UInt8) (a b : List UInt8) : Lib.compareBytes (x :: a) (x :: b) = Lib.compareBytes a b := by
  rw [Lib.compareBytes, if_neg (by rw [UInt8.lt_iff_toNat_lt]; omega), if_neg (by rw [UInt8.lt_iff_toNat_lt]; omega)]
theorem wc_cmpI : WC cmpI := by
  constructor
  · intro x y; unfold cmpI; split <;> split <;> (try split) <;> (try split) <;> omega
  · intro x y z; unfold cmpI; intro h1 h2
    split at h1 <;> split at h2 <;> (try split at h1) <;> (try split at h2) <;> split <;> (try split) <;> omega
theorem cb_cases (x y : UInt8) (a b : List UInt8) : (x.toNat < y.toNat ∧ Lib.compareBytes (x :: a) (y :: b) = -1 ∧ Lib.compareBytes (y :: b) (x :: a) = 1) ∨ (y.toNat < x.toNat ∧ Lib.compareBytes (x :: a) (y :: b) = 1 ∧ Lib.compareBytes (y :: b) (x :: a) = -1) ∨
    (x = y ∧ Lib.compareBytes (x :: a) (y :: b) = Lib.compareBytes a b ∧ Lib.compareBytes (y :: b) (x :: a) = Lib.compareBytes b a) := by
  rcases Nat.lt_trichotomy x.toNat y.toNat with h | h | h
  · exact .inl ⟨h, cb_lt h, cb_gt h⟩
  · have e : x = y := UInt8.toNat.inj h
    subst e; exact .inr (.inr ⟨rfl, cb_eq _ _ _, cb_eq _ _ _⟩)
  · exact .inr (.inl ⟨h, cb_gt h, cb_lt h⟩)
theorem cb_anti : ∀ a b : List UInt8, Lib.compareBytes a b < 0 ↔ 0 < Lib.compareBytes b a
  | [], [] => by simp [Lib.compareBytes]
  | [], y :: b => by simp [Lib.compareBytes]
  | x :: a, [] => by simp [Lib.compareBytes]
  | x :: a, y :: b => by
    have ih := cb_anti a b
    rcases cb_cases x y a b with ⟨_, e1, e2⟩ | ⟨_, e1, e2⟩ | ⟨_, e1, e2⟩
    · rw [e1, e2]; omega
    · rw [e1, e2]; omega
    · rw [e1, e2]; exact ih
theorem cb_le : ∀ a b c : List UInt8, Lib.compareBytes a b ≤ 0 → Lib.compareBytes b c ≤ 0 → Lib.compareBytes a c ≤ 0
  | [], b, [], _, _ => by simp [Lib.compareBytes]
  | [], b, z :: c, _, _ => by simp [Lib.compareBytes]
  | x :: a, [], c, h, _ => by simp [Lib.compareBytes] at h
  | x :: a, y :: b, [], _, h => by simp [Lib.compareBytes] at h
  | x :: a, y :: b, z :: c, h1, h2 => by
    have ih := cb_le a b c
    rcases cb_cases x y a b with ⟨p, e1, _⟩ | ⟨p, e1, _⟩ | ⟨p, e1, _⟩
    · rcases cb_cases y z b c with ⟨q, e3, _⟩ | ⟨q, e3, _⟩ | ⟨q, e3, _⟩
      · rw [cb_lt (by omega)]; omega
      · rw [e3] at h2; omega
      · subst q; rw [cb_lt p]; omega
    · rw [e1] at h1; omega
    · subst p
      rcases cb_cases x z b c with ⟨q, e3, _⟩ | ⟨q, e3, _⟩ | ⟨q, e3, _⟩
      · rw [cb_lt q]; omega
      · rw [e3] at h2; omega
      · subst q; rw [cb_eq]; rw [e1] at h1; rw [e3] at h2; exact ih h1 h2
theorem wc_cb : WC Lib.compareBytes := ⟨cb_anti, cb_le⟩
theorem wc_cmpV : WC cmpV := by
  have e : cmpV = fun a b => if cmpI a.kind b.kind = 0 then (if cmpI a.n b.n = 0 then Lib.compareBytes a.s b.s else cmpI a.n b.n) else cmpI a.kind b.kind := by
    funext a b
    simp only [cmpV, orI]
    split
    · split
      · split
        · rename_i h; exact h.symm
        · rfl
      · rfl
    · rfl
  rw [e]
  exact (wc_cmpI.comap Val.kind).lex ((wc_cmpI.comap Val.n).lex (wc_cb.comap Val.s))

theorem cb_range : ∀ (a b : List UInt8), Lib.compareBytes a b = -1 ∨ Lib.compareBytes a b = 0 ∨ Lib.compareBytes a b = 1
  | [], [] => by simp [Lib.compareBytes]
  | [], _ :: _ => by simp [Lib.compareBytes]
  | _ :: _, [] => by simp [Lib.compareBytes]
  | x :: a, y :: b => by
    have := cb_range a b
    simp only [Lib.compareBytes]
    split
    · simp
    · split
      · simp
      · exact this
theorem cmpI_range (a b : Int) : cmpI a b = -1 ∨ cmpI a b = 0 ∨ cmpI a b = 1 := by
  unfold cmpI; split
  · simp
  · split <;> simp
theorem cmpV_range (a b : Val) : cmpV a b = -1 ∨ cmpV a b = 0 ∨ cmpV a b = 1 := by
  have h1 := cmpI_range a.kind b.kind
  have h2 := cmpI_range a.n b.n
  have h3 := cb_range a.s b.s
  simp only [cmpV, orI]
  split
  · split
    · split
      · simp
      · exact h3
    · exact h2
  · exact h1
end Go.Proofs
