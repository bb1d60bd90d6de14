/- Contracts of spans' texts: the library's Join. -/
import Derived.Test.YtfnmipagllofiaaGreatDoorWT1b
import Derived.Test.YtfnmipagllofiaaGreatDoorOps25
namespace Go.Proofs
open Go.AL
attribute [local irreducible] Go.AL.W Go.AL.WL Go.AL.WD Go.AL.POp Go.AL.PPOp Go.AL.POpS Go.AL.PC Go.AL.AC Go.AL.YW Go.AL.Ret Go.AL.Le Go.AL.thn Go.AL.inBlk Go.AL.scp
set_option maxHeartbeats 4000000 in
theorem Grow_ac [GlobF Tryz.prog] {h : List AObj} {r T : Nat} [hl : Lies Tryz.prog T 2 0 59] (hr0 : h[r]? = some (.cells [.sc (.pointer none), .sc (.slice none 0 0)] (some T))) (n : Nat) (h0 : 0 < n) (hn : n ≤ 140737488355328) :
    AC Tryz.prog 32 [.bp r 0, .sc (.int .i64 (n : Int))] h (fun v h' => v = .tu [] ∧ h' = ((h.set r (.cells [.bp r 0, .sc (.slice none 0 0)] (some T))) ++ [AObj.tail 0 1 5]).set r (.cells (bCells (.bp r 0) h.length [] []) (some T))) := by
  have hc := ccheck_ac (n := 2) hr0 rfl (.inl rfl)
  have h1 : (h.set r (.cells [.bp r 0, .sc (.slice none 0 0)] (some T)))[r]? = some (.cells [.bp r 0, .sc (.slice none 0 0)] (some T)) := List.getElem?_set_self (get_lt hr0)
  have hg := grow_ac h1 n hn
  rw [List.length_set] at hg
  have e1 : Value.bool (iLt (n : Int) 0) = .bool false := by rw [(iLt_f _ _).mpr (by omega)]
  have e2 : Value.bool (iLt (IntKind.i64.wrap (((0 : Nat) : Int) - 0)) (n : Int)) = .bool true := by rw [w64 _ (by omega) (by omega), (iLt_t _ _).mpr (by omega)]
  refine AC.of_body Tryz.func32 Tryz.ntmps32 rfl rfl rfl ?_
  repeat' first
    | (refine dL r (fun hp' hs => D_loadB1 rfl (hs.trans h1) rfl) rfl ?_)
    | (refine m_call hc rfl rfl rfl ?_; rintro _ _ ⟨rfl, rfl⟩)
    | (refine m_call hg rfl rfl rfl ?_; rintro _ _ ⟨rfl, rfl⟩)
    | (apply p1 (hd := rfl); case hop => first | (apply D_move; rfl) | exact D_sc (D_int rfl rfl rfl) e1 | exact D_sc (D_int rfl rfl rfl) e2 | exact D_cap_nil rfl | (apply D_load1; rfl) | (apply D_fld; rfl) | (apply D_int; rfl; rfl; rfl) | (apply D_lenM; rfl) | (apply D_len_sl; rfl) | (apply D_loadW; rfl; rfl) | (apply D_loadA; rfl; rfl) | (apply D_len_nil; rfl) | exact D_fldB rfl | (apply D_lenR; rfl) | (apply D_nilB; rfl) | (apply D_nilE; rfl))
    | refine W_seq ?_
    | refine W_region ?_
    | (refine idC ?_; first | refine c1 rfl ?_ | refine c0 rfl ?_ | refine cs rfl (fun _ => ?_) (fun _ => ?_))
    | refine WL_nil ?_
    | refine tn ?_
    | refine tr ?_
    | refine br ?_
    | refine bn ?_
    | refine te ?_
    | (refine idB ?_; first | refine bh rfl ?_ | refine bm rfl ?_)
    | refine W_skip ?_
    | refine W_block ?_
    | refine W_exit ?_
    | refine W_ret ?_
    | refine W_label ?_
    | refine W_scope ?_
    | refine sn ?_
    | refine sr ?_
    | refine se ?_
    | (refine idLd ?_; first | refine p1L (D_loadB1 rfl rfl rfl) rfl ?_ | refine p1L (D_loadBA rfl rfl rfl) rfl ?_ | refine p1L (D_loadB1 rfl (by (repeat first | assumption | exact get_last | (refine get_last2 ?_; focus (simp; done)) | apply get_set | apply get_app | (apply get_ne; focus omega) | (apply get_ne; focus (simp only [List.length_set, List.length_append, List.length_cons, List.length_nil]; omega))); done) (by rfl)) rfl ?_ | refine p1L (D_loadBA rfl (by (repeat first | assumption | exact get_last | (refine get_last2 ?_; focus (simp; done)) | apply get_set | apply get_app | (apply get_ne; focus omega) | (apply get_ne; focus (simp only [List.length_set, List.length_append, List.length_cons, List.length_nil]; omega))); done) (by rfl)) rfl ?_)
    | refine Le.bool ?_
    | refine Le.int ?_
    | refine Le.str ?_
    | (refine idW ?_; first | refine W_draw0 rfl ?_ | refine W_draw1 rfl ?_ | refine W_draw2 rfl ?_ | refine W_draw3 rfl ?_)
    | (apply d1 (hd := rfl); case hop => first | (apply D_move; rfl) | exact D_sc (D_int rfl rfl rfl) e1 | exact D_sc (D_int rfl rfl rfl) e2 | exact D_cap_nil rfl | (apply D_load1; rfl) | (apply D_fld; rfl) | (apply D_int; rfl; rfl; rfl) | (apply D_lenM; rfl) | (apply D_len_sl; rfl) | (apply D_loadW; rfl; rfl) | (apply D_loadA; rfl; rfl) | (apply D_len_nil; rfl) | exact D_fldB rfl | (apply D_lenR; rfl) | (apply D_nilB; rfl) | (apply D_nilE; rfl))
    | (refine idDn ?_; first | refine dL _ (fun hp' hs => D_loadB1 rfl (hs.trans rfl) rfl) rfl ?_ | refine dL _ (fun hp' hs => D_loadBA rfl (hs.trans rfl) rfl) rfl ?_ | refine dS (S_store rfl rfl rfl rfl rfl rfl rfl) rfl ?_ | refine dV (S_alloc 0 rfl) rfl rfl ?_ | refine dV (S_alloc 1 rfl) rfl rfl ?_ | refine dV (S_alloc 2 rfl) rfl rfl ?_ | refine dV (S_alloc 3 rfl) rfl rfl ?_ | refine dV (S_alloc 4 rfl) rfl rfl ?_ | refine dV (S_alloc 5 rfl) rfl rfl ?_ | refine dV (S_alloc 6 rfl) rfl rfl ?_ | refine dV (S_alloc 7 rfl) rfl rfl ?_)
    | refine WD_nil (by first | decide +kernel | kernel_rfl | rfl) ?_
  all_goals exact ret0 (.inr rfl) rfl rfl ⟨rfl, rfl⟩
def HB (l : List UInt8) : List AObj := [.cells (bCells (.bp 0 0) 1 l []) (some 59), .tail l.length 1 5]
theorem HB_bld (l : List UInt8) (h : l.length < 1099511627776) : Bld (HB l) 0 1 59 (.bp 0 0) l [] := ⟨rfl, rfl, .inr rfl, h⟩
theorem HB_next (l m : List UInt8) : bldH (HB l) 0 1 59 m [] = HB m := rfl
def lensS (xs : List (List UInt8)) : Nat := (xs.map List.length).sum
theorem lensS_take (xs : List (List UInt8)) (i : Nat) (h : i < xs.length) : lensS (xs.take (i + 1)) = lensS (xs.take i) + xs[i].length := by
  unfold lensS; rw [List.take_succ_eq_append_getElem h, List.map_append, List.sum_append]; simp only [List.map_cons, List.map_nil, List.sum_cons, List.sum_nil]; omega
theorem lensS_le (xs : List (List UInt8)) (i : Nat) : lensS (xs.take i) ≤ lensS xs := by
  unfold lensS
  conv => rhs; rw [← List.take_append_drop i xs]
  rw [List.map_append, List.sum_append]; omega
theorem joiS_len : ∀ (xs : List (List UInt8)), xs ≠ [] → (joiS xs).length = (xs.length - 1) + lensS xs
  | [], h => absurd rfl h
  | x :: ps, _ => by
    have : ∀ ps : List (List UInt8), (ps.flatMap (32 :: ·)).length = ps.length + lensS ps := by
      intro ps; induction ps with
      | nil => rfl
      | cons p ps ih => rw [List.flatMap_cons, List.length_append, ih]; simp [lensS]; omega
    rw [joiS, List.length_append, this]
    simp [lensS]; omega
theorem joiS_take (x : List UInt8) (ps : List (List UInt8)) (i : Nat) (h : i < ps.length) : joiS (x :: ps.take (i + 1)) = joiS (x :: ps.take i) ++ [32] ++ ps[i] := by
  simp only [joiS]
  rw [List.take_succ_eq_append_getElem h, List.flatMap_append]; simp
set_option maxHeartbeats 16000000 in
theorem join_pc [GlobF Tryz.prog] (x : List UInt8) (ps : List (List UInt8)) (hl : (joiS (x :: ps)).length < 1099511627776) : PC Tryz.prog 19 [.sl none 1 ((x :: ps).map tC), str [32]] (str (joiS (x :: ps))) := by
  have hjl := joiS_len (x :: ps) (by simp)
  have hle := lensS_le (x :: ps)
  have hst := lensS_take (x :: ps)
  have hgl : (x :: ps).length = ps.length + 1 := rfl
  have k0 : ∀ i : Nat, i ≤ ps.length → ((joiS (x :: ps.take i)).length < 1099511627776) := fun i hi => by
    have h1 := joiS_len (x :: ps.take i) (by simp)
    have h2 := hle (i + 1)
    rw [List.take_succ_cons] at h2
    rw [List.length_cons, List.length_take] at h1
    omega
  by_cases hp : ps = []
  · subst hp
    have g0 : Value.bool (iEq (([x] : List (List UInt8)).length : Int) 0) = .bool false := by rw [(iEq_f _ _).mpr (by simp)]
    have g1 : Value.bool (iEq (([x] : List (List UInt8)).length : Int) 1) = .bool true := by rw [(iEq_t _ _).mpr (by simp)]
    refine PC.of_body Tryz.func19 Tryz.ntmps19 rfl rfl rfl ?_
    repeat' first
      | (apply p1 (hd := rfl); case hop => first | (apply D_move; rfl) | (apply D_assign; rfl) | exact D_sc (D_int rfl rfl rfl) g0 | exact D_sc (D_int rfl rfl rfl) g1 | (apply D_load1; rfl) | (apply D_int; rfl; rfl; rfl) | (apply D_lenM; rfl) | (apply D_len_sl; rfl) | (apply D_len_str; rfl) | (apply D_loadW; rfl; rfl) | (apply D_loadA; rfl; rfl) | (apply D_len_nil; rfl) | (apply D_idxAn; rfl; rfl; (first | omega | (simp; done))) | (apply D_idxA; rfl; rfl; omega; (first | omega | (simp; done) | (simp; omega))) | (apply D_idxA0; rfl; rfl; omega; (first | omega | (simp; done) | (simp; omega))) | (apply D_slVM; rfl; rfl; rfl; all_goals first | omega | ((repeat rw [w64 _ (by omega) (by omega)]); omega) | decide) | (apply D_slVhM; rfl; rfl; all_goals first | omega | ((repeat rw [w64 _ (by omega) (by omega)]); omega) | decide) | (apply D_slVlM; rfl; rfl; all_goals first | omega | ((repeat rw [w64 _ (by omega) (by omega)]); omega) | decide) | (apply D_slV; rfl; rfl; rfl; all_goals first | omega | ((repeat rw [w64 _ (by omega) (by omega)]); omega) | decide) | (apply D_slVh; rfl; rfl; all_goals first | omega | ((repeat rw [w64 _ (by omega) (by omega)]); omega) | decide) | (apply D_slVl; rfl; rfl; all_goals first | omega | ((repeat rw [w64 _ (by omega) (by omega)]); omega) | decide) | (apply D_lenR; rfl) | (apply D_ixRn; rfl; rfl; (first | omega | (simp; done))) | (apply D_ixR; rfl; rfl; all_goals first | omega | ((repeat rw [w64 _ (by omega) (by omega)]); omega) | decide) | (apply D_slRl; rfl; rfl; all_goals first | omega | ((repeat rw [w64 _ (by omega) (by omega)]); omega) | decide) | (apply D_slRh; rfl; rfl; all_goals first | omega | ((repeat rw [w64 _ (by omega) (by omega)]); omega) | decide) | (apply D_quo; rfl; rfl; first | omega | ((repeat rw [w64 _ (by omega) (by omega)]); omega) | decide))
      | refine W_seq ?_
      | refine W_region ?_
      | (refine idC ?_; first | refine c1 rfl ?_ | refine c0 rfl ?_ | refine cs rfl (fun _ => ?_) (fun _ => ?_))
      | refine WL_nil ?_
      | refine tn ?_
      | refine tr ?_
      | refine br ?_
      | refine bn ?_
      | refine te ?_
      | (refine idB ?_; first | refine bh rfl ?_ | refine bm rfl ?_)
      | refine W_skip ?_
      | refine W_block ?_
      | refine W_exit ?_
      | refine W_ret ?_
      | refine W_label ?_
      | refine W_scope ?_
      | refine sn ?_
      | refine sr ?_
      | refine se ?_
      | (refine idR ?_; first | refine ret1 rfl rfl rfl ?_ | refine rL1 rfl (by first | exact trivial | exact ⟨rfl, trivial⟩) (by first | exact ResO.tmp rfl | exact ResO.cellBA rfl rfl rfl | exact ResO.cellB1 rfl rfl rfl | exact ResO.cellEA rfl rfl | exact ResO.cellE1 rfl) ?_)
      | (refine idLd ?_; first | refine p1L (D_loadB1 rfl rfl rfl) rfl ?_ | refine p1L (D_loadBA rfl rfl rfl) rfl ?_ | refine p1L (D_loadB1 rfl (by (repeat first | assumption | exact get_last | (refine get_last2 ?_; focus (simp; done)) | apply get_set | apply get_app | (apply get_ne; focus omega) | (apply get_ne; focus (simp only [List.length_set, List.length_append, List.length_cons, List.length_nil]; omega))); done) (by rfl)) rfl ?_ | refine p1L (D_loadBA rfl (by (repeat first | assumption | exact get_last | (refine get_last2 ?_; focus (simp; done)) | apply get_set | apply get_app | (apply get_ne; focus omega) | (apply get_ne; focus (simp only [List.length_set, List.length_append, List.length_cons, List.length_nil]; omega))); done) (by rfl)) rfl ?_)
      | (refine idA ?_; first | refine m_var rfl rfl rfl rfl rfl rfl rfl ?_ | refine m_alloc rfl ?_)
      | refine Le.bool ?_
      | refine Le.int ?_
      | refine Le.str ?_
    all_goals simp [joiS]
  have hpl : 0 < ps.length := List.length_pos_iff.2 hp
  obtain ⟨X, hX⟩ : ∃ X, X = x :: ps := ⟨_, rfl⟩
  have hXl : X.length = ps.length + 1 := by rw [hX]; rfl
  have e6 : Value.bool (iLt 0 (([32] : List UInt8).length : Int)) = .bool true := by rw [(iLt_t _ _).mpr (by simp)]
  have e0 : Value.bool (iEq (X.length : Int) 0) = .bool false := by rw [(iEq_f _ _).mpr (by omega)]
  have e1 : Value.bool (iEq (X.length : Int) 1) = .bool false := by rw [(iEq_f _ _).mpr (by omega)]
  have e2 : Value.int .i64 (IntKind.i64.wrap ((X.length : Int) - 1)) = .int .i64 (ps.length : Int) := by rw [w64 _ (by omega) (by omega)]; congr 1; omega
  have e3 : Value.bool (iLe (IntKind.i64.wrap (Int.tdiv 9223372036854775807 (ps.length : Int))) 1) = .bool false := by
    rw [(iLe_f _ _).mpr ?_]
    rw [Int.tdiv_eq_ediv_of_nonneg (by omega)]
    have h2 : (2 : Int) ≤ 9223372036854775807 / (ps.length : Int) := by
      rw [Int.le_ediv_iff_mul_le (by omega)]; omega
    have h3 : 9223372036854775807 / (ps.length : Int) ≤ 9223372036854775807 := Int.ediv_le_self _ (by omega)
    rw [w64 _ (by omega) (by omega)]; omega
  have e4 : Value.int .i64 (IntKind.i64.wrap (1 * (ps.length : Int))) = .int .i64 (ps.length : Int) := by rw [w64 _ (by omega) (by omega)]; congr 1; omega
  have e5 : Value.int .i64 (IntKind.i64.wrap (0 + (ps.length : Int))) = .int .i64 (ps.length : Int) := by rw [w64 _ (by omega) (by omega)]; congr 1; omega
  rw [← hX] at hl hjl hle hst ⊢
  refine PC.of_body Tryz.func19 Tryz.ntmps19 rfl rfl rfl ?_
  repeat' first
    | (apply p1 (hd := rfl); case hop => first | (apply D_move; rfl) | (apply D_assign; rfl) | exact D_sc (D_int rfl rfl rfl) e0 | exact D_sc (D_int rfl rfl rfl) e1 | exact D_sc (D_int rfl rfl rfl) e2 | (apply D_quo; rfl; rfl; focus omega) | exact D_sc (D_int rfl rfl rfl) e3 | exact D_sc (D_int rfl rfl rfl) e4 | exact D_sc (D_int rfl rfl rfl) e5 | exact D_sc (D_int rfl rfl rfl) e6 | (apply D_load1; rfl) | (apply D_int; rfl; rfl; rfl) | (apply D_lenM; rfl) | (apply D_len_sl; rfl) | (apply D_len_str; rfl) | (apply D_loadW; rfl; rfl) | (apply D_loadA; rfl; rfl) | (apply D_len_nil; rfl) | (apply D_idxAn; rfl; rfl; (first | omega | (simp; done))) | (apply D_idxA; rfl; rfl; omega; (first | omega | (simp; done) | (simp; omega))) | (apply D_idxA0; rfl; rfl; omega; (first | omega | (simp; done) | (simp; omega))) | (apply D_slVM; rfl; rfl; rfl; all_goals first | omega | ((repeat rw [w64 _ (by omega) (by omega)]); omega) | decide) | (apply D_slVhM; rfl; rfl; all_goals first | omega | ((repeat rw [w64 _ (by omega) (by omega)]); omega) | decide) | (apply D_slVlM; rfl; rfl; all_goals first | omega | ((repeat rw [w64 _ (by omega) (by omega)]); omega) | decide) | (apply D_slV; rfl; rfl; rfl; all_goals first | omega | ((repeat rw [w64 _ (by omega) (by omega)]); omega) | decide) | (apply D_slVh; rfl; rfl; all_goals first | omega | ((repeat rw [w64 _ (by omega) (by omega)]); omega) | decide) | (apply D_slVl; rfl; rfl; all_goals first | omega | ((repeat rw [w64 _ (by omega) (by omega)]); omega) | decide) | (apply D_lenR; rfl) | (apply D_ixRn; rfl; rfl; (first | omega | (simp; done))) | (apply D_ixR; rfl; rfl; all_goals first | omega | ((repeat rw [w64 _ (by omega) (by omega)]); omega) | decide) | (apply D_slRl; rfl; rfl; all_goals first | omega | ((repeat rw [w64 _ (by omega) (by omega)]); omega) | decide) | (apply D_slRh; rfl; rfl; all_goals first | omega | ((repeat rw [w64 _ (by omega) (by omega)]); omega) | decide) | (apply D_quo; rfl; rfl; first | omega | ((repeat rw [w64 _ (by omega) (by omega)]); omega) | decide))
    | refine W_seq ?_
    | refine W_region ?_
    | (refine idC ?_; first | refine c1 rfl ?_ | refine c0 rfl ?_ | refine cs rfl (fun _ => ?_) (fun _ => ?_))
    | refine WL_nil ?_
    | refine tn ?_
    | refine tr ?_
    | refine br ?_
    | refine bn ?_
    | refine te ?_
    | (refine idB ?_; first | refine bh rfl ?_ | refine bm rfl ?_)
    | refine W_skip ?_
    | refine W_block ?_
    | refine W_exit ?_
    | refine W_ret ?_
    | refine W_label ?_
    | refine W_scope ?_
    | refine sn ?_
    | refine sr ?_
    | refine se ?_
    | (refine idR ?_; first | refine ret1 rfl rfl rfl ?_ | refine rL1 rfl (by first | exact trivial | exact ⟨rfl, trivial⟩) (by first | exact ResO.tmp rfl | exact ResO.cellBA rfl rfl rfl | exact ResO.cellB1 rfl rfl rfl | exact ResO.cellEA rfl rfl | exact ResO.cellE1 rfl) ?_)
    | (refine idLd ?_; first | refine p1L (D_loadB1 rfl rfl rfl) rfl ?_ | refine p1L (D_loadBA rfl rfl rfl) rfl ?_ | refine p1L (D_loadB1 rfl (by (repeat first | assumption | exact get_last | (refine get_last2 ?_; focus (simp; done)) | apply get_set | apply get_app | (apply get_ne; focus omega) | (apply get_ne; focus (simp only [List.length_set, List.length_append, List.length_cons, List.length_nil]; omega))); done) (by rfl)) rfl ?_ | refine p1L (D_loadBA rfl (by (repeat first | assumption | exact get_last | (refine get_last2 ?_; focus (simp; done)) | apply get_set | apply get_app | (apply get_ne; focus omega) | (apply get_ne; focus (simp only [List.length_set, List.length_append, List.length_cons, List.length_nil]; omega))); done) (by rfl)) rfl ?_)
    | (refine idA ?_; first | refine m_var rfl rfl rfl rfl rfl rfl rfl ?_ | refine m_alloc rfl ?_)
    | refine Le.bool ?_
    | refine Le.int ?_
    | refine Le.str ?_
  refine W_loopL (X := Nat) (fun i => [(0, .sl none 1 (X.map tC)), (1, str [32]), (5, .sc (.int .i64 ((ps.length + lensS (X.take i) : Nat) : Int))), (39, .sl none 1 (X.map tC)), (40, .sc (.int .i64 (X.length : Int))), (41, .sc (.int .i64 (i : Int)))]) (fun _ => [])
    (fun i => i ≤ X.length) (fun i => X.length - i) 0 (Nat.zero_le _) ⟨rfl, rfl, rfl, rfl, rfl, rfl, trivial⟩ rfl ?_
  intro i hi
  have hli := hle i
  have f1 : Value.int .i64 (IntKind.i64.wrap (9223372036854775807 - ((ps.length + lensS (X.take i) : Nat) : Int))) = .int .i64 (9223372036854775807 - ((ps.length + lensS (X.take i) : Nat) : Int)) := by rw [w64 _ (by omega) (by omega)]
  by_cases hil : i < X.length
  · have hs := hst i hil
    have hli2 := hle (i + 1)
    have f0 : Value.bool (iLt (i : Int) (X.length : Int)) = .bool true := by rw [(iLt_t _ _).mpr (by omega)]
    have f2 : Value.bool (iLt (9223372036854775807 - ((ps.length + lensS (X.take i) : Nat) : Int)) (X[i].length : Int)) = .bool false := by rw [(iLt_f _ _).mpr (by omega)]
    have f3 : Value.int .i64 (IntKind.i64.wrap (((ps.length + lensS (X.take i) : Nat) : Int) + (X[i].length : Int))) = .int .i64 ((ps.length + lensS (X.take (i + 1)) : Nat) : Int) := by rw [w64 _ (by omega) (by omega), hs]; congr 1; omega
    repeat' first
      | (apply p1 (hd := rfl); case hop => first | (apply D_move; rfl) | (apply D_assign; rfl) | exact D_sc (D_int rfl rfl rfl) f0 | exact D_sc (D_int rfl rfl rfl) f1 | exact D_sc (D_int rfl rfl rfl) f2 | exact D_sc (D_int rfl rfl rfl) f3 | (apply D_load1; rfl) | (apply D_int; rfl; rfl; rfl) | (apply D_lenM; rfl) | (apply D_len_sl; rfl) | (apply D_len_str; rfl) | (apply D_loadW; rfl; rfl) | (apply D_loadA; rfl; rfl) | (apply D_len_nil; rfl) | (apply D_idxAn; rfl; rfl; (first | omega | (simp; done))) | (apply D_idxA; rfl; rfl; omega; (first | omega | (simp; done) | (simp; omega))) | (apply D_idxA0; rfl; rfl; omega; (first | omega | (simp; done) | (simp; omega))) | (apply D_slVM; rfl; rfl; rfl; all_goals first | omega | ((repeat rw [w64 _ (by omega) (by omega)]); omega) | decide) | (apply D_slVhM; rfl; rfl; all_goals first | omega | ((repeat rw [w64 _ (by omega) (by omega)]); omega) | decide) | (apply D_slVlM; rfl; rfl; all_goals first | omega | ((repeat rw [w64 _ (by omega) (by omega)]); omega) | decide) | (apply D_slV; rfl; rfl; rfl; all_goals first | omega | ((repeat rw [w64 _ (by omega) (by omega)]); omega) | decide) | (apply D_slVh; rfl; rfl; all_goals first | omega | ((repeat rw [w64 _ (by omega) (by omega)]); omega) | decide) | (apply D_slVl; rfl; rfl; all_goals first | omega | ((repeat rw [w64 _ (by omega) (by omega)]); omega) | decide) | (apply D_lenR; rfl) | (apply D_ixRn; rfl; rfl; (first | omega | (simp; done))) | (apply D_ixR; rfl; rfl; all_goals first | omega | ((repeat rw [w64 _ (by omega) (by omega)]); omega) | decide) | (apply D_slRl; rfl; rfl; all_goals first | omega | ((repeat rw [w64 _ (by omega) (by omega)]); omega) | decide) | (apply D_slRh; rfl; rfl; all_goals first | omega | ((repeat rw [w64 _ (by omega) (by omega)]); omega) | decide) | (apply D_quo; rfl; rfl; first | omega | ((repeat rw [w64 _ (by omega) (by omega)]); omega) | decide))
      | refine W_seq ?_
      | refine W_region ?_
      | (refine idC ?_; first | refine c1 rfl ?_ | refine c0 rfl ?_ | refine cs rfl (fun _ => ?_) (fun _ => ?_))
      | refine WL_nil ?_
      | refine tn ?_
      | refine tr ?_
      | refine br ?_
      | refine bn ?_
      | refine te ?_
      | (refine idB ?_; first | refine bh rfl ?_ | refine bm rfl ?_)
      | refine W_skip ?_
      | refine W_block ?_
      | refine W_exit ?_
      | refine W_ret ?_
      | refine W_label ?_
      | refine W_scope ?_
      | refine sn ?_
      | refine sr ?_
      | refine se ?_
      | (refine idR ?_; first | refine ret1 rfl rfl rfl ?_ | refine rL1 rfl (by first | exact trivial | exact ⟨rfl, trivial⟩) (by first | exact ResO.tmp rfl | exact ResO.cellBA rfl rfl rfl | exact ResO.cellB1 rfl rfl rfl | exact ResO.cellEA rfl rfl | exact ResO.cellE1 rfl) ?_)
      | (refine idLd ?_; first | refine p1L (D_loadB1 rfl rfl rfl) rfl ?_ | refine p1L (D_loadBA rfl rfl rfl) rfl ?_ | refine p1L (D_loadB1 rfl (by (repeat first | assumption | exact get_last | (refine get_last2 ?_; focus (simp; done)) | apply get_set | apply get_app | (apply get_ne; focus omega) | (apply get_ne; focus (simp only [List.length_set, List.length_append, List.length_cons, List.length_nil]; omega))); done) (by rfl)) rfl ?_ | refine p1L (D_loadBA rfl (by (repeat first | assumption | exact get_last | (refine get_last2 ?_; focus (simp; done)) | apply get_set | apply get_app | (apply get_ne; focus omega) | (apply get_ne; focus (simp only [List.length_set, List.length_append, List.length_cons, List.length_nil]; omega))); done) (by rfl)) rfl ?_)
      | (refine idA ?_; first | refine m_var rfl rfl rfl rfl rfl rfl rfl ?_ | refine m_alloc rfl ?_)
      | refine Le.bool ?_
      | refine Le.int ?_
      | refine Le.str ?_
    all_goals exact ⟨rfl, i + 1, by omega, by omega, ⟨rfl, rfl, rfl, rfl, rfl, ieq (wsucc i (by omega)), trivial⟩, rfl⟩
  · have f0 : Value.bool (iLt (i : Int) (X.length : Int)) = .bool false := by rw [(iLt_f _ _).mpr (by omega)]
    have ht : X.take i = X := List.take_of_length_le (by omega)
    rw [ht]
    have hall : ps.length + lensS X ≤ 140737488355328 := by omega
    have hxl : x.length < 1099511627776 := by have := k0 0 (by omega); simp [joiS] at this; omega
    have hN0 : 0 < ps.length + lensS X := by omega
    have hpN : ps.length ≤ ps.length + lensS X := by omega
    have hjl2 : (joiS X).length = ps.length + lensS X := by omega
    clear e0 e1 e2 e3 e4 e5 f1 hle hst hjl
    subst hX
    generalize ps.length + lensS (x :: ps) = N at *
    have hw1 := wstr_ac (h := HB []) (n := 2) rfl (HB_bld [] (by decide)) x hxl
    repeat' first
      | refine m_allocT rfl ?_
      | (refine m_call (Grow_ac (T := 59) rfl N hN0 (by omega)) rfl rfl rfl ?_; rintro _ _ ⟨rfl, rfl⟩; refine WL_hq (h' := HB []) rfl ?_)
      | (refine m_call hw1 rfl rfl rfl ?_; rintro _ _ ⟨rfl, rfl⟩; refine WL_hq (h' := HB (joiS (x :: ps.take 0))) ((HB_next _ _).trans (congrArg HB (show [] ++ x = joiS (x :: ps.take 0) by simp [joiS]))) ?_)
      | (apply p1 (hd := rfl); case hop => first | (apply D_move; rfl) | (apply D_assign; rfl) | exact D_sc (D_int rfl rfl rfl) f0 | (apply D_load1; rfl) | (apply D_int; rfl; rfl; rfl) | (apply D_lenM; rfl) | (apply D_len_sl; rfl) | (apply D_len_str; rfl) | (apply D_loadW; rfl; rfl) | (apply D_loadA; rfl; rfl) | (apply D_len_nil; rfl) | (apply D_idxAn; rfl; rfl; (first | omega | (simp; done))) | (apply D_idxA; rfl; rfl; omega; (first | omega | (simp; done) | (simp; omega))) | (apply D_idxA0; rfl; rfl; omega; (first | omega | (simp; done) | (simp; omega))) | (apply D_slVM; rfl; rfl; rfl; all_goals first | omega | ((repeat rw [w64 _ (by omega) (by omega)]); omega) | decide) | (apply D_slVhM; rfl; rfl; all_goals first | omega | ((repeat rw [w64 _ (by omega) (by omega)]); omega) | decide) | (apply D_slVlM; rfl; rfl; all_goals first | omega | ((repeat rw [w64 _ (by omega) (by omega)]); omega) | decide) | (apply D_slV; rfl; rfl; rfl; all_goals first | omega | ((repeat rw [w64 _ (by omega) (by omega)]); omega) | decide) | (apply D_slVh; rfl; rfl; all_goals first | omega | ((repeat rw [w64 _ (by omega) (by omega)]); omega) | decide) | (apply D_slVl; rfl; rfl; all_goals first | omega | ((repeat rw [w64 _ (by omega) (by omega)]); omega) | decide) | (apply D_lenR; rfl) | (apply D_ixRn; rfl; rfl; (first | omega | (simp; done))) | (apply D_ixR; rfl; rfl; all_goals first | omega | ((repeat rw [w64 _ (by omega) (by omega)]); omega) | decide) | (apply D_slRl; rfl; rfl; all_goals first | omega | ((repeat rw [w64 _ (by omega) (by omega)]); omega) | decide) | (apply D_slRh; rfl; rfl; all_goals first | omega | ((repeat rw [w64 _ (by omega) (by omega)]); omega) | decide) | (apply D_quo; rfl; rfl; first | omega | ((repeat rw [w64 _ (by omega) (by omega)]); omega) | decide))
      | refine W_seq ?_
      | refine W_region ?_
      | (refine idC ?_; first | refine c1 rfl ?_ | refine c0 rfl ?_ | refine cs rfl (fun _ => ?_) (fun _ => ?_))
      | refine WL_nil ?_
      | refine tn ?_
      | refine tr ?_
      | refine br ?_
      | refine bn ?_
      | refine te ?_
      | (refine idB ?_; first | refine bh rfl ?_ | refine bm rfl ?_)
      | refine W_skip ?_
      | refine W_block ?_
      | refine W_exit ?_
      | refine W_ret ?_
      | refine W_label ?_
      | refine W_scope ?_
      | refine sn ?_
      | refine sr ?_
      | refine se ?_
      | (refine idR ?_; first | refine ret1 rfl rfl rfl ?_ | refine rL1 rfl (by first | exact trivial | exact ⟨rfl, trivial⟩) (by first | exact ResO.tmp rfl | exact ResO.cellBA rfl rfl rfl | exact ResO.cellB1 rfl rfl rfl | exact ResO.cellEA rfl rfl | exact ResO.cellE1 rfl) ?_)
      | (refine idLd ?_; first | refine p1L (D_loadB1 rfl rfl rfl) rfl ?_ | refine p1L (D_loadBA rfl rfl rfl) rfl ?_ | refine p1L (D_loadB1 rfl (by (repeat first | assumption | exact get_last | (refine get_last2 ?_; focus (simp; done)) | apply get_set | apply get_app | (apply get_ne; focus omega) | (apply get_ne; focus (simp only [List.length_set, List.length_append, List.length_cons, List.length_nil]; omega))); done) (by rfl)) rfl ?_ | refine p1L (D_loadBA rfl (by (repeat first | assumption | exact get_last | (refine get_last2 ?_; focus (simp; done)) | apply get_set | apply get_app | (apply get_ne; focus omega) | (apply get_ne; focus (simp only [List.length_set, List.length_append, List.length_cons, List.length_nil]; omega))); done) (by rfl)) rfl ?_)
      | (refine idA ?_; first | refine m_var rfl rfl rfl rfl rfl rfl rfl ?_ | refine m_alloc rfl ?_)
      | refine Le.bool ?_
      | refine Le.int ?_
      | refine Le.str ?_
    refine W_loopL (X := Nat) (fun i => [(1, str [32]), (8, .bp 0 0), (63, .sl none 1 (ps.map tC)), (64, .sc (.int .i64 (ps.length : Int))), (65, .sc (.int .i64 (i : Int)))]) (fun i => HB (joiS (x :: ps.take i)))
      (fun i => i ≤ ps.length) (fun i => ps.length - i) 0 (Nat.zero_le _) ⟨rfl, rfl, rfl, rfl, rfl, trivial⟩ rfl ?_
    intro j hj
    have hkj := k0 j hj
    by_cases hjl : j < ps.length
    · have g0 : Value.bool (iLt (j : Int) (ps.length : Int)) = .bool true := by rw [(iLt_t _ _).mpr (by omega)]
      have hnx := joiS_take x ps j hjl
      have hkn := k0 (j + 1) (by omega)
      rw [hnx, List.length_append, List.length_append] at hkn
      generalize joiS (x :: ps.take j) = cur at *
      have hw2 := wstr_ac (h := HB cur) (n := 2) rfl (HB_bld cur (by omega)) [32] (by decide)
      have hw3 := wstr_ac (h := HB (cur ++ [32])) (n := 2) rfl (HB_bld (cur ++ [32]) (by rw [List.length_append]; omega)) ps[j] (by omega)
      repeat' first
        | (refine m_call hw2 rfl rfl rfl ?_; rintro _ _ ⟨rfl, rfl⟩; refine WL_hq (HB_next _ _) ?_)
        | (refine m_call hw3 rfl rfl rfl ?_; rintro _ _ ⟨rfl, rfl⟩; refine WL_hq (HB_next _ _) ?_)
        | (apply p1 (hd := rfl); case hop => first | (apply D_move; rfl) | (apply D_assign; rfl) | exact D_sc (D_int rfl rfl rfl) g0 | (apply D_load1; rfl) | (apply D_int; rfl; rfl; rfl) | (apply D_lenM; rfl) | (apply D_len_sl; rfl) | (apply D_len_str; rfl) | (apply D_loadW; rfl; rfl) | (apply D_loadA; rfl; rfl) | (apply D_len_nil; rfl) | (apply D_idxAn; rfl; rfl; (first | omega | (simp; done))) | (apply D_idxA; rfl; rfl; omega; (first | omega | (simp; done) | (simp; omega))) | (apply D_idxA0; rfl; rfl; omega; (first | omega | (simp; done) | (simp; omega))) | (apply D_slVM; rfl; rfl; rfl; all_goals first | omega | ((repeat rw [w64 _ (by omega) (by omega)]); omega) | decide) | (apply D_slVhM; rfl; rfl; all_goals first | omega | ((repeat rw [w64 _ (by omega) (by omega)]); omega) | decide) | (apply D_slVlM; rfl; rfl; all_goals first | omega | ((repeat rw [w64 _ (by omega) (by omega)]); omega) | decide) | (apply D_slV; rfl; rfl; rfl; all_goals first | omega | ((repeat rw [w64 _ (by omega) (by omega)]); omega) | decide) | (apply D_slVh; rfl; rfl; all_goals first | omega | ((repeat rw [w64 _ (by omega) (by omega)]); omega) | decide) | (apply D_slVl; rfl; rfl; all_goals first | omega | ((repeat rw [w64 _ (by omega) (by omega)]); omega) | decide) | (apply D_lenR; rfl) | (apply D_ixRn; rfl; rfl; (first | omega | (simp; done))) | (apply D_ixR; rfl; rfl; all_goals first | omega | ((repeat rw [w64 _ (by omega) (by omega)]); omega) | decide) | (apply D_slRl; rfl; rfl; all_goals first | omega | ((repeat rw [w64 _ (by omega) (by omega)]); omega) | decide) | (apply D_slRh; rfl; rfl; all_goals first | omega | ((repeat rw [w64 _ (by omega) (by omega)]); omega) | decide) | (apply D_quo; rfl; rfl; first | omega | ((repeat rw [w64 _ (by omega) (by omega)]); omega) | decide))
        | refine W_seq ?_
        | refine W_region ?_
        | (refine idC ?_; first | refine c1 rfl ?_ | refine c0 rfl ?_ | refine cs rfl (fun _ => ?_) (fun _ => ?_))
        | refine WL_nil ?_
        | refine tn ?_
        | refine tr ?_
        | refine br ?_
        | refine bn ?_
        | refine te ?_
        | (refine idB ?_; first | refine bh rfl ?_ | refine bm rfl ?_)
        | refine W_skip ?_
        | refine W_block ?_
        | refine W_exit ?_
        | refine W_ret ?_
        | refine W_label ?_
        | refine W_scope ?_
        | refine sn ?_
        | refine sr ?_
        | refine se ?_
        | (refine idR ?_; first | refine ret1 rfl rfl rfl ?_ | refine rL1 rfl (by first | exact trivial | exact ⟨rfl, trivial⟩) (by first | exact ResO.tmp rfl | exact ResO.cellBA rfl rfl rfl | exact ResO.cellB1 rfl rfl rfl | exact ResO.cellEA rfl rfl | exact ResO.cellE1 rfl) ?_)
        | (refine idLd ?_; first | refine p1L (D_loadB1 rfl rfl rfl) rfl ?_ | refine p1L (D_loadBA rfl rfl rfl) rfl ?_ | refine p1L (D_loadB1 rfl (by (repeat first | assumption | exact get_last | (refine get_last2 ?_; focus (simp; done)) | apply get_set | apply get_app | (apply get_ne; focus omega) | (apply get_ne; focus (simp only [List.length_set, List.length_append, List.length_cons, List.length_nil]; omega))); done) (by rfl)) rfl ?_ | refine p1L (D_loadBA rfl (by (repeat first | assumption | exact get_last | (refine get_last2 ?_; focus (simp; done)) | apply get_set | apply get_app | (apply get_ne; focus omega) | (apply get_ne; focus (simp only [List.length_set, List.length_append, List.length_cons, List.length_nil]; omega))); done) (by rfl)) rfl ?_)
        | (refine idA ?_; first | refine m_var rfl rfl rfl rfl rfl rfl rfl ?_ | refine m_alloc rfl ?_)
        | refine Le.bool ?_
        | refine Le.int ?_
        | refine Le.str ?_
      all_goals exact ⟨rfl, j + 1, by omega, by omega, ⟨rfl, rfl, rfl, rfl, ieq (wsucc j (by omega)), trivial⟩, by rw [hnx]⟩
    · have g0 : Value.bool (iLt (j : Int) (ps.length : Int)) = .bool false := by rw [(iLt_f _ _).mpr (by omega)]
      have ht2 : ps.take j = ps := List.take_of_length_le (by omega)
      rw [ht2] at hkj ⊢
      have hb := bstr_ac (HB_bld (joiS (x :: ps)) (by omega))
      repeat' first
        | (refine m_call hb rfl rfl rfl ?_; rintro _ _ ⟨rfl, rfl⟩)
        | (apply p1 (hd := rfl); case hop => first | (apply D_move; rfl) | (apply D_assign; rfl) | exact D_sc (D_int rfl rfl rfl) g0 | (apply D_load1; rfl) | (apply D_int; rfl; rfl; rfl) | (apply D_lenM; rfl) | (apply D_len_sl; rfl) | (apply D_len_str; rfl) | (apply D_loadW; rfl; rfl) | (apply D_loadA; rfl; rfl) | (apply D_len_nil; rfl) | (apply D_idxAn; rfl; rfl; (first | omega | (simp; done))) | (apply D_idxA; rfl; rfl; omega; (first | omega | (simp; done) | (simp; omega))) | (apply D_idxA0; rfl; rfl; omega; (first | omega | (simp; done) | (simp; omega))) | (apply D_slVM; rfl; rfl; rfl; all_goals first | omega | ((repeat rw [w64 _ (by omega) (by omega)]); omega) | decide) | (apply D_slVhM; rfl; rfl; all_goals first | omega | ((repeat rw [w64 _ (by omega) (by omega)]); omega) | decide) | (apply D_slVlM; rfl; rfl; all_goals first | omega | ((repeat rw [w64 _ (by omega) (by omega)]); omega) | decide) | (apply D_slV; rfl; rfl; rfl; all_goals first | omega | ((repeat rw [w64 _ (by omega) (by omega)]); omega) | decide) | (apply D_slVh; rfl; rfl; all_goals first | omega | ((repeat rw [w64 _ (by omega) (by omega)]); omega) | decide) | (apply D_slVl; rfl; rfl; all_goals first | omega | ((repeat rw [w64 _ (by omega) (by omega)]); omega) | decide) | (apply D_lenR; rfl) | (apply D_ixRn; rfl; rfl; (first | omega | (simp; done))) | (apply D_ixR; rfl; rfl; all_goals first | omega | ((repeat rw [w64 _ (by omega) (by omega)]); omega) | decide) | (apply D_slRl; rfl; rfl; all_goals first | omega | ((repeat rw [w64 _ (by omega) (by omega)]); omega) | decide) | (apply D_slRh; rfl; rfl; all_goals first | omega | ((repeat rw [w64 _ (by omega) (by omega)]); omega) | decide) | (apply D_quo; rfl; rfl; first | omega | ((repeat rw [w64 _ (by omega) (by omega)]); omega) | decide))
        | refine W_seq ?_
        | refine W_region ?_
        | (refine idC ?_; first | refine c1 rfl ?_ | refine c0 rfl ?_ | refine cs rfl (fun _ => ?_) (fun _ => ?_))
        | refine WL_nil ?_
        | refine tn ?_
        | refine tr ?_
        | refine br ?_
        | refine bn ?_
        | refine te ?_
        | (refine idB ?_; first | refine bh rfl ?_ | refine bm rfl ?_)
        | refine W_skip ?_
        | refine W_block ?_
        | refine W_exit ?_
        | refine W_ret ?_
        | refine W_label ?_
        | refine W_scope ?_
        | refine sn ?_
        | refine sr ?_
        | refine se ?_
        | (refine idR ?_; first | refine ret1 rfl rfl rfl ?_ | refine rL1 rfl (by first | exact trivial | exact ⟨rfl, trivial⟩) (by first | exact ResO.tmp rfl | exact ResO.cellBA rfl rfl rfl | exact ResO.cellB1 rfl rfl rfl | exact ResO.cellEA rfl rfl | exact ResO.cellE1 rfl) ?_)
        | (refine idLd ?_; first | refine p1L (D_loadB1 rfl rfl rfl) rfl ?_ | refine p1L (D_loadBA rfl rfl rfl) rfl ?_ | refine p1L (D_loadB1 rfl (by (repeat first | assumption | exact get_last | (refine get_last2 ?_; focus (simp; done)) | apply get_set | apply get_app | (apply get_ne; focus omega) | (apply get_ne; focus (simp only [List.length_set, List.length_append, List.length_cons, List.length_nil]; omega))); done) (by rfl)) rfl ?_ | refine p1L (D_loadBA rfl (by (repeat first | assumption | exact get_last | (refine get_last2 ?_; focus (simp; done)) | apply get_set | apply get_app | (apply get_ne; focus omega) | (apply get_ne; focus (simp only [List.length_set, List.length_append, List.length_cons, List.length_nil]; omega))); done) (by rfl)) rfl ?_)
        | (refine idA ?_; first | refine m_var rfl rfl rfl rfl rfl rfl rfl ?_ | refine m_alloc rfl ?_)
        | refine Le.bool ?_
        | refine Le.int ?_
        | refine Le.str ?_
      all_goals first | rfl | skip
      all_goals trace_state
end Go.Proofs
