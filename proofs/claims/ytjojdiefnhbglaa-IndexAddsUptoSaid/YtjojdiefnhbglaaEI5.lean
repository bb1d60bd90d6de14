/- The law IndexAdds. -/
import Derived.Test.YtjojdiefnhbglaaEI4
import Derived.Test.YtjojdiefnhbglaaOpen
import Derived.SizedLaws
import Derived.Test.YtjojdiefnhbglaaEC1
import Derived.Carry
import Derived.HandedShaped
namespace Go.Proofs
open Go.AL Go.Sort
attribute [local irreducible] Go.AL.W Go.AL.WL Go.AL.WD Go.AL.POp Go.AL.PPOp Go.AL.POpS Go.AL.PC Go.AL.AC Go.AL.YW Go.AL.Ret Go.AL.Le Go.AL.thn Go.AL.inBlk Go.AL.scp
abbrev wtD1 (d : Dat) : Nat := 1 + d.v.s.length
theorem gr_sum : ∀ (l : List Dat) (n : Int), 0 ≤ n → n + 21 * ((l.map wtD1).sum : Nat) < 9223372036854775807 → grS n l = n + ((l.map fun d => 20 + d.v.s.length).sum : Nat)
  | [], n, h0, h => by simp [grS]
  | d :: t, n, h0, h => by
    simp only [List.map_cons, List.sum_cons, wtD1] at h ⊢
    have hw : IntKind.i64.wrap (IntKind.i64.wrap (n + 20) + d.v.s.length) = n + 20 + d.v.s.length := by
      rw [w64 (n + 20) (by omega) (by omega), w64 _ (by omega) (by omega)]
    rw [grS, hw, gr_sum t _ (by omega) (by omega)]
    omega
theorem gr_few {l : List Dat} (hw : (l.map wtD1).sum ≤ 1048576) (h : ¬ 4000 < grS 0 l) : l.length ≤ 200 ∧ ∀ d, d ∈ l → d.v.s.length ≤ 4000 := by
  have h1 := gr_sum l 0 (by omega) (by omega)
  rw [h1] at h
  have h2 : 20 * l.length ≤ (l.map fun d => 20 + d.v.s.length).sum ∧ ∀ d, d ∈ l → 20 + d.v.s.length ≤ (l.map fun d => 20 + d.v.s.length).sum := by
    clear h h1 hw
    induction l with
    | nil => exact ⟨by simp, fun d hd => by cases hd⟩
    | cons x t ih =>
      simp only [List.map_cons, List.sum_cons, List.length_cons]
      refine ⟨by omega, fun d hd => ?_⟩
      rcases List.mem_cons.1 hd with rfl | hd
      · omega
      · have := ih.2 d hd; omega
  exact ⟨by omega, fun d hd => by have := h2.2 d hd; omega⟩
theorem wt_sl {l : List Dat} (hw : (l.map wtD1).sum ≤ 1048576) : l.length ≤ 1048576 ∧ ∀ d, d ∈ l → d.v.s.length ≤ 1048576 := by
  have h2 : l.length ≤ (l.map wtD1).sum ∧ ∀ d, d ∈ l → d.v.s.length ≤ (l.map wtD1).sum := by
    clear hw
    induction l with
    | nil => exact ⟨by simp, fun d hd => by cases hd⟩
    | cons x t ih =>
      simp only [List.map_cons, List.sum_cons, List.length_cons, wtD1]
      refine ⟨by omega, fun d hd => ?_⟩
      rcases List.mem_cons.1 hd with rfl | hd
      · omega
      · have := ih.2 d hd; omega
  exact ⟨by omega, fun d hd => by have := h2.2 d hd; omega⟩
theorem dsort1_mem (L : List Dat) (d : Dat) : d ∈ dsortL 1 L ↔ d ∈ L := (dsort_mem (by decide) L d).trans ⟨fun h => h.1, fun h => ⟨h, .inl (by decide)⟩⟩
theorem dsort_congr {o : Int} {L L' : List Dat} (h : ∀ d, d ∈ L ↔ d ∈ L') : dsortL o L = dsortL o L' := by
  by_cases ho : 1 ≤ o ∧ o ≤ 4
  · exact rise_eq (wc_cmpD o) (dsort_rise ho L) (dsort_rise ho L') fun d => by rw [dsort_mem ho, dsort_mem ho, h]
  · unfold dsortL; rw [if_neg ho, if_neg ho]
theorem next_congr {o : Int} {L L' : List Dat} (h : ∀ d, d ∈ L ↔ d ∈ L') (d : Dat) : nextL o L d = nextL o L' d := by unfold nextL; rw [dsort_congr h]
theorem ilen_L {L : List Dat} {T : Ix} (h : IxOf L T) (hL : okL L) : manyT (topT (T 1)) = ((dsortL 1 L).length : Int) := by
  have h1 := h 1 (by decide) (by decide)
  rw [(okT_deep h1.ok).2, h1.size (by decide) hL]; rfl
theorem beq' {a b : Bool} (h : a = b) : (some (AV.sc (Value.bool a))) = some (.sc (.bool b)) := by rw [h]
set_option maxHeartbeats 64000000 in
theorem indexAdds_pc [GlobF Try.prog] (l m : List Dat) (o : Int) (d : Dat) (hwl : (l.map wtD1).sum ≤ 1048576) (hwm : (m.map wtD1).sum ≤ 1048576) (hil : ∀ x, x ∈ l → datI x) (him : ∀ x, x ∈ m → datI x) (hid : datI d) (hsd : d.v.s.length < 9223372036854775808) :
    PC Try.prog 4 [sl9 l, sl9 m, .sc (.int .i64 o), eD d] (.sc (.bool true)) := by
  obtain ⟨l1, l2⟩ := wt_sl hwl
  obtain ⟨m1, m2⟩ := wt_sl hwm
  have hgl := great_pc l (by omega)
  have hgm := great_pc m (by omega)
  refine PC.of_body Try.func4 Try.ntmps4 rfl rfl rfl ?_
  by_cases c1 : 4000 < grS 0 l
  · rw [if_pos c1] at hgl
    repeat' first
      | (apply p1 (hd := rfl); case hop => first | (apply D_move; rfl) | (apply D_assign; rfl) | (apply D_pc hgl; rfl; exact .same rfl .nil) | (apply D_pickT; rfl; rfl) | (apply D_int; rfl; rfl; rfl) | (apply D_box; rfl; rfl))
      | refine W_seq ?_
      | refine W_region ?_
      | (refine idC ?_; first | refine cs rfl (fun _ => ?_) (fun _ => ?_))
      | refine WL_nil ?_
      | (refine idG ?_; first | refine g0f rfl rfl rfl ?_ | refine gr rfl rfl ?_ | refine gs rfl rfl (fun _ => ?_) (fun _ => ?_))
      | refine tn ?_
      | refine tr ?_
      | refine W_skip ?_
      | refine W_ret ?_
      | (refine idR ?_; first | refine ret1 rfl rfl rfl ?_)
      | refine Le.bool ?_
    all_goals first | rfl | contradiction | (exfalso; omega) | skip
  rw [if_neg c1] at hgl
  by_cases c2 : 4000 < grS 0 m
  · rw [if_pos c2] at hgm
    repeat' first
      | (apply p1 (hd := rfl); case hop => first | (apply D_move; rfl) | (apply D_assign; rfl) | (apply D_pc hgl; rfl; exact .same rfl .nil) | (apply D_pc hgm; rfl; exact .same rfl .nil) | (apply D_load1; rfl) | (apply D_fld; rfl) | (apply D_pickT; rfl; rfl) | (apply D_pickF; rfl; rfl) | (apply D_int; rfl; rfl; rfl) | (apply D_len_str; rfl) | (apply D_box; rfl; rfl))
      | refine W_seq ?_
      | refine W_region ?_
      | (refine idC ?_; first | refine cs rfl (fun _ => ?_) (fun _ => ?_))
      | refine WL_nil ?_
      | (refine idG ?_; first | refine g0f rfl rfl rfl ?_ | refine gr rfl rfl ?_ | refine gs rfl rfl (fun _ => ?_) (fun _ => ?_))
      | refine tn ?_
      | refine tr ?_
      | refine W_skip ?_
      | refine W_ret ?_
      | (refine idR ?_; first | refine ret1 rfl rfl rfl ?_)
      | refine Le.bool ?_
    all_goals first | rfl | contradiction | (exfalso; omega) | skip
  rw [if_neg c2] at hgm
  obtain ⟨w1, w2⟩ := gr_few hwl c1
  obtain ⟨w3, w4⟩ := gr_few hwm c2
  have hbl : ∀ x, x ∈ l → x.v.s.length < 9223372036854775808 := fun x hx => by have := w2 x hx; omega
  have hbm : ∀ x, x ∈ m → x.v.s.length < 9223372036854775808 := fun x hx => by have := w4 x hx; omega
  have h00 : Value.bool (iLt 0 0) = .bool false := by rw [(iLt_f _ _).mpr (by omega)]
  have hlA := dsortL_len 1 l
  have hlB := dsortL_len 1 (l ++ m)
  rw [List.length_append] at hlB
  by_cases c3 : ∀ x, x ∈ l → dmayP x
  rotate_left
  · obtain ⟨x0, hx0, hx1⟩ : ∃ x, x ∈ l ∧ ¬ dmayP x := Classical.byContradiction fun h => c3 fun x hx => Classical.byContradiction fun h2 => h ⟨x, hx, h2⟩
    have q1 := iadd_pc none [] l IxOf.init (by simp; omega) hbl (.sc (.pointer none)) 110 (fun h => absurd h c3) (fun _ => ⟨rfl, rfl⟩)
    have q2 := radd_pc [] l (by simp; omega) (fun d hd => by cases hd) hbl [] 110 (fun h => absurd h.1 c3) (fun _ => ⟨rfl, rfl⟩)
    rw [xA_no] at q1
    repeat' first
      | (apply p1 (hd := rfl); case hop => first | (apply D_move; rfl) | (apply D_assign; rfl) | (apply D_pc hgl; rfl; exact .same rfl .nil) | (apply D_pc hgm; rfl; exact .same rfl .nil) | exact D_sc (D_int rfl rfl rfl) h00 | (apply D_pc q1; rfl; exact .same rfl (.same rfl .nil)) | (apply D_pc q2; rfl; exact .niln rfl (.same rfl .nil)) | exact D_peN rfl rfl | (apply D_load1; rfl) | (apply D_fld; rfl) | (apply D_pickT; rfl; rfl) | (apply D_pickF; rfl; rfl) | (apply D_int; rfl; rfl; rfl) | (apply D_len_str; rfl) | (apply D_ext; rfl; rfl) | (apply D_box; rfl; rfl))
      | refine W_seq ?_
      | refine W_region ?_
      | (refine idC ?_; first | refine cs rfl (fun _ => ?_) (fun _ => ?_))
      | refine WL_nil ?_
      | (refine idG ?_; first | refine g0t rfl rfl rfl ?_ | refine g0f rfl rfl rfl ?_ | refine gr rfl rfl ?_ | refine gs rfl rfl (fun _ => ?_) (fun _ => ?_))
      | refine tn ?_
      | refine tr ?_
      | refine W_skip ?_
      | refine W_ret ?_
      | (refine idR ?_; first | refine ret1 rfl rfl rfl ?_)
      | refine Le.bool ?_
    all_goals first | rfl | contradiction | (exfalso; omega) | skip
  have hT1 : IxOf l (addsT (fun _ => none) l) := by have := IxOf.init.adds l (by simp; omega); simpa using this
  obtain ⟨T1, e1⟩ : ∃ T1, T1 = addsT (fun _ => none) l := ⟨_, rfl⟩
  rw [← e1] at hT1
  have q1 := iadd_pc none [] l IxOf.init (by simp; omega) hbl (xA (some T1)) 0 (fun _ => ⟨by rw [e1]; rfl, rfl⟩) (fun ⟨x, hx, h⟩ => absurd (c3 x hx) h)
  have q2 := radd_pc [] l (by simp; omega) (fun d hd => by cases hd) hbl (dsortL 1 l) 0 (fun _ => ⟨rfl, rfl⟩) (fun h => absurd ⟨c3, by simp; omega⟩ h)
  have hbA : ∀ x, x ∈ dsortL 1 l → x.v.s.length < 9223372036854775808 := fun x hx => hbl x ((dsort1_mem l x).1 hx)
  rw [xA_no, xA_so] at q1
  have hAB : dsortL 1 (dsortL 1 l ++ m) = dsortL 1 (l ++ m) := dsort_congr fun x => by rw [List.mem_append, List.mem_append, dsort1_mem]
  by_cases c4 : ∀ x, x ∈ m → dmayP x
  rotate_left
  · obtain ⟨x0, hx0, hx1⟩ : ∃ x, x ∈ m ∧ ¬ dmayP x := Classical.byContradiction fun h => c4 fun x hx => Classical.byContradiction fun h2 => h ⟨x, hx, h2⟩
    have q3 := iadd_pc (some T1) l m hT1 (by omega) hbm (.sc (.pointer none)) 110 (fun h => absurd h c4) (fun _ => ⟨rfl, rfl⟩)
    have q4 := radd_pc (dsortL 1 l) m (by omega) hbA hbm [] 110 (fun h => absurd h.1 c4) (fun _ => ⟨rfl, rfl⟩)
    rw [xA_so] at q3
    repeat' first
      | (apply p1 (hd := rfl); case hop => first | (apply D_move; rfl) | (apply D_assign; rfl) | (apply D_pc hgl; rfl; exact .same rfl .nil) | (apply D_pc hgm; rfl; exact .same rfl .nil) | exact D_sc (D_int rfl rfl rfl) h00 | (apply D_pc q1; rfl; exact .same rfl (.same rfl .nil)) | (apply D_pc q2; rfl; exact .niln rfl (.same rfl .nil)) | (apply D_pc q3; rfl; exact .same rfl (.same rfl .nil)) | (apply D_pc q4; rfl; exact .same rfl (.same rfl .nil)) | exact D_peN rfl rfl | (apply D_load1; rfl) | (apply D_fld; rfl) | (apply D_pickT; rfl; rfl) | (apply D_pickF; rfl; rfl) | (apply D_int; rfl; rfl; rfl) | (apply D_len_str; rfl) | (apply D_ext; rfl; rfl) | (apply D_loadW; rfl; rfl) | (apply D_box; rfl; rfl))
      | refine W_seq ?_
      | refine W_region ?_
      | (refine idC ?_; first | refine cs rfl (fun _ => ?_) (fun _ => ?_))
      | refine WL_nil ?_
      | (refine idG ?_; first | refine g0t rfl rfl rfl ?_ | refine g0f rfl rfl rfl ?_ | refine gr rfl rfl ?_ | refine gs rfl rfl (fun _ => ?_) (fun _ => ?_))
      | refine tn ?_
      | refine tr ?_
      | refine W_skip ?_
      | refine W_ret ?_
      | (refine idR ?_; first | refine ret1 rfl rfl rfl ?_)
      | refine Le.bool ?_
    all_goals first | rfl | contradiction | (exfalso; omega) | skip
  have hT2 : IxOf (l ++ m) (addsT T1 m) := hT1.adds m (by omega)
  obtain ⟨T2, e2⟩ : ∃ T2, T2 = addsT T1 m := ⟨_, rfl⟩
  rw [← e2] at hT2
  have q3 := iadd_pc (some T1) l m hT1 (by omega) hbm (xA (some T2)) 0 (fun _ => ⟨by rw [e2]; rfl, rfl⟩) (fun ⟨x, hx, h⟩ => absurd (c4 x hx) h)
  have q4 := radd_pc (dsortL 1 l) m (by omega) hbA hbm (dsortL 1 (l ++ m)) 0 (fun _ => ⟨hAB.symm, rfl⟩) (fun h => absurd ⟨c4, by rw [hAB]; omega⟩ h)
  have hL1 : okL l := fun x hx => ⟨c3 x hx, hil x hx⟩
  have hL2 : okL (l ++ m) := fun x hx => by
    rcases List.mem_append.1 hx with h | h
    · exact ⟨c3 x h, hil x h⟩
    · exact ⟨c4 x h, him x h⟩
  have hmB : ∀ x, x ∈ dsortL 1 (l ++ m) ↔ x ∈ l ++ m := dsort1_mem (l ++ m)
  have hbB : ∀ x, x ∈ dsortL 1 (l ++ m) → x.v.s.length < 9223372036854775808 := fun x hx => by
    rcases List.mem_append.1 ((hmB x).1 hx) with h | h
    · exact hbl x h
    · exact hbm x h
  have q5 := inext_pc (some T2) (l ++ m) hT2 hL2 (by rw [List.length_append]; omega) o d hid hsd
  have q6 := rnext_pc (dsortL 1 (l ++ m)) o d (by omega) hbB hsd
  rw [next_congr hmB] at q6
  have q7 := ilen_pc (some T1)
  have q8 := ilen_pc (some T2)
  rw [show manyT (topT (topI (some T1) 1)) = _ from ilen_L hT1 hL1] at q7
  rw [show manyT (topT (topI (some T2) 1)) = _ from ilen_L hT2 hL2] at q8
  have q9 := iall_pc (some T1) l hT1 hL1 (by omega)
  have q10 := iall_pc (some T2) (l ++ m) hT2 hL2 (by rw [List.length_append]; omega)
  have q11 := dsame_pc (dsortL 1 l) (dsortL 1 l) (by omega)
  have q12 := dsame_pc (dsortL 1 (l ++ m)) (dsortL 1 (l ++ m)) (by omega)
  rw [decide_eq_true rfl] at q11 q12
  have q13 := ihas_pc (some T2) (l ++ m) hT2 hL2 d hid hsd
  rw [show dP (d ∈ l ++ m) = dP (d ∈ dsortL 1 (l ++ m)) from congrArg dP (propext (hmB d).symm)] at q13
  have q14 := ilen_pc none
  have q15 := iall_pc none [] IxOf.init (fun x hx => by cases hx) (by decide)
  rw [show manyT (topT (topI none 1)) = 0 from rfl] at q14
  rw [show dsortL 1 [] = [] from List.length_eq_zero_iff.1 (Nat.le_zero.1 (dsortL_len 1 []))] at q15
  rw [xA_no] at q14 q15
  rw [xA_so, xA_so] at q3
  rw [xA_so] at q5 q7 q8 q9 q10 q13
  generalize dsortL 1 (l ++ m) = B at *
  generalize dsortL 1 l = A at *
  generalize (nextL o (l ++ m) d).getD dat0 = N at *
  generalize (nextL o (l ++ m) d).isSome = nb at *
  have g1 : Value.bool (iEq (A.length : Int) (A.length : Int)) = .bool true := by rw [(iEq_t _ _).mpr rfl]
  have g2 : Value.bool (iEq (B.length : Int) (B.length : Int)) = .bool true := by rw [(iEq_t _ _).mpr rfl]
  have g3 : ∀ b : Bool, Value.bool (bEq b b) = .bool true := fun b => by rw [(bEq_t _ _).mpr rfl]
  have g4 : Value.bool (lEq (encD N) (encD N)) = .bool true := by rw [(lEq_t _ _).mpr rfl]
  repeat' first
    | (apply p1 (hd := rfl); case hop => first | (apply D_move; rfl) | (apply D_assign; rfl) | (apply D_pc hgl; rfl; exact .same rfl .nil) | (apply D_pc hgm; rfl; exact .same rfl .nil) | exact D_sc (D_int rfl rfl rfl) h00 | (apply D_pc q1; rfl; exact .same rfl (.same rfl .nil)) | (apply D_pc q2; rfl; exact .niln rfl (.same rfl .nil)) | (apply D_pc q3; rfl; exact .same rfl (.same rfl .nil)) | (apply D_pc q4; rfl; exact .same rfl (.same rfl .nil)) | (apply D_pc q5; rfl; exact .same rfl (.same rfl (.same rfl .nil))) | (apply D_pc q6; rfl; exact .same rfl (.same rfl (.same rfl .nil))) | (apply D_load1; rfl) | (apply D_fld; rfl) | (apply D_pickT; rfl; rfl) | (apply D_pickF; rfl; rfl) | (apply D_int; rfl; rfl; rfl) | (apply D_len_str; rfl) | (apply D_ext; rfl; rfl) | (apply D_loadW; rfl; rfl) | (apply D_box; rfl; rfl))
    | refine W_seq ?_
    | refine W_region ?_
    | (refine idC ?_; first | refine cs rfl (fun _ => ?_) (fun _ => ?_))
    | refine WL_nil ?_
    | (refine idG ?_; first | refine g0t rfl rfl rfl ?_ | refine g0f rfl rfl rfl ?_ | refine gr rfl rfl ?_ | refine gs rfl rfl (fun _ => ?_) (fun _ => ?_))
    | refine tn ?_
    | refine tr ?_
    | refine W_skip ?_
    | refine W_block ?_
    | refine W_ret ?_
    | (refine idR ?_; first | refine ret1 rfl rfl rfl ?_)
    | (refine idA ?_; first | refine m_var rfl rfl rfl rfl rfl rfl rfl ?_)
    | refine Le.bool ?_
  all_goals try contradiction
  · rfl
  refine W_loopL (X := Nat) (fun i => [(7, .ep (dC d)), (9, .sc (.pointer none)), (10, .ep [.sc (.pointer none), oT (T1 1), oT (T1 2), oT (T1 3), oT (T1 4)]), (12, sl9 A), (14, .ep [.sc (.pointer none), oT (T2 1), oT (T2 2), oT (T2 3), oT (T2 4)]), (16, sl9 B), (18, .ep (dC N)), (19, .sc (.bool nb)), (20, .ep (dC N)), (21, .sc (.bool nb)), (22, .sc (.bool (dP (d ∈ B.take i)))), (23, .sc (.int .i64 (i : Int)))]) (fun _ => [])
    (fun i => i ≤ B.length) (fun i => B.length - i) 0 (Nat.zero_le _) ⟨rfl, rfl, rfl, rfl, rfl, rfl, rfl, rfl, rfl, rfl, beq' (by rw [List.take_zero]; exact dP_F (by simp)), rfl, trivial⟩ rfl ?_
  intro i hi
  by_cases hil2 : i < B.length
  · have hts : B.take (i + 1) = B.take i ++ [B[i]'hil2] := List.take_succ_eq_append_getElem hil2
    by_cases k1 : d ∈ B.take i
    · rw [← dP_T k1]
      have k2 : d ∈ B.take (i + 1) := by rw [hts]; exact List.mem_append_left _ k1
      repeat' first
        | (apply p1 (hd := rfl); case hop => first | (apply D_move; rfl) | (apply D_assign; rfl) | (apply D_int; rfl; rfl; rfl) | (apply D_lenM; rfl))
        | refine W_seq ?_
        | refine W_region ?_
        | (refine idC ?_; first | refine cs rfl (fun _ => ?_) (fun _ => ?_))
        | refine WL_nil ?_
        | refine tn ?_
        | refine bn ?_
        | refine te ?_
        | (refine idB ?_; first | refine bh rfl ?_)
        | refine W_skip ?_
        | refine W_block ?_
        | refine W_exit ?_
        | (refine idW ?_; first | refine W_draw0 rfl ?_)
        | (apply d1 (hd := rfl); case hop => first | (apply D_move; rfl) | (apply D_assign; rfl) | (apply D_pickT; rfl; rfl))
        | (refine idDg ?_; first | refine dg0f rfl rfl rfl ?_)
        | refine WD_nil (by first | decide +kernel | kernel_rfl | rfl) ?_
      all_goals first
        | (exfalso; omega)
        | exact ⟨rfl, i + 1, hil2, by omega, ⟨rfl, rfl, rfl, rfl, rfl, rfl, rfl, rfl, rfl, rfl, beq' (dP_T k2), ieq (wsucc i (by omega)), trivial⟩, rfl⟩
        | skip
    · rw [← dP_F k1]
      by_cases k3 : B[i]'hil2 = d
      · have k2 : d ∈ B.take (i + 1) := by rw [hts, k3]; simp
        have k4 : Value.bool (lEq (encD (B[i]'hil2)) (encD d)) = .bool true := by rw [(lEq_t _ _).mpr (by rw [k3])]
        repeat' first
          | (apply p1 (hd := rfl); case hop => first | (apply D_move; rfl) | (apply D_assign; rfl) | (apply D_int; rfl; rfl; rfl) | (apply D_lenM; rfl))
          | refine W_seq ?_
          | refine W_region ?_
          | (refine idC ?_; first | refine cs rfl (fun _ => ?_) (fun _ => ?_))
          | refine WL_nil ?_
          | refine tn ?_
          | refine bn ?_
          | refine te ?_
          | (refine idB ?_; first | refine bh rfl ?_)
          | refine W_skip ?_
          | refine W_block ?_
          | refine W_exit ?_
          | (refine idW ?_; first | refine W_draw0 rfl ?_)
          | (apply d1 (hd := rfl); case hop => first | (apply D_move; rfl) | (apply D_assign; rfl) | exact D_sc (D_eqA rfl rfl rfl rfl rfl rfl rfl) k4 | (apply D_pickF; rfl; rfl) | (apply D_loadW; rfl; rfl) | (apply D_idxAn; rfl; rfl; (first | omega | (simp; done))))
          | (refine idDg ?_; first | refine dgr rfl rfl ?_)
          | refine WD_nil (by first | decide +kernel | kernel_rfl | rfl) ?_
        all_goals first
          | (exfalso; omega)
          | exact ⟨rfl, i + 1, hil2, by omega, ⟨rfl, rfl, rfl, rfl, rfl, rfl, rfl, rfl, rfl, rfl, beq' (dP_T k2), ieq (wsucc i (by omega)), trivial⟩, rfl⟩
          | skip
      · have k2 : ¬ d ∈ B.take (i + 1) := fun h => by
          rw [hts] at h
          rcases List.mem_append.1 h with h | h
          · exact k1 h
          · exact k3 (List.mem_singleton.1 h).symm
        have k4 : Value.bool (lEq (encD (B[i]'hil2)) (encD d)) = .bool false := by rw [(lEq_f _ _).mpr (fun e => k3 (encD_inj e))]
        repeat' first
          | (apply p1 (hd := rfl); case hop => first | (apply D_move; rfl) | (apply D_assign; rfl) | (apply D_int; rfl; rfl; rfl) | (apply D_lenM; rfl))
          | refine W_seq ?_
          | refine W_region ?_
          | (refine idC ?_; first | refine cs rfl (fun _ => ?_) (fun _ => ?_))
          | refine WL_nil ?_
          | refine tn ?_
          | refine bn ?_
          | refine te ?_
          | (refine idB ?_; first | refine bh rfl ?_)
          | refine W_skip ?_
          | refine W_block ?_
          | refine W_exit ?_
          | (refine idW ?_; first | refine W_draw0 rfl ?_)
          | (apply d1 (hd := rfl); case hop => first | (apply D_move; rfl) | (apply D_assign; rfl) | exact D_sc (D_eqA rfl rfl rfl rfl rfl rfl rfl) k4 | (apply D_pickF; rfl; rfl) | (apply D_loadW; rfl; rfl) | (apply D_idxAn; rfl; rfl; (first | omega | (simp; done))))
          | (refine idDg ?_; first | refine dgr rfl rfl ?_)
          | refine WD_nil (by first | decide +kernel | kernel_rfl | rfl) ?_
        all_goals first
          | (exfalso; omega)
          | exact ⟨rfl, i + 1, hil2, by omega, ⟨rfl, rfl, rfl, rfl, rfl, rfl, rfl, rfl, rfl, rfl, beq' (dP_F k2), ieq (wsucc i (by omega)), trivial⟩, rfl⟩
          | skip
  · rw [List.take_of_length_le (show B.length ≤ i by omega)]
    repeat' first
      | (apply p1 (hd := rfl); case hop => first | (apply D_move; rfl) | (apply D_assign; rfl) | (apply D_pc q7; rfl; exact .same rfl .nil) | (apply D_pc q8; rfl; exact .same rfl .nil) | (apply D_pc q9; rfl; exact .same rfl .nil) | (apply D_pc q10; rfl; exact .same rfl .nil) | (apply D_pc q11; rfl; exact .same rfl (.same rfl .nil)) | (apply D_pc q12; rfl; exact .same rfl (.same rfl .nil)) | (apply D_pc q13; rfl; exact .same rfl (.same rfl .nil)) | (apply D_pc q14; rfl; exact .same rfl .nil) | (apply D_pc q15; rfl; exact .same rfl .nil) | exact D_sc (D_int rfl rfl rfl) g1 | exact D_sc (D_int rfl rfl rfl) g2 | exact D_sc (D_beq rfl rfl) (g3 _) | exact D_sc (D_eqA rfl rfl rfl rfl rfl rfl rfl) g4 | (apply D_pickT; rfl; rfl) | (apply D_pickF; rfl; rfl) | (apply D_int; rfl; rfl; rfl) | (apply D_lenM; rfl) | (apply D_loadW; rfl; rfl))
      | refine W_seq ?_
      | refine W_region ?_
      | (refine idC ?_; first | refine cs rfl (fun _ => ?_) (fun _ => ?_))
      | refine WL_nil ?_
      | (refine idG ?_; first | refine g0t rfl rfl rfl ?_ | refine gr rfl rfl ?_ | refine gs rfl rfl (fun _ => ?_) (fun _ => ?_))
      | refine tn ?_
      | refine bn ?_
      | refine te ?_
      | (refine idB ?_; first | refine bh rfl ?_)
      | refine W_skip ?_
      | refine W_block ?_
      | refine W_exit ?_
      | refine W_ret ?_
      | (refine idR ?_; first | refine ret1 rfl rfl rfl ?_)
      | refine Le.bool ?_
      | (refine idW ?_; first | refine W_draw0 rfl ?_)
      | (apply d1 (hd := rfl); case hop => first | (apply D_move; rfl) | (apply D_assign; rfl) | (apply D_pickT; rfl; rfl) | (apply D_pickF; rfl; rfl) | (apply D_loadW; rfl; rfl) | (apply D_idxAn; rfl; rfl; (first | omega | (simp; done))) | exact D_eqA rfl rfl rfl rfl rfl rfl rfl)
      | (refine idDg ?_; first | refine dg0f rfl rfl rfl ?_ | refine dgr rfl rfl ?_ | refine dgs rfl rfl (fun _ => ?_) (fun _ => ?_))
      | refine WD_nil (by first | decide +kernel | kernel_rfl | rfl) ?_
    all_goals try (exfalso; omega)
    all_goals first | exact (iEq_t _ _).mpr rfl | skip
end Go.Proofs

namespace Go.AL
end Go.AL

namespace Go.Proofs
open Go.AL
def spOk (s : Sp) : Prop := (Lit.int .i64 s.f).wf = true ∧ (Lit.int .i64 s.t).wf = true
theorem i64_wf0 {n : Int} (h : (Lit.int .i64 n).wf = true) : -9223372036854775808 ≤ n ∧ n ≤ 9223372036854775807 := by
  simp [Lit.wf, IntKind.min, IntKind.max, IntKind.signed, IntKind.bits] at h
  omega
def valOk (v : Val) : Prop := (Lit.int .i64 v.kind).wf = true ∧ (Lit.int .i64 v.n).wf = true ∧ v.s.length ≤ maxLen
def datOk (d : Dat) : Prop := (Lit.int .i64 d.e).wf = true ∧ (Lit.int .i64 d.a).wf = true ∧ valOk d.v ∧ (Lit.int .i64 d.t).wf = true ∧ True ∧ (Lit.int .i64 d.fr).wf = true ∧ (Lit.int .i64 d.to).wf = true
theorem datOk.rg {d : Dat} (h : datOk d) : loT ≤ d.fr ∧ d.to ≤ hiT := ⟨(i64_wf0 h.2.2.2.2.2.1).1, (i64_wf0 h.2.2.2.2.2.2).2⟩
theorem datOk.sl {d : Dat} (h : datOk d) : d.v.s.length < 9223372036854775808 := Nat.lt_succ_of_le (show _ ≤ 9223372036854775807 from h.2.2.1.2.2)
instance : Opn Try.prog 2 (fun n : Int => [.sc (.int .i64 n)]) (fun n : Int => (Lit.int .i64 n).wf = true) := opn_int Try.underlying2
instance : Opn Try.prog 3 (fun n : Int => [.sc (.int .i64 n)]) (fun n : Int => (Lit.int .i64 n).wf = true) := opn_int Try.underlying3
instance : Opn Try.prog 4 (fun b : Bool => [.sc (.bool b)]) (fun _ : Bool => True) := opn_bool Try.underlying4
instance : Opn Try.prog 5 (fun n : Int => [.sc (.int .u8 n)]) (fun n : Int => (Lit.int .u8 n).wf = true) := opn_int Try.underlying5
instance : Opn Try.prog 6 (fun n : Int => [.sc (.int .u8 n)]) (fun n : Int => (Lit.int .u8 n).wf = true) := opn_int Try.underlying6
instance : Opn Try.prog 9 (fun l : List UInt8 => [str l]) (fun l : List UInt8 => l.length ≤ maxLen) := opn_str Try.underlying9
instance : Opn Try.prog 10 (fun l : List UInt8 => [str l]) (fun l : List UInt8 => l.length ≤ maxLen) := opn_str Try.underlying10
instance : Opn Try.prog 11 (fun l : List UInt8 => [str l]) (fun l : List UInt8 => l.length ≤ maxLen) := opn_str Try.underlying11
instance : Opn Try.prog 12 (fun n : Int => [.sc (.int .u64 n)]) (fun n : Int => (Lit.int .u64 n).wf = true) := opn_int Try.underlying12
instance : Opn Try.prog 21 (fun n : Int => [.sc (.int .i32 n)]) (fun n : Int => (Lit.int .i32 n).wf = true) := opn_int Try.underlying21
instance : Opn Try.prog 26 (fun n : Int => [.sc (.int .i64 n)]) (fun n : Int => (Lit.int .i64 n).wf = true) := opn_int Try.underlying26
instance : Opn Try.prog 161 (fun n : Int => [.sc (.int .u64 n)]) (fun n : Int => (Lit.int .u64 n).wf = true) := opn_int Try.underlying161
instance : Opn Try.prog 192 (fun n : Int => [.sc (.int .i64 n)]) (fun n : Int => (Lit.int .i64 n).wf = true) := opn_int Try.underlying192
instance : Opn Try.prog 199 (fun n : Int => [.sc (.int .u32 n)]) (fun n : Int => (Lit.int .u32 n).wf = true) := opn_int Try.underlying199
instance : Opn Try.prog 201 (fun n : Int => [.sc (.int .u64 n)]) (fun n : Int => (Lit.int .u64 n).wf = true) := opn_int Try.underlying201
instance : Opn Try.prog 218 (fun n : Int => [.sc (.int .u64 n)]) (fun n : Int => (Lit.int .u64 n).wf = true) := opn_int Try.underlying218
instance : Opn Try.prog 247 (fun n : Int => [.sc (.int .u8 n)]) (fun n : Int => (Lit.int .u8 n).wf = true) := opn_int Try.underlying247
instance : Opn Try.prog 248 (fun n : Int => [.sc (.int .u8 n)]) (fun n : Int => (Lit.int .u8 n).wf = true) := opn_int Try.underlying248
instance : Opn Try.prog 251 (fun n : Int => [.sc (.int .i32 n)]) (fun n : Int => (Lit.int .i32 n).wf = true) := opn_int Try.underlying251
instance : Opn Try.prog 252 (fun n : Int => [.sc (.int .i32 n)]) (fun n : Int => (Lit.int .i32 n).wf = true) := opn_int Try.underlying252
instance : Opn Try.prog 114 sC spOk := ⟨fun {H en w base spare held fuel cs x} hsp h => by
  obtain ⟨xs, n, rfl, rfl, hl, hn, hf⟩ := DataW.trod_struct Try.underlying114 h
  have hn' : xs.length = 2 := hn
  obtain ⟨a0, c0, k0⟩ := fld_open (ft := 2) (o := 0) hsp (hf 0 _ rfl) (by omega)
  obtain ⟨a1, c1, k1⟩ := fld_open (ft := 2) (o := 1) hsp (hf 1 _ rfl) (by omega)
  exact ⟨Sp.mk a0 a1, (fl_cons c0 (fl_cons c1 (fl_nil (by rw [hl, Cel.h (P := Try.prog) (t := 114)]; exact Nat.le_refl _)))), ⟨k0, k1⟩⟩⟩
instance : Opn Try.prog 109 (fun l : List Sp => [.sl none 2 (l.map sC)]) (fun l : List Sp => l.length ≤ maxLen ∧ ∀ a, a ∈ l → spOk a) := opn_slice Try.underlying109 (fun _ => rfl) (by decide)
instance : Opn Try.prog 34 vC valOk := ⟨fun {H en w base spare held fuel cs x} hsp h => by
  obtain ⟨xs, n, rfl, rfl, hl, hn, hf⟩ := DataW.trod_struct Try.underlying34 h
  have hn' : xs.length = 3 := hn
  obtain ⟨a0, c0, k0⟩ := fld_open (ft := 3) (o := 0) hsp (hf 0 _ rfl) (by omega)
  obtain ⟨a1, c1, k1⟩ := fld_open (ft := 2) (o := 1) hsp (hf 1 _ rfl) (by omega)
  obtain ⟨a2, c2, k2⟩ := fld_open (ft := 9) (o := 2) hsp (hf 2 _ rfl) (by omega)
  exact ⟨Val.mk a0 a1 a2, (fl_cons c0 (fl_cons c1 (fl_cons c2 (fl_nil (by rw [hl, Cel.h (P := Try.prog) (t := 34)]; exact Nat.le_refl _))))), ⟨k0, k1, k2⟩⟩⟩
instance : Opn Try.prog 36 dC datOk := ⟨fun {H en w base spare held fuel cs x} hsp h => by
  obtain ⟨xs, n, rfl, rfl, hl, hn, hf⟩ := DataW.trod_struct Try.underlying36 h
  have hn' : xs.length = 7 := hn
  obtain ⟨a0, c0, k0⟩ := fld_open (ft := 2) (o := 0) hsp (hf 0 _ rfl) (by omega)
  obtain ⟨a1, c1, k1⟩ := fld_open (ft := 2) (o := 1) hsp (hf 1 _ rfl) (by omega)
  obtain ⟨a2, c2, k2⟩ := fld_open (ft := 34) (o := 2) hsp (hf 2 _ rfl) (by omega)
  obtain ⟨a3, c3, k3⟩ := fld_open (ft := 2) (o := 5) hsp (hf 3 _ rfl) (by omega)
  obtain ⟨a4, c4, k4⟩ := fld_open (ft := 4) (o := 6) hsp (hf 4 _ rfl) (by omega)
  obtain ⟨a5, c5, k5⟩ := fld_open (ft := 2) (o := 7) hsp (hf 5 _ rfl) (by omega)
  obtain ⟨a6, c6, k6⟩ := fld_open (ft := 2) (o := 8) hsp (hf 6 _ rfl) (by omega)
  exact ⟨Dat.mk a0 a1 a2 a3 a4 a5 a6, (fl_cons c0 (fl_cons c1 (fl_cons c2 (fl_cons c3 (fl_cons c4 (fl_cons c5 (fl_cons c6 (fl_nil (by rw [hl, Cel.h (P := Try.prog) (t := 36)]; exact Nat.le_refl _))))))))), ⟨k0, k1, k2, k3, k4, k5, k6⟩⟩⟩
instance : Opn Try.prog 22 (fun l : List Dat => [.sl none 9 (l.map dC)]) (fun l : List Dat => l.length ≤ maxLen ∧ ∀ a, a ∈ l → datOk a) := opn_slice Try.underlying22 (fun _ => rfl) (by decide)
end Go.Proofs

namespace Go.AL
structure BulkP (B : ∀ H : Type, DataW H → Nat) : Prop where
  str : ∀ (H : Type) (b : List UInt8), b.length ≤ B H (.lit (.string b))
  agg : ∀ (H : Type) (ps : List (DataW H)), (ps.map (B H)).sum ≤ B H (.agg ps)
  sl : ∀ (H : Type) (es sp : List (DataW H)), (es.map (B H)).sum ≤ B H (.slice es sp)
  one : ∀ (H : Type) (d : DataW H), 1 ≤ B H d
class OpnB (B : ∀ H : Type, DataW H → Nat) (P : Program) (t : TypeId) {α : outParam Type} (enc : outParam (α → List AV)) (ok : outParam (α → Prop)) (wt : outParam (α → Nat)) : Prop where
  h : ∀ {H : Type} {en : TypeId × Value → H} {w : World} {base : Nat} {spare : Nat → Bool} {held : Bool} {fuel : Nat} {cs : List Value} {x : DataW H × List MemPlace}, (∀ b, spare b = true) →
    DataW.trod en P w base spare held fuel t cs = some x → ∃ a, ConcL (Gh.all w) cs (enc a) ∧ ok a ∧ wt a ≤ B H x.1
section
variable {B : ∀ H : Type, DataW H → Nat} {P : Program}
theorem opnB_one {t : TypeId} {α : Type} {enc : α → List AV} {ok : α → Prop} (hB : BulkP B) (ho : Opn P t enc ok) : OpnB B P t enc ok (fun _ => 1) := ⟨fun {H en w base spare held fuel cs x} hsp h => by
  obtain ⟨a, h1, h2⟩ := ho.h hsp h
  exact ⟨a, h1, h2, hB.one _ _⟩⟩
theorem opnB_str {t : TypeId} (hB : BulkP B) (ht : P.underlying t = some .string) : OpnB B P t (α := List UInt8) (fun l => [str l]) (fun l => l.length ≤ maxLen) List.length := ⟨fun _ h => by
  obtain ⟨s, rfl, rfl, hs⟩ := DataW.trod_string ht h
  exact ⟨s.data.toList, .cons (conc_str s) (.nil _), hs, hB.str _ _⟩⟩
theorem sum_le {α : Type} {f g : α → Nat} : ∀ {l : List α}, (∀ a, a ∈ l → f a ≤ g a) → (l.map f).sum ≤ (l.map g).sum
  | [], _ => Nat.le_refl _
  | a :: l, h => by
    have h1 := h a List.mem_cons_self
    have h2 := sum_le (l := l) fun b hb => h b (List.mem_cons_of_mem _ hb)
    simp only [List.map_cons, List.sum_cons]; omega
theorem opnB_slice {t e : TypeId} {k : Nat} {α : Type} {enc : α → List AV} {ok : α → Prop} {wt : α → Nat} (hB : BulkP B) (ht : P.underlying t = some (.slice e)) (he : OpnB B P e enc ok wt) [hc : Cel P e k] (hk : ∀ a, (enc a).length = k) (hk0 : 0 < k) :
    OpnB B P t (α := List α) (fun l => [.sl none k (l.map enc)]) (fun l => l.length ≤ maxLen ∧ ∀ a, a ∈ l → ok a) (fun l => (l.map wt).sum) := ⟨fun {H en w base spare held fuel cs x} hsp h => by
  rcases Go.Deep.open_slice ht h with ⟨rfl, _⟩ | ⟨a, len, cap, m, n, D, Pl, rfl, hb, hl, hm, hmm, rfl, hx⟩
  · exact ⟨[], .cons (.slnil (fun t e => by cases e)) (.nil _), ⟨Nat.zero_le _, fun a h => by cases h⟩, Nat.zero_le _⟩
  · rw [hsp] at hmm
    simp only [if_true] at hmm
    subst hmm
    rw [hc.h] at hx
    have hex : ∀ i, i < m → ∃ y : α, (ok y ∧ wt y ≤ B H (D i)) ∧ ∃ cs', w.cells? base (a.add (i * k)) k = some cs' ∧ ConcL (Gh.all w) cs' (enc y) := fun i hi => by
      obtain ⟨cs', h1, h2⟩ := hx i hi
      obtain ⟨y, h3, h4, h5⟩ := he.h hsp h2
      exact ⟨y, ⟨h4, h5⟩, cs', h1, h3⟩
    rcases Nat.eq_zero_or_pos m with h0 | h0
    · have hl0 : len = 0 := by omega
      subst h0; subst hl0
      exact ⟨[], .cons .slz (.nil _), ⟨Nat.zero_le _, fun a h => by cases h⟩, Nat.zero_le _⟩
    have hspot : a.spot = none := by
      obtain ⟨y, _, cs', h1, h3⟩ := hex 0 h0
      obtain ⟨h4, h5⟩ := all_cell h1
      have := h5 0 (cs'[0]'(by omega)) (List.getElem?_eq_getElem (by omega))
      have := World.cell?_spot this
      simpa [Addr.add] using this
    have hne : Nonempty α := let ⟨y, _⟩ := hex 0 h0; ⟨y⟩
    let f : Nat → α := fun i => Classical.epsilon fun y => (ok y ∧ wt y ≤ B H (D i)) ∧ ∃ cs', w.cells? base (a.add (i * k)) k = some cs' ∧ ConcL (Gh.all w) cs' (enc y)
    have hf : ∀ i, i < m → (ok (f i) ∧ wt (f i) ≤ B H (D i)) ∧ ∃ cs', w.cells? base (a.add (i * k)) k = some cs' ∧ ConcL (Gh.all w) cs' (enc (f i)) := fun i hi => Classical.epsilon_spec (hex i hi)
    refine ⟨(List.range len).map f, .cons ?_ (.nil _), ⟨by simp; omega, fun y hy => ?_⟩, ?_⟩
    · obtain ⟨b, o, sp⟩ := a
      simp only at hspot
      subst hspot
      have hcell : ∀ i j, i < len → j < k → ∃ u, w.cell? ⟨b, o + i * k + j, none⟩ = some u ∧ ∀ x, (enc (f i))[j]? = some x → Conc (Gh.all w) u x := fun i j hi hj => by
        obtain ⟨_, cs', h1, h2⟩ := hf i (by omega)
        obtain ⟨h3, h4⟩ := all_cell h1
        have := h4 j (cs'[j]'(by omega)) (List.getElem?_eq_getElem (by omega))
        rw [add_none, add_none] at this
        exact ⟨_, this, fun x hx => h2.2 j _ x (List.getElem?_eq_getElem (by omega)) hx⟩
      have e1 : ((List.range len).map f |>.map enc).length = len := by simp
      have hgen : ∀ els : List (List AV), els = ((List.range len).map f).map enc → Conc (Gh.all w) (.slice (some ⟨b, o, none⟩) len m) (.sl none k els) := fun els hels => by
        have hlen : els.length = len := by rw [hels]; exact e1
        rw [← hlen]
        refine .sl (fun i j => (w.cell? ⟨b, o + i * k + j, none⟩).getD undef) (fun e he => ?_) (by omega) (fun i j hi hj => ?_) (fun i e j x he hx => ?_) (fun t e => by cases e)
        · rw [hels] at he
          obtain ⟨y, _, rfl⟩ := List.mem_map.1 he
          exact hk y
        · obtain ⟨u, h1, _⟩ := hcell i j (by omega) hj
          show w.cell? ⟨b, o + i * k + j, none⟩ = _
          rw [h1]; rfl
        · have hi : i < len := by rw [← hlen]; exact (List.getElem?_eq_some_iff.1 he).1
          rw [hels] at he
          simp [hi] at he
          subst he
          have hj : j < k := by rw [← hk (f i)]; exact (List.getElem?_eq_some_iff.1 hx).1
          obtain ⟨u, h1, h2⟩ := hcell i j hi hj
          rw [h1]; exact h2 x hx
      exact hgen _ rfl
    · obtain ⟨i, hi, rfl⟩ := List.mem_map.1 hy
      exact (hf i (by have := List.mem_range.1 hi; omega)).1.1
    · refine Nat.le_trans ?_ (hB.sl H _ _)
      rw [List.map_map, List.map_map]
      exact sum_le fun i hi => (hf i (by have := List.mem_range.1 hi; omega)).1.2⟩
theorem fld_openB {H : Type} {en : TypeId × Value → H} {w : World} {base : Nat} {spare : Nat → Bool} {held : Bool} {n o s i : Nat} {cs : List Value} {xs : List (DataW H × List MemPlace)} {ft : TypeId} {α : Type} {enc : α → List AV} {ok : α → Prop} {wt : α → Nat}
    (hsp : ∀ b, spare b = true) (hf : DataW.trod en P w base spare held n ft ((cs.drop o).take (P.cellsOf ft)) = xs[i]?) (hi : i < xs.length) (he : OpnB B P ft enc ok wt) [hc : Cel P ft s] : ∃ a, ConcL (Gh.all w) ((cs.drop o).take s) (enc a) ∧ ok a ∧ wt a ≤ B H (xs[i].1) := by
  rw [hc.h, List.getElem?_eq_getElem hi] at hf
  exact he.h hsp hf
theorem OpnB.arg {H : Type} {en : TypeId × Value → H} {w : World} {t : TypeId} {v : Value} {d : DataW H} {ps : List MemPlace} {base : Nat} {held : Bool} {α : Type} {enc : α → List AV} {ok : α → Prop} {wt : α → Nat} (ho : OpnB B P t enc ok wt) (h : DataW.Trod en P w base (fun _ => true) held t v d ps) :
    ∃ a, ConcL (Gh.all w) v.cells.toList (enc a) ∧ ok a ∧ wt a ≤ B H d := by
  obtain ⟨fuel, hf⟩ := h
  exact ho.h (fun _ => rfl) hf
end
end Go.AL
namespace Go.RowKit
open Go.ChangeShapes
section
variable {H : Type} {enc : TypeId × Value → H} {P : Program} {w : World} {base : Nat} {spare : Nat → Bool} {held : Bool}
end
end Go.RowKit
