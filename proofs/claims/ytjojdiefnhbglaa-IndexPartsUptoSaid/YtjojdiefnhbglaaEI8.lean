/- The law IndexParts. -/
import Derived.Test.YtjojdiefnhbglaaEI5
import Derived.Test.YtjojdiefnhbglaaOpen
import Derived.SizedLaws
import Derived.Test.YtjojdiefnhbglaaEC1
import Derived.Carry
import Derived.HandedShaped
import Derived.Test.YtjojdiefnhbglaaRows
import Derived.Test.YtjojdiefnhbglaaED1
namespace Go.Proofs
open Go.AL Go.Sort
attribute [local irreducible] Go.AL.W Go.AL.WL Go.AL.WD Go.AL.POp Go.AL.PPOp Go.AL.POpS Go.AL.PC Go.AL.AC Go.AL.YW Go.AL.Ret Go.AL.Le Go.AL.thn Go.AL.inBlk Go.AL.scp
theorem dsort_le {L L' : List Dat} (h : ∀ d, d ∈ L → d ∈ L') : (dsortL 1 L).length ≤ (dsortL 1 L').length := by
  have e : dsortL 1 L = (dsortL 1 L').filter fun d => dP (d ∈ L) := by
    refine rise_eq (wc_cmpD 1) (dsort_rise (by decide) L) (List.Pairwise.filter _ (dsort_rise (by decide) L')) fun d => ?_
    rw [dsort1_mem, List.mem_filter, dsort1_mem, dP_t]
    exact ⟨fun hd => ⟨h d hd, hd⟩, fun hd => hd.2⟩
  rw [e]; exact List.length_filter_le _ _
theorem rem5 (c : Int) : 1 ≤ IntKind.i64.wrap (Int.tmod (IntKind.i64.wrap (Int.tmod c 5 + 5)) 5 + 1) ∧ IntKind.i64.wrap (Int.tmod (IntKind.i64.wrap (Int.tmod c 5 + 5)) 5 + 1) ≤ 5 := by
  have h1 : -5 < Int.tmod c 5 := by
    have := Int.lt_tmod_of_pos c (show (0 : Int) < 5 by decide); omega
  have h2 : Int.tmod c 5 < 5 := Int.tmod_lt_of_pos c (by decide)
  rw [w64 (Int.tmod c 5 + 5) (by omega) (by omega)]
  have h3 : 0 ≤ Int.tmod (Int.tmod c 5 + 5) 5 := Int.tmod_nonneg _ (by omega)
  have h4 : Int.tmod (Int.tmod c 5 + 5) 5 < 5 := Int.tmod_lt_of_pos _ (by decide)
  rw [w64 _ (by omega) (by omega)]
  omega
set_option maxHeartbeats 64000000 in
theorem indexParts_pc [GlobF Try.prog] (l m : List Dat) (cut : Int) (hwl : (l.map wtD1).sum ≤ 1048576) (hwm : (m.map wtD1).sum ≤ 1048576) (hil : ∀ x, x ∈ l → datI x) (him : ∀ x, x ∈ m → datI x) :
    PC Try.prog 3 [sl9 l, sl9 m, .sc (.int .i64 cut)] (.sc (.bool true)) := by
  obtain ⟨l1, l2⟩ := wt_sl hwl
  obtain ⟨m1, m2⟩ := wt_sl hwm
  have hgl := great_pc l (by omega)
  have hgm := great_pc m (by omega)
  refine PC.of_body Try.func3 Try.ntmps3 rfl rfl rfl ?_
  by_cases c1 : 4000 < grS 0 l
  · rw [if_pos c1] at hgl
    repeat' first
      | (apply p1 (hd := rfl); case hop => first | (apply D_move; rfl) | (apply D_assign; rfl) | (apply D_pc alive_pc; rfl; exact .nil) | (apply D_pc hgl; rfl; exact .same rfl .nil) | (apply D_pickT; rfl; rfl) | (apply D_int; rfl; rfl; rfl))
      | refine W_seq ?_
      | refine W_region ?_
      | (refine idC ?_; first | refine cs rfl (fun _ => ?_) (fun _ => ?_))
      | refine WL_nil ?_
      | (refine idG ?_; first | refine g0f rfl rfl rfl ?_ | refine gr rfl rfl ?_ | refine gs rfl rfl (fun _ => ?_) (fun _ => ?_))
      | refine tn ?_
      | refine tr ?_
      | refine W_skip ?_
      | refine W_ret ?_
      | (refine idR ?_; first | refine ret1 rfl rfl rfl ?_)
      | refine Le.bool ?_
    all_goals first | rfl | contradiction | (exfalso; omega) | skip
  rw [if_neg c1] at hgl
  have h00 : Value.bool (iLt 0 0) = .bool false := by rw [(iLt_f _ _).mpr (by omega)]
  have hnT : Value.bool (bNot true) = .bool false := by simp [bNot]
  by_cases c2 : 4000 < grS 0 m
  · rw [if_pos c2] at hgm
    repeat' first
      | (apply p1 (hd := rfl); case hop => first | (apply D_move; rfl) | (apply D_assign; rfl) | (apply D_pc alive_pc; rfl; exact .nil) | exact D_sc (D_int rfl rfl rfl) h00 | (apply D_pc hgl; rfl; exact .same rfl .nil) | (apply D_pc hgm; rfl; exact .same rfl .nil) | (apply D_pickT; rfl; rfl) | (apply D_pickF; rfl; rfl) | (apply D_int; rfl; rfl; rfl) | (apply D_not; rfl))
      | refine W_seq ?_
      | refine W_region ?_
      | (refine idC ?_; first | refine cs rfl (fun _ => ?_) (fun _ => ?_))
      | refine WL_nil ?_
      | (refine idG ?_; first | refine g0f rfl rfl rfl ?_ | refine gr rfl rfl ?_ | refine gs rfl rfl (fun _ => ?_) (fun _ => ?_))
      | refine tn ?_
      | refine tr ?_
      | refine W_skip ?_
      | refine W_ret ?_
      | (refine idR ?_; first | refine ret1 rfl rfl rfl ?_)
      | refine Le.bool ?_
    all_goals first | rfl | contradiction | (exfalso; omega) | skip
  rw [if_neg c2] at hgm
  obtain ⟨w1, w2⟩ := gr_few hwl c1
  obtain ⟨w3, w4⟩ := gr_few hwm c2
  have hbl : ∀ x, x ∈ l → x.v.s.length < 9223372036854775808 := fun x hx => by have := w2 x hx; omega
  have hbm : ∀ x, x ∈ m → x.v.s.length < 9223372036854775808 := fun x hx => by have := w4 x hx; omega
  by_cases c3 : ∀ x, x ∈ l → dmayP x
  rotate_left
  · obtain ⟨x0, hx0, hx1⟩ : ∃ x, x ∈ l ∧ ¬ dmayP x := Classical.byContradiction fun h => c3 fun x hx => Classical.byContradiction fun h2 => h ⟨x, hx, h2⟩
    have q1 := iadd_pc none [] l IxOf.init (by simp; omega) hbl (.sc (.pointer none)) 110 (fun h => absurd h c3) (fun _ => ⟨rfl, rfl⟩)
    rw [xA_no] at q1
    repeat' first
      | (apply p1 (hd := rfl); case hop => first | (apply D_move; rfl) | (apply D_assign; rfl) | (apply D_pc alive_pc; rfl; exact .nil) | exact D_sc (D_int rfl rfl rfl) h00 | exact D_sc (D_not rfl) hnT | (apply D_pc hgl; rfl; exact .same rfl .nil) | (apply D_pc hgm; rfl; exact .same rfl .nil) | (apply D_pc q1; rfl; exact .same rfl (.same rfl .nil)) | (apply D_pickF; rfl; rfl) | (apply D_int; rfl; rfl; rfl) | (apply D_ext; rfl; rfl))
      | refine W_seq ?_
      | refine W_region ?_
      | (refine idC ?_; first | refine c0 rfl ?_ | refine cs rfl (fun _ => ?_) (fun _ => ?_))
      | refine WL_nil ?_
      | (refine idG ?_; first | refine gr rfl rfl ?_)
      | refine tn ?_
      | refine tr ?_
      | refine W_skip ?_
      | refine W_ret ?_
      | (refine idR ?_; first | refine ret1 rfl rfl rfl ?_)
      | refine Le.bool ?_
    all_goals first | rfl | contradiction | (exfalso; omega) | skip
  have hT1 : IxOf l (addsT (fun _ => none) l) := by have := IxOf.init.adds l (by simp; omega); simpa using this
  obtain ⟨T1, e1⟩ : ∃ T1, T1 = addsT (fun _ => none) l := ⟨_, rfl⟩
  rw [← e1] at hT1
  have q1 := iadd_pc none [] l IxOf.init (by simp; omega) hbl (xA (some T1)) 0 (fun _ => ⟨by rw [e1]; rfl, rfl⟩) (fun ⟨x, hx, h⟩ => absurd (c3 x hx) h)
  have hL1 : okL l := fun x hx => ⟨c3 x hx, hil x hx⟩
  have q2 := iall_pc (some T1) l hT1 hL1 (by omega)
  rw [xA_no, xA_so] at q1
  rw [xA_so] at q2
  by_cases c4 : ∀ x, x ∈ m → dmayP x
  rotate_left
  · obtain ⟨x0, hx0, hx1⟩ : ∃ x, x ∈ m ∧ ¬ dmayP x := Classical.byContradiction fun h => c4 fun x hx => Classical.byContradiction fun h2 => h ⟨x, hx, h2⟩
    have q3 := iadd_pc (some T1) l m hT1 (by omega) hbm (.sc (.pointer none)) 110 (fun h => absurd h c4) (fun _ => ⟨rfl, rfl⟩)
    have q4 := iadd_pc none [] m IxOf.init (by simp; omega) hbm (.sc (.pointer none)) 110 (fun h => absurd h c4) (fun _ => ⟨rfl, rfl⟩)
    rw [xA_so] at q3
    rw [xA_no] at q4
    repeat' first
      | (apply p1 (hd := rfl); case hop => first | (apply D_move; rfl) | (apply D_assign; rfl) | (apply D_pc alive_pc; rfl; exact .nil) | exact D_sc (D_int rfl rfl rfl) h00 | exact D_sc (D_not rfl) hnT | (apply D_pc hgl; rfl; exact .same rfl .nil) | (apply D_pc hgm; rfl; exact .same rfl .nil) | (apply D_pc q1; rfl; exact .same rfl (.same rfl .nil)) | (apply D_pc q2; rfl; exact .same rfl .nil) | (apply D_pc q3; rfl; exact .same rfl (.same rfl .nil)) | (apply D_pc q4; rfl; exact .same rfl (.same rfl .nil)) | (apply D_pickT; rfl; rfl) | (apply D_pickF; rfl; rfl) | (apply D_int; rfl; rfl; rfl) | (apply D_lenM; rfl) | (apply D_ext; rfl; rfl) | (apply D_rem; rfl; rfl; first | omega | ((repeat rw [w64 _ (by omega) (by omega)]); omega) | decide))
      | refine W_seq ?_
      | refine W_region ?_
      | (refine idC ?_; first | refine c0 rfl ?_ | refine cs rfl (fun _ => ?_) (fun _ => ?_))
      | refine WL_nil ?_
      | (refine idG ?_; first | refine g0f rfl rfl rfl ?_ | refine gr rfl rfl ?_ | refine gs rfl rfl (fun _ => ?_) (fun _ => ?_))
      | refine tn ?_
      | refine tr ?_
      | refine W_skip ?_
      | refine W_block ?_
      | refine W_ret ?_
      | (refine idR ?_; first | refine ret1 rfl rfl rfl ?_)
      | refine Le.bool ?_
    all_goals first | rfl | contradiction | (exfalso; omega) | exact (iEq_t _ _).mpr rfl | skip
  have hT2 : IxOf (l ++ m) (addsT T1 m) := hT1.adds m (by omega)
  obtain ⟨T2, e2⟩ : ∃ T2, T2 = addsT T1 m := ⟨_, rfl⟩
  rw [← e2] at hT2
  have hT3 : IxOf m (addsT (fun _ => none) m) := by have := IxOf.init.adds m (by simp; omega); simpa using this
  obtain ⟨T3, e3⟩ : ∃ T3, T3 = addsT (fun _ => none) m := ⟨_, rfl⟩
  rw [← e3] at hT3
  have q3 := iadd_pc (some T1) l m hT1 (by omega) hbm (xA (some T2)) 0 (fun _ => ⟨by rw [e2]; rfl, rfl⟩) (fun ⟨x, hx, h⟩ => absurd (c4 x hx) h)
  have q4 := iadd_pc none [] m IxOf.init (by simp; omega) hbm (xA (some T3)) 0 (fun _ => ⟨by rw [e3]; rfl, rfl⟩) (fun ⟨x, hx, h⟩ => absurd (c4 x hx) h)
  rw [xA_so, xA_so] at q3
  rw [xA_no, xA_so] at q4
  have hL2 : okL (l ++ m) := fun x hx => by
    rcases List.mem_append.1 hx with h | h
    · exact ⟨c3 x h, hil x h⟩
    · exact ⟨c4 x h, him x h⟩
  obtain ⟨n1, n2⟩ := rem5 cut
  repeat' first
    | (apply p1 (hd := rfl); case hop => first | (apply D_move; rfl) | (apply D_assign; rfl) | (apply D_pc alive_pc; rfl; exact .nil) | exact D_sc (D_int rfl rfl rfl) h00 | exact D_sc (D_not rfl) hnT | (apply D_pc hgl; rfl; exact .same rfl .nil) | (apply D_pc hgm; rfl; exact .same rfl .nil) | (apply D_pc q1; rfl; exact .same rfl (.same rfl .nil)) | (apply D_pc q2; rfl; exact .same rfl .nil) | (apply D_pc q3; rfl; exact .same rfl (.same rfl .nil)) | (apply D_pc q4; rfl; exact .same rfl (.same rfl .nil)) | (apply D_pickT; rfl; rfl) | (apply D_pickF; rfl; rfl) | (apply D_int; rfl; rfl; rfl) | (apply D_lenM; rfl) | (apply D_ext; rfl; rfl) | (apply D_rem; rfl; rfl; first | omega | ((repeat rw [w64 _ (by omega) (by omega)]); omega) | decide))
    | refine W_seq ?_
    | refine W_region ?_
    | (refine idC ?_; first | refine c0 rfl ?_ | refine cs rfl (fun _ => ?_) (fun _ => ?_))
    | refine WL_nil ?_
    | (refine idG ?_; first | refine g0f rfl rfl rfl ?_ | refine gr rfl rfl ?_ | refine gs rfl rfl (fun _ => ?_) (fun _ => ?_))
    | refine tn ?_
    | refine tr ?_
    | refine W_skip ?_
    | refine W_block ?_
    | refine W_ret ?_
    | (refine idR ?_; first | refine ret1 rfl rfl rfl ?_)
    | refine Le.bool ?_
  all_goals try contradiction
  generalize IntKind.i64.wrap (Int.tmod (IntKind.i64.wrap (Int.tmod cut 5 + 5)) 5 + 1) = n at n1 n2 ⊢
  refine W_loopL (X := Int × Ix × List Dat) (fun c => [(0, sl9 l), (7, .sc (.bool true)), (9, .ep [.sc (.pointer none), oT (T1 1), oT (T1 2), oT (T1 3), oT (T1 4)]), (11, sl9 (dsortL 1 l)), (12, .ep [.sc (.pointer none), oT (T2 1), oT (T2 2), oT (T2 3), oT (T2 4)]), (14, .ep [.sc (.pointer none), oT (c.2.1 1), oT (c.2.1 2), oT (c.2.1 3), oT (c.2.1 4)]), (16, .sc (.int .i64 n)), (17, .sc (.int .i64 c.1))]) (fun _ => [])
    (fun c => (-5 ≤ c.1 ∧ c.1 ≤ l.length) ∧ IxOf c.2.2 c.2.1 ∧ c.2.2.length + c.1.toNat ≤ m.length + l.length ∧ ∀ d, d ∈ c.2.2 ↔ d ∈ m ∨ d ∈ l.drop c.1.toNat) (fun c => (c.1 + 5).toNat) (l.length, T3, m) ⟨⟨by show -5 ≤ (l.length : Int); omega, Int.le_refl _⟩, hT3, by show m.length + ((l.length : Int)).toNat ≤ _; omega, fun d => by show d ∈ m ↔ d ∈ m ∨ d ∈ l.drop ((l.length : Int)).toNat; rw [Int.toNat_natCast, List.drop_length]; simp⟩ ⟨rfl, rfl, rfl, rfl, rfl, rfl, rfl, rfl, trivial⟩ rfl ?_
  rintro ⟨i, Z, M⟩ ⟨⟨hi1, hi2⟩, hZ, hM, hMm⟩
  simp only at hi1 hi2 hZ hM hMm
  by_cases c5 : 0 < i
  · obtain ⟨k, hk⟩ : ∃ k : Nat, i = k := ⟨i.toNat, by omega⟩
    subst hk
    have w5 : IntKind.i64.wrap ((k : Int) - n) = (k : Int) - n := w64 _ (by omega) (by omega)
    obtain ⟨j, hj⟩ : ∃ j : Nat, max 0 ((k : Int) - n) = j := ⟨(max 0 ((k : Int) - n)).toNat, by omega⟩
    have g5 : Value.int .i64 (max 0 (IntKind.i64.wrap ((k : Int) - n))) = .int .i64 (j : Int) := by rw [w5, hj]
    have hP : ∀ x, x ∈ (l.take k).drop j → x ∈ l := fun x hx => List.mem_of_mem_take (List.mem_of_mem_drop hx)
    have hPl : ((l.take k).drop j).length + j = k := by rw [List.length_drop, List.length_take]; omega
    have hZ2 : IxOf (M ++ (l.take k).drop j) (addsT Z ((l.take k).drop j)) := hZ.adds _ (by omega)
    obtain ⟨Z2, eZ⟩ : ∃ Z2, Z2 = addsT Z ((l.take k).drop j) := ⟨_, rfl⟩
    rw [← eZ] at hZ2
    have q5 := iadd_pc (some Z) M ((l.take k).drop j) hZ (by omega) (fun x hx => hbl x (hP x hx)) (xA (some Z2)) 0 (fun _ => ⟨by rw [eZ]; rfl, rfl⟩) (fun ⟨x, hx, h⟩ => absurd (c3 x (hP x hx)) h)
    have ejk : ((k : Int) - n).toNat = j := by omega
    have hdr : l.drop j = (l.take k).drop j ++ l.drop k := by
      have : l = l.take k ++ l.drop k := (List.take_append_drop k l).symm
      conv => lhs; rw [this]
      rw [List.drop_append_of_le_length (by rw [List.length_take]; omega)]
    rw [xA_so, xA_so] at q5
    repeat' first
      | (apply p1 (hd := rfl); case hop => first | (apply D_move; rfl) | (apply D_assign; rfl) | exact D_sc (D_max rfl rfl) g5 | (apply D_pc q5; rfl; exact .same rfl (.same rfl .nil)) | (apply D_int; rfl; rfl; rfl) | (apply D_ext; rfl; rfl) | (apply D_slVM; rfl; rfl; rfl; all_goals first | omega | ((repeat rw [w64 _ (by omega) (by omega)]); omega) | decide))
      | refine W_seq ?_
      | refine W_region ?_
      | (refine idC ?_; first | refine cs rfl (fun _ => ?_) (fun _ => ?_))
      | refine WL_nil ?_
      | (refine idG ?_; first | refine gr rfl rfl ?_)
      | refine tn ?_
      | refine tr ?_
      | refine br ?_
      | refine bn ?_
      | refine te ?_
      | (refine idB ?_; first | refine bh rfl ?_)
      | refine W_skip ?_
      | refine W_block ?_
      | refine W_exit ?_
      | refine W_ret ?_
      | (refine idR ?_; first | refine ret1 rfl rfl rfl ?_)
      | refine Le.bool ?_
    all_goals first
      | (exfalso; rename_i hh; exact hh rfl)
      | (exfalso; rename_i hh; simp only at hh; omega)
      | skip
    refine ⟨rfl, ((k : Int) - n, Z2, M ++ (l.take k).drop j), ⟨⟨by show -5 ≤ (k : Int) - n; omega, by show (k : Int) - n ≤ l.length; omega⟩, hZ2, ?_, ?_⟩, by show ((k : Int) - n + 5).toNat < ((k : Int) + 5).toNat; omega, ⟨rfl, rfl, rfl, rfl, rfl, rfl, rfl, ieq w5, trivial⟩, rfl⟩
    · show (M ++ (l.take k).drop j).length + ((k : Int) - n).toNat ≤ _
      rw [List.length_append, ejk]
      rw [Int.toNat_natCast] at hM
      omega
    · intro d
      show d ∈ M ++ (l.take k).drop j ↔ d ∈ m ∨ d ∈ l.drop ((k : Int) - n).toNat
      rw [ejk, hdr, List.mem_append, List.mem_append, hMm, Int.toNat_natCast]
      constructor
      · rintro ((h | h) | h)
        · exact .inl h
        · exact .inr (.inr h)
        · exact .inr (.inl h)
      · rintro (h | h | h)
        · exact .inl (.inl h)
        · exact .inr h
        · exact .inl (.inr h)
  · have e0 : i.toNat = 0 := by omega
    rw [e0, List.drop_zero] at hMm
    have hmm : ∀ d, d ∈ M ↔ d ∈ l ++ m := fun d => by rw [hMm, List.mem_append]; exact Or.comm
    have hL3 : okL M := fun x hx => hL2 x ((hmm x).1 hx)
    have q6 := iall_pc (some T2) (l ++ m) hT2 hL2 (by rw [List.length_append]; omega)
    have q7 := iall_pc (some Z) M hZ hL3 (by omega)
    have q8 := dsame_pc (dsortL 1 (l ++ m)) (dsortL 1 (l ++ m)) (by have := dsortL_len 1 (l ++ m); rw [List.length_append] at this; omega)
    have q9 := dsame_pc (dsortL 1 l) (dsortL 1 l) (by have := dsortL_len 1 l; omega)
    rw [decide_eq_true rfl] at q8 q9
    have r1 := ilen_pc (some T1)
    have r2 := ilen_pc (some T2)
    have r3 := ilen_pc (some Z)
    rw [show manyT (topT (topI (some T1) 1)) = _ from ilen_L hT1 hL1] at r1
    rw [show manyT (topT (topI (some T2) 1)) = _ from ilen_L hT2 hL2] at r2
    rw [show manyT (topT (topI (some Z) 1)) = _ from ilen_L hZ hL3, dsort_congr hmm] at r3
    rw [dsort_congr hmm] at q7
    have hle := dsort_le (L := l) (L' := l ++ m) fun d hd => List.mem_append_left _ hd
    rw [xA_so] at q6 q7 r1 r2 r3
    generalize dsortL 1 (l ++ m) = B at *
    generalize dsortL 1 l = A at *
    have g1 : Value.bool (iEq (B.length : Int) (B.length : Int)) = .bool true := by rw [(iEq_t _ _).mpr rfl]
    have g2 : Value.bool (iLe (A.length : Int) (B.length : Int)) = .bool true := by rw [(iLe_t _ _).mpr (by omega)]
    repeat' first
      | (apply p1 (hd := rfl); case hop => first | (apply D_move; rfl) | (apply D_assign; rfl) | (apply D_pc q6; rfl; exact .same rfl .nil) | (apply D_pc q7; rfl; exact .same rfl .nil) | (apply D_pc q2; rfl; exact .same rfl .nil) | (apply D_pc q8; rfl; exact .same rfl (.same rfl .nil)) | (apply D_pc q9; rfl; exact .same rfl (.same rfl .nil)) | (apply D_pc r1; rfl; exact .same rfl .nil) | (apply D_pc r2; rfl; exact .same rfl .nil) | (apply D_pc r3; rfl; exact .same rfl .nil) | exact D_sc (D_int rfl rfl rfl) g1 | exact D_sc (D_int rfl rfl rfl) g2 | (apply D_pickT; rfl; rfl) | (apply D_int; rfl; rfl; rfl))
      | refine W_seq ?_
      | refine W_region ?_
      | (refine idC ?_; first | refine cs rfl (fun _ => ?_) (fun _ => ?_))
      | refine WL_nil ?_
      | (refine idG ?_; first | refine gr rfl rfl ?_)
      | refine tn ?_
      | refine te ?_
      | (refine idB ?_; first | refine bh rfl ?_)
      | refine W_skip ?_
      | refine W_block ?_
      | refine W_exit ?_
      | refine W_ret ?_
      | (refine idR ?_; first | refine ret1 rfl rfl rfl ?_)
      | refine Le.bool ?_
    all_goals first
      | rfl
      | (exfalso; rename_i hh; simp only at hh; omega)
      | skip
end Go.Proofs

namespace Go.AL
end Go.AL

namespace Go.Proofs
open Go.AL
def spOk (s : Sp) : Prop := (Lit.int .i64 s.f).wf = true ∧ (Lit.int .i64 s.t).wf = true
theorem i64_wf0 {n : Int} (h : (Lit.int .i64 n).wf = true) : -9223372036854775808 ≤ n ∧ n ≤ 9223372036854775807 := by
  simp [Lit.wf, IntKind.min, IntKind.max, IntKind.signed, IntKind.bits] at h
  omega
def valOk (v : Val) : Prop := (Lit.int .i64 v.kind).wf = true ∧ (Lit.int .i64 v.n).wf = true ∧ v.s.length ≤ maxLen
def datOk (d : Dat) : Prop := (Lit.int .i64 d.e).wf = true ∧ (Lit.int .i64 d.a).wf = true ∧ valOk d.v ∧ (Lit.int .i64 d.t).wf = true ∧ True ∧ (Lit.int .i64 d.fr).wf = true ∧ (Lit.int .i64 d.to).wf = true
theorem datOk.rg {d : Dat} (h : datOk d) : loT ≤ d.fr ∧ d.to ≤ hiT := ⟨(i64_wf0 h.2.2.2.2.2.1).1, (i64_wf0 h.2.2.2.2.2.2).2⟩
theorem datOk.sl {d : Dat} (h : datOk d) : d.v.s.length < 9223372036854775808 := Nat.lt_succ_of_le (show _ ≤ 9223372036854775807 from h.2.2.1.2.2)
instance : Opn Try.prog 2 (fun n : Int => [.sc (.int .i64 n)]) (fun n : Int => (Lit.int .i64 n).wf = true) := opn_int Try.underlying2
instance : Opn Try.prog 3 (fun n : Int => [.sc (.int .i64 n)]) (fun n : Int => (Lit.int .i64 n).wf = true) := opn_int Try.underlying3
instance : Opn Try.prog 4 (fun b : Bool => [.sc (.bool b)]) (fun _ : Bool => True) := opn_bool Try.underlying4
instance : Opn Try.prog 5 (fun n : Int => [.sc (.int .u8 n)]) (fun n : Int => (Lit.int .u8 n).wf = true) := opn_int Try.underlying5
instance : Opn Try.prog 6 (fun n : Int => [.sc (.int .u8 n)]) (fun n : Int => (Lit.int .u8 n).wf = true) := opn_int Try.underlying6
instance : Opn Try.prog 9 (fun l : List UInt8 => [str l]) (fun l : List UInt8 => l.length ≤ maxLen) := opn_str Try.underlying9
instance : Opn Try.prog 10 (fun l : List UInt8 => [str l]) (fun l : List UInt8 => l.length ≤ maxLen) := opn_str Try.underlying10
instance : Opn Try.prog 11 (fun l : List UInt8 => [str l]) (fun l : List UInt8 => l.length ≤ maxLen) := opn_str Try.underlying11
instance : Opn Try.prog 12 (fun n : Int => [.sc (.int .u64 n)]) (fun n : Int => (Lit.int .u64 n).wf = true) := opn_int Try.underlying12
instance : Opn Try.prog 21 (fun n : Int => [.sc (.int .i32 n)]) (fun n : Int => (Lit.int .i32 n).wf = true) := opn_int Try.underlying21
instance : Opn Try.prog 26 (fun n : Int => [.sc (.int .i64 n)]) (fun n : Int => (Lit.int .i64 n).wf = true) := opn_int Try.underlying26
instance : Opn Try.prog 161 (fun n : Int => [.sc (.int .u64 n)]) (fun n : Int => (Lit.int .u64 n).wf = true) := opn_int Try.underlying161
instance : Opn Try.prog 192 (fun n : Int => [.sc (.int .i64 n)]) (fun n : Int => (Lit.int .i64 n).wf = true) := opn_int Try.underlying192
instance : Opn Try.prog 199 (fun n : Int => [.sc (.int .u32 n)]) (fun n : Int => (Lit.int .u32 n).wf = true) := opn_int Try.underlying199
instance : Opn Try.prog 201 (fun n : Int => [.sc (.int .u64 n)]) (fun n : Int => (Lit.int .u64 n).wf = true) := opn_int Try.underlying201
instance : Opn Try.prog 218 (fun n : Int => [.sc (.int .u64 n)]) (fun n : Int => (Lit.int .u64 n).wf = true) := opn_int Try.underlying218
instance : Opn Try.prog 247 (fun n : Int => [.sc (.int .u8 n)]) (fun n : Int => (Lit.int .u8 n).wf = true) := opn_int Try.underlying247
instance : Opn Try.prog 248 (fun n : Int => [.sc (.int .u8 n)]) (fun n : Int => (Lit.int .u8 n).wf = true) := opn_int Try.underlying248
instance : Opn Try.prog 251 (fun n : Int => [.sc (.int .i32 n)]) (fun n : Int => (Lit.int .i32 n).wf = true) := opn_int Try.underlying251
instance : Opn Try.prog 252 (fun n : Int => [.sc (.int .i32 n)]) (fun n : Int => (Lit.int .i32 n).wf = true) := opn_int Try.underlying252
instance : Opn Try.prog 114 sC spOk := ⟨fun {H en w base spare held fuel cs x} hsp h => by
  obtain ⟨xs, n, rfl, rfl, hl, hn, hf⟩ := DataW.trod_struct Try.underlying114 h
  have hn' : xs.length = 2 := hn
  obtain ⟨a0, c0, k0⟩ := fld_open (ft := 2) (o := 0) hsp (hf 0 _ rfl) (by omega)
  obtain ⟨a1, c1, k1⟩ := fld_open (ft := 2) (o := 1) hsp (hf 1 _ rfl) (by omega)
  exact ⟨Sp.mk a0 a1, (fl_cons c0 (fl_cons c1 (fl_nil (by rw [hl, Cel.h (P := Try.prog) (t := 114)]; exact Nat.le_refl _)))), ⟨k0, k1⟩⟩⟩
instance : Opn Try.prog 109 (fun l : List Sp => [.sl none 2 (l.map sC)]) (fun l : List Sp => l.length ≤ maxLen ∧ ∀ a, a ∈ l → spOk a) := opn_slice Try.underlying109 (fun _ => rfl) (by decide)
instance : Opn Try.prog 34 vC valOk := ⟨fun {H en w base spare held fuel cs x} hsp h => by
  obtain ⟨xs, n, rfl, rfl, hl, hn, hf⟩ := DataW.trod_struct Try.underlying34 h
  have hn' : xs.length = 3 := hn
  obtain ⟨a0, c0, k0⟩ := fld_open (ft := 3) (o := 0) hsp (hf 0 _ rfl) (by omega)
  obtain ⟨a1, c1, k1⟩ := fld_open (ft := 2) (o := 1) hsp (hf 1 _ rfl) (by omega)
  obtain ⟨a2, c2, k2⟩ := fld_open (ft := 9) (o := 2) hsp (hf 2 _ rfl) (by omega)
  exact ⟨Val.mk a0 a1 a2, (fl_cons c0 (fl_cons c1 (fl_cons c2 (fl_nil (by rw [hl, Cel.h (P := Try.prog) (t := 34)]; exact Nat.le_refl _))))), ⟨k0, k1, k2⟩⟩⟩
instance : Opn Try.prog 36 dC datOk := ⟨fun {H en w base spare held fuel cs x} hsp h => by
  obtain ⟨xs, n, rfl, rfl, hl, hn, hf⟩ := DataW.trod_struct Try.underlying36 h
  have hn' : xs.length = 7 := hn
  obtain ⟨a0, c0, k0⟩ := fld_open (ft := 2) (o := 0) hsp (hf 0 _ rfl) (by omega)
  obtain ⟨a1, c1, k1⟩ := fld_open (ft := 2) (o := 1) hsp (hf 1 _ rfl) (by omega)
  obtain ⟨a2, c2, k2⟩ := fld_open (ft := 34) (o := 2) hsp (hf 2 _ rfl) (by omega)
  obtain ⟨a3, c3, k3⟩ := fld_open (ft := 2) (o := 5) hsp (hf 3 _ rfl) (by omega)
  obtain ⟨a4, c4, k4⟩ := fld_open (ft := 4) (o := 6) hsp (hf 4 _ rfl) (by omega)
  obtain ⟨a5, c5, k5⟩ := fld_open (ft := 2) (o := 7) hsp (hf 5 _ rfl) (by omega)
  obtain ⟨a6, c6, k6⟩ := fld_open (ft := 2) (o := 8) hsp (hf 6 _ rfl) (by omega)
  exact ⟨Dat.mk a0 a1 a2 a3 a4 a5 a6, (fl_cons c0 (fl_cons c1 (fl_cons c2 (fl_cons c3 (fl_cons c4 (fl_cons c5 (fl_cons c6 (fl_nil (by rw [hl, Cel.h (P := Try.prog) (t := 36)]; exact Nat.le_refl _))))))))), ⟨k0, k1, k2, k3, k4, k5, k6⟩⟩⟩
instance : Opn Try.prog 22 (fun l : List Dat => [.sl none 9 (l.map dC)]) (fun l : List Dat => l.length ≤ maxLen ∧ ∀ a, a ∈ l → datOk a) := opn_slice Try.underlying22 (fun _ => rfl) (by decide)
end Go.Proofs

namespace Go.AL
structure BulkP (B : ∀ H : Type, DataW H → Nat) : Prop where
  str : ∀ (H : Type) (b : List UInt8), b.length ≤ B H (.lit (.string b))
  agg : ∀ (H : Type) (ps : List (DataW H)), (ps.map (B H)).sum ≤ B H (.agg ps)
  sl : ∀ (H : Type) (es sp : List (DataW H)), (es.map (B H)).sum ≤ B H (.slice es sp)
  one : ∀ (H : Type) (d : DataW H), 1 ≤ B H d
class OpnB (B : ∀ H : Type, DataW H → Nat) (P : Program) (t : TypeId) {α : outParam Type} (enc : outParam (α → List AV)) (ok : outParam (α → Prop)) (wt : outParam (α → Nat)) : Prop where
  h : ∀ {H : Type} {en : TypeId × Value → H} {w : World} {base : Nat} {spare : Nat → Bool} {held : Bool} {fuel : Nat} {cs : List Value} {x : DataW H × List MemPlace}, (∀ b, spare b = true) →
    DataW.trod en P w base spare held fuel t cs = some x → ∃ a, ConcL (Gh.all w) cs (enc a) ∧ ok a ∧ wt a ≤ B H x.1
section
variable {B : ∀ H : Type, DataW H → Nat} {P : Program}
theorem opnB_one {t : TypeId} {α : Type} {enc : α → List AV} {ok : α → Prop} (hB : BulkP B) (ho : Opn P t enc ok) : OpnB B P t enc ok (fun _ => 1) := ⟨fun {H en w base spare held fuel cs x} hsp h => by
  obtain ⟨a, h1, h2⟩ := ho.h hsp h
  exact ⟨a, h1, h2, hB.one _ _⟩⟩
theorem opnB_str {t : TypeId} (hB : BulkP B) (ht : P.underlying t = some .string) : OpnB B P t (α := List UInt8) (fun l => [str l]) (fun l => l.length ≤ maxLen) List.length := ⟨fun _ h => by
  obtain ⟨s, rfl, rfl, hs⟩ := DataW.trod_string ht h
  exact ⟨s.data.toList, .cons (conc_str s) (.nil _), hs, hB.str _ _⟩⟩
theorem sum_le {α : Type} {f g : α → Nat} : ∀ {l : List α}, (∀ a, a ∈ l → f a ≤ g a) → (l.map f).sum ≤ (l.map g).sum
  | [], _ => Nat.le_refl _
  | a :: l, h => by
    have h1 := h a List.mem_cons_self
    have h2 := sum_le (l := l) fun b hb => h b (List.mem_cons_of_mem _ hb)
    simp only [List.map_cons, List.sum_cons]; omega
theorem opnB_slice {t e : TypeId} {k : Nat} {α : Type} {enc : α → List AV} {ok : α → Prop} {wt : α → Nat} (hB : BulkP B) (ht : P.underlying t = some (.slice e)) (he : OpnB B P e enc ok wt) [hc : Cel P e k] (hk : ∀ a, (enc a).length = k) (hk0 : 0 < k) :
    OpnB B P t (α := List α) (fun l => [.sl none k (l.map enc)]) (fun l => l.length ≤ maxLen ∧ ∀ a, a ∈ l → ok a) (fun l => (l.map wt).sum) := ⟨fun {H en w base spare held fuel cs x} hsp h => by
  rcases Go.Deep.open_slice ht h with ⟨rfl, _⟩ | ⟨a, len, cap, m, n, D, Pl, rfl, hb, hl, hm, hmm, rfl, hx⟩
  · exact ⟨[], .cons (.slnil (fun t e => by cases e)) (.nil _), ⟨Nat.zero_le _, fun a h => by cases h⟩, Nat.zero_le _⟩
  · rw [hsp] at hmm
    simp only [if_true] at hmm
    subst hmm
    rw [hc.h] at hx
    have hex : ∀ i, i < m → ∃ y : α, (ok y ∧ wt y ≤ B H (D i)) ∧ ∃ cs', w.cells? base (a.add (i * k)) k = some cs' ∧ ConcL (Gh.all w) cs' (enc y) := fun i hi => by
      obtain ⟨cs', h1, h2⟩ := hx i hi
      obtain ⟨y, h3, h4, h5⟩ := he.h hsp h2
      exact ⟨y, ⟨h4, h5⟩, cs', h1, h3⟩
    rcases Nat.eq_zero_or_pos m with h0 | h0
    · have hl0 : len = 0 := by omega
      subst h0; subst hl0
      exact ⟨[], .cons .slz (.nil _), ⟨Nat.zero_le _, fun a h => by cases h⟩, Nat.zero_le _⟩
    have hspot : a.spot = none := by
      obtain ⟨y, _, cs', h1, h3⟩ := hex 0 h0
      obtain ⟨h4, h5⟩ := all_cell h1
      have := h5 0 (cs'[0]'(by omega)) (List.getElem?_eq_getElem (by omega))
      have := World.cell?_spot this
      simpa [Addr.add] using this
    have hne : Nonempty α := let ⟨y, _⟩ := hex 0 h0; ⟨y⟩
    let f : Nat → α := fun i => Classical.epsilon fun y => (ok y ∧ wt y ≤ B H (D i)) ∧ ∃ cs', w.cells? base (a.add (i * k)) k = some cs' ∧ ConcL (Gh.all w) cs' (enc y)
    have hf : ∀ i, i < m → (ok (f i) ∧ wt (f i) ≤ B H (D i)) ∧ ∃ cs', w.cells? base (a.add (i * k)) k = some cs' ∧ ConcL (Gh.all w) cs' (enc (f i)) := fun i hi => Classical.epsilon_spec (hex i hi)
    refine ⟨(List.range len).map f, .cons ?_ (.nil _), ⟨by simp; omega, fun y hy => ?_⟩, ?_⟩
    · obtain ⟨b, o, sp⟩ := a
      simp only at hspot
      subst hspot
      have hcell : ∀ i j, i < len → j < k → ∃ u, w.cell? ⟨b, o + i * k + j, none⟩ = some u ∧ ∀ x, (enc (f i))[j]? = some x → Conc (Gh.all w) u x := fun i j hi hj => by
        obtain ⟨_, cs', h1, h2⟩ := hf i (by omega)
        obtain ⟨h3, h4⟩ := all_cell h1
        have := h4 j (cs'[j]'(by omega)) (List.getElem?_eq_getElem (by omega))
        rw [add_none, add_none] at this
        exact ⟨_, this, fun x hx => h2.2 j _ x (List.getElem?_eq_getElem (by omega)) hx⟩
      have e1 : ((List.range len).map f |>.map enc).length = len := by simp
      have hgen : ∀ els : List (List AV), els = ((List.range len).map f).map enc → Conc (Gh.all w) (.slice (some ⟨b, o, none⟩) len m) (.sl none k els) := fun els hels => by
        have hlen : els.length = len := by rw [hels]; exact e1
        rw [← hlen]
        refine .sl (fun i j => (w.cell? ⟨b, o + i * k + j, none⟩).getD undef) (fun e he => ?_) (by omega) (fun i j hi hj => ?_) (fun i e j x he hx => ?_) (fun t e => by cases e)
        · rw [hels] at he
          obtain ⟨y, _, rfl⟩ := List.mem_map.1 he
          exact hk y
        · obtain ⟨u, h1, _⟩ := hcell i j (by omega) hj
          show w.cell? ⟨b, o + i * k + j, none⟩ = _
          rw [h1]; rfl
        · have hi : i < len := by rw [← hlen]; exact (List.getElem?_eq_some_iff.1 he).1
          rw [hels] at he
          simp [hi] at he
          subst he
          have hj : j < k := by rw [← hk (f i)]; exact (List.getElem?_eq_some_iff.1 hx).1
          obtain ⟨u, h1, h2⟩ := hcell i j hi hj
          rw [h1]; exact h2 x hx
      exact hgen _ rfl
    · obtain ⟨i, hi, rfl⟩ := List.mem_map.1 hy
      exact (hf i (by have := List.mem_range.1 hi; omega)).1.1
    · refine Nat.le_trans ?_ (hB.sl H _ _)
      rw [List.map_map, List.map_map]
      exact sum_le fun i hi => (hf i (by have := List.mem_range.1 hi; omega)).1.2⟩
theorem fld_openB {H : Type} {en : TypeId × Value → H} {w : World} {base : Nat} {spare : Nat → Bool} {held : Bool} {n o s i : Nat} {cs : List Value} {xs : List (DataW H × List MemPlace)} {ft : TypeId} {α : Type} {enc : α → List AV} {ok : α → Prop} {wt : α → Nat}
    (hsp : ∀ b, spare b = true) (hf : DataW.trod en P w base spare held n ft ((cs.drop o).take (P.cellsOf ft)) = xs[i]?) (hi : i < xs.length) (he : OpnB B P ft enc ok wt) [hc : Cel P ft s] : ∃ a, ConcL (Gh.all w) ((cs.drop o).take s) (enc a) ∧ ok a ∧ wt a ≤ B H (xs[i].1) := by
  rw [hc.h, List.getElem?_eq_getElem hi] at hf
  exact he.h hsp hf
theorem OpnB.arg {H : Type} {en : TypeId × Value → H} {w : World} {t : TypeId} {v : Value} {d : DataW H} {ps : List MemPlace} {base : Nat} {held : Bool} {α : Type} {enc : α → List AV} {ok : α → Prop} {wt : α → Nat} (ho : OpnB B P t enc ok wt) (h : DataW.Trod en P w base (fun _ => true) held t v d ps) :
    ∃ a, ConcL (Gh.all w) v.cells.toList (enc a) ∧ ok a ∧ wt a ≤ B H d := by
  obtain ⟨fuel, hf⟩ := h
  exact ho.h (fun _ => rfl) hf
end
end Go.AL
namespace Go.RowKit
open Go.ChangeShapes
section
variable {H : Type} {enc : TypeId × Value → H} {P : Program} {w : World} {base : Nat} {spare : Nat → Bool} {held : Bool}
end
end Go.RowKit

namespace Go.Proofs.Ytjojdiefnhbglaa
open Go.AL Go.RowKit
theorem bulk_one {H : Type} (d : DataW H) : 1 ≤ Rows.uptoBulk d := by
  cases d with
  | lit l => cases l <;> simp [Rows.uptoBulk]
  | nil => simp [Rows.uptoBulk]
  | ptr d => simp [Rows.uptoBulk]
  | slice elems spare => simp [Rows.uptoBulk]
  | agg parts => simp [Rows.uptoBulk]
  | iface t d => simp [Rows.uptoBulk]
  | map entries => simp [Rows.uptoBulk]
  | held h => simp [Rows.uptoBulk]
theorem bulk_part {H : Type} {d : DataW H} {l : List (DataW H)} (h : d ∈ l) : Rows.uptoBulk d ≤ Rows.uptoBulkAll l := by
  induction l with
  | nil => cases h
  | cons x r ih =>
    simp only [Rows.uptoBulkAll]
    rcases List.mem_cons.1 h with e | e
    · subst e; omega
    · have := ih e; omega
theorem bulk_sum {H : Type} (l : List (DataW H)) : (l.map Rows.uptoBulk).sum = Rows.uptoBulkAll l := by
  induction l with
  | nil => simp [Rows.uptoBulkAll]
  | cons x r ih => simp [Rows.uptoBulkAll, ih]
abbrev blk : ∀ H : Type, DataW H → Nat := fun _ d => Rows.uptoBulk d
theorem blk_ok : BulkP blk :=
  ⟨fun _ b => by simp [blk, Rows.uptoBulk], fun _ ps => by show (ps.map Rows.uptoBulk).sum ≤ Rows.uptoBulk _; rw [bulk_sum]; simp [Rows.uptoBulk],
   fun _ es sp => by show (es.map Rows.uptoBulk).sum ≤ Rows.uptoBulk _; rw [bulk_sum]; simp only [Rows.uptoBulk]; omega, fun _ d => bulk_one d⟩
abbrev wtD (d : Dat) : Nat := 1 + d.v.s.length
theorem bVal : OpnB blk Try.prog 34 vC valOk (fun v => 1 + v.s.length) := ⟨fun {H en w base spare held fuel cs x} hsp h => by
  obtain ⟨xs, n, rfl, rfl, hl, hn, hf⟩ := DataW.trod_struct Try.underlying34 h
  have hn' : xs.length = 3 := hn
  match xs, hn', hf with
  | [y0, y1, y2], _, hf =>
    obtain ⟨a0, c0, k0, q0⟩ := fld_openB (ft := 3) (o := 0) hsp (hf 0 _ rfl) (by show 0 < 3; omega) (opnB_one blk_ok inferInstance)
    obtain ⟨a1, c1, k1, q1⟩ := fld_openB (ft := 2) (o := 1) hsp (hf 1 _ rfl) (by show 1 < 3; omega) (opnB_one blk_ok inferInstance)
    obtain ⟨a2, c2, k2, q2⟩ := fld_openB (ft := 9) (o := 2) hsp (hf 2 _ rfl) (by show 2 < 3; omega) (opnB_str blk_ok Try.underlying9)
    have hs := blk_ok.agg H [y0.1, y1.1, y2.1]
    simp only [List.map_cons, List.map_nil, List.sum_cons, List.sum_nil] at hs
    have q0 : _ ≤ blk H y0.1 := q0
    have q1 : _ ≤ blk H y1.1 := q1
    have q2 : _ ≤ blk H y2.1 := q2
    exact ⟨Val.mk a0 a1 a2, (fl_cons c0 (fl_cons c1 (fl_cons c2 (fl_nil (by rw [hl, Cel.h (P := Try.prog) (t := 34)]; exact Nat.le_refl _))))), ⟨k0, k1, k2⟩, by simp only [List.map_cons, List.map_nil, wtD, wtF]; omega⟩⟩
theorem bDat : OpnB blk Try.prog 36 dC datOk (wtD) := ⟨fun {H en w base spare held fuel cs x} hsp h => by
  obtain ⟨xs, n, rfl, rfl, hl, hn, hf⟩ := DataW.trod_struct Try.underlying36 h
  have hn' : xs.length = 7 := hn
  match xs, hn', hf with
  | [y0, y1, y2, y3, y4, y5, y6], _, hf =>
    obtain ⟨a0, c0, k0, q0⟩ := fld_openB (ft := 2) (o := 0) hsp (hf 0 _ rfl) (by show 0 < 7; omega) (opnB_one blk_ok inferInstance)
    obtain ⟨a1, c1, k1, q1⟩ := fld_openB (ft := 2) (o := 1) hsp (hf 1 _ rfl) (by show 1 < 7; omega) (opnB_one blk_ok inferInstance)
    obtain ⟨a2, c2, k2, q2⟩ := fld_openB (ft := 34) (o := 2) hsp (hf 2 _ rfl) (by show 2 < 7; omega) bVal
    obtain ⟨a3, c3, k3, q3⟩ := fld_openB (ft := 2) (o := 5) hsp (hf 3 _ rfl) (by show 3 < 7; omega) (opnB_one blk_ok inferInstance)
    obtain ⟨a4, c4, k4, q4⟩ := fld_openB (ft := 4) (o := 6) hsp (hf 4 _ rfl) (by show 4 < 7; omega) (opnB_one blk_ok inferInstance)
    obtain ⟨a5, c5, k5, q5⟩ := fld_openB (ft := 2) (o := 7) hsp (hf 5 _ rfl) (by show 5 < 7; omega) (opnB_one blk_ok inferInstance)
    obtain ⟨a6, c6, k6, q6⟩ := fld_openB (ft := 2) (o := 8) hsp (hf 6 _ rfl) (by show 6 < 7; omega) (opnB_one blk_ok inferInstance)
    have hs := blk_ok.agg H [y0.1, y1.1, y2.1, y3.1, y4.1, y5.1, y6.1]
    simp only [List.map_cons, List.map_nil, List.sum_cons, List.sum_nil] at hs
    have q0 : _ ≤ blk H y0.1 := q0
    have q1 : _ ≤ blk H y1.1 := q1
    have q2 : _ ≤ blk H y2.1 := q2
    have q3 : _ ≤ blk H y3.1 := q3
    have q4 : _ ≤ blk H y4.1 := q4
    have q5 : _ ≤ blk H y5.1 := q5
    have q6 : _ ≤ blk H y6.1 := q6
    exact ⟨Dat.mk a0 a1 a2 a3 a4 a5 a6, (fl_cons c0 (fl_cons c1 (fl_cons c2 (fl_cons c3 (fl_cons c4 (fl_cons c5 (fl_cons c6 (fl_nil (by rw [hl, Cel.h (P := Try.prog) (t := 36)]; exact Nat.le_refl _))))))))), ⟨k0, k1, k2, k3, k4, k5, k6⟩, by simp only [List.map_cons, List.map_nil, wtD, wtF]; omega⟩⟩
theorem bDats : OpnB blk Try.prog 22 (fun l : List Dat => [.sl none 9 (l.map dC)]) (fun l : List Dat => l.length ≤ maxLen ∧ ∀ a, a ∈ l → datOk a) (fun l => (l.map wtD).sum) := opnB_slice blk_ok Try.underlying22 bDat (fun _ => rfl) (by decide)
end Go.Proofs.Ytjojdiefnhbglaa

namespace Go.Proofs.Ytjojdiefnhbglaa
open Go.AL
theorem i64_wf1 {n : Int} (h : (Lit.int .i64 n).wf = true) : i64P n := by
  have := i64_wf0 h
  unfold i64P; omega
theorem datI_of {d : Dat} (h : datOk d) : datI d := ⟨i64_wf1 h.1, i64_wf1 h.2.1, i64_wf1 h.2.2.1.2.1, i64_wf1 h.2.2.2.1, i64_wf1 h.2.2.2.2.2.1, i64_wf1 h.2.2.2.2.2.2⟩
end Go.Proofs.Ytjojdiefnhbglaa
