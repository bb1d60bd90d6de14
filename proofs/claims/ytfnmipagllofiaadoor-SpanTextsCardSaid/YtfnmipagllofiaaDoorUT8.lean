/- Contracts of spans' texts: what a text says, in the document; the statements. -/
import Derived.Test.YtfnmipagllofiaaDoorUT7
namespace Go.Proofs
open Go.AL
attribute [local irreducible] Go.AL.W Go.AL.WL Go.AL.WD Go.AL.POp Go.AL.PPOp Go.AL.POpS Go.AL.PC Go.AL.AC Go.AL.YW Go.AL.Ret Go.AL.Le Go.AL.thn Go.AL.inBlk Go.AL.scp
theorem drop_end {s r : List UInt8} {n : Nat} (h : ∃ t, s.drop n = t ++ r) : s.drop (s.length - r.length) = r ∧ r.length ≤ s.length - n := by
  obtain ⟨t, h⟩ := h
  have hl := congrArg List.length h
  rw [List.length_drop, List.length_append] at hl
  refine ⟨?_, by omega⟩
  have e : s.length - r.length = n + t.length ∨ (r = [] ∧ t = [] ∧ s.length ≤ n) := by
    by_cases hn : n ≤ s.length
    · left; omega
    · right
      have h1 : t.length = 0 := by omega
      have h2 : r.length = 0 := by omega
      exact ⟨List.length_eq_zero_iff.1 h2, List.length_eq_zero_iff.1 h1, by omega⟩
  rcases e with e | ⟨rfl, _, _⟩
  · rw [e, ← List.drop_drop, h, List.drop_left]
  · simp
theorem rnV_cases (s : List UInt8) (n : Nat) (c : UInt8) : ((rnV s n c) = (0, -1) ∧ (match cutA c (s.drop n) with | none => True | some p => numS p.1 = none)) ∨ ∃ t r x, cutA c (s.drop n) = some (t, r) ∧ numS t = some x ∧ rnV s n c = (x, ((s.length - r.length : Nat) : Int)) ∧ s.drop (s.length - r.length) = r ∧ n + t.length + 1 = s.length - r.length := by
  unfold rnV
  cases h : cutA c (s.drop n) with
  | none => exact .inl ⟨rfl, trivial⟩
  | some p =>
    obtain ⟨t, r⟩ := p
    simp only
    cases h2 : numS t with
    | none => exact .inl ⟨rfl, rfl⟩
    | some x =>
      right
      obtain ⟨e, _⟩ := cutA_some h
      obtain ⟨k1, k2⟩ := drop_end (s := s) (r := r) (n := n) ⟨t ++ [c], by rw [e]; simp⟩
      have hl := congrArg List.length e
      rw [List.length_drop, List.length_append, List.length_cons] at hl
      refine ⟨t, r, x, rfl, h2, ?_, k1, by omega⟩
      rw [show ((s.length : Int) - r.length) = ((s.length - r.length : Nat) : Int) by omega]
set_option maxHeartbeats 64000000 in
theorem rparse_pc [GlobF Tryd.prog] (s : List UInt8) (hs : s.length < 4294967281) : PC Tryd.prog 8 [str s] (.tu [sl2 (readL s), .sc (.int .i64 (readE s))]) := by
  by_cases hn : s = noneT
  · obtain ⟨r1, r2⟩ := read_yes (hn ▸ read_none)
    rw [r1, r2]
    refine PC.of_body Tryd.func8 Tryd.ntmps8 rfl rfl rfl ?_
    repeat' first
      | (apply p1 (hd := rfl); case hop => first | (apply D_move; rfl) | (apply D_assign; rfl) | (apply D_pickT; rfl; rfl) | (apply D_pickF; rfl; rfl) | (apply D_int; rfl; rfl; rfl) | (apply D_lenM; rfl) | (apply D_len_sl; rfl) | (apply D_len_str; rfl) | (apply D_str; rfl; rfl; rfl) | (apply D_ext; rfl; rfl) | (apply D_not; rfl) | (apply D_len_nil; rfl) | (apply D_idxSn; rfl; rfl; (first | omega | (simp; done))) | (apply D_idxS; rfl; rfl; omega; (first | omega | (simp; done) | (simp; omega))) | (apply D_lit; rfl; rfl; rfl; rfl) | exact D_build rfl | exact D_buildA rfl | (apply D_lenR; rfl))
      | refine W_seq ?_
      | refine W_region ?_
      | (refine idC ?_; first | refine c1 rfl ?_ | refine c0 rfl ?_ | refine cs rfl (fun _ => ?_) (fun _ => ?_))
      | refine WL_nil ?_
      | (refine idG ?_; first | refine g0t rfl rfl rfl ?_ | refine g0f rfl rfl rfl ?_ | refine g0u rfl rfl rfl ?_ | refine gr rfl rfl ?_ | refine gs rfl rfl (fun _ => ?_) (fun _ => ?_) | refine grn rfl rfl ?_)
      | refine tn ?_
      | refine tr ?_
      | refine br ?_
      | refine bn ?_
      | refine te ?_
      | (refine idB ?_; first | refine bh rfl ?_ | refine bm rfl ?_)
      | refine W_skip ?_
      | refine W_block ?_
      | refine W_exit ?_
      | refine W_ret ?_
      | refine W_label ?_
      | refine W_scope ?_
      | refine sn ?_
      | refine sr ?_
      | refine se ?_
      | (refine idR ?_; first | refine ret2 rfl rfl rfl rfl ?_ ?_ | refine rL2 rfl (by first | exact trivial | exact ⟨rfl, trivial⟩) (by first | exact ResO.tmp rfl | exact ResO.cellBA rfl rfl rfl | exact ResO.cellB1 rfl rfl rfl | exact ResO.cellEA rfl rfl | exact ResO.cellE1 rfl) (by first | exact ResO.tmp rfl | exact ResO.cellBA rfl rfl rfl | exact ResO.cellB1 rfl rfl rfl | exact ResO.cellEA rfl rfl | exact ResO.cellE1 rfl) ?_ ?_)
      | refine Le.bool ?_
      | refine Le.int ?_
      | refine Le.str ?_
      | (refine idAp ?_; refine m_app rfl rfl (by first | rfl | assumption | exact get_set (by assumption) | exact get_set (get_set (by assumption)) | exact get_set (get_set (get_set (by assumption))) | ((repeat first | assumption | exact get_last | (refine get_last2 ?_; focus (simp; done)) | apply get_set | apply get_app | (apply get_ne; focus omega)); done)) ?_ rfl rfl ?_ ?_ rfl ?_; (first | rfl | focus (simp only [List.length_map, List.length_append, List.length_cons, List.length_nil]; omega) | focus (simp; done) | focus (simp; omega)); (first | focus (simp only [List.length_map, List.length_append, List.length_cons, List.length_nil]; omega) | focus (simp; done) | focus (simp; omega)); (first | focus (simp only [List.length_map, List.length_append, List.length_cons, List.length_nil]; omega) | focus (simp; done) | focus (simp; omega)))
      | (refine idAp ?_; refine m_appB rfl rfl rfl (by first | rfl | assumption | exact get_set (by assumption) | exact get_set (get_set (by assumption)) | exact get_set (get_set (get_set (by assumption))) | ((repeat first | assumption | exact get_last | (refine get_last2 ?_; focus (simp; done)) | apply get_set | apply get_app | (apply get_ne; focus omega)); done)) ?_ rfl rfl ?_ ?_ rfl ?_; (first | rfl | focus (simp only [List.length_map, List.length_append, List.length_cons, List.length_nil]; omega) | focus (simp; done) | focus (simp; omega)); (first | focus (simp only [List.length_map, List.length_append, List.length_cons, List.length_nil]; omega) | focus (simp; done) | focus (simp; omega)); (first | focus (simp only [List.length_map, List.length_append, List.length_cons, List.length_nil]; omega) | focus (simp; done) | focus (simp; omega)))
    all_goals first | contradiction | exact Le.nil rfl | rfl | (rename_i h; exact absurd hn h) | skip
    all_goals trace_state
  have hn1 : Value.bool (sEq s noneT) = .bool false := by rw [(sEq_f _ _).mpr hn]
  refine PC.of_body Tryd.func8 Tryd.ntmps8 rfl rfl rfl ?_
  repeat' first
    | (apply p1 (hd := rfl); case hop => first | (apply D_move; rfl) | (apply D_assign; rfl) | exact D_sc (D_str rfl rfl rfl) hn1 | (apply D_pickT; rfl; rfl) | (apply D_pickF; rfl; rfl) | (apply D_int; rfl; rfl; rfl) | (apply D_lenM; rfl) | (apply D_len_sl; rfl) | (apply D_len_str; rfl) | (apply D_str; rfl; rfl; rfl) | (apply D_ext; rfl; rfl) | (apply D_not; rfl) | (apply D_len_nil; rfl) | (apply D_idxSn; rfl; rfl; (first | omega | (simp; done))) | (apply D_idxS; rfl; rfl; omega; (first | omega | (simp; done) | (simp; omega))) | (apply D_lit; rfl; rfl; rfl; rfl) | exact D_build rfl | exact D_buildA rfl | (apply D_lenR; rfl))
    | refine W_seq ?_
    | refine W_region ?_
    | (refine idC ?_; first | refine c1 rfl ?_ | refine c0 rfl ?_ | refine cs rfl (fun _ => ?_) (fun _ => ?_))
    | refine WL_nil ?_
    | (refine idG ?_; first | refine g0t rfl rfl rfl ?_ | refine g0f rfl rfl rfl ?_ | refine g0u rfl rfl rfl ?_ | refine gr rfl rfl ?_ | refine gs rfl rfl (fun _ => ?_) (fun _ => ?_) | refine grn rfl rfl ?_)
    | refine tn ?_
    | refine tr ?_
    | refine br ?_
    | refine bn ?_
    | refine te ?_
    | (refine idB ?_; first | refine bh rfl ?_ | refine bm rfl ?_)
    | refine W_skip ?_
    | refine W_block ?_
    | refine W_exit ?_
    | refine W_ret ?_
    | refine W_label ?_
    | refine W_scope ?_
    | refine sn ?_
    | refine sr ?_
    | refine se ?_
    | (refine idR ?_; first | refine ret2 rfl rfl rfl rfl ?_ ?_ | refine rL2 rfl (by first | exact trivial | exact ⟨rfl, trivial⟩) (by first | exact ResO.tmp rfl | exact ResO.cellBA rfl rfl rfl | exact ResO.cellB1 rfl rfl rfl | exact ResO.cellEA rfl rfl | exact ResO.cellE1 rfl) (by first | exact ResO.tmp rfl | exact ResO.cellBA rfl rfl rfl | exact ResO.cellB1 rfl rfl rfl | exact ResO.cellEA rfl rfl | exact ResO.cellE1 rfl) ?_ ?_)
    | refine Le.bool ?_
    | refine Le.int ?_
    | refine Le.str ?_
    | (refine idAp ?_; refine m_app rfl rfl (by first | rfl | assumption | exact get_set (by assumption) | exact get_set (get_set (by assumption)) | exact get_set (get_set (get_set (by assumption))) | ((repeat first | assumption | exact get_last | (refine get_last2 ?_; focus (simp; done)) | apply get_set | apply get_app | (apply get_ne; focus omega)); done)) ?_ rfl rfl ?_ ?_ rfl ?_; (first | rfl | focus (simp only [List.length_map, List.length_append, List.length_cons, List.length_nil]; omega) | focus (simp; done) | focus (simp; omega)); (first | focus (simp only [List.length_map, List.length_append, List.length_cons, List.length_nil]; omega) | focus (simp; done) | focus (simp; omega)); (first | focus (simp only [List.length_map, List.length_append, List.length_cons, List.length_nil]; omega) | focus (simp; done) | focus (simp; omega)))
    | (refine idAp ?_; refine m_appB rfl rfl rfl (by first | rfl | assumption | exact get_set (by assumption) | exact get_set (get_set (by assumption)) | exact get_set (get_set (get_set (by assumption))) | ((repeat first | assumption | exact get_last | (refine get_last2 ?_; focus (simp; done)) | apply get_set | apply get_app | (apply get_ne; focus omega)); done)) ?_ rfl rfl ?_ ?_ rfl ?_; (first | rfl | focus (simp only [List.length_map, List.length_append, List.length_cons, List.length_nil]; omega) | focus (simp; done) | focus (simp; omega)); (first | focus (simp only [List.length_map, List.length_append, List.length_cons, List.length_nil]; omega) | focus (simp; done) | focus (simp; omega)); (first | focus (simp only [List.length_map, List.length_append, List.length_cons, List.length_nil]; omega) | focus (simp; done) | focus (simp; omega)))
  refine W_adopt 4 2 38 rfl ?_
  refine W_loopL (X := List Sp × Nat) (fun x => [(0, str s), (4, .sl (some 0) 2 (x.1.map sC)), (5, .sc (.int .i64 (x.2 : Int)))]) (fun x => [.tail x.1.length 2 38])
    (fun x => x.2 ≤ s.length ∧ x.1.length ≤ x.2 ∧ LR s x.1 (s.drop x.2)) (fun x => s.length - x.2 + (if x.1 = [] then 1 else 0)) ([], 0) ⟨Nat.zero_le _, Nat.zero_le _, LR.init s⟩ ⟨rfl, by simp [lookO], rfl, trivial⟩ rfl ?_
  rintro ⟨acc, a⟩ ⟨ha, hal, hlr⟩
  simp only at ha hal hlr
  have hbad : readS s = none → (sl2 (readL s), AV.sc (.int .i64 (readE s))) = (sl2 [], AV.sc (.int .i64 30)) := fun h => by rw [(read_no h).1, (read_no h).2]
  by_cases hacc : acc = []
  · subst hacc
    have hr : s.drop a = if ([] : List Sp) = [] then s.drop a else 32 :: s.drop a := (if_pos rfl).symm
    have g9 : Value.bool (iEq (([] : List Sp).length : Int) 0) = .bool true := iqT rfl
    have g8 : Value.bool (iLt 0 (([] : List Sp).length : Int)) = .bool false := ltF (Int.le_refl _)
    by_cases h0 : a < s.length
    · have g0 : Value.bool (iLt (a : Int) (s.length : Int)) = .bool true := by rw [(iLt_t _ _).mpr (by omega)]
      have hat : a ≤ s.length := by omega
      by_cases h1 : a < s.length
      · have g1 : Value.bool (iLe (s.length : Int) ((a : Nat) : Int)) = .bool false := by rw [(iLe_f _ _).mpr (by omega)]
        by_cases h2 : s[a] = 91
        · have g2 : Value.bool (bNot (iEq (s[a].toNat : Int) 91)) = .bool false := nqT (by rw [h2]; rfl)
          have hd : s.drop (a) = 91 :: s.drop (a + 1) := by rw [List.drop_eq_getElem_cons h1, h2]
          have g3 : Value.int .i64 (IntKind.i64.wrap (((a : Nat) : Int) + 1)) = .int .i64 ((a + 1 : Nat) : Int) := by rw [w64 _ (by omega) (by omega)]; congr 1
          have n1 := rnumber_pc s (a + 1) 44 (by omega) hs
          rcases rnV_cases s (a + 1) 44 with ⟨v1, c1⟩ | ⟨t1, r2, x, c1, x1, v1, d1, k1⟩
          · rw [v1] at n1
            have g4 : Value.bool (iLt (-1) 0) = .bool true := ltT (by decide)
            have hb : readS s = none := hlr.bad hn (.inl rfl) (fun z hz m => by rw [hr, if_pos rfl, if_pos rfl]; rw [hd]; exact bad_one c1 z hz m)
            rw [(read_no hb).1, (read_no hb).2]
            repeat' first
              | (apply p1 (hd := rfl); case hop => first | (apply D_move; rfl) | (apply D_assign; rfl) | exact D_sc (D_int rfl rfl rfl) g0 | exact D_sc (D_int rfl rfl rfl) g8 | exact D_sc (D_int rfl rfl rfl) g9 | exact D_sc (D_int rfl rfl rfl) g1 | exact D_sc (D_int rfl rfl rfl) g2 | exact D_sc (D_int rfl rfl rfl) g3 | (apply D_pc n1; rfl; exact .same rfl (.same rfl (.same rfl .nil))) | exact D_sc (D_int rfl rfl rfl) g4 | (apply D_pickT; rfl; rfl) | (apply D_pickF; rfl; rfl) | (apply D_int; rfl; rfl; rfl) | (apply D_lenM; rfl) | (apply D_len_sl; rfl) | (apply D_len_str; rfl) | (apply D_str; rfl; rfl; rfl) | (apply D_ext; rfl; rfl) | (apply D_not; rfl) | (apply D_len_nil; rfl) | (apply D_idxSn; rfl; rfl; (first | omega | (simp; done))) | (apply D_idxS; rfl; rfl; omega; (first | omega | (simp; done) | (simp; omega))) | (apply D_lit; rfl; rfl; rfl; rfl) | exact D_build rfl | exact D_buildA rfl | (apply D_lenR; rfl))
              | refine W_seq ?_
              | refine W_region ?_
              | (refine idC ?_; first | refine c1 rfl ?_ | refine c0 rfl ?_ | refine cs rfl (fun _ => ?_) (fun _ => ?_))
              | refine WL_nil ?_
              | (refine idG ?_; first | refine g0t rfl rfl rfl ?_ | refine g0f rfl rfl rfl ?_ | refine g0u rfl rfl rfl ?_ | refine gr rfl rfl ?_ | refine gs rfl rfl (fun _ => ?_) (fun _ => ?_) | refine grn rfl rfl ?_)
              | refine tn ?_
              | refine tr ?_
              | refine br ?_
              | refine bn ?_
              | refine te ?_
              | (refine idB ?_; first | refine bh rfl ?_ | refine bm rfl ?_)
              | refine W_skip ?_
              | refine W_block ?_
              | refine W_exit ?_
              | refine W_ret ?_
              | refine W_label ?_
              | refine W_scope ?_
              | refine sn ?_
              | refine sr ?_
              | refine se ?_
              | (refine idR ?_; first | refine ret2 rfl rfl rfl rfl ?_ ?_ | refine rL2 rfl (by first | exact trivial | exact ⟨rfl, trivial⟩) (by first | exact ResO.tmp rfl | exact ResO.cellBA rfl rfl rfl | exact ResO.cellB1 rfl rfl rfl | exact ResO.cellEA rfl rfl | exact ResO.cellE1 rfl) (by first | exact ResO.tmp rfl | exact ResO.cellBA rfl rfl rfl | exact ResO.cellB1 rfl rfl rfl | exact ResO.cellEA rfl rfl | exact ResO.cellE1 rfl) ?_ ?_)
              | refine Le.bool ?_
              | refine Le.int ?_
              | refine Le.str ?_
              | (refine idAp ?_; refine m_app rfl rfl (by first | rfl | assumption | exact get_set (by assumption) | exact get_set (get_set (by assumption)) | exact get_set (get_set (get_set (by assumption))) | ((repeat first | assumption | exact get_last | (refine get_last2 ?_; focus (simp; done)) | apply get_set | apply get_app | (apply get_ne; focus omega)); done)) ?_ rfl rfl ?_ ?_ rfl ?_; (first | rfl | focus (simp only [List.length_map, List.length_append, List.length_cons, List.length_nil]; omega) | focus (simp; done) | focus (simp; omega)); (first | focus (simp only [List.length_map, List.length_append, List.length_cons, List.length_nil]; omega) | focus (simp; done) | focus (simp; omega)); (first | focus (simp only [List.length_map, List.length_append, List.length_cons, List.length_nil]; omega) | focus (simp; done) | focus (simp; omega)))
              | (refine idAp ?_; refine m_appB rfl rfl rfl (by first | rfl | assumption | exact get_set (by assumption) | exact get_set (get_set (by assumption)) | exact get_set (get_set (get_set (by assumption))) | ((repeat first | assumption | exact get_last | (refine get_last2 ?_; focus (simp; done)) | apply get_set | apply get_app | (apply get_ne; focus omega)); done)) ?_ rfl rfl ?_ ?_ rfl ?_; (first | rfl | focus (simp only [List.length_map, List.length_append, List.length_cons, List.length_nil]; omega) | focus (simp; done) | focus (simp; omega)); (first | focus (simp only [List.length_map, List.length_append, List.length_cons, List.length_nil]; omega) | focus (simp; done) | focus (simp; omega)); (first | focus (simp only [List.length_map, List.length_append, List.length_cons, List.length_nil]; omega) | focus (simp; done) | focus (simp; omega)))
            all_goals first | exact Le.nil rfl | rfl | contradiction | skip
            all_goals trace_state
          · rw [v1] at n1
            obtain ⟨e1, w1⟩ := cutA_some c1
            have g4 : Value.bool (iLt ((s.length - r2.length : Nat) : Int) 0) = .bool false := by rw [(iLt_f _ _).mpr (by omega)]
            have n2 := rnumber_pc s (s.length - r2.length) 41 (by omega) hs
            rcases rnV_cases s (s.length - r2.length) 41 with ⟨v2, c2⟩ | ⟨t2, r3, y, c2, y1, v2, d2, k2⟩
            · rw [v2] at n2
              rw [d1] at c2
              have g5 : Value.bool (iLt (-1) 0) = .bool true := ltT (by decide)
              have hb : readS s = none := hlr.bad hn (.inl rfl) (fun z hz m => by rw [hr, if_pos rfl, if_pos rfl]; rw [hd, e1]; exact bad_two w1 c2 z hz m)
              rw [(read_no hb).1, (read_no hb).2]
              repeat' first
                | (apply p1 (hd := rfl); case hop => first | (apply D_move; rfl) | (apply D_assign; rfl) | exact D_sc (D_int rfl rfl rfl) g0 | exact D_sc (D_int rfl rfl rfl) g8 | exact D_sc (D_int rfl rfl rfl) g9 | exact D_sc (D_int rfl rfl rfl) g1 | exact D_sc (D_int rfl rfl rfl) g2 | exact D_sc (D_int rfl rfl rfl) g3 | (apply D_pc n1; rfl; exact .same rfl (.same rfl (.same rfl .nil))) | exact D_sc (D_int rfl rfl rfl) g4 | (apply D_pc n2; rfl; exact .same rfl (.same rfl (.same rfl .nil))) | exact D_sc (D_int rfl rfl rfl) g5 | (apply D_pickT; rfl; rfl) | (apply D_pickF; rfl; rfl) | (apply D_int; rfl; rfl; rfl) | (apply D_lenM; rfl) | (apply D_len_sl; rfl) | (apply D_len_str; rfl) | (apply D_str; rfl; rfl; rfl) | (apply D_ext; rfl; rfl) | (apply D_not; rfl) | (apply D_len_nil; rfl) | (apply D_idxSn; rfl; rfl; (first | omega | (simp; done))) | (apply D_idxS; rfl; rfl; omega; (first | omega | (simp; done) | (simp; omega))) | (apply D_lit; rfl; rfl; rfl; rfl) | exact D_build rfl | exact D_buildA rfl | (apply D_lenR; rfl))
                | refine W_seq ?_
                | refine W_region ?_
                | (refine idC ?_; first | refine c1 rfl ?_ | refine c0 rfl ?_ | refine cs rfl (fun _ => ?_) (fun _ => ?_))
                | refine WL_nil ?_
                | (refine idG ?_; first | refine g0t rfl rfl rfl ?_ | refine g0f rfl rfl rfl ?_ | refine g0u rfl rfl rfl ?_ | refine gr rfl rfl ?_ | refine gs rfl rfl (fun _ => ?_) (fun _ => ?_) | refine grn rfl rfl ?_)
                | refine tn ?_
                | refine tr ?_
                | refine br ?_
                | refine bn ?_
                | refine te ?_
                | (refine idB ?_; first | refine bh rfl ?_ | refine bm rfl ?_)
                | refine W_skip ?_
                | refine W_block ?_
                | refine W_exit ?_
                | refine W_ret ?_
                | refine W_label ?_
                | refine W_scope ?_
                | refine sn ?_
                | refine sr ?_
                | refine se ?_
                | (refine idR ?_; first | refine ret2 rfl rfl rfl rfl ?_ ?_ | refine rL2 rfl (by first | exact trivial | exact ⟨rfl, trivial⟩) (by first | exact ResO.tmp rfl | exact ResO.cellBA rfl rfl rfl | exact ResO.cellB1 rfl rfl rfl | exact ResO.cellEA rfl rfl | exact ResO.cellE1 rfl) (by first | exact ResO.tmp rfl | exact ResO.cellBA rfl rfl rfl | exact ResO.cellB1 rfl rfl rfl | exact ResO.cellEA rfl rfl | exact ResO.cellE1 rfl) ?_ ?_)
                | refine Le.bool ?_
                | refine Le.int ?_
                | refine Le.str ?_
                | (refine idAp ?_; refine m_app rfl rfl (by first | rfl | assumption | exact get_set (by assumption) | exact get_set (get_set (by assumption)) | exact get_set (get_set (get_set (by assumption))) | ((repeat first | assumption | exact get_last | (refine get_last2 ?_; focus (simp; done)) | apply get_set | apply get_app | (apply get_ne; focus omega)); done)) ?_ rfl rfl ?_ ?_ rfl ?_; (first | rfl | focus (simp only [List.length_map, List.length_append, List.length_cons, List.length_nil]; omega) | focus (simp; done) | focus (simp; omega)); (first | focus (simp only [List.length_map, List.length_append, List.length_cons, List.length_nil]; omega) | focus (simp; done) | focus (simp; omega)); (first | focus (simp only [List.length_map, List.length_append, List.length_cons, List.length_nil]; omega) | focus (simp; done) | focus (simp; omega)))
                | (refine idAp ?_; refine m_appB rfl rfl rfl (by first | rfl | assumption | exact get_set (by assumption) | exact get_set (get_set (by assumption)) | exact get_set (get_set (get_set (by assumption))) | ((repeat first | assumption | exact get_last | (refine get_last2 ?_; focus (simp; done)) | apply get_set | apply get_app | (apply get_ne; focus omega)); done)) ?_ rfl rfl ?_ ?_ rfl ?_; (first | rfl | focus (simp only [List.length_map, List.length_append, List.length_cons, List.length_nil]; omega) | focus (simp; done) | focus (simp; omega)); (first | focus (simp only [List.length_map, List.length_append, List.length_cons, List.length_nil]; omega) | focus (simp; done) | focus (simp; omega)); (first | focus (simp only [List.length_map, List.length_append, List.length_cons, List.length_nil]; omega) | focus (simp; done) | focus (simp; omega)))
              all_goals first | exact Le.nil rfl | rfl | contradiction | skip
              all_goals trace_state
            · rw [v2] at n2
              rw [d1] at c2
              obtain ⟨e2, _⟩ := cutA_some c2
              have g5 : Value.bool (iLt ((s.length - r3.length : Nat) : Int) 0) = .bool false := by rw [(iLt_f _ _).mpr (by omega)]
              have hst := hlr.step hr (t1 := t1) (t2 := t2) (r3 := r3) (by rw [hd, e1, e2]) (numS_iff.1 x1) (numS_iff.1 y1)
              rw [← d2] at hst
              repeat' first
                | (apply p1 (hd := rfl); case hop => first | (apply D_move; rfl) | (apply D_assign; rfl) | exact D_sc (D_int rfl rfl rfl) g0 | exact D_sc (D_int rfl rfl rfl) g8 | exact D_sc (D_int rfl rfl rfl) g9 | exact D_sc (D_int rfl rfl rfl) g1 | exact D_sc (D_int rfl rfl rfl) g2 | exact D_sc (D_int rfl rfl rfl) g3 | (apply D_pc n1; rfl; exact .same rfl (.same rfl (.same rfl .nil))) | exact D_sc (D_int rfl rfl rfl) g4 | (apply D_pc n2; rfl; exact .same rfl (.same rfl (.same rfl .nil))) | exact D_sc (D_int rfl rfl rfl) g5 | (apply D_pickT; rfl; rfl) | (apply D_pickF; rfl; rfl) | (apply D_int; rfl; rfl; rfl) | (apply D_lenM; rfl) | (apply D_len_sl; rfl) | (apply D_len_str; rfl) | (apply D_str; rfl; rfl; rfl) | (apply D_ext; rfl; rfl) | (apply D_not; rfl) | (apply D_len_nil; rfl) | (apply D_idxSn; rfl; rfl; (first | omega | (simp; done))) | (apply D_idxS; rfl; rfl; omega; (first | omega | (simp; done) | (simp; omega))) | (apply D_lit; rfl; rfl; rfl; rfl) | exact D_build rfl | exact D_buildA rfl | (apply D_lenR; rfl))
                | refine W_seq ?_
                | refine W_region ?_
                | (refine idC ?_; first | refine c1 rfl ?_ | refine c0 rfl ?_ | refine cs rfl (fun _ => ?_) (fun _ => ?_))
                | refine WL_nil ?_
                | (refine idG ?_; first | refine g0t rfl rfl rfl ?_ | refine g0f rfl rfl rfl ?_ | refine g0u rfl rfl rfl ?_ | refine gr rfl rfl ?_ | refine gs rfl rfl (fun _ => ?_) (fun _ => ?_) | refine grn rfl rfl ?_)
                | refine tn ?_
                | refine tr ?_
                | refine br ?_
                | refine bn ?_
                | refine te ?_
                | (refine idB ?_; first | refine bh rfl ?_ | refine bm rfl ?_)
                | refine W_skip ?_
                | refine W_block ?_
                | refine W_exit ?_
                | refine W_ret ?_
                | refine W_label ?_
                | refine W_scope ?_
                | refine sn ?_
                | refine sr ?_
                | refine se ?_
                | (refine idR ?_; first | refine ret2 rfl rfl rfl rfl ?_ ?_ | refine rL2 rfl (by first | exact trivial | exact ⟨rfl, trivial⟩) (by first | exact ResO.tmp rfl | exact ResO.cellBA rfl rfl rfl | exact ResO.cellB1 rfl rfl rfl | exact ResO.cellEA rfl rfl | exact ResO.cellE1 rfl) (by first | exact ResO.tmp rfl | exact ResO.cellBA rfl rfl rfl | exact ResO.cellB1 rfl rfl rfl | exact ResO.cellEA rfl rfl | exact ResO.cellE1 rfl) ?_ ?_)
                | refine Le.bool ?_
                | refine Le.int ?_
                | refine Le.str ?_
                | (refine idAp ?_; refine m_app rfl rfl (by first | rfl | assumption | exact get_set (by assumption) | exact get_set (get_set (by assumption)) | exact get_set (get_set (get_set (by assumption))) | ((repeat first | assumption | exact get_last | (refine get_last2 ?_; focus (simp; done)) | apply get_set | apply get_app | (apply get_ne; focus omega)); done)) ?_ rfl rfl ?_ ?_ rfl ?_; (first | rfl | focus (simp only [List.length_map, List.length_append, List.length_cons, List.length_nil]; omega) | focus (simp; done) | focus (simp; omega)); (first | focus (simp only [List.length_map, List.length_append, List.length_cons, List.length_nil]; omega) | focus (simp; done) | focus (simp; omega)); (first | focus (simp only [List.length_map, List.length_append, List.length_cons, List.length_nil]; omega) | focus (simp; done) | focus (simp; omega)))
                | (refine idAp ?_; refine m_appB rfl rfl rfl (by first | rfl | assumption | exact get_set (by assumption) | exact get_set (get_set (by assumption)) | exact get_set (get_set (get_set (by assumption))) | ((repeat first | assumption | exact get_last | (refine get_last2 ?_; focus (simp; done)) | apply get_set | apply get_app | (apply get_ne; focus omega)); done)) ?_ rfl rfl ?_ ?_ rfl ?_; (first | rfl | focus (simp only [List.length_map, List.length_append, List.length_cons, List.length_nil]; omega) | focus (simp; done) | focus (simp; omega)); (first | focus (simp only [List.length_map, List.length_append, List.length_cons, List.length_nil]; omega) | focus (simp; done) | focus (simp; omega)); (first | focus (simp only [List.length_map, List.length_append, List.length_cons, List.length_nil]; omega) | focus (simp; done) | focus (simp; omega)))
              all_goals first | contradiction | exact ⟨rfl, ([] ++ [⟨x, y⟩], s.length - r3.length), ⟨by simp only; omega, by simp; omega, hst⟩, by simp; omega, ⟨rfl, by rw [List.map_append]; rfl, rfl, trivial⟩, by simp⟩
        · have g2 : Value.bool (bNot (iEq (s[a].toNat : Int) 91)) = .bool true := nqF (fun e => h2 (UInt8.toNat_inj.1 (by show s[a].toNat = 91; omega)))
          have hb : readS s = none := hlr.bad hn (.inl rfl) (fun z hz m => by rw [hr, if_pos rfl, if_pos rfl]; exact bad_head (by rw [List.drop_eq_getElem_cons h1, List.head?_cons]; intro e; exact h2 (Option.some.inj e)) z m)
          rw [(read_no hb).1, (read_no hb).2]
          repeat' first
            | (apply p1 (hd := rfl); case hop => first | (apply D_move; rfl) | (apply D_assign; rfl) | exact D_sc (D_int rfl rfl rfl) g0 | exact D_sc (D_int rfl rfl rfl) g8 | exact D_sc (D_int rfl rfl rfl) g9 | exact D_sc (D_int rfl rfl rfl) g1 | exact D_sc (D_int rfl rfl rfl) g2 | (apply D_pickT; rfl; rfl) | (apply D_pickF; rfl; rfl) | (apply D_int; rfl; rfl; rfl) | (apply D_lenM; rfl) | (apply D_len_sl; rfl) | (apply D_len_str; rfl) | (apply D_str; rfl; rfl; rfl) | (apply D_ext; rfl; rfl) | (apply D_not; rfl) | (apply D_len_nil; rfl) | (apply D_idxSn; rfl; rfl; (first | omega | (simp; done))) | (apply D_idxS; rfl; rfl; omega; (first | omega | (simp; done) | (simp; omega))) | (apply D_lit; rfl; rfl; rfl; rfl) | exact D_build rfl | exact D_buildA rfl | (apply D_lenR; rfl))
            | refine W_seq ?_
            | refine W_region ?_
            | (refine idC ?_; first | refine c1 rfl ?_ | refine c0 rfl ?_ | refine cs rfl (fun _ => ?_) (fun _ => ?_))
            | refine WL_nil ?_
            | (refine idG ?_; first | refine g0t rfl rfl rfl ?_ | refine g0f rfl rfl rfl ?_ | refine g0u rfl rfl rfl ?_ | refine gr rfl rfl ?_ | refine gs rfl rfl (fun _ => ?_) (fun _ => ?_) | refine grn rfl rfl ?_)
            | refine tn ?_
            | refine tr ?_
            | refine br ?_
            | refine bn ?_
            | refine te ?_
            | (refine idB ?_; first | refine bh rfl ?_ | refine bm rfl ?_)
            | refine W_skip ?_
            | refine W_block ?_
            | refine W_exit ?_
            | refine W_ret ?_
            | refine W_label ?_
            | refine W_scope ?_
            | refine sn ?_
            | refine sr ?_
            | refine se ?_
            | (refine idR ?_; first | refine ret2 rfl rfl rfl rfl ?_ ?_ | refine rL2 rfl (by first | exact trivial | exact ⟨rfl, trivial⟩) (by first | exact ResO.tmp rfl | exact ResO.cellBA rfl rfl rfl | exact ResO.cellB1 rfl rfl rfl | exact ResO.cellEA rfl rfl | exact ResO.cellE1 rfl) (by first | exact ResO.tmp rfl | exact ResO.cellBA rfl rfl rfl | exact ResO.cellB1 rfl rfl rfl | exact ResO.cellEA rfl rfl | exact ResO.cellE1 rfl) ?_ ?_)
            | refine Le.bool ?_
            | refine Le.int ?_
            | refine Le.str ?_
            | (refine idAp ?_; refine m_app rfl rfl (by first | rfl | assumption | exact get_set (by assumption) | exact get_set (get_set (by assumption)) | exact get_set (get_set (get_set (by assumption))) | ((repeat first | assumption | exact get_last | (refine get_last2 ?_; focus (simp; done)) | apply get_set | apply get_app | (apply get_ne; focus omega)); done)) ?_ rfl rfl ?_ ?_ rfl ?_; (first | rfl | focus (simp only [List.length_map, List.length_append, List.length_cons, List.length_nil]; omega) | focus (simp; done) | focus (simp; omega)); (first | focus (simp only [List.length_map, List.length_append, List.length_cons, List.length_nil]; omega) | focus (simp; done) | focus (simp; omega)); (first | focus (simp only [List.length_map, List.length_append, List.length_cons, List.length_nil]; omega) | focus (simp; done) | focus (simp; omega)))
            | (refine idAp ?_; refine m_appB rfl rfl rfl (by first | rfl | assumption | exact get_set (by assumption) | exact get_set (get_set (by assumption)) | exact get_set (get_set (get_set (by assumption))) | ((repeat first | assumption | exact get_last | (refine get_last2 ?_; focus (simp; done)) | apply get_set | apply get_app | (apply get_ne; focus omega)); done)) ?_ rfl rfl ?_ ?_ rfl ?_; (first | rfl | focus (simp only [List.length_map, List.length_append, List.length_cons, List.length_nil]; omega) | focus (simp; done) | focus (simp; omega)); (first | focus (simp only [List.length_map, List.length_append, List.length_cons, List.length_nil]; omega) | focus (simp; done) | focus (simp; omega)); (first | focus (simp only [List.length_map, List.length_append, List.length_cons, List.length_nil]; omega) | focus (simp; done) | focus (simp; omega)))
          all_goals first | exact Le.nil rfl | rfl | contradiction | skip
          all_goals trace_state
      · have g1 : Value.bool (iLe (s.length : Int) ((a : Nat) : Int)) = .bool true := by rw [(iLe_t _ _).mpr (by omega)]
        have hb : readS s = none := hlr.bad hn (.inl rfl) (fun z hz m => by rw [hr, if_pos rfl, if_pos rfl]; exact bad_head (by rw [List.drop_eq_nil_of_le (by omega)]; simp) z m)
        rw [(read_no hb).1, (read_no hb).2]
        repeat' first
          | (apply p1 (hd := rfl); case hop => first | (apply D_move; rfl) | (apply D_assign; rfl) | exact D_sc (D_int rfl rfl rfl) g0 | exact D_sc (D_int rfl rfl rfl) g8 | exact D_sc (D_int rfl rfl rfl) g9 | exact D_sc (D_int rfl rfl rfl) g1 | (apply D_pickT; rfl; rfl) | (apply D_pickF; rfl; rfl) | (apply D_int; rfl; rfl; rfl) | (apply D_lenM; rfl) | (apply D_len_sl; rfl) | (apply D_len_str; rfl) | (apply D_str; rfl; rfl; rfl) | (apply D_ext; rfl; rfl) | (apply D_not; rfl) | (apply D_len_nil; rfl) | (apply D_idxSn; rfl; rfl; (first | omega | (simp; done))) | (apply D_idxS; rfl; rfl; omega; (first | omega | (simp; done) | (simp; omega))) | (apply D_lit; rfl; rfl; rfl; rfl) | exact D_build rfl | exact D_buildA rfl | (apply D_lenR; rfl))
          | refine W_seq ?_
          | refine W_region ?_
          | (refine idC ?_; first | refine c1 rfl ?_ | refine c0 rfl ?_ | refine cs rfl (fun _ => ?_) (fun _ => ?_))
          | refine WL_nil ?_
          | (refine idG ?_; first | refine g0t rfl rfl rfl ?_ | refine g0f rfl rfl rfl ?_ | refine g0u rfl rfl rfl ?_ | refine gr rfl rfl ?_ | refine gs rfl rfl (fun _ => ?_) (fun _ => ?_) | refine grn rfl rfl ?_)
          | refine tn ?_
          | refine tr ?_
          | refine br ?_
          | refine bn ?_
          | refine te ?_
          | (refine idB ?_; first | refine bh rfl ?_ | refine bm rfl ?_)
          | refine W_skip ?_
          | refine W_block ?_
          | refine W_exit ?_
          | refine W_ret ?_
          | refine W_label ?_
          | refine W_scope ?_
          | refine sn ?_
          | refine sr ?_
          | refine se ?_
          | (refine idR ?_; first | refine ret2 rfl rfl rfl rfl ?_ ?_ | refine rL2 rfl (by first | exact trivial | exact ⟨rfl, trivial⟩) (by first | exact ResO.tmp rfl | exact ResO.cellBA rfl rfl rfl | exact ResO.cellB1 rfl rfl rfl | exact ResO.cellEA rfl rfl | exact ResO.cellE1 rfl) (by first | exact ResO.tmp rfl | exact ResO.cellBA rfl rfl rfl | exact ResO.cellB1 rfl rfl rfl | exact ResO.cellEA rfl rfl | exact ResO.cellE1 rfl) ?_ ?_)
          | refine Le.bool ?_
          | refine Le.int ?_
          | refine Le.str ?_
          | (refine idAp ?_; refine m_app rfl rfl (by first | rfl | assumption | exact get_set (by assumption) | exact get_set (get_set (by assumption)) | exact get_set (get_set (get_set (by assumption))) | ((repeat first | assumption | exact get_last | (refine get_last2 ?_; focus (simp; done)) | apply get_set | apply get_app | (apply get_ne; focus omega)); done)) ?_ rfl rfl ?_ ?_ rfl ?_; (first | rfl | focus (simp only [List.length_map, List.length_append, List.length_cons, List.length_nil]; omega) | focus (simp; done) | focus (simp; omega)); (first | focus (simp only [List.length_map, List.length_append, List.length_cons, List.length_nil]; omega) | focus (simp; done) | focus (simp; omega)); (first | focus (simp only [List.length_map, List.length_append, List.length_cons, List.length_nil]; omega) | focus (simp; done) | focus (simp; omega)))
          | (refine idAp ?_; refine m_appB rfl rfl rfl (by first | rfl | assumption | exact get_set (by assumption) | exact get_set (get_set (by assumption)) | exact get_set (get_set (get_set (by assumption))) | ((repeat first | assumption | exact get_last | (refine get_last2 ?_; focus (simp; done)) | apply get_set | apply get_app | (apply get_ne; focus omega)); done)) ?_ rfl rfl ?_ ?_ rfl ?_; (first | rfl | focus (simp only [List.length_map, List.length_append, List.length_cons, List.length_nil]; omega) | focus (simp; done) | focus (simp; omega)); (first | focus (simp only [List.length_map, List.length_append, List.length_cons, List.length_nil]; omega) | focus (simp; done) | focus (simp; omega)); (first | focus (simp only [List.length_map, List.length_append, List.length_cons, List.length_nil]; omega) | focus (simp; done) | focus (simp; omega)))
        all_goals first | exact Le.nil rfl | rfl | contradiction | skip
        all_goals trace_state
    · have g0 : Value.bool (iLt (a : Int) (s.length : Int)) = .bool false := by rw [(iLt_f _ _).mpr (by omega)]
      have g1 : Value.bool (iLe (s.length : Int) (a : Int)) = .bool true := by rw [(iLe_t _ _).mpr (by omega)]
      have hb : readS s = none := hlr.bad hn (.inl rfl) (fun z hz m => by rw [if_pos rfl, List.drop_eq_nil_of_le (by omega)]; exact bad_head (by simp) z m)
      rw [(read_no hb).1, (read_no hb).2]
      repeat' first
        | (apply p1 (hd := rfl); case hop => first | (apply D_move; rfl) | (apply D_assign; rfl) | exact D_sc (D_int rfl rfl rfl) g0 | exact D_sc (D_int rfl rfl rfl) g8 | exact D_sc (D_int rfl rfl rfl) g9 | exact D_sc (D_int rfl rfl rfl) g1 | (apply D_pickT; rfl; rfl) | (apply D_pickF; rfl; rfl) | (apply D_int; rfl; rfl; rfl) | (apply D_lenM; rfl) | (apply D_len_sl; rfl) | (apply D_len_str; rfl) | (apply D_str; rfl; rfl; rfl) | (apply D_ext; rfl; rfl) | (apply D_not; rfl) | (apply D_len_nil; rfl) | (apply D_idxSn; rfl; rfl; (first | omega | (simp; done))) | (apply D_idxS; rfl; rfl; omega; (first | omega | (simp; done) | (simp; omega))) | (apply D_lit; rfl; rfl; rfl; rfl) | exact D_build rfl | exact D_buildA rfl | (apply D_lenR; rfl))
        | refine W_seq ?_
        | refine W_region ?_
        | (refine idC ?_; first | refine c1 rfl ?_ | refine c0 rfl ?_ | refine cs rfl (fun _ => ?_) (fun _ => ?_))
        | refine WL_nil ?_
        | (refine idG ?_; first | refine g0t rfl rfl rfl ?_ | refine g0f rfl rfl rfl ?_ | refine g0u rfl rfl rfl ?_ | refine gr rfl rfl ?_ | refine gs rfl rfl (fun _ => ?_) (fun _ => ?_) | refine grn rfl rfl ?_)
        | refine tn ?_
        | refine tr ?_
        | refine br ?_
        | refine bn ?_
        | refine te ?_
        | (refine idB ?_; first | refine bh rfl ?_ | refine bm rfl ?_)
        | refine W_skip ?_
        | refine W_block ?_
        | refine W_exit ?_
        | refine W_ret ?_
        | refine W_label ?_
        | refine W_scope ?_
        | refine sn ?_
        | refine sr ?_
        | refine se ?_
        | (refine idR ?_; first | refine ret2 rfl rfl rfl rfl ?_ ?_ | refine rL2 rfl (by first | exact trivial | exact ⟨rfl, trivial⟩) (by first | exact ResO.tmp rfl | exact ResO.cellBA rfl rfl rfl | exact ResO.cellB1 rfl rfl rfl | exact ResO.cellEA rfl rfl | exact ResO.cellE1 rfl) (by first | exact ResO.tmp rfl | exact ResO.cellBA rfl rfl rfl | exact ResO.cellB1 rfl rfl rfl | exact ResO.cellEA rfl rfl | exact ResO.cellE1 rfl) ?_ ?_)
        | refine Le.bool ?_
        | refine Le.int ?_
        | refine Le.str ?_
        | (refine idAp ?_; refine m_app rfl rfl (by first | rfl | assumption | exact get_set (by assumption) | exact get_set (get_set (by assumption)) | exact get_set (get_set (get_set (by assumption))) | ((repeat first | assumption | exact get_last | (refine get_last2 ?_; focus (simp; done)) | apply get_set | apply get_app | (apply get_ne; focus omega)); done)) ?_ rfl rfl ?_ ?_ rfl ?_; (first | rfl | focus (simp only [List.length_map, List.length_append, List.length_cons, List.length_nil]; omega) | focus (simp; done) | focus (simp; omega)); (first | focus (simp only [List.length_map, List.length_append, List.length_cons, List.length_nil]; omega) | focus (simp; done) | focus (simp; omega)); (first | focus (simp only [List.length_map, List.length_append, List.length_cons, List.length_nil]; omega) | focus (simp; done) | focus (simp; omega)))
        | (refine idAp ?_; refine m_appB rfl rfl rfl (by first | rfl | assumption | exact get_set (by assumption) | exact get_set (get_set (by assumption)) | exact get_set (get_set (get_set (by assumption))) | ((repeat first | assumption | exact get_last | (refine get_last2 ?_; focus (simp; done)) | apply get_set | apply get_app | (apply get_ne; focus omega)); done)) ?_ rfl rfl ?_ ?_ rfl ?_; (first | rfl | focus (simp only [List.length_map, List.length_append, List.length_cons, List.length_nil]; omega) | focus (simp; done) | focus (simp; omega)); (first | focus (simp only [List.length_map, List.length_append, List.length_cons, List.length_nil]; omega) | focus (simp; done) | focus (simp; omega)); (first | focus (simp only [List.length_map, List.length_append, List.length_cons, List.length_nil]; omega) | focus (simp; done) | focus (simp; omega)))
      all_goals first | exact Le.nil rfl | rfl | contradiction | skip
      all_goals trace_state
  · have hap : 0 < acc.length := List.length_pos_iff.2 hacc
    have g9 : Value.bool (iEq (acc.length : Int) 0) = .bool false := by rw [(iEq_f _ _).mpr (by omega)]
    have g8 : Value.bool (iLt 0 (acc.length : Int)) = .bool true := by rw [(iLt_t _ _).mpr (by omega)]
    by_cases h0 : a < s.length
    · have g0 : Value.bool (iLt (a : Int) (s.length : Int)) = .bool true := by rw [(iLt_t _ _).mpr (by omega)]
      by_cases h32 : s[a] = 32
      · have g7 : Value.bool (bNot (iEq (s[a].toNat : Int) 32)) = .bool false := nqT (by rw [h32]; rfl)
        have g6 : Value.int .i64 (IntKind.i64.wrap ((a : Int) + 1)) = .int .i64 ((a + 1 : Nat) : Int) := by rw [w64 _ (by omega) (by omega)]; congr 1
        have hr : s.drop a = if acc = [] then s.drop (a + 1) else 32 :: s.drop (a + 1) := by rw [if_neg hacc, List.drop_eq_getElem_cons h0, h32]
        have hat : a + 1 ≤ s.length := by omega
        by_cases h1 : a + 1 < s.length
        · have g1 : Value.bool (iLe (s.length : Int) ((a + 1 : Nat) : Int)) = .bool false := by rw [(iLe_f _ _).mpr (by omega)]
          by_cases h2 : s[a + 1] = 91
          · have g2 : Value.bool (bNot (iEq (s[a + 1].toNat : Int) 91)) = .bool false := nqT (by rw [h2]; rfl)
            have hd : s.drop (a + 1) = 91 :: s.drop (a + 1 + 1) := by rw [List.drop_eq_getElem_cons h1, h2]
            have g3 : Value.int .i64 (IntKind.i64.wrap (((a + 1 : Nat) : Int) + 1)) = .int .i64 ((a + 1 + 1 : Nat) : Int) := by rw [w64 _ (by omega) (by omega)]; congr 1
            have n1 := rnumber_pc s (a + 1 + 1) 44 (by omega) hs
            rcases rnV_cases s (a + 1 + 1) 44 with ⟨v1, c1⟩ | ⟨t1, r2, x, c1, x1, v1, d1, k1⟩
            · rw [v1] at n1
              have g4 : Value.bool (iLt (-1) 0) = .bool true := ltT (by decide)
              have hb : readS s = none := hlr.bad hn (.inr (by rw [hr, if_neg hacc]; simp)) (fun z hz m => by rw [hr, if_neg hacc, if_neg hacc]; intro e; refine absurd (List.cons.inj e).2 ?_; rw [hd]; exact bad_one c1 z hz m)
              rw [(read_no hb).1, (read_no hb).2]
              repeat' first
                | (apply p1 (hd := rfl); case hop => first | (apply D_move; rfl) | (apply D_assign; rfl) | exact D_sc (D_int rfl rfl rfl) g0 | exact D_sc (D_int rfl rfl rfl) g8 | exact D_sc (D_int rfl rfl rfl) g9 | exact D_sc (D_int rfl rfl rfl) g7 | exact D_sc (D_int rfl rfl rfl) g6 | exact D_sc (D_int rfl rfl rfl) g1 | exact D_sc (D_int rfl rfl rfl) g2 | exact D_sc (D_int rfl rfl rfl) g3 | (apply D_pc n1; rfl; exact .same rfl (.same rfl (.same rfl .nil))) | exact D_sc (D_int rfl rfl rfl) g4 | (apply D_pickT; rfl; rfl) | (apply D_pickF; rfl; rfl) | (apply D_int; rfl; rfl; rfl) | (apply D_lenM; rfl) | (apply D_len_sl; rfl) | (apply D_len_str; rfl) | (apply D_str; rfl; rfl; rfl) | (apply D_ext; rfl; rfl) | (apply D_not; rfl) | (apply D_len_nil; rfl) | (apply D_idxSn; rfl; rfl; (first | omega | (simp; done))) | (apply D_idxS; rfl; rfl; omega; (first | omega | (simp; done) | (simp; omega))) | (apply D_lit; rfl; rfl; rfl; rfl) | exact D_build rfl | exact D_buildA rfl | (apply D_lenR; rfl))
                | refine W_seq ?_
                | refine W_region ?_
                | (refine idC ?_; first | refine c1 rfl ?_ | refine c0 rfl ?_ | refine cs rfl (fun _ => ?_) (fun _ => ?_))
                | refine WL_nil ?_
                | (refine idG ?_; first | refine g0t rfl rfl rfl ?_ | refine g0f rfl rfl rfl ?_ | refine g0u rfl rfl rfl ?_ | refine gr rfl rfl ?_ | refine gs rfl rfl (fun _ => ?_) (fun _ => ?_) | refine grn rfl rfl ?_)
                | refine tn ?_
                | refine tr ?_
                | refine br ?_
                | refine bn ?_
                | refine te ?_
                | (refine idB ?_; first | refine bh rfl ?_ | refine bm rfl ?_)
                | refine W_skip ?_
                | refine W_block ?_
                | refine W_exit ?_
                | refine W_ret ?_
                | refine W_label ?_
                | refine W_scope ?_
                | refine sn ?_
                | refine sr ?_
                | refine se ?_
                | (refine idR ?_; first | refine ret2 rfl rfl rfl rfl ?_ ?_ | refine rL2 rfl (by first | exact trivial | exact ⟨rfl, trivial⟩) (by first | exact ResO.tmp rfl | exact ResO.cellBA rfl rfl rfl | exact ResO.cellB1 rfl rfl rfl | exact ResO.cellEA rfl rfl | exact ResO.cellE1 rfl) (by first | exact ResO.tmp rfl | exact ResO.cellBA rfl rfl rfl | exact ResO.cellB1 rfl rfl rfl | exact ResO.cellEA rfl rfl | exact ResO.cellE1 rfl) ?_ ?_)
                | refine Le.bool ?_
                | refine Le.int ?_
                | refine Le.str ?_
                | (refine idAp ?_; refine m_app rfl rfl (by first | rfl | assumption | exact get_set (by assumption) | exact get_set (get_set (by assumption)) | exact get_set (get_set (get_set (by assumption))) | ((repeat first | assumption | exact get_last | (refine get_last2 ?_; focus (simp; done)) | apply get_set | apply get_app | (apply get_ne; focus omega)); done)) ?_ rfl rfl ?_ ?_ rfl ?_; (first | rfl | focus (simp only [List.length_map, List.length_append, List.length_cons, List.length_nil]; omega) | focus (simp; done) | focus (simp; omega)); (first | focus (simp only [List.length_map, List.length_append, List.length_cons, List.length_nil]; omega) | focus (simp; done) | focus (simp; omega)); (first | focus (simp only [List.length_map, List.length_append, List.length_cons, List.length_nil]; omega) | focus (simp; done) | focus (simp; omega)))
                | (refine idAp ?_; refine m_appB rfl rfl rfl (by first | rfl | assumption | exact get_set (by assumption) | exact get_set (get_set (by assumption)) | exact get_set (get_set (get_set (by assumption))) | ((repeat first | assumption | exact get_last | (refine get_last2 ?_; focus (simp; done)) | apply get_set | apply get_app | (apply get_ne; focus omega)); done)) ?_ rfl rfl ?_ ?_ rfl ?_; (first | rfl | focus (simp only [List.length_map, List.length_append, List.length_cons, List.length_nil]; omega) | focus (simp; done) | focus (simp; omega)); (first | focus (simp only [List.length_map, List.length_append, List.length_cons, List.length_nil]; omega) | focus (simp; done) | focus (simp; omega)); (first | focus (simp only [List.length_map, List.length_append, List.length_cons, List.length_nil]; omega) | focus (simp; done) | focus (simp; omega)))
              all_goals first | exact Le.nil rfl | rfl | contradiction | skip
              all_goals trace_state
            · rw [v1] at n1
              obtain ⟨e1, w1⟩ := cutA_some c1
              have g4 : Value.bool (iLt ((s.length - r2.length : Nat) : Int) 0) = .bool false := by rw [(iLt_f _ _).mpr (by omega)]
              have n2 := rnumber_pc s (s.length - r2.length) 41 (by omega) hs
              rcases rnV_cases s (s.length - r2.length) 41 with ⟨v2, c2⟩ | ⟨t2, r3, y, c2, y1, v2, d2, k2⟩
              · rw [v2] at n2
                rw [d1] at c2
                have g5 : Value.bool (iLt (-1) 0) = .bool true := ltT (by decide)
                have hb : readS s = none := hlr.bad hn (.inr (by rw [hr, if_neg hacc]; simp)) (fun z hz m => by rw [hr, if_neg hacc, if_neg hacc]; intro e; refine absurd (List.cons.inj e).2 ?_; rw [hd, e1]; exact bad_two w1 c2 z hz m)
                rw [(read_no hb).1, (read_no hb).2]
                repeat' first
                  | (apply p1 (hd := rfl); case hop => first | (apply D_move; rfl) | (apply D_assign; rfl) | exact D_sc (D_int rfl rfl rfl) g0 | exact D_sc (D_int rfl rfl rfl) g8 | exact D_sc (D_int rfl rfl rfl) g9 | exact D_sc (D_int rfl rfl rfl) g7 | exact D_sc (D_int rfl rfl rfl) g6 | exact D_sc (D_int rfl rfl rfl) g1 | exact D_sc (D_int rfl rfl rfl) g2 | exact D_sc (D_int rfl rfl rfl) g3 | (apply D_pc n1; rfl; exact .same rfl (.same rfl (.same rfl .nil))) | exact D_sc (D_int rfl rfl rfl) g4 | (apply D_pc n2; rfl; exact .same rfl (.same rfl (.same rfl .nil))) | exact D_sc (D_int rfl rfl rfl) g5 | (apply D_pickT; rfl; rfl) | (apply D_pickF; rfl; rfl) | (apply D_int; rfl; rfl; rfl) | (apply D_lenM; rfl) | (apply D_len_sl; rfl) | (apply D_len_str; rfl) | (apply D_str; rfl; rfl; rfl) | (apply D_ext; rfl; rfl) | (apply D_not; rfl) | (apply D_len_nil; rfl) | (apply D_idxSn; rfl; rfl; (first | omega | (simp; done))) | (apply D_idxS; rfl; rfl; omega; (first | omega | (simp; done) | (simp; omega))) | (apply D_lit; rfl; rfl; rfl; rfl) | exact D_build rfl | exact D_buildA rfl | (apply D_lenR; rfl))
                  | refine W_seq ?_
                  | refine W_region ?_
                  | (refine idC ?_; first | refine c1 rfl ?_ | refine c0 rfl ?_ | refine cs rfl (fun _ => ?_) (fun _ => ?_))
                  | refine WL_nil ?_
                  | (refine idG ?_; first | refine g0t rfl rfl rfl ?_ | refine g0f rfl rfl rfl ?_ | refine g0u rfl rfl rfl ?_ | refine gr rfl rfl ?_ | refine gs rfl rfl (fun _ => ?_) (fun _ => ?_) | refine grn rfl rfl ?_)
                  | refine tn ?_
                  | refine tr ?_
                  | refine br ?_
                  | refine bn ?_
                  | refine te ?_
                  | (refine idB ?_; first | refine bh rfl ?_ | refine bm rfl ?_)
                  | refine W_skip ?_
                  | refine W_block ?_
                  | refine W_exit ?_
                  | refine W_ret ?_
                  | refine W_label ?_
                  | refine W_scope ?_
                  | refine sn ?_
                  | refine sr ?_
                  | refine se ?_
                  | (refine idR ?_; first | refine ret2 rfl rfl rfl rfl ?_ ?_ | refine rL2 rfl (by first | exact trivial | exact ⟨rfl, trivial⟩) (by first | exact ResO.tmp rfl | exact ResO.cellBA rfl rfl rfl | exact ResO.cellB1 rfl rfl rfl | exact ResO.cellEA rfl rfl | exact ResO.cellE1 rfl) (by first | exact ResO.tmp rfl | exact ResO.cellBA rfl rfl rfl | exact ResO.cellB1 rfl rfl rfl | exact ResO.cellEA rfl rfl | exact ResO.cellE1 rfl) ?_ ?_)
                  | refine Le.bool ?_
                  | refine Le.int ?_
                  | refine Le.str ?_
                  | (refine idAp ?_; refine m_app rfl rfl (by first | rfl | assumption | exact get_set (by assumption) | exact get_set (get_set (by assumption)) | exact get_set (get_set (get_set (by assumption))) | ((repeat first | assumption | exact get_last | (refine get_last2 ?_; focus (simp; done)) | apply get_set | apply get_app | (apply get_ne; focus omega)); done)) ?_ rfl rfl ?_ ?_ rfl ?_; (first | rfl | focus (simp only [List.length_map, List.length_append, List.length_cons, List.length_nil]; omega) | focus (simp; done) | focus (simp; omega)); (first | focus (simp only [List.length_map, List.length_append, List.length_cons, List.length_nil]; omega) | focus (simp; done) | focus (simp; omega)); (first | focus (simp only [List.length_map, List.length_append, List.length_cons, List.length_nil]; omega) | focus (simp; done) | focus (simp; omega)))
                  | (refine idAp ?_; refine m_appB rfl rfl rfl (by first | rfl | assumption | exact get_set (by assumption) | exact get_set (get_set (by assumption)) | exact get_set (get_set (get_set (by assumption))) | ((repeat first | assumption | exact get_last | (refine get_last2 ?_; focus (simp; done)) | apply get_set | apply get_app | (apply get_ne; focus omega)); done)) ?_ rfl rfl ?_ ?_ rfl ?_; (first | rfl | focus (simp only [List.length_map, List.length_append, List.length_cons, List.length_nil]; omega) | focus (simp; done) | focus (simp; omega)); (first | focus (simp only [List.length_map, List.length_append, List.length_cons, List.length_nil]; omega) | focus (simp; done) | focus (simp; omega)); (first | focus (simp only [List.length_map, List.length_append, List.length_cons, List.length_nil]; omega) | focus (simp; done) | focus (simp; omega)))
                all_goals first | exact Le.nil rfl | rfl | contradiction | skip
                all_goals trace_state
              · rw [v2] at n2
                rw [d1] at c2
                obtain ⟨e2, _⟩ := cutA_some c2
                have g5 : Value.bool (iLt ((s.length - r3.length : Nat) : Int) 0) = .bool false := by rw [(iLt_f _ _).mpr (by omega)]
                have hst := hlr.step hr (t1 := t1) (t2 := t2) (r3 := r3) (by rw [hd, e1, e2]) (numS_iff.1 x1) (numS_iff.1 y1)
                rw [← d2] at hst
                repeat' first
                  | (apply p1 (hd := rfl); case hop => first | (apply D_move; rfl) | (apply D_assign; rfl) | exact D_sc (D_int rfl rfl rfl) g0 | exact D_sc (D_int rfl rfl rfl) g8 | exact D_sc (D_int rfl rfl rfl) g9 | exact D_sc (D_int rfl rfl rfl) g7 | exact D_sc (D_int rfl rfl rfl) g6 | exact D_sc (D_int rfl rfl rfl) g1 | exact D_sc (D_int rfl rfl rfl) g2 | exact D_sc (D_int rfl rfl rfl) g3 | (apply D_pc n1; rfl; exact .same rfl (.same rfl (.same rfl .nil))) | exact D_sc (D_int rfl rfl rfl) g4 | (apply D_pc n2; rfl; exact .same rfl (.same rfl (.same rfl .nil))) | exact D_sc (D_int rfl rfl rfl) g5 | (apply D_pickT; rfl; rfl) | (apply D_pickF; rfl; rfl) | (apply D_int; rfl; rfl; rfl) | (apply D_lenM; rfl) | (apply D_len_sl; rfl) | (apply D_len_str; rfl) | (apply D_str; rfl; rfl; rfl) | (apply D_ext; rfl; rfl) | (apply D_not; rfl) | (apply D_len_nil; rfl) | (apply D_idxSn; rfl; rfl; (first | omega | (simp; done))) | (apply D_idxS; rfl; rfl; omega; (first | omega | (simp; done) | (simp; omega))) | (apply D_lit; rfl; rfl; rfl; rfl) | exact D_build rfl | exact D_buildA rfl | (apply D_lenR; rfl))
                  | refine W_seq ?_
                  | refine W_region ?_
                  | (refine idC ?_; first | refine c1 rfl ?_ | refine c0 rfl ?_ | refine cs rfl (fun _ => ?_) (fun _ => ?_))
                  | refine WL_nil ?_
                  | (refine idG ?_; first | refine g0t rfl rfl rfl ?_ | refine g0f rfl rfl rfl ?_ | refine g0u rfl rfl rfl ?_ | refine gr rfl rfl ?_ | refine gs rfl rfl (fun _ => ?_) (fun _ => ?_) | refine grn rfl rfl ?_)
                  | refine tn ?_
                  | refine tr ?_
                  | refine br ?_
                  | refine bn ?_
                  | refine te ?_
                  | (refine idB ?_; first | refine bh rfl ?_ | refine bm rfl ?_)
                  | refine W_skip ?_
                  | refine W_block ?_
                  | refine W_exit ?_
                  | refine W_ret ?_
                  | refine W_label ?_
                  | refine W_scope ?_
                  | refine sn ?_
                  | refine sr ?_
                  | refine se ?_
                  | (refine idR ?_; first | refine ret2 rfl rfl rfl rfl ?_ ?_ | refine rL2 rfl (by first | exact trivial | exact ⟨rfl, trivial⟩) (by first | exact ResO.tmp rfl | exact ResO.cellBA rfl rfl rfl | exact ResO.cellB1 rfl rfl rfl | exact ResO.cellEA rfl rfl | exact ResO.cellE1 rfl) (by first | exact ResO.tmp rfl | exact ResO.cellBA rfl rfl rfl | exact ResO.cellB1 rfl rfl rfl | exact ResO.cellEA rfl rfl | exact ResO.cellE1 rfl) ?_ ?_)
                  | refine Le.bool ?_
                  | refine Le.int ?_
                  | refine Le.str ?_
                  | (refine idAp ?_; refine m_app rfl rfl (by first | rfl | assumption | exact get_set (by assumption) | exact get_set (get_set (by assumption)) | exact get_set (get_set (get_set (by assumption))) | ((repeat first | assumption | exact get_last | (refine get_last2 ?_; focus (simp; done)) | apply get_set | apply get_app | (apply get_ne; focus omega)); done)) ?_ rfl rfl ?_ ?_ rfl ?_; (first | rfl | focus (simp only [List.length_map, List.length_append, List.length_cons, List.length_nil]; omega) | focus (simp; done) | focus (simp; omega)); (first | focus (simp only [List.length_map, List.length_append, List.length_cons, List.length_nil]; omega) | focus (simp; done) | focus (simp; omega)); (first | focus (simp only [List.length_map, List.length_append, List.length_cons, List.length_nil]; omega) | focus (simp; done) | focus (simp; omega)))
                  | (refine idAp ?_; refine m_appB rfl rfl rfl (by first | rfl | assumption | exact get_set (by assumption) | exact get_set (get_set (by assumption)) | exact get_set (get_set (get_set (by assumption))) | ((repeat first | assumption | exact get_last | (refine get_last2 ?_; focus (simp; done)) | apply get_set | apply get_app | (apply get_ne; focus omega)); done)) ?_ rfl rfl ?_ ?_ rfl ?_; (first | rfl | focus (simp only [List.length_map, List.length_append, List.length_cons, List.length_nil]; omega) | focus (simp; done) | focus (simp; omega)); (first | focus (simp only [List.length_map, List.length_append, List.length_cons, List.length_nil]; omega) | focus (simp; done) | focus (simp; omega)); (first | focus (simp only [List.length_map, List.length_append, List.length_cons, List.length_nil]; omega) | focus (simp; done) | focus (simp; omega)))
                all_goals first | contradiction | exact ⟨rfl, (acc ++ [⟨x, y⟩], s.length - r3.length), ⟨by simp only; omega, by simp; omega, hst⟩, by simp; omega, ⟨rfl, by rw [List.map_append]; rfl, rfl, trivial⟩, by simp⟩
          · have g2 : Value.bool (bNot (iEq (s[a + 1].toNat : Int) 91)) = .bool true := nqF (fun e => h2 (UInt8.toNat_inj.1 (by show s[a + 1].toNat = 91; omega)))
            have hb : readS s = none := hlr.bad hn (.inr (by rw [hr, if_neg hacc]; simp)) (fun z hz m => by rw [hr, if_neg hacc, if_neg hacc]; intro e; refine absurd (List.cons.inj e).2 ?_; exact bad_head (by rw [List.drop_eq_getElem_cons h1, List.head?_cons]; intro e; exact h2 (Option.some.inj e)) z m)
            rw [(read_no hb).1, (read_no hb).2]
            repeat' first
              | (apply p1 (hd := rfl); case hop => first | (apply D_move; rfl) | (apply D_assign; rfl) | exact D_sc (D_int rfl rfl rfl) g0 | exact D_sc (D_int rfl rfl rfl) g8 | exact D_sc (D_int rfl rfl rfl) g9 | exact D_sc (D_int rfl rfl rfl) g7 | exact D_sc (D_int rfl rfl rfl) g6 | exact D_sc (D_int rfl rfl rfl) g1 | exact D_sc (D_int rfl rfl rfl) g2 | (apply D_pickT; rfl; rfl) | (apply D_pickF; rfl; rfl) | (apply D_int; rfl; rfl; rfl) | (apply D_lenM; rfl) | (apply D_len_sl; rfl) | (apply D_len_str; rfl) | (apply D_str; rfl; rfl; rfl) | (apply D_ext; rfl; rfl) | (apply D_not; rfl) | (apply D_len_nil; rfl) | (apply D_idxSn; rfl; rfl; (first | omega | (simp; done))) | (apply D_idxS; rfl; rfl; omega; (first | omega | (simp; done) | (simp; omega))) | (apply D_lit; rfl; rfl; rfl; rfl) | exact D_build rfl | exact D_buildA rfl | (apply D_lenR; rfl))
              | refine W_seq ?_
              | refine W_region ?_
              | (refine idC ?_; first | refine c1 rfl ?_ | refine c0 rfl ?_ | refine cs rfl (fun _ => ?_) (fun _ => ?_))
              | refine WL_nil ?_
              | (refine idG ?_; first | refine g0t rfl rfl rfl ?_ | refine g0f rfl rfl rfl ?_ | refine g0u rfl rfl rfl ?_ | refine gr rfl rfl ?_ | refine gs rfl rfl (fun _ => ?_) (fun _ => ?_) | refine grn rfl rfl ?_)
              | refine tn ?_
              | refine tr ?_
              | refine br ?_
              | refine bn ?_
              | refine te ?_
              | (refine idB ?_; first | refine bh rfl ?_ | refine bm rfl ?_)
              | refine W_skip ?_
              | refine W_block ?_
              | refine W_exit ?_
              | refine W_ret ?_
              | refine W_label ?_
              | refine W_scope ?_
              | refine sn ?_
              | refine sr ?_
              | refine se ?_
              | (refine idR ?_; first | refine ret2 rfl rfl rfl rfl ?_ ?_ | refine rL2 rfl (by first | exact trivial | exact ⟨rfl, trivial⟩) (by first | exact ResO.tmp rfl | exact ResO.cellBA rfl rfl rfl | exact ResO.cellB1 rfl rfl rfl | exact ResO.cellEA rfl rfl | exact ResO.cellE1 rfl) (by first | exact ResO.tmp rfl | exact ResO.cellBA rfl rfl rfl | exact ResO.cellB1 rfl rfl rfl | exact ResO.cellEA rfl rfl | exact ResO.cellE1 rfl) ?_ ?_)
              | refine Le.bool ?_
              | refine Le.int ?_
              | refine Le.str ?_
              | (refine idAp ?_; refine m_app rfl rfl (by first | rfl | assumption | exact get_set (by assumption) | exact get_set (get_set (by assumption)) | exact get_set (get_set (get_set (by assumption))) | ((repeat first | assumption | exact get_last | (refine get_last2 ?_; focus (simp; done)) | apply get_set | apply get_app | (apply get_ne; focus omega)); done)) ?_ rfl rfl ?_ ?_ rfl ?_; (first | rfl | focus (simp only [List.length_map, List.length_append, List.length_cons, List.length_nil]; omega) | focus (simp; done) | focus (simp; omega)); (first | focus (simp only [List.length_map, List.length_append, List.length_cons, List.length_nil]; omega) | focus (simp; done) | focus (simp; omega)); (first | focus (simp only [List.length_map, List.length_append, List.length_cons, List.length_nil]; omega) | focus (simp; done) | focus (simp; omega)))
              | (refine idAp ?_; refine m_appB rfl rfl rfl (by first | rfl | assumption | exact get_set (by assumption) | exact get_set (get_set (by assumption)) | exact get_set (get_set (get_set (by assumption))) | ((repeat first | assumption | exact get_last | (refine get_last2 ?_; focus (simp; done)) | apply get_set | apply get_app | (apply get_ne; focus omega)); done)) ?_ rfl rfl ?_ ?_ rfl ?_; (first | rfl | focus (simp only [List.length_map, List.length_append, List.length_cons, List.length_nil]; omega) | focus (simp; done) | focus (simp; omega)); (first | focus (simp only [List.length_map, List.length_append, List.length_cons, List.length_nil]; omega) | focus (simp; done) | focus (simp; omega)); (first | focus (simp only [List.length_map, List.length_append, List.length_cons, List.length_nil]; omega) | focus (simp; done) | focus (simp; omega)))
            all_goals first | exact Le.nil rfl | rfl | contradiction | skip
            all_goals trace_state
        · have g1 : Value.bool (iLe (s.length : Int) ((a + 1 : Nat) : Int)) = .bool true := by rw [(iLe_t _ _).mpr (by omega)]
          have hb : readS s = none := hlr.bad hn (.inr (by rw [hr, if_neg hacc]; simp)) (fun z hz m => by rw [hr, if_neg hacc, if_neg hacc]; intro e; refine absurd (List.cons.inj e).2 ?_; exact bad_head (by rw [List.drop_eq_nil_of_le (by omega)]; simp) z m)
          rw [(read_no hb).1, (read_no hb).2]
          repeat' first
            | (apply p1 (hd := rfl); case hop => first | (apply D_move; rfl) | (apply D_assign; rfl) | exact D_sc (D_int rfl rfl rfl) g0 | exact D_sc (D_int rfl rfl rfl) g8 | exact D_sc (D_int rfl rfl rfl) g9 | exact D_sc (D_int rfl rfl rfl) g7 | exact D_sc (D_int rfl rfl rfl) g6 | exact D_sc (D_int rfl rfl rfl) g1 | (apply D_pickT; rfl; rfl) | (apply D_pickF; rfl; rfl) | (apply D_int; rfl; rfl; rfl) | (apply D_lenM; rfl) | (apply D_len_sl; rfl) | (apply D_len_str; rfl) | (apply D_str; rfl; rfl; rfl) | (apply D_ext; rfl; rfl) | (apply D_not; rfl) | (apply D_len_nil; rfl) | (apply D_idxSn; rfl; rfl; (first | omega | (simp; done))) | (apply D_idxS; rfl; rfl; omega; (first | omega | (simp; done) | (simp; omega))) | (apply D_lit; rfl; rfl; rfl; rfl) | exact D_build rfl | exact D_buildA rfl | (apply D_lenR; rfl))
            | refine W_seq ?_
            | refine W_region ?_
            | (refine idC ?_; first | refine c1 rfl ?_ | refine c0 rfl ?_ | refine cs rfl (fun _ => ?_) (fun _ => ?_))
            | refine WL_nil ?_
            | (refine idG ?_; first | refine g0t rfl rfl rfl ?_ | refine g0f rfl rfl rfl ?_ | refine g0u rfl rfl rfl ?_ | refine gr rfl rfl ?_ | refine gs rfl rfl (fun _ => ?_) (fun _ => ?_) | refine grn rfl rfl ?_)
            | refine tn ?_
            | refine tr ?_
            | refine br ?_
            | refine bn ?_
            | refine te ?_
            | (refine idB ?_; first | refine bh rfl ?_ | refine bm rfl ?_)
            | refine W_skip ?_
            | refine W_block ?_
            | refine W_exit ?_
            | refine W_ret ?_
            | refine W_label ?_
            | refine W_scope ?_
            | refine sn ?_
            | refine sr ?_
            | refine se ?_
            | (refine idR ?_; first | refine ret2 rfl rfl rfl rfl ?_ ?_ | refine rL2 rfl (by first | exact trivial | exact ⟨rfl, trivial⟩) (by first | exact ResO.tmp rfl | exact ResO.cellBA rfl rfl rfl | exact ResO.cellB1 rfl rfl rfl | exact ResO.cellEA rfl rfl | exact ResO.cellE1 rfl) (by first | exact ResO.tmp rfl | exact ResO.cellBA rfl rfl rfl | exact ResO.cellB1 rfl rfl rfl | exact ResO.cellEA rfl rfl | exact ResO.cellE1 rfl) ?_ ?_)
            | refine Le.bool ?_
            | refine Le.int ?_
            | refine Le.str ?_
            | (refine idAp ?_; refine m_app rfl rfl (by first | rfl | assumption | exact get_set (by assumption) | exact get_set (get_set (by assumption)) | exact get_set (get_set (get_set (by assumption))) | ((repeat first | assumption | exact get_last | (refine get_last2 ?_; focus (simp; done)) | apply get_set | apply get_app | (apply get_ne; focus omega)); done)) ?_ rfl rfl ?_ ?_ rfl ?_; (first | rfl | focus (simp only [List.length_map, List.length_append, List.length_cons, List.length_nil]; omega) | focus (simp; done) | focus (simp; omega)); (first | focus (simp only [List.length_map, List.length_append, List.length_cons, List.length_nil]; omega) | focus (simp; done) | focus (simp; omega)); (first | focus (simp only [List.length_map, List.length_append, List.length_cons, List.length_nil]; omega) | focus (simp; done) | focus (simp; omega)))
            | (refine idAp ?_; refine m_appB rfl rfl rfl (by first | rfl | assumption | exact get_set (by assumption) | exact get_set (get_set (by assumption)) | exact get_set (get_set (get_set (by assumption))) | ((repeat first | assumption | exact get_last | (refine get_last2 ?_; focus (simp; done)) | apply get_set | apply get_app | (apply get_ne; focus omega)); done)) ?_ rfl rfl ?_ ?_ rfl ?_; (first | rfl | focus (simp only [List.length_map, List.length_append, List.length_cons, List.length_nil]; omega) | focus (simp; done) | focus (simp; omega)); (first | focus (simp only [List.length_map, List.length_append, List.length_cons, List.length_nil]; omega) | focus (simp; done) | focus (simp; omega)); (first | focus (simp only [List.length_map, List.length_append, List.length_cons, List.length_nil]; omega) | focus (simp; done) | focus (simp; omega)))
          all_goals first | exact Le.nil rfl | rfl | contradiction | skip
          all_goals trace_state
      · have g7 : Value.bool (bNot (iEq (s[a].toNat : Int) 32)) = .bool true := nqF (fun e => h32 (UInt8.toNat_inj.1 (by show s[a].toNat = 32; omega)))
        have hb : readS s = none := hlr.bad hn (.inr (fun e => by have e2 := congrArg List.length e; rw [List.length_drop, List.length_nil] at e2; omega)) (fun z hz m => by rw [if_neg hacc, List.drop_eq_getElem_cons h0]; intro e; exact h32 (List.cons.inj e).1)
        rw [(read_no hb).1, (read_no hb).2]
        repeat' first
          | (apply p1 (hd := rfl); case hop => first | (apply D_move; rfl) | (apply D_assign; rfl) | exact D_sc (D_int rfl rfl rfl) g0 | exact D_sc (D_int rfl rfl rfl) g8 | exact D_sc (D_int rfl rfl rfl) g9 | exact D_sc (D_int rfl rfl rfl) g7 | (apply D_pickT; rfl; rfl) | (apply D_pickF; rfl; rfl) | (apply D_int; rfl; rfl; rfl) | (apply D_lenM; rfl) | (apply D_len_sl; rfl) | (apply D_len_str; rfl) | (apply D_str; rfl; rfl; rfl) | (apply D_ext; rfl; rfl) | (apply D_not; rfl) | (apply D_len_nil; rfl) | (apply D_idxSn; rfl; rfl; (first | omega | (simp; done))) | (apply D_idxS; rfl; rfl; omega; (first | omega | (simp; done) | (simp; omega))) | (apply D_lit; rfl; rfl; rfl; rfl) | exact D_build rfl | exact D_buildA rfl | (apply D_lenR; rfl))
          | refine W_seq ?_
          | refine W_region ?_
          | (refine idC ?_; first | refine c1 rfl ?_ | refine c0 rfl ?_ | refine cs rfl (fun _ => ?_) (fun _ => ?_))
          | refine WL_nil ?_
          | (refine idG ?_; first | refine g0t rfl rfl rfl ?_ | refine g0f rfl rfl rfl ?_ | refine g0u rfl rfl rfl ?_ | refine gr rfl rfl ?_ | refine gs rfl rfl (fun _ => ?_) (fun _ => ?_) | refine grn rfl rfl ?_)
          | refine tn ?_
          | refine tr ?_
          | refine br ?_
          | refine bn ?_
          | refine te ?_
          | (refine idB ?_; first | refine bh rfl ?_ | refine bm rfl ?_)
          | refine W_skip ?_
          | refine W_block ?_
          | refine W_exit ?_
          | refine W_ret ?_
          | refine W_label ?_
          | refine W_scope ?_
          | refine sn ?_
          | refine sr ?_
          | refine se ?_
          | (refine idR ?_; first | refine ret2 rfl rfl rfl rfl ?_ ?_ | refine rL2 rfl (by first | exact trivial | exact ⟨rfl, trivial⟩) (by first | exact ResO.tmp rfl | exact ResO.cellBA rfl rfl rfl | exact ResO.cellB1 rfl rfl rfl | exact ResO.cellEA rfl rfl | exact ResO.cellE1 rfl) (by first | exact ResO.tmp rfl | exact ResO.cellBA rfl rfl rfl | exact ResO.cellB1 rfl rfl rfl | exact ResO.cellEA rfl rfl | exact ResO.cellE1 rfl) ?_ ?_)
          | refine Le.bool ?_
          | refine Le.int ?_
          | refine Le.str ?_
          | (refine idAp ?_; refine m_app rfl rfl (by first | rfl | assumption | exact get_set (by assumption) | exact get_set (get_set (by assumption)) | exact get_set (get_set (get_set (by assumption))) | ((repeat first | assumption | exact get_last | (refine get_last2 ?_; focus (simp; done)) | apply get_set | apply get_app | (apply get_ne; focus omega)); done)) ?_ rfl rfl ?_ ?_ rfl ?_; (first | rfl | focus (simp only [List.length_map, List.length_append, List.length_cons, List.length_nil]; omega) | focus (simp; done) | focus (simp; omega)); (first | focus (simp only [List.length_map, List.length_append, List.length_cons, List.length_nil]; omega) | focus (simp; done) | focus (simp; omega)); (first | focus (simp only [List.length_map, List.length_append, List.length_cons, List.length_nil]; omega) | focus (simp; done) | focus (simp; omega)))
          | (refine idAp ?_; refine m_appB rfl rfl rfl (by first | rfl | assumption | exact get_set (by assumption) | exact get_set (get_set (by assumption)) | exact get_set (get_set (get_set (by assumption))) | ((repeat first | assumption | exact get_last | (refine get_last2 ?_; focus (simp; done)) | apply get_set | apply get_app | (apply get_ne; focus omega)); done)) ?_ rfl rfl ?_ ?_ rfl ?_; (first | rfl | focus (simp only [List.length_map, List.length_append, List.length_cons, List.length_nil]; omega) | focus (simp; done) | focus (simp; omega)); (first | focus (simp only [List.length_map, List.length_append, List.length_cons, List.length_nil]; omega) | focus (simp; done) | focus (simp; omega)); (first | focus (simp only [List.length_map, List.length_append, List.length_cons, List.length_nil]; omega) | focus (simp; done) | focus (simp; omega)))
        all_goals first | exact Le.nil rfl | rfl | contradiction | skip
        all_goals trace_state
    · have g0 : Value.bool (iLt (a : Int) (s.length : Int)) = .bool false := by rw [(iLt_f _ _).mpr (by omega)]
      rw [List.drop_eq_nil_of_le (by omega)] at hlr
      have hfin := hlr.fin hn hacc
      by_cases hset : SetP acc
      · rw [dif_pos hset] at hfin
        have hsp := rset_pc acc (by omega)
        rw [← dP_T hset] at hsp
        rw [(read_yes hfin).1, (read_yes hfin).2]
        repeat' first
          | (apply p1 (hd := rfl); case hop => first | (apply D_move; rfl) | (apply D_assign; rfl) | exact D_sc (D_int rfl rfl rfl) g0 | exact D_sc (D_int rfl rfl rfl) g9 | (apply D_pc hsp; rfl; exact .tok rfl .nil) | (apply D_pickT; rfl; rfl) | (apply D_pickF; rfl; rfl) | (apply D_int; rfl; rfl; rfl) | (apply D_lenM; rfl) | (apply D_len_sl; rfl) | (apply D_len_str; rfl) | (apply D_str; rfl; rfl; rfl) | (apply D_ext; rfl; rfl) | (apply D_not; rfl) | (apply D_len_nil; rfl) | (apply D_idxSn; rfl; rfl; (first | omega | (simp; done))) | (apply D_idxS; rfl; rfl; omega; (first | omega | (simp; done) | (simp; omega))) | (apply D_lit; rfl; rfl; rfl; rfl) | exact D_build rfl | exact D_buildA rfl | (apply D_lenR; rfl))
          | refine W_seq ?_
          | refine W_region ?_
          | (refine idC ?_; first | refine c1 rfl ?_ | refine c0 rfl ?_ | refine cs rfl (fun _ => ?_) (fun _ => ?_))
          | refine WL_nil ?_
          | (refine idG ?_; first | refine g0t rfl rfl rfl ?_ | refine g0f rfl rfl rfl ?_ | refine g0u rfl rfl rfl ?_ | refine gr rfl rfl ?_ | refine gs rfl rfl (fun _ => ?_) (fun _ => ?_) | refine grn rfl rfl ?_)
          | refine tn ?_
          | refine tr ?_
          | refine br ?_
          | refine bn ?_
          | refine te ?_
          | (refine idB ?_; first | refine bh rfl ?_ | refine bm rfl ?_)
          | refine W_skip ?_
          | refine W_block ?_
          | refine W_exit ?_
          | refine W_ret ?_
          | refine W_label ?_
          | refine W_scope ?_
          | refine sn ?_
          | refine sr ?_
          | refine se ?_
          | (refine idR ?_; first | refine ret2 rfl rfl rfl rfl ?_ ?_ | refine rL2 rfl (by first | exact trivial | exact ⟨rfl, trivial⟩) (by first | exact ResO.tmp rfl | exact ResO.cellBA rfl rfl rfl | exact ResO.cellB1 rfl rfl rfl | exact ResO.cellEA rfl rfl | exact ResO.cellE1 rfl) (by first | exact ResO.tmp rfl | exact ResO.cellBA rfl rfl rfl | exact ResO.cellB1 rfl rfl rfl | exact ResO.cellEA rfl rfl | exact ResO.cellE1 rfl) ?_ ?_)
          | refine Le.bool ?_
          | refine Le.int ?_
          | refine Le.str ?_
          | (refine idAp ?_; refine m_app rfl rfl (by first | rfl | assumption | exact get_set (by assumption) | exact get_set (get_set (by assumption)) | exact get_set (get_set (get_set (by assumption))) | ((repeat first | assumption | exact get_last | (refine get_last2 ?_; focus (simp; done)) | apply get_set | apply get_app | (apply get_ne; focus omega)); done)) ?_ rfl rfl ?_ ?_ rfl ?_; (first | rfl | focus (simp only [List.length_map, List.length_append, List.length_cons, List.length_nil]; omega) | focus (simp; done) | focus (simp; omega)); (first | focus (simp only [List.length_map, List.length_append, List.length_cons, List.length_nil]; omega) | focus (simp; done) | focus (simp; omega)); (first | focus (simp only [List.length_map, List.length_append, List.length_cons, List.length_nil]; omega) | focus (simp; done) | focus (simp; omega)))
          | (refine idAp ?_; refine m_appB rfl rfl rfl (by first | rfl | assumption | exact get_set (by assumption) | exact get_set (get_set (by assumption)) | exact get_set (get_set (get_set (by assumption))) | ((repeat first | assumption | exact get_last | (refine get_last2 ?_; focus (simp; done)) | apply get_set | apply get_app | (apply get_ne; focus omega)); done)) ?_ rfl rfl ?_ ?_ rfl ?_; (first | rfl | focus (simp only [List.length_map, List.length_append, List.length_cons, List.length_nil]; omega) | focus (simp; done) | focus (simp; omega)); (first | focus (simp only [List.length_map, List.length_append, List.length_cons, List.length_nil]; omega) | focus (simp; done) | focus (simp; omega)); (first | focus (simp only [List.length_map, List.length_append, List.length_cons, List.length_nil]; omega) | focus (simp; done) | focus (simp; omega)))
        all_goals first | exact Le.tokq rfl | rfl | contradiction | skip
        all_goals trace_state
      · rw [dif_neg hset] at hfin
        have hsp := rset_pc acc (by omega)
        rw [← dP_F hset] at hsp
        rw [(read_no hfin).1, (read_no hfin).2]
        repeat' first
          | (apply p1 (hd := rfl); case hop => first | (apply D_move; rfl) | (apply D_assign; rfl) | exact D_sc (D_int rfl rfl rfl) g0 | exact D_sc (D_int rfl rfl rfl) g9 | (apply D_pc hsp; rfl; exact .tok rfl .nil) | (apply D_pickT; rfl; rfl) | (apply D_pickF; rfl; rfl) | (apply D_int; rfl; rfl; rfl) | (apply D_lenM; rfl) | (apply D_len_sl; rfl) | (apply D_len_str; rfl) | (apply D_str; rfl; rfl; rfl) | (apply D_ext; rfl; rfl) | (apply D_not; rfl) | (apply D_len_nil; rfl) | (apply D_idxSn; rfl; rfl; (first | omega | (simp; done))) | (apply D_idxS; rfl; rfl; omega; (first | omega | (simp; done) | (simp; omega))) | (apply D_lit; rfl; rfl; rfl; rfl) | exact D_build rfl | exact D_buildA rfl | (apply D_lenR; rfl))
          | refine W_seq ?_
          | refine W_region ?_
          | (refine idC ?_; first | refine c1 rfl ?_ | refine c0 rfl ?_ | refine cs rfl (fun _ => ?_) (fun _ => ?_))
          | refine WL_nil ?_
          | (refine idG ?_; first | refine g0t rfl rfl rfl ?_ | refine g0f rfl rfl rfl ?_ | refine g0u rfl rfl rfl ?_ | refine gr rfl rfl ?_ | refine gs rfl rfl (fun _ => ?_) (fun _ => ?_) | refine grn rfl rfl ?_)
          | refine tn ?_
          | refine tr ?_
          | refine br ?_
          | refine bn ?_
          | refine te ?_
          | (refine idB ?_; first | refine bh rfl ?_ | refine bm rfl ?_)
          | refine W_skip ?_
          | refine W_block ?_
          | refine W_exit ?_
          | refine W_ret ?_
          | refine W_label ?_
          | refine W_scope ?_
          | refine sn ?_
          | refine sr ?_
          | refine se ?_
          | (refine idR ?_; first | refine ret2 rfl rfl rfl rfl ?_ ?_ | refine rL2 rfl (by first | exact trivial | exact ⟨rfl, trivial⟩) (by first | exact ResO.tmp rfl | exact ResO.cellBA rfl rfl rfl | exact ResO.cellB1 rfl rfl rfl | exact ResO.cellEA rfl rfl | exact ResO.cellE1 rfl) (by first | exact ResO.tmp rfl | exact ResO.cellBA rfl rfl rfl | exact ResO.cellB1 rfl rfl rfl | exact ResO.cellEA rfl rfl | exact ResO.cellE1 rfl) ?_ ?_)
          | refine Le.bool ?_
          | refine Le.int ?_
          | refine Le.str ?_
          | (refine idAp ?_; refine m_app rfl rfl (by first | rfl | assumption | exact get_set (by assumption) | exact get_set (get_set (by assumption)) | exact get_set (get_set (get_set (by assumption))) | ((repeat first | assumption | exact get_last | (refine get_last2 ?_; focus (simp; done)) | apply get_set | apply get_app | (apply get_ne; focus omega)); done)) ?_ rfl rfl ?_ ?_ rfl ?_; (first | rfl | focus (simp only [List.length_map, List.length_append, List.length_cons, List.length_nil]; omega) | focus (simp; done) | focus (simp; omega)); (first | focus (simp only [List.length_map, List.length_append, List.length_cons, List.length_nil]; omega) | focus (simp; done) | focus (simp; omega)); (first | focus (simp only [List.length_map, List.length_append, List.length_cons, List.length_nil]; omega) | focus (simp; done) | focus (simp; omega)))
          | (refine idAp ?_; refine m_appB rfl rfl rfl (by first | rfl | assumption | exact get_set (by assumption) | exact get_set (get_set (by assumption)) | exact get_set (get_set (get_set (by assumption))) | ((repeat first | assumption | exact get_last | (refine get_last2 ?_; focus (simp; done)) | apply get_set | apply get_app | (apply get_ne; focus omega)); done)) ?_ rfl rfl ?_ ?_ rfl ?_; (first | rfl | focus (simp only [List.length_map, List.length_append, List.length_cons, List.length_nil]; omega) | focus (simp; done) | focus (simp; omega)); (first | focus (simp only [List.length_map, List.length_append, List.length_cons, List.length_nil]; omega) | focus (simp; done) | focus (simp; omega)); (first | focus (simp only [List.length_map, List.length_append, List.length_cons, List.length_nil]; omega) | focus (simp; done) | focus (simp; omega)))
        all_goals first | exact Le.nil rfl | rfl | contradiction | skip
        all_goals trace_state
end Go.Proofs
