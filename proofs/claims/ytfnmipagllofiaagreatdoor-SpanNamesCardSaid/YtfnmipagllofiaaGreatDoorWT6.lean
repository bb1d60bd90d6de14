/- Contracts of spans' texts: what a text says, in the program. -/
import Derived.Test.YtfnmipagllofiaaGreatDoorWT5
import Derived.Test.YtfnmipagllofiaaGreatDoorOpen
import Derived.SizedLaws
namespace Go.Proofs
open Go.AL
attribute [local irreducible] Go.AL.W Go.AL.WL Go.AL.WD Go.AL.POp Go.AL.PPOp Go.AL.POpS Go.AL.PC Go.AL.AC Go.AL.YW Go.AL.Ret Go.AL.Le Go.AL.thn Go.AL.inBlk Go.AL.scp
def smN (s : List UInt8) : Int := if s = [45] then -9223372036854775808 else if s = [43] then 9223372036854775807 else pN s
theorem smN_of {s : List UInt8} {n : Int} (h : EndP s n) : smN s = n := by
  rcases endP_or.1 h with ⟨rfl, rfl⟩ | ⟨rfl, rfl⟩ | ⟨h1, h2, h3, _, _⟩
  · exact if_pos rfl
  · unfold smN; rw [if_neg (by decide), if_pos rfl]
  · unfold smN; rw [if_neg h1, if_neg h2, pN_of h3]
noncomputable def numB (s : List UInt8) : Bool := (numS s).isSome
theorem numB_t {s : List UInt8} : numB s = true ↔ ∃ n, EndP s n := by
  unfold numB
  rw [Option.isSome_iff_exists]
  exact ⟨fun ⟨n, h⟩ => ⟨n, numS_iff.1 h⟩, fun ⟨n, h⟩ => ⟨n, numS_iff.2 h⟩⟩
theorem numB_some {s : List UInt8} (h : numB s = true) : numS s = some (smN s) := by
  obtain ⟨n, hn⟩ := numB_t.1 h
  rw [smN_of hn]; exact numS_iff.2 hn
theorem numB_none {s : List UInt8} (h : numB s = false) : numS s = none := by
  unfold numB at h; simpa using h
theorem numB_1 {s : List UInt8} (h : s = [45]) : true = numB s := (numB_t.2 ⟨_, endP_or.2 (.inl ⟨h, rfl⟩)⟩).symm
theorem numB_2 {s : List UInt8} (h : s = [43]) : true = numB s := (numB_t.2 ⟨_, endP_or.2 (.inr (.inl ⟨h, rfl⟩))⟩).symm
theorem pOK_of {s : List UInt8} {n : Int} (h : NumP s n) : pOK s = true := by
  obtain ⟨h0, h1, rfl⟩ := h
  unfold pOK; rw [parse_itoa h0 h1]
theorem num_pk {s : List UInt8} (h1 : s ≠ [45]) (h2 : s ≠ [43]) : sEq (endL (pN s)) s = numB s := by
  rw [Bool.eq_iff_iff, sEq_t, numB_t]
  constructor
  · intro h; exact ⟨_, pN_rng s, h⟩
  · rintro ⟨n, hn⟩
    have e := smN_of hn
    unfold smN at e; rw [if_neg h1, if_neg h2] at e
    rw [e]; exact hn.2
theorem num_no {s : List UInt8} (h1 : s ≠ [45]) (h2 : s ≠ [43]) (h : pOK s = false) : false = numB s := by
  cases hb : numB s with
  | false => rfl
  | true =>
    obtain ⟨n, hn⟩ := numB_t.1 hb
    rcases endP_or.1 hn with ⟨h3, _⟩ | ⟨h3, _⟩ | ⟨_, _, h3, _, _⟩
    · exact absurd h3 h1
    · exact absurd h3 h2
    · rw [pOK_of h3] at h; cases h
set_option maxHeartbeats 4000000 in
theorem snumber_pc [GlobF Tryz.prog] (hp : PowOK) (he : ErrsOK) (s : List UInt8) (hs : s.length < 281474976710656) : PC Tryz.prog 39 [str s] (.tu [.sc (.int .i64 (smN s)), .sc (.bool (numB s))]) := by
  have hpi := parseInt_ac he s hs []
  have hend := send_pc hp (pN s) (pN_rng s)
  refine PC.of_body Tryz.func39 Tryz.ntmps39 rfl rfl rfl ?_
  repeat' first
    | (apply p1 (hd := rfl); case hop => first | (apply D_move; rfl) | (apply D_assign; rfl) | exact D_ieI rfl (.inl ⟨hu, rfl⟩) | exact D_ieI rfl (.inr ⟨hu, rfl⟩) | (apply D_pc hend; rfl; exact .same rfl .nil) | (apply D_pickT; rfl; rfl) | (apply D_pickF; rfl; rfl) | (apply D_str; rfl; rfl; rfl) | (apply D_ext; rfl; rfl))
    | refine W_seq ?_
    | refine W_region ?_
    | (refine idC ?_; first | refine c1 rfl ?_ | refine c0 rfl ?_ | refine cs rfl (fun _ => ?_) (fun _ => ?_))
    | refine WL_nil ?_
    | (refine idG ?_; first | refine g0t rfl rfl rfl ?_ | refine g0f rfl rfl rfl ?_ | refine g0u rfl rfl rfl ?_ | refine gr rfl rfl ?_ | refine gs rfl rfl (fun _ => ?_) (fun _ => ?_) | refine grn rfl rfl ?_)
    | refine tn ?_
    | refine tr ?_
    | refine br ?_
    | refine bn ?_
    | refine te ?_
    | (refine idB ?_; first | refine bh rfl ?_ | refine bm rfl ?_)
    | refine W_skip ?_
    | refine W_block ?_
    | refine W_exit ?_
    | refine W_ret ?_
    | refine W_label ?_
    | refine W_scope ?_
    | refine sn ?_
    | refine sr ?_
    | refine se ?_
    | (refine idR ?_; first | refine ret2 rfl rfl rfl rfl ?_ ?_ | refine rL2 rfl (by first | exact trivial | exact ⟨rfl, trivial⟩) (by first | exact ResO.tmp rfl | exact ResO.cellBA rfl rfl rfl | exact ResO.cellB1 rfl rfl rfl | exact ResO.cellEA rfl rfl | exact ResO.cellE1 rfl) (by first | exact ResO.tmp rfl | exact ResO.cellBA rfl rfl rfl | exact ResO.cellB1 rfl rfl rfl | exact ResO.cellEA rfl rfl | exact ResO.cellE1 rfl) ?_ ?_)
    | refine Le.bool ?_
    | refine Le.int ?_
    | refine Le.str ?_
    | (refine m_call hpi rfl rfl rfl ?_; rintro _ _ ⟨rfl, u, rfl, hu⟩; rcases hu with ⟨hu, hb⟩ | ⟨hu, hb⟩)
  all_goals first
    | exact (if_pos (by assumption)).symm
    | exact numB_1 (by assumption)
    | exact numB_2 (by assumption)
    | (rename_i k1 k2 k3; unfold smN; rw [if_neg k1, if_pos k2]; done)
    | (unfold smN; simp [*]; done)
    | exact num_pk (by assumption) (by assumption)
    | exact num_no (by assumption) (by assumption) (by assumption)
    | skip
  all_goals trace_state
noncomputable def readL (s : List UInt8) : List Sp := (readS s).getD []
noncomputable def readE (s : List UInt8) : Int := if (readS s).isSome then 0 else 30
theorem read_no {s : List UInt8} (h : readS s = none) : readL s = [] ∧ readE s = 30 := by unfold readL readE; rw [h]; exact ⟨rfl, rfl⟩
theorem read_yes {s : List UInt8} {l : List Sp} (h : readS s = some l) : readL s = l ∧ readE s = 0 := by unfold readL readE; rw [h]; exact ⟨rfl, rfl⟩
theorem splS_len : ∀ s : List UInt8, (splS s).length ≤ s.length + 1
  | [] => by simp [splS]
  | b :: s => by
    have := splS_len s
    rw [splS]
    split
    · simp; omega
    · split
      · simp
      · rename_i p ps e; rw [e] at this; simp at this ⊢; omega
theorem splS_mem_len {s p : List UInt8} (h : p ∈ splS s) : p.length ≤ s.length := by
  induction s generalizing p with
  | nil => simp [splS] at h; simp [h]
  | cons b s ih =>
    rw [splS] at h
    split at h
    · rcases List.mem_cons.1 h with rfl | h
      · simp
      · have := ih h; simp; omega
    · split at h
      · rcases List.mem_cons.1 h with rfl | h
        · simp
        · cases h
      · rename_i q qs e
        rcases List.mem_cons.1 h with rfl | h
        · have := ih (p := q) (by rw [e]; exact .head _); simp; omega
        · have := ih (p := p) (by rw [e]; exact .tail _ h); simp; omega
theorem cutV_len (c : UInt8) (s : List UInt8) : (cutV c s).1.length ≤ s.length ∧ (cutV c s).2.1.length ≤ s.length := by
  unfold cutV
  cases h : cutA c s with
  | none => simp
  | some p =>
    obtain ⟨a, b⟩ := p
    obtain ⟨rfl, _⟩ := cutA_some h
    simp; omega
theorem preV_len (c : UInt8) (s : List UInt8) : (preV c s).length ≤ s.length := by
  unfold preV
  cases s with
  | nil => simp
  | cons b r => simp only; split <;> simp
theorem sufV_len (c : UInt8) (s : List UInt8) : (sufV c s).length ≤ s.length := by
  rcases lib_suf c s with ⟨_, h⟩ | ⟨h, _⟩
  · have := congrArg List.length h; simp at this; show (Lib.trimSuffix s [c]).length ≤ _; omega
  · show (Lib.trimSuffix s [c]).length ≤ _
    unfold Lib.trimSuffix; rw [h]; simp
set_option maxHeartbeats 16000000 in
theorem sparse_pc [GlobF Tryz.prog] (hp : PowOK) (he : ErrsOK) (hg : MaxLenOK) (s : List UInt8) (hs : s.length < 4294967281) : PC Tryz.prog 20 [str s] (.tu [sl2 (readL s), .sc (.int .i64 (readE s))]) := by
  by_cases hn : s = noneT
  · obtain ⟨r1, r2⟩ := read_yes (hn ▸ read_none)
    rw [r1, r2]
    refine PC.of_body Tryz.func20 Tryz.ntmps20 rfl rfl rfl ?_
    repeat' first
      | (apply p1 (hd := rfl); case hop => first | (apply D_move; rfl) | (apply D_assign; rfl) | (apply D_load1; rfl) | (apply D_pickT; rfl; rfl) | (apply D_pickF; rfl; rfl) | (apply D_int; rfl; rfl; rfl) | (apply D_lenM; rfl) | (apply D_len_sl; rfl) | (apply D_str; rfl; rfl; rfl) | (apply D_ext; rfl; rfl) | (apply D_not; rfl) | (apply D_loadW; rfl; rfl) | (apply D_loadA; rfl; rfl) | (apply D_len_nil; rfl) | (apply D_idxAn; rfl; rfl; (first | omega | (simp; done))) | (apply D_idxA; rfl; rfl; omega; (first | omega | (simp; done) | (simp; omega))) | (apply D_idxA0; rfl; rfl; omega; (first | omega | (simp; done) | (simp; omega))) | (apply D_lit; rfl; rfl; rfl; rfl) | exact D_build rfl | exact D_buildA rfl | (apply D_lenR; rfl) | (apply D_ixRn; rfl; rfl; (first | omega | (simp; done))) | (apply D_ixR; rfl; rfl; all_goals first | omega | ((repeat rw [w64 _ (by omega) (by omega)]); omega) | decide))
      | refine W_seq ?_
      | refine W_region ?_
      | (refine idC ?_; first | refine c1 rfl ?_ | refine c0 rfl ?_ | refine cs rfl (fun _ => ?_) (fun _ => ?_))
      | refine WL_nil ?_
      | (refine idG ?_; first | refine g0t rfl rfl rfl ?_ | refine g0f rfl rfl rfl ?_ | refine g0u rfl rfl rfl ?_ | refine gr rfl rfl ?_ | refine gs rfl rfl (fun _ => ?_) (fun _ => ?_) | refine grn rfl rfl ?_)
      | refine tn ?_
      | refine tr ?_
      | refine br ?_
      | refine bn ?_
      | refine te ?_
      | (refine idB ?_; first | refine bh rfl ?_ | refine bm rfl ?_)
      | refine W_skip ?_
      | refine W_block ?_
      | refine W_exit ?_
      | refine W_ret ?_
      | refine W_label ?_
      | refine W_scope ?_
      | refine sn ?_
      | refine sr ?_
      | refine se ?_
      | (refine idR ?_; first | refine ret2 rfl rfl rfl rfl ?_ ?_ | refine rL2 rfl (by first | exact trivial | exact ⟨rfl, trivial⟩) (by first | exact ResO.tmp rfl | exact ResO.cellBA rfl rfl rfl | exact ResO.cellB1 rfl rfl rfl | exact ResO.cellEA rfl rfl | exact ResO.cellE1 rfl) (by first | exact ResO.tmp rfl | exact ResO.cellBA rfl rfl rfl | exact ResO.cellB1 rfl rfl rfl | exact ResO.cellEA rfl rfl | exact ResO.cellE1 rfl) ?_ ?_)
      | refine Le.bool ?_
      | refine Le.int ?_
      | refine Le.str ?_
      | (refine idAp ?_; refine m_app rfl rfl (by first | rfl | assumption | exact get_set (by assumption) | exact get_set (get_set (by assumption)) | exact get_set (get_set (get_set (by assumption))) | ((repeat first | assumption | exact get_last | (refine get_last2 ?_; focus (simp; done)) | apply get_set | apply get_app | (apply get_ne; focus omega)); done)) ?_ rfl rfl ?_ ?_ rfl ?_; (first | rfl | focus (simp only [List.length_map, List.length_append, List.length_cons, List.length_nil]; omega) | focus (simp; done) | focus (simp; omega)); (first | focus (simp only [List.length_map, List.length_append, List.length_cons, List.length_nil]; omega) | focus (simp; done) | focus (simp; omega)); (first | focus (simp only [List.length_map, List.length_append, List.length_cons, List.length_nil]; omega) | focus (simp; done) | focus (simp; omega)))
      | (refine idAp ?_; refine m_appB rfl rfl rfl (by first | rfl | assumption | exact get_set (by assumption) | exact get_set (get_set (by assumption)) | exact get_set (get_set (get_set (by assumption))) | ((repeat first | assumption | exact get_last | (refine get_last2 ?_; focus (simp; done)) | apply get_set | apply get_app | (apply get_ne; focus omega)); done)) ?_ rfl rfl ?_ ?_ rfl ?_; (first | rfl | focus (simp only [List.length_map, List.length_append, List.length_cons, List.length_nil]; omega) | focus (simp; done) | focus (simp; omega)); (first | focus (simp only [List.length_map, List.length_append, List.length_cons, List.length_nil]; omega) | focus (simp; done) | focus (simp; omega)); (first | focus (simp only [List.length_map, List.length_append, List.length_cons, List.length_nil]; omega) | focus (simp; done) | focus (simp; omega)))
    all_goals first | contradiction | exact Le.nil rfl | rfl | (rename_i h; exact absurd hn h) | skip
    all_goals trace_state
  have hsp := tsplit_pc hg s hs
  have hsl := splS_len s
  have hn1 : Value.bool (sEq s noneT) = .bool false := by rw [(sEq_f _ _).mpr hn]
  refine PC.of_body Tryz.func20 Tryz.ntmps20 rfl rfl rfl ?_
  repeat' first
    | (apply p1 (hd := rfl); case hop => first | (apply D_move; rfl) | (apply D_assign; rfl) | exact D_sc (D_str rfl rfl rfl) hn1 | (apply D_pc hsp; rfl; exact .same rfl (.same rfl .nil)) | (apply D_load1; rfl) | (apply D_pickT; rfl; rfl) | (apply D_pickF; rfl; rfl) | (apply D_int; rfl; rfl; rfl) | (apply D_lenM; rfl) | (apply D_len_sl; rfl) | (apply D_str; rfl; rfl; rfl) | (apply D_ext; rfl; rfl) | (apply D_not; rfl) | (apply D_loadW; rfl; rfl) | (apply D_loadA; rfl; rfl) | (apply D_len_nil; rfl) | (apply D_idxAn; rfl; rfl; (first | omega | (simp; done))) | (apply D_idxA; rfl; rfl; omega; (first | omega | (simp; done) | (simp; omega))) | (apply D_idxA0; rfl; rfl; omega; (first | omega | (simp; done) | (simp; omega))) | (apply D_lit; rfl; rfl; rfl; rfl) | exact D_build rfl | exact D_buildA rfl | (apply D_lenR; rfl) | (apply D_ixRn; rfl; rfl; (first | omega | (simp; done))) | (apply D_ixR; rfl; rfl; all_goals first | omega | ((repeat rw [w64 _ (by omega) (by omega)]); omega) | decide))
    | refine W_seq ?_
    | refine W_region ?_
    | (refine idC ?_; first | refine c1 rfl ?_ | refine c0 rfl ?_ | refine cs rfl (fun _ => ?_) (fun _ => ?_))
    | refine WL_nil ?_
    | (refine idG ?_; first | refine g0t rfl rfl rfl ?_ | refine g0f rfl rfl rfl ?_ | refine g0u rfl rfl rfl ?_ | refine gr rfl rfl ?_ | refine gs rfl rfl (fun _ => ?_) (fun _ => ?_) | refine grn rfl rfl ?_)
    | refine tn ?_
    | refine tr ?_
    | refine br ?_
    | refine bn ?_
    | refine te ?_
    | (refine idB ?_; first | refine bh rfl ?_ | refine bm rfl ?_)
    | refine W_skip ?_
    | refine W_block ?_
    | refine W_exit ?_
    | refine W_ret ?_
    | refine W_label ?_
    | refine W_scope ?_
    | refine sn ?_
    | refine sr ?_
    | refine se ?_
    | (refine idR ?_; first | refine ret2 rfl rfl rfl rfl ?_ ?_ | refine rL2 rfl (by first | exact trivial | exact ⟨rfl, trivial⟩) (by first | exact ResO.tmp rfl | exact ResO.cellBA rfl rfl rfl | exact ResO.cellB1 rfl rfl rfl | exact ResO.cellEA rfl rfl | exact ResO.cellE1 rfl) (by first | exact ResO.tmp rfl | exact ResO.cellBA rfl rfl rfl | exact ResO.cellB1 rfl rfl rfl | exact ResO.cellEA rfl rfl | exact ResO.cellE1 rfl) ?_ ?_)
    | refine Le.bool ?_
    | refine Le.int ?_
    | refine Le.str ?_
    | (refine idAp ?_; refine m_app rfl rfl (by first | rfl | assumption | exact get_set (by assumption) | exact get_set (get_set (by assumption)) | exact get_set (get_set (get_set (by assumption))) | ((repeat first | assumption | exact get_last | (refine get_last2 ?_; focus (simp; done)) | apply get_set | apply get_app | (apply get_ne; focus omega)); done)) ?_ rfl rfl ?_ ?_ rfl ?_; (first | rfl | focus (simp only [List.length_map, List.length_append, List.length_cons, List.length_nil]; omega) | focus (simp; done) | focus (simp; omega)); (first | focus (simp only [List.length_map, List.length_append, List.length_cons, List.length_nil]; omega) | focus (simp; done) | focus (simp; omega)); (first | focus (simp only [List.length_map, List.length_append, List.length_cons, List.length_nil]; omega) | focus (simp; done) | focus (simp; omega)))
    | (refine idAp ?_; refine m_appB rfl rfl rfl (by first | rfl | assumption | exact get_set (by assumption) | exact get_set (get_set (by assumption)) | exact get_set (get_set (get_set (by assumption))) | ((repeat first | assumption | exact get_last | (refine get_last2 ?_; focus (simp; done)) | apply get_set | apply get_app | (apply get_ne; focus omega)); done)) ?_ rfl rfl ?_ ?_ rfl ?_; (first | rfl | focus (simp only [List.length_map, List.length_append, List.length_cons, List.length_nil]; omega) | focus (simp; done) | focus (simp; omega)); (first | focus (simp only [List.length_map, List.length_append, List.length_cons, List.length_nil]; omega) | focus (simp; done) | focus (simp; omega)); (first | focus (simp only [List.length_map, List.length_append, List.length_cons, List.length_nil]; omega) | focus (simp; done) | focus (simp; omega)))
  refine W_adopt 4 2 23 rfl ?_
  refine W_loopL (X := Nat × List Sp) (fun x => [(4, .sl (some 0) 2 (x.2.map sC)), (21, .sl none 1 ((splS s).map tC)), (22, .sc (.int .i64 ((splS s).length : Int))), (23, .sc (.int .i64 (x.1 : Int)))]) (fun x => [.tail x.2.length 2 23])
    (fun x => x.1 ≤ (splS s).length ∧ Parts ((splS s).take x.1) x.2) (fun x => (splS s).length - x.1) (0, []) ⟨Nat.zero_le _, parts_nil⟩ ⟨rfl, rfl, by simp [lookO], rfl, trivial⟩ rfl ?_
  rintro ⟨i, acc⟩ ⟨hi, hpa⟩
  simp only at hi hpa
  have hal : acc.length = i := by have := congrArg List.length hpa.2; rw [List.length_map, List.length_take] at this; omega
  by_cases hil : i < (splS s).length
  · have hpl : (splS s)[i].length ≤ s.length := splS_mem_len (List.getElem_mem _)
    obtain ⟨P, hP⟩ : ∃ P, P = (splS s)[i] := ⟨_, rfl⟩
    have hac : ∀ x y, PartP P ⟨x, y⟩ → Parts ((splS s).take (i + 1)) (acc ++ [⟨x, y⟩]) := fun x y h => by
      rw [List.take_succ_eq_append_getElem hil, ← hP]; exact parts_snoc hpa h
    have hno : (∀ r, ¬ PartP P r) → readS s = none := fun h => read_part hn hil (by rw [← hP]; exact h)
    have hcut := tcut_pc hg P 44 (by rw [hP]; omega)
    obtain ⟨c1, c2⟩ := cutV_len 44 P
    have hpre := tpre_pc (cutV 44 P).1 91
    have hsuf := tsuf_pc (cutV 44 P).2.1 41 (by rw [hP] at c2 ⊢; omega)
    have d1 := preV_len 91 (cutV 44 P).1
    have d2 := sufV_len 41 (cutV 44 P).2.1
    have hx := snumber_pc hp he (preV 91 (cutV 44 P).1) (by rw [hP] at *; omega)
    have hy := snumber_pc hp he (sufV 41 (cutV 44 P).2.1) (by rw [hP] at *; omega)
    have href := part_ref (p := P)
    have hacc := part_acc (p := P) (x := smN (preV 91 (cutV 44 P).1)) (y := smN (sufV 41 (cutV 44 P).2.1))
    have q4 := numB_some (s := preV 91 (cutV 44 P).1)
    have q5 := numB_some (s := sufV 41 (cutV 44 P).2.1)
    have q4' := numB_none (s := preV 91 (cutV 44 P).1)
    have q5' := numB_none (s := sufV 41 (cutV 44 P).2.1)
    have g0 : Value.bool (iLt (i : Int) ((splS s).length : Int)) = .bool true := by rw [(iLt_t _ _).mpr (by omega)]
    subst hP
    repeat' first
      | (apply p1 (hd := rfl); case hop => first | (apply D_move; rfl) | (apply D_assign; rfl) | exact D_sc (D_int rfl rfl rfl) g0 | (apply D_pc hcut; rfl; exact .same rfl (.same rfl .nil)) | (apply D_pc hpre; rfl; exact .same rfl (.same rfl .nil)) | (apply D_pc hsuf; rfl; exact .same rfl (.same rfl .nil)) | (apply D_pc hx; rfl; exact .same rfl .nil) | (apply D_pc hy; rfl; exact .same rfl .nil) | (apply D_load1; rfl) | (apply D_pickT; rfl; rfl) | (apply D_pickF; rfl; rfl) | (apply D_int; rfl; rfl; rfl) | (apply D_lenM; rfl) | (apply D_len_sl; rfl) | (apply D_str; rfl; rfl; rfl) | (apply D_ext; rfl; rfl) | (apply D_not; rfl) | (apply D_loadW; rfl; rfl) | (apply D_loadA; rfl; rfl) | (apply D_len_nil; rfl) | (apply D_idxAn; rfl; rfl; (first | omega | (simp; done))) | (apply D_idxA; rfl; rfl; omega; (first | omega | (simp; done) | (simp; omega))) | (apply D_idxA0; rfl; rfl; omega; (first | omega | (simp; done) | (simp; omega))) | (apply D_lit; rfl; rfl; rfl; rfl) | exact D_build rfl | exact D_buildA rfl | (apply D_lenR; rfl) | (apply D_ixRn; rfl; rfl; (first | omega | (simp; done))) | (apply D_ixR; rfl; rfl; all_goals first | omega | ((repeat rw [w64 _ (by omega) (by omega)]); omega) | decide))
      | refine W_seq ?_
      | refine W_region ?_
      | (refine idC ?_; first | refine c1 rfl ?_ | refine c0 rfl ?_ | refine cs rfl (fun _ => ?_) (fun _ => ?_))
      | refine WL_nil ?_
      | (refine idG ?_; first | refine g0t rfl rfl rfl ?_ | refine g0f rfl rfl rfl ?_ | refine g0u rfl rfl rfl ?_ | refine gr rfl rfl ?_ | refine gs rfl rfl (fun _ => ?_) (fun _ => ?_) | refine grn rfl rfl ?_)
      | refine tn ?_
      | refine tr ?_
      | refine br ?_
      | refine bn ?_
      | refine te ?_
      | (refine idB ?_; first | refine bh rfl ?_ | refine bm rfl ?_)
      | refine W_skip ?_
      | refine W_block ?_
      | refine W_exit ?_
      | refine W_ret ?_
      | refine W_label ?_
      | refine W_scope ?_
      | refine sn ?_
      | refine sr ?_
      | refine se ?_
      | (refine idR ?_; first | refine ret2 rfl rfl rfl rfl ?_ ?_ | refine rL2 rfl (by first | exact trivial | exact ⟨rfl, trivial⟩) (by first | exact ResO.tmp rfl | exact ResO.cellBA rfl rfl rfl | exact ResO.cellB1 rfl rfl rfl | exact ResO.cellEA rfl rfl | exact ResO.cellE1 rfl) (by first | exact ResO.tmp rfl | exact ResO.cellBA rfl rfl rfl | exact ResO.cellB1 rfl rfl rfl | exact ResO.cellEA rfl rfl | exact ResO.cellE1 rfl) ?_ ?_)
      | refine Le.bool ?_
      | refine Le.int ?_
      | refine Le.str ?_
      | (refine idAp ?_; refine m_app rfl rfl (by first | rfl | assumption | exact get_set (by assumption) | exact get_set (get_set (by assumption)) | exact get_set (get_set (get_set (by assumption))) | ((repeat first | assumption | exact get_last | (refine get_last2 ?_; focus (simp; done)) | apply get_set | apply get_app | (apply get_ne; focus omega)); done)) ?_ rfl rfl ?_ ?_ rfl ?_; (first | rfl | focus (simp only [List.length_map, List.length_append, List.length_cons, List.length_nil]; omega) | focus (simp; done) | focus (simp; omega)); (first | focus (simp only [List.length_map, List.length_append, List.length_cons, List.length_nil]; omega) | focus (simp; done) | focus (simp; omega)); (first | focus (simp only [List.length_map, List.length_append, List.length_cons, List.length_nil]; omega) | focus (simp; done) | focus (simp; omega)))
      | (refine idAp ?_; refine m_appB rfl rfl rfl (by first | rfl | assumption | exact get_set (by assumption) | exact get_set (get_set (by assumption)) | exact get_set (get_set (get_set (by assumption))) | ((repeat first | assumption | exact get_last | (refine get_last2 ?_; focus (simp; done)) | apply get_set | apply get_app | (apply get_ne; focus omega)); done)) ?_ rfl rfl ?_ ?_ rfl ?_; (first | rfl | focus (simp only [List.length_map, List.length_append, List.length_cons, List.length_nil]; omega) | focus (simp; done) | focus (simp; omega)); (first | focus (simp only [List.length_map, List.length_append, List.length_cons, List.length_nil]; omega) | focus (simp; done) | focus (simp; omega)); (first | focus (simp only [List.length_map, List.length_append, List.length_cons, List.length_nil]; omega) | focus (simp; done) | focus (simp; omega)))
    all_goals first
      | contradiction
      | (have hb := hno (href (by first | exact .inl (by assumption) | exact .inr (.inl (by assumption)) | exact .inr (.inr (.inl (by assumption))) | exact .inr (.inr (.inr (.inl (q4' (by assumption))))) | exact .inr (.inr (.inr (.inr (q5' (by assumption)))))))
         first
           | (rw [(read_no hb).1]; exact Le.nil rfl)
           | exact (read_no hb).2.symm)
      | exact ⟨rfl, (i + 1, acc ++ [⟨_, _⟩]), ⟨by show i + 1 ≤ _; omega, hac _ _ (hacc (by assumption) (by assumption) (by assumption) (q4 (by assumption)) (q5 (by assumption)))⟩, by show _ - (i + 1) < _ - i; omega, ⟨by rw [List.map_append]; rfl, rfl, rfl, ieq (wsucc i (by omega)), trivial⟩, by simp⟩
      | skip
    all_goals trace_state
  · have hfin := read_all hn (l := acc) (by rw [List.take_of_length_le (by omega)] at hpa; exact hpa)
    have g0 : Value.bool (iLt (i : Int) ((splS s).length : Int)) = .bool false := by rw [(iLt_f _ _).mpr (by omega)]
    have hset := set_pc acc (by omega)
    repeat' first
      | (apply p1 (hd := rfl); case hop => first | (apply D_move; rfl) | (apply D_assign; rfl) | exact D_sc (D_int rfl rfl rfl) g0 | (apply D_pc hset; rfl; exact .tok rfl .nil) | (apply D_load1; rfl) | (apply D_pickT; rfl; rfl) | (apply D_pickF; rfl; rfl) | (apply D_int; rfl; rfl; rfl) | (apply D_lenM; rfl) | (apply D_len_sl; rfl) | (apply D_str; rfl; rfl; rfl) | (apply D_ext; rfl; rfl) | (apply D_not; rfl) | (apply D_loadW; rfl; rfl) | (apply D_loadA; rfl; rfl) | (apply D_len_nil; rfl) | (apply D_idxAn; rfl; rfl; (first | omega | (simp; done))) | (apply D_idxA; rfl; rfl; omega; (first | omega | (simp; done) | (simp; omega))) | (apply D_idxA0; rfl; rfl; omega; (first | omega | (simp; done) | (simp; omega))) | (apply D_lit; rfl; rfl; rfl; rfl) | exact D_build rfl | exact D_buildA rfl | (apply D_lenR; rfl) | (apply D_ixRn; rfl; rfl; (first | omega | (simp; done))) | (apply D_ixR; rfl; rfl; all_goals first | omega | ((repeat rw [w64 _ (by omega) (by omega)]); omega) | decide))
      | refine W_seq ?_
      | refine W_region ?_
      | (refine idC ?_; first | refine c1 rfl ?_ | refine c0 rfl ?_ | refine cs rfl (fun _ => ?_) (fun _ => ?_))
      | refine WL_nil ?_
      | (refine idG ?_; first | refine g0t rfl rfl rfl ?_ | refine g0f rfl rfl rfl ?_ | refine g0u rfl rfl rfl ?_ | refine gr rfl rfl ?_ | refine gs rfl rfl (fun _ => ?_) (fun _ => ?_) | refine grn rfl rfl ?_)
      | refine tn ?_
      | refine tr ?_
      | refine br ?_
      | refine bn ?_
      | refine te ?_
      | (refine idB ?_; first | refine bh rfl ?_ | refine bm rfl ?_)
      | refine W_skip ?_
      | refine W_block ?_
      | refine W_exit ?_
      | refine W_ret ?_
      | refine W_label ?_
      | refine W_scope ?_
      | refine sn ?_
      | refine sr ?_
      | refine se ?_
      | (refine idR ?_; first | refine ret2 rfl rfl rfl rfl ?_ ?_ | refine rL2 rfl (by first | exact trivial | exact ⟨rfl, trivial⟩) (by first | exact ResO.tmp rfl | exact ResO.cellBA rfl rfl rfl | exact ResO.cellB1 rfl rfl rfl | exact ResO.cellEA rfl rfl | exact ResO.cellE1 rfl) (by first | exact ResO.tmp rfl | exact ResO.cellBA rfl rfl rfl | exact ResO.cellB1 rfl rfl rfl | exact ResO.cellEA rfl rfl | exact ResO.cellE1 rfl) ?_ ?_)
      | refine Le.bool ?_
      | refine Le.int ?_
      | refine Le.str ?_
      | (refine idAp ?_; refine m_app rfl rfl (by first | rfl | assumption | exact get_set (by assumption) | exact get_set (get_set (by assumption)) | exact get_set (get_set (get_set (by assumption))) | ((repeat first | assumption | exact get_last | (refine get_last2 ?_; focus (simp; done)) | apply get_set | apply get_app | (apply get_ne; focus omega)); done)) ?_ rfl rfl ?_ ?_ rfl ?_; (first | rfl | focus (simp only [List.length_map, List.length_append, List.length_cons, List.length_nil]; omega) | focus (simp; done) | focus (simp; omega)); (first | focus (simp only [List.length_map, List.length_append, List.length_cons, List.length_nil]; omega) | focus (simp; done) | focus (simp; omega)); (first | focus (simp only [List.length_map, List.length_append, List.length_cons, List.length_nil]; omega) | focus (simp; done) | focus (simp; omega)))
      | (refine idAp ?_; refine m_appB rfl rfl rfl (by first | rfl | assumption | exact get_set (by assumption) | exact get_set (get_set (by assumption)) | exact get_set (get_set (get_set (by assumption))) | ((repeat first | assumption | exact get_last | (refine get_last2 ?_; focus (simp; done)) | apply get_set | apply get_app | (apply get_ne; focus omega)); done)) ?_ rfl rfl ?_ ?_ rfl ?_; (first | rfl | focus (simp only [List.length_map, List.length_append, List.length_cons, List.length_nil]; omega) | focus (simp; done) | focus (simp; omega)); (first | focus (simp only [List.length_map, List.length_append, List.length_cons, List.length_nil]; omega) | focus (simp; done) | focus (simp; omega)); (first | focus (simp only [List.length_map, List.length_append, List.length_cons, List.length_nil]; omega) | focus (simp; done) | focus (simp; omega)))
    all_goals first
      | contradiction
      | (rw [dif_neg (by assumption)] at hfin
         first
           | (rw [(read_no hfin).1]; exact Le.nil rfl)
           | exact (read_no hfin).2.symm)
      | (rw [dif_pos (by assumption)] at hfin
         first
           | (rw [(read_yes hfin).1]; exact Le.tokq rfl)
           | exact (read_yes hfin).2.symm)
      | skip
    all_goals trace_state
end Go.Proofs

namespace Go.Proofs
open Go.AL
attribute [local irreducible] Go.AL.W Go.AL.WL Go.AL.WD Go.AL.POp Go.AL.PPOp Go.AL.POpS Go.AL.PC Go.AL.AC Go.AL.YW Go.AL.Ret Go.AL.Le Go.AL.thn Go.AL.inBlk Go.AL.scp
theorem rng_one {f t : Int} (h1 : rngI f) (h2 : rngI t) : rngL [⟨f, t⟩] := fun s hs => by rw [List.mem_singleton.1 hs]; exact ⟨h1, h2⟩
theorem rng_two {f t f2 t2 : Int} (h1 : rngI f) (h2 : rngI t) (h3 : rngI f2) (h4 : rngI t2) : rngL [⟨f, t⟩, ⟨f2, t2⟩] := fun s hs => by
  rcases List.mem_cons.1 hs with rfl | hs
  · exact ⟨h1, h2⟩
  · rw [List.mem_singleton.1 hs]; exact ⟨h3, h4⟩
theorem read_bad {s : List UInt8} {l : List Sp} (hn : s ≠ noneT) (h : Parts (splS s) l) (hs : ¬ SetP l) : readL s = [] ∧ readE s = 30 := by
  have := read_all hn h
  rw [dif_neg hs] at this
  exact read_no this
theorem read_part' {s : List UInt8} (hn : s ≠ noneT) {p : List UInt8} (hp : p ∈ splS s) (h : ∀ r, ¬ PartP p r) : readL s = [] ∧ readE s = 30 := by
  obtain ⟨i, hi, rfl⟩ := List.getElem_of_mem hp
  exact read_no (read_part hn hi h)
theorem no_end {s : List UInt8} (h : ∃ c ∈ s, c = 32 ∨ c = 44 ∨ c = 41 ∨ c = 91) : numS s = none := numS_none.2 fun n hn => by
  obtain ⟨c, hc, h⟩ := h
  rw [← hn.2] at hc
  obtain ⟨h1, h2, h3, h4⟩ := end_mem n c hc
  rcases h with h | h | h | h
  · exact h1 h
  · exact h2 h
  · exact h3 h
  · exact h4 h
theorem no_parse {s : List UInt8} {m : Int} (hp : Lib.parseIntB 64 s = .ok m) (h : Lib.itoa m ≠ s ∨ m = -9223372036854775808 ∨ m = 9223372036854775807) (h1 : s ≠ [45]) (h2 : s ≠ [43]) : numS s = none := numS_none.2 fun n hn => by
  rcases endP_or.1 hn with ⟨h3, _⟩ | ⟨h3, _⟩ | ⟨_, _, ⟨r0, r1, h3⟩, n1, n2⟩
  · exact h1 h3
  · exact h2 h3
  · have := parse_itoa r0 r1
    rw [h3, hp] at this
    cases this
    rcases h with h | h | h
    · exact h h3
    · exact n1 h
    · exact n2 h
abbrev t1 : List UInt8 := [91, 53, 44, 49, 41]
abbrev t2 : List UInt8 := [91, 49, 44, 53, 41, 91, 55, 44, 57, 41]
abbrev t3 : List UInt8 := [91, 49, 44, 53, 41, 32, 91, 53, 44, 57, 41]
abbrev t5 : List UInt8 := [91, 49, 44, 53, 41, 32]
abbrev t6 : List UInt8 := [91, 45, 57, 50, 50, 51, 51, 55, 50, 48, 51, 54, 56, 53, 52, 55, 55, 53, 56, 48, 56, 44, 53, 41]
abbrev t7 : List UInt8 := [91, 48, 49, 44, 53, 41]
theorem r1 : readL t1 = [] ∧ readE t1 = 30 := read_bad (l := [⟨5, 1⟩]) (by decide) ⟨rng_one ⟨by decide, by decide⟩ ⟨by decide, by decide⟩, by decide +kernel⟩ (fun h => absurd (h.1 _ (.head _)) (by decide))
theorem r2 : readL t2 = [] ∧ readE t2 = 30 := read_part' (p := t2) (by decide) (by decide +kernel) (part_ref (.inr (.inr (.inr (.inr (no_end ⟨41, by decide +kernel, by decide⟩))))))
theorem r3 : readL t3 = [] ∧ readE t3 = 30 := read_bad (l := [⟨1, 5⟩, ⟨5, 9⟩]) (by decide) ⟨rng_two ⟨by decide, by decide⟩ ⟨by decide, by decide⟩ ⟨by decide, by decide⟩ ⟨by decide, by decide⟩, by decide +kernel⟩ (fun h => absurd ((List.pairwise_cons.1 h.2).1 ⟨5, 9⟩ (.head _)) (by decide))
theorem r4 : readL [] = [] ∧ readE [] = 30 := read_part' (p := []) (by decide) (by decide) (part_ref (.inl (by decide)))
theorem r5 : readL t5 = [] ∧ readE t5 = 30 := read_part' (p := []) (by decide) (by decide +kernel) (part_ref (.inl (by decide)))
theorem r6 : readL t6 = [] ∧ readE t6 = 30 := read_part' (p := t6) (by decide) (by decide +kernel) (part_ref (.inr (.inr (.inr (.inl (no_parse (m := -9223372036854775808) (by decide +kernel) (.inr (.inl rfl)) (by decide +kernel) (by decide +kernel)))))))
theorem r7 : readL t7 = [] ∧ readE t7 = 30 := read_part' (p := t7) (by decide) (by decide +kernel) (part_ref (.inr (.inr (.inr (.inl (no_parse (m := 1) (by decide +kernel) (.inl (by decide +kernel)) (by decide +kernel) (by decide +kernel)))))))
set_option maxHeartbeats 4000000 in
theorem refused_pc [GlobF Tryz.prog] (hp : PowOK) (he : ErrsOK) (hg : MaxLenOK) (s : List UInt8) (hs : s.length < 4294967281) (h : readL s = [] ∧ readE s = 30) : PC Tryz.prog 8 [str s] (.sc (.int .i64 1)) := by
  have f := sparse_pc hp he hg s hs
  rw [h.1, h.2] at f
  have e1 := iqT (show (30 : Int) = 30 from rfl)
  have e2 : Value.bool (iEq ((([] : List Sp).length : Nat) : Int) 0) = .bool true := iqT rfl
  refine PC.of_body Tryz.func8 Tryz.ntmps8 rfl rfl rfl ?_
  repeat' first
    | (apply p1 (hd := rfl); case hop => first | (apply D_move; rfl) | (apply D_assign; rfl) | exact D_sc (D_int rfl rfl rfl) e1 | exact D_sc (D_int rfl rfl rfl) e2 | (apply D_pc f; rfl; exact .same rfl .nil) | (apply D_pickT; rfl; rfl) | (apply D_pickF; rfl; rfl) | (apply D_int; rfl; rfl; rfl) | (apply D_lenM; rfl) | (apply D_len_sl; rfl) | (apply D_ext; rfl; rfl) | (apply D_len_nil; rfl) | (apply D_lenR; rfl))
    | refine W_seq ?_
    | refine W_region ?_
    | (refine idC ?_; first | refine c1 rfl ?_ | refine c0 rfl ?_ | refine cs rfl (fun _ => ?_) (fun _ => ?_))
    | refine WL_nil ?_
    | (refine idG ?_; first | refine g0t rfl rfl rfl ?_ | refine g0f rfl rfl rfl ?_ | refine g0u rfl rfl rfl ?_ | refine gr rfl rfl ?_ | refine gs rfl rfl (fun _ => ?_) (fun _ => ?_) | refine grn rfl rfl ?_)
    | refine tn ?_
    | refine tr ?_
    | refine br ?_
    | refine bn ?_
    | refine te ?_
    | (refine idB ?_; first | refine bh rfl ?_ | refine bm rfl ?_)
    | refine W_skip ?_
    | refine W_block ?_
    | refine W_exit ?_
    | refine W_ret ?_
    | refine W_label ?_
    | refine W_scope ?_
    | refine sn ?_
    | refine sr ?_
    | refine se ?_
    | (refine idR ?_; first | refine ret1 rfl rfl rfl ?_ | refine rL1 rfl (by first | exact trivial | exact ⟨rfl, trivial⟩) (by first | exact ResO.tmp rfl | exact ResO.cellBA rfl rfl rfl | exact ResO.cellB1 rfl rfl rfl | exact ResO.cellEA rfl rfl | exact ResO.cellE1 rfl) ?_)
    | refine Le.bool ?_
    | refine Le.int ?_
    | refine Le.str ?_
  all_goals first | rfl | contradiction | skip
  all_goals trace_state
theorem set1 {f t : Int} (h : f < t) : SetP [⟨f, t⟩] := setP_one h
theorem or_ex : canS ([⟨1, 5⟩] ++ [⟨3, 9⟩]) = [⟨1, 9⟩] := by
  have hn : neS ([⟨1, 5⟩] ++ [⟨3, 9⟩] : List Sp) := fun s hs => by
    simp only [List.mem_append, List.mem_cons, List.not_mem_nil, or_false] at hs
    rcases hs with rfl | rfl <;> decide
  obtain ⟨k1, k2⟩ := canS_ok hn
  refine set_ext k1 (set1 (by decide)) fun x => ?_
  rw [k2]
  simp only [List.cons_append, List.nil_append, inS_cons, show ∀ x, inS [] x = False from fun x => eq_false (inS_nil x), or_false]
  omega
theorem and_ex : meetL [⟨1, 5⟩] [⟨3, 9⟩] = [⟨3, 5⟩] := by
  rw [meetL_cons, if_pos (by decide), if_pos (by decide), meetL_nil]; rfl
theorem min_ex : meetL [⟨1, 5⟩] (restL loT [⟨3, 9⟩]) = [⟨1, 3⟩] := by
  have e : restL loT [⟨3, 9⟩] = [⟨loT, 3⟩, ⟨9, hiT⟩] := by
    simp only [restL]; rw [if_pos (by decide), if_pos (by decide)]; rfl
  rw [e, meetL_cons, if_pos (by decide), if_neg (by decide), meetL_cons, if_neg (by decide), if_pos (by decide), meetL_nil]; rfl
theorem text_1 : textS [⟨loT, hiT⟩] = [91, 45, 44, 43, 41] := by decide +kernel
theorem text_2 : textS [⟨1, 5⟩, ⟨7, hiT⟩] = [91, 49, 44, 53, 41, 32, 91, 55, 44, 43, 41] := by decide +kernel
theorem sqT {a b : List UInt8} (h : a = b) : Value.bool (sEq a b) = .bool true := by rw [(sEq_t _ _).mpr h]
theorem lqT {a b : List Value} (h : a = b) : Value.bool (lEq a b) = .bool true := congrArg _ (by rw [lEq_t]; exact h)
set_option maxHeartbeats 64000000 in
theorem spanNames_pc [GlobF Tryz.prog] (hp : PowOK) (he : ErrsOK) (hg : MaxLenOK) : PC Tryz.prog 3 [] (.sc (.bool true)) := by
  have s15 : SetP [⟨1, 5⟩] := set1 (by decide)
  have s39 : SetP [⟨3, 9⟩] := set1 (by decide)
  have f1 := sor_pc [⟨1, 5⟩] [⟨3, 9⟩] s15 s39 (by decide) (by decide)
  rw [or_ex] at f1
  have f2 := sand_pc [⟨1, 5⟩] [⟨3, 9⟩] s15 s39 (by decide) (by decide)
  rw [and_ex] at f2
  have f3 := sminus_pc [⟨1, 5⟩] [⟨3, 9⟩] s15 s39 (by decide) (by decide)
  rw [min_ex] at f3
  have g1 := stext_pc hp [⟨loT, hiT⟩] (by decide) (rng_one ⟨by decide, by decide⟩ ⟨by decide, by decide⟩) (set1 (by decide)) (by simp)
  rw [text_1] at g1
  have g2 := stext_pc hp [⟨1, 5⟩, ⟨7, hiT⟩] (by decide) (rng_two ⟨by decide, by decide⟩ ⟨by decide, by decide⟩ ⟨by decide, by decide⟩ ⟨by decide, by decide⟩) (setP_cons.2 ⟨by decide, fun r hr => by rw [List.mem_singleton.1 hr]; decide, setP_one (by decide)⟩) (by simp)
  rw [text_2] at g2
  have g3 := stext0_pc
  have q1 := refused_pc hp he hg t1 (by decide) r1
  have q2 := refused_pc hp he hg t2 (by decide) r2
  have q3 := refused_pc hp he hg t3 (by decide) r3
  have q4 := refused_pc hp he hg [] (by decide) r4
  have q5 := refused_pc hp he hg t5 (by decide) r5
  have q6 := refused_pc hp he hg t6 (by decide) r6
  have q7 := refused_pc hp he hg t7 (by decide) r7
  have c1 := scheck_pc [⟨0, 0⟩] (by decide)
  rw [← dP_F (p := SetP [⟨0, 0⟩]) (fun h => absurd (h.1 _ (.head _)) (by decide))] at c1
  have c2 := has_pc [⟨1, 5⟩] (by decide) 5
  rw [← dP_F (p := SetP [⟨1, 5⟩] ∧ inS [⟨1, 5⟩] 5) (fun h => by rw [inS_one] at h; exact absurd h.2.2 (by decide))] at c2
  have c3 := scovers_pc [⟨1, 5⟩] [] (by decide) (by decide)
  rw [← dP_T (p := covP [⟨1, 5⟩] []) ⟨.nil, s15, by rw [show minL [] [⟨1, 5⟩] = meetL [] (restL loT [⟨1, 5⟩]) from rfl, meetL_nil]⟩] at c3
  have c4 := scovers_pc [] [⟨1, 5⟩] (by decide) (by decide)
  rw [← dP_F (p := covP [] [⟨1, 5⟩]) (fun h => absurd h.2.2 (by decide +kernel))] at c4
  have al := salive_pc
  refine PC.of_body Tryz.func3 Tryz.ntmps3 rfl rfl rfl ?_
  repeat' first
    | (apply p1 (hd := rfl); case hop => first | (apply D_move; rfl) | (apply D_assign; rfl) | exact D_sc (D_int rfl rfl rfl) (iqT rfl) | exact D_sc (D_int rfl rfl rfl) (iqT (by decide)) | exact D_sc (D_str rfl rfl rfl) (sqT rfl) | exact D_sc (D_eqA rfl rfl rfl rfl rfl rfl rfl) (lqT rfl) | exact D_sc (D_not rfl) nF | (apply D_pc f1; rfl; exact .same rfl (.same rfl .nil)) | (apply D_pc f2; rfl; exact .same rfl (.same rfl .nil)) | (apply D_pc f3; rfl; exact .same rfl (.same rfl .nil)) | (apply D_pc g1; rfl; exact .same rfl .nil) | (apply D_pc g2; rfl; exact .same rfl .nil) | (apply D_pc g3; rfl; exact .niln rfl .nil) | (apply D_pc q1; rfl; exact .same rfl .nil) | (apply D_pc q2; rfl; exact .same rfl .nil) | (apply D_pc q3; rfl; exact .same rfl .nil) | (apply D_pc q4; rfl; exact .same rfl .nil) | (apply D_pc q5; rfl; exact .same rfl .nil) | (apply D_pc q6; rfl; exact .same rfl .nil) | (apply D_pc q7; rfl; exact .same rfl .nil) | (apply D_pc al; rfl; exact .nil) | (apply D_pc c1; rfl; exact .same rfl .nil) | (apply D_pc c2; rfl; exact .same rfl (.same rfl .nil)) | (apply D_pc c3; rfl; exact .same rfl (.niln rfl .nil)) | (apply D_pc c4; rfl; exact .niln rfl (.same rfl .nil)) | (apply D_load1; rfl) | (apply D_pickT; rfl; rfl) | (apply D_pickF; rfl; rfl) | (apply D_int; rfl; rfl; rfl) | (apply D_lenM; rfl) | (apply D_len_sl; rfl) | (apply D_str; rfl; rfl; rfl) | (apply D_ext; rfl; rfl) | (apply D_not; rfl) | (apply D_loadW; rfl; rfl) | (apply D_loadA; rfl; rfl) | (apply D_len_nil; rfl) | (apply D_idxAn; rfl; rfl; (first | omega | (simp; done))) | (apply D_idxA; rfl; rfl; omega; (first | omega | (simp; done) | (simp; omega))) | (apply D_idxA0; rfl; rfl; omega; (first | omega | (simp; done) | (simp; omega))) | (apply D_lit; rfl; rfl; rfl; rfl) | exact D_build rfl | exact D_buildA rfl | (apply D_lenR; rfl) | (apply D_ixRn; rfl; rfl; (first | omega | (simp; done))) | (apply D_ixR; rfl; rfl; all_goals first | omega | ((repeat rw [w64 _ (by omega) (by omega)]); omega) | decide) | exact D_eqA rfl rfl rfl rfl rfl rfl rfl | exact D_neA rfl rfl rfl rfl rfl rfl rfl)
    | refine W_seq ?_
    | refine W_region ?_
    | refine WL_nil ?_
    | (refine idG ?_; first | refine g0t rfl rfl rfl ?_ | refine g0f rfl rfl rfl ?_ | refine g0u rfl rfl rfl ?_ | refine gr rfl rfl ?_ | refine gs rfl rfl (fun _ => ?_) (fun _ => ?_) | refine grn rfl rfl ?_)
    | refine tn ?_
    | refine tr ?_
    | refine br ?_
    | refine bn ?_
    | refine te ?_
    | (refine idB ?_; first | refine bh rfl ?_ | refine bm rfl ?_)
    | refine W_skip ?_
    | refine W_block ?_
    | refine W_exit ?_
    | refine W_ret ?_
    | refine W_label ?_
    | refine W_scope ?_
    | refine sn ?_
    | refine sr ?_
    | refine se ?_
    | (refine idR ?_; first | refine ret1 rfl rfl rfl ?_ | refine rL1 rfl (by first | exact trivial | exact ⟨rfl, trivial⟩) (by first | exact ResO.tmp rfl | exact ResO.cellBA rfl rfl rfl | exact ResO.cellB1 rfl rfl rfl | exact ResO.cellEA rfl rfl | exact ResO.cellE1 rfl) ?_)
    | refine Le.bool ?_
    | refine Le.int ?_
    | refine Le.str ?_
  all_goals first | rfl | contradiction | (exfalso; omega) | skip
  all_goals trace_state
end Go.Proofs

namespace Go.AL
end Go.AL
