/- Contracts of the reference's readers of values' texts: Parse. -/
import Derived.Test.YtaphfieahcimcaaGreatDoorZQT13
namespace Go.Proofs
open Go.AL
attribute [local irreducible] Go.AL.W Go.AL.WL Go.AL.WD Go.AL.POp Go.AL.PPOp Go.AL.POpS Go.AL.PC Go.AL.AC Go.AL.YW Go.AL.Ret Go.AL.Le Go.AL.thn Go.AL.inBlk Go.AL.scp

theorem parse_of {s : List UInt8} {v : Val} (hb : readB s = true) (hv : readP s = v) : (MayP v → parseV s = v ∧ parseE s = 0) ∧ (¬ MayP v → parseV s = zV ∧ parseE s = 11) := by
  have h := readB_y hb
  rw [hv] at h
  exact ⟨fun hm => parse_ok h hm, fun hm => parse_no fun u e => by rw [h] at e; cases e; exact hm⟩
theorem pB_head {c : UInt8} {r : List UInt8} (h : pB (c :: r) = true) : hd0 c r = 45 ∨ (48 ≤ hd0 c r ∧ hd0 c r ≤ 57) := by
  obtain ⟨n, hn⟩ := (pB_iff _).1 h
  obtain ⟨d, t, e, hd⟩ := itoa_head n
  rw [hn.2.2] at e
  injection e with e _
  show (c.toNat : Int) = 45 ∨ (48 ≤ (c.toNat : Int) ∧ (c.toNat : Int) ≤ 57)
  subst e
  rcases hd with hd | rfl
  · unfold isD at hd; omega
  · exact .inl rfl
theorem def_case {c : UInt8} {r : List UInt8} (h3 : hd0 c r ≠ 64) (h4 : hd0 c r ≠ 33) (h5 : hd0 c r ≠ 58) (h6 : hd0 c r ≠ 35) (hq : ¬ (hd0 c r = 34 ∧ sufB r = true)) (ht : c :: r ≠ [116, 114, 117, 101]) (hf : c :: r ≠ [102, 97, 108, 115, 101]) :
    readB (c :: r) = pB (c :: r) ∧ (pB (c :: r) = true → readP (c :: r) = ⟨1, pN (c :: r), []⟩) := by
  have hno : hd0 c r = 116 ∨ hd0 c r = 102 ∨ hd0 c r = 34 → pB (c :: r) = false := fun h => by
    cases hp : pB (c :: r) with
    | false => rfl
    | true => have := pB_head hp; omega
  by_cases h1 : hd0 c r = 116 ∨ hd0 c r = 102
  · have e := rdB_tf h1 ht
    have e2 : sEq (c :: r) [102, 97, 108, 115, 101] = false := by
      cases h : sEq (c :: r) [102, 97, 108, 115, 101] with
      | false => rfl
      | true => rw [sEq_t] at h; exact absurd h hf
    have e3 := hno (by omega)
    rw [← e, e2, e3]
    exact ⟨rfl, fun h => by cases h⟩
  · by_cases h7 : hd0 c r = 34
    · have e := (rd_34 (by omega) (by omega) h3 h4 h5 h6 h7).2
      have e3 := hno (by omega)
      have e4 : sufB r = false := by
        cases h : sufB r with
        | false => rfl
        | true => exact absurd ⟨h7, h⟩ hq
      rw [e, e3, e4]
      exact ⟨rfl, fun h => by cases h⟩
    · have e := rd_n (c := c) (r := r) (by omega) (by omega) h3 h4 h5 h6 h7
      exact ⟨e.2, fun _ => e.1⟩
theorem last_q {c : UInt8} {r : List UInt8} (h : 0 < r.length) : ((((c :: r)[r.length]'(by simp)).toNat : Int) = 34) ↔ sufB r = true := by
  rw [sufB_t]
  have hne : r ≠ [] := by intro e; rw [e] at h; simp at h
  have e : (c :: r)[r.length]'(by simp) = r.getLast hne := by
    rw [List.getLast_eq_getElem]
    obtain ⟨m, hm⟩ : ∃ m, r.length = m + 1 := ⟨r.length - 1, by omega⟩
    simp only [hm, List.getElem_cons_succ, Nat.add_sub_cancel]
  rw [e, List.getLast?_eq_some_getLast hne]
  constructor
  · intro h; rw [show r.getLast hne = 34 from UInt8.toNat_inj.1 (by show _ = 34; omega)]
  · intro h; rw [Option.some.inj h]; rfl
theorem sl_q (c : UInt8) (r : List UInt8) : ((c :: r).take r.length).drop 1 = r.dropLast := by
  rw [List.dropLast_eq_take]
  cases r with
  | nil => rfl
  | cons d t => simp
theorem unhexV_len (s : List UInt8) : (unhexV s).length ≤ s.length := by
  unfold unhexV
  rcases h : unhex s with _ | l
  · simp
  · have h1 := hexs_len l
    rw [unhex_inv _ _ h] at h1
    simp only [Option.getD_some]; omega

theorem gt0 {n : Nat} (h : 0 < n) : Value.bool (iLt 0 (n : Int)) = .bool true := by rw [(iLt_t _ _).mpr (by omega)]
theorem gt1 {n : Nat} (h : 1 < n) : Value.bool (iLt 1 (n : Int)) = .bool true := by rw [(iLt_t _ _).mpr (by omega)]
theorem p_true : parseV [116, 114, 117, 101] = ⟨2, 1, []⟩ ∧ parseE [116, 114, 117, 101] = 0 := parse_ok (by simp [readL]) (by simp [MayP])
theorem p_false : parseV [102, 97, 108, 115, 101] = ⟨2, 0, []⟩ ∧ parseE [102, 97, 108, 115, 101] = 0 := parse_ok (by simp [readL]) (by simp [MayP])
theorem lf {s : List UInt8} {b : Bool} (hB : readB s = b) (hb : b = false) : parseV s = zV ∧ parseE s = 11 := parse_no (readB_f (hB.trans hb))
theorem ly {s : List UInt8} {b : Bool} {v : Val} (hB : readB s = b) (hb : b = true) (hv : readP s = v) (hm : MayP v) : parseV s = v ∧ parseE s = 0 := (parse_of (hB.trans hb) hv).1 hm
theorem ln {s : List UInt8} {b : Bool} {v : Val} (hB : readB s = b) (hb : b = true) (hv : readP s = v) (hm : ¬ MayP v) : parseV s = zV ∧ parseE s = 11 := (parse_of (hB.trans hb) hv).2 hm
set_option maxHeartbeats 32000000 in
theorem parse1_pc [GlobF Tryz.prog] (s : List UInt8) (hs : s.length < 268435456) : PC Tryz.prog 30 [str s] (.tu [eV (parseV s), .sc (.int .i64 (parseE s))]) := by
  obtain ⟨m2, hn2, hm2⟩ := number1_pc s (by omega)
  cases s with
  | nil =>
    refine PC.of_body Tryz.func30 Tryz.ntmps30 rfl rfl rfl ?_
    repeat' first
      | (apply p1 (hd := rfl); case hop => first | (apply D_move; rfl) | (apply D_assign; rfl) | exact D_sc (v' := .bool false) (D_int rfl rfl rfl) (by rw [(iLt_f _ _).mpr (by decide)]) | (apply D_pc hn2; rfl; exact .same rfl .nil) | (apply D_pc (may1_pc ⟨1, m2, []⟩ (by show 0 < _; decide)); rfl; exact .same rfl .nil) | (apply D_load1; rfl) | (apply D_pickT; rfl; rfl) | (apply D_pickF; rfl; rfl) | (apply D_int; rfl; rfl; rfl) | (apply D_len_str; rfl) | (apply D_str; rfl; rfl; rfl) | (apply D_ext; rfl; rfl) | (apply D_not; rfl) | (apply D_loadW; rfl; rfl) | (apply D_loadA; rfl; rfl) | (apply D_idxSn; rfl; rfl; (first | omega | (simp; done))) | (apply D_idxS; rfl; rfl; omega; (first | omega | (simp; done) | (simp; omega))) | (apply D_slS; rfl; rfl; rfl; all_goals first | omega | ((repeat rw [w64 _ (by omega) (by omega)]); omega) | decide) | (apply D_slSh; rfl; rfl; all_goals first | omega | ((repeat rw [w64 _ (by omega) (by omega)]); omega) | decide) | (apply D_slSl; rfl; rfl; all_goals first | omega | ((repeat rw [w64 _ (by omega) (by omega)]); omega) | decide) | exact D_build rfl | exact D_buildA rfl)
      | refine W_seq ?_
      | refine W_region ?_
      | (refine idC ?_; first | refine c1 rfl ?_ | refine c0 rfl ?_ | refine cs rfl (fun _ => ?_) (fun _ => ?_))
      | refine WL_nil ?_
      | (refine idG ?_; first | refine g0t rfl rfl rfl ?_ | refine g0f rfl rfl rfl ?_ | refine g0u rfl rfl rfl ?_ | refine gr rfl rfl ?_ | refine gs rfl rfl (fun _ => ?_) (fun _ => ?_) | refine grn rfl rfl ?_)
      | refine tn ?_
      | refine tr ?_
      | refine br ?_
      | refine bn ?_
      | refine te ?_
      | (refine idB ?_; first | refine bh rfl ?_ | refine bm rfl ?_)
      | refine W_skip ?_
      | refine W_block ?_
      | refine W_exit ?_
      | refine W_ret ?_
      | refine W_label ?_
      | refine W_scope ?_
      | refine sn ?_
      | refine sr ?_
      | refine se ?_
      | (refine idR ?_; first | refine ret2 rfl rfl rfl rfl ?_ ?_ | refine rL2 rfl (by first | exact trivial | exact ⟨rfl, trivial⟩) (by first | exact ResO.tmp rfl | exact ResO.cellBA rfl rfl rfl | exact ResO.cellB1 rfl rfl rfl | exact ResO.cellEA rfl rfl | exact ResO.cellE1 rfl) (by first | exact ResO.tmp rfl | exact ResO.cellBA rfl rfl rfl | exact ResO.cellB1 rfl rfl rfl | exact ResO.cellEA rfl rfl | exact ResO.cellE1 rfl) ?_ ?_)
      | (refine idLd ?_; first | refine p1L (D_loadB1 rfl rfl rfl) rfl ?_ | refine p1L (D_loadBA rfl rfl rfl) rfl ?_ | refine p1L (D_loadB1 rfl (by (repeat first | assumption | exact get_last | (refine get_last2 ?_; focus (simp; done)) | apply get_set | apply get_app | (apply get_ne; focus omega) | (apply get_ne; focus (simp only [List.length_set, List.length_append, List.length_cons, List.length_nil]; omega))); done) (by rfl)) rfl ?_ | refine p1L (D_loadBA rfl (by (repeat first | assumption | exact get_last | (refine get_last2 ?_; focus (simp; done)) | apply get_set | apply get_app | (apply get_ne; focus omega) | (apply get_ne; focus (simp only [List.length_set, List.length_append, List.length_cons, List.length_nil]; omega))); done) (by rfl)) rfl ?_)
      | (refine idA ?_; first | refine m_alloc rfl ?_)
      | (refine idS ?_; first | refine pS (S_store rfl rfl rfl rfl rfl rfl rfl) ?_ | refine pS (S_store rfl rfl rfl (by (repeat first | assumption | exact get_last | (refine get_last2 ?_; focus (simp; done)) | apply get_set | apply get_app | (apply get_ne; focus omega) | (apply get_ne; focus (simp only [List.length_set, List.length_append, List.length_cons, List.length_nil]; omega))); done) (by rfl) (by rfl) (by rfl)) ?_)
      | refine Le.bool ?_
      | refine Le.int ?_
      | refine Le.str ?_
    all_goals first
      | contradiction
      | (rw [(parse_no (s := []) (fun v h => by cases h)).1]; exact Le.of_eq rfl)
      | (rw [(parse_no (s := []) (fun v h => by cases h)).2]; done)
      | (exfalso; rename_i h _; obtain ⟨n, hn⟩ := (pB_iff _).1 h; obtain ⟨d, t, e, _⟩ := itoa_head n; rw [hn.2.2] at e; cases e; done)
      | skip
    all_goals trace_state
  | cons c r =>
    have hr : r.length < 268435456 := by simp at hs; omega
    obtain ⟨m1, hn1, hm1⟩ := number1_pc r (by omega)
    have hlw : IntKind.i64.wrap (((c :: r).length : Int) - 1) = ((r.length : Nat) : Int) := by rw [List.length_cons, w64 _ (by omega) (by omega)]; omega
    have hq1 := unhexV_len r
    have hq2 := unq_len r.dropLast
    rw [List.length_dropLast] at hq2
    have hdl : r.dropLast.length < 268435456 := by rw [List.length_dropLast]; omega
    have hg0 : Value.bool (iLt 0 ((c :: r).length : Int)) = .bool true := gt0 (by simp)
    have B64 : hd0 c r = 64 → readB (c :: r) = pB r := fun h => (rd_64 (by omega) (by omega) h).2
    have P64 : hd0 c r = 64 → pB r = true → readP (c :: r) = ⟨5, m1, []⟩ := fun h hb => by rw [(rd_64 (by omega) (by omega) h).1, hm1 hb]
    have B33 : hd0 c r = 33 → readB (c :: r) = pB r := fun h => (rd_33 (by omega) (by omega) (by omega) h).2
    have P33 : hd0 c r = 33 → pB r = true → readP (c :: r) = ⟨6, m1, []⟩ := fun h hb => by rw [(rd_33 (by omega) (by omega) (by omega) h).1, hm1 hb]
    have B58 : hd0 c r = 58 → readB (c :: r) = true := fun h => (rd_58 (by omega) (by omega) (by omega) (by omega) h).2
    have P58 : hd0 c r = 58 → readP (c :: r) = ⟨7, 0, r⟩ := fun h => (rd_58 (by omega) (by omega) (by omega) (by omega) h).1
    have B35 : hd0 c r = 35 → readB (c :: r) = (unhex r).isSome := fun h => by
      obtain ⟨h1, h2⟩ := rd_35 (c := c) (r := r) (by omega) (by omega) (by omega) (by omega) (by omega) h
      rcases e : unhex r with _ | l
      · exact (h1 e).2
      · exact (h2 l e).2
    have P35 : hd0 c r = 35 → (unhex r).isSome = true → readP (c :: r) = ⟨4, 0, unhexV r⟩ := fun h hb => by
      obtain ⟨h1, h2⟩ := rd_35 (c := c) (r := r) (by omega) (by omega) (by omega) (by omega) (by omega) h
      obtain ⟨l, e⟩ := isSome_t hb
      rw [(h2 l e).1]; unfold unhexV; rw [e]; rfl
    have B34 : hd0 c r = 34 → sufB r = true → readB (c :: r) = (unq r.dropLast).isSome := fun h hq => by
      rw [(rd_34 (by omega) (by omega) (by omega) (by omega) (by omega) (by omega) h).2, hq]; unfold cutL; rw [if_pos hq]; rfl
    have P34 : hd0 c r = 34 → sufB r = true → readP (c :: r) = ⟨3, 0, unqV r.dropLast⟩ := fun h hq => by
      rw [(rd_34 (by omega) (by omega) (by omega) (by omega) (by omega) (by omega) h).1]; unfold cutL; rw [if_pos hq]
    have Bd : ¬ (hd0 c r = 34 ∧ sufB r = true) → hd0 c r ≠ 64 → hd0 c r ≠ 33 → hd0 c r ≠ 58 → hd0 c r ≠ 35 → c :: r ≠ [116, 114, 117, 101] → c :: r ≠ [102, 97, 108, 115, 101] → readB (c :: r) = pB (c :: r) := fun hq h3 h4 h5 h6 ht hf => (def_case h3 h4 h5 h6 hq ht hf).1
    have Pd : ¬ (hd0 c r = 34 ∧ sufB r = true) → hd0 c r ≠ 64 → hd0 c r ≠ 33 → hd0 c r ≠ 58 → hd0 c r ≠ 35 → c :: r ≠ [116, 114, 117, 101] → c :: r ≠ [102, 97, 108, 115, 101] → pB (c :: r) = true → readP (c :: r) = ⟨1, m2, []⟩ := fun hq h3 h4 h5 h6 ht hf hp => by rw [(def_case h3 h4 h5 h6 hq ht hf).2 hp, hm2 hp]
    by_cases hr0 : 0 < r.length
    · have hg1 : Value.bool (iLt 1 ((c :: r).length : Int)) = .bool true := gt1 (by simp; omega)
      refine PC.of_body Tryz.func30 Tryz.ntmps30 rfl rfl rfl ?_
      repeat' first
        | (apply p1 (hd := rfl); case hop => first | (apply D_move; rfl) | (apply D_assign; rfl) | (refine D_eqv (D_slSl (l := c :: r) (i := 1) rfl rfl (by decide) ?_) (v' := str r) rfl; rw [List.length_cons]; omega) | (refine D_eqv (D_slS (l := c :: r) (i := 1) (j := ((r.length : Nat) : Int)) rfl rfl rfl (by decide) ?_ ?_) (congrArg str (sl_q c r)); all_goals first | omega | (rw [List.length_cons]; omega)) | exact D_sc (D_int rfl rfl rfl) (congrArg _ hlw) | exact D_sc (D_int rfl rfl rfl) hg0 | exact D_sc (D_int rfl rfl rfl) hg1 | (apply D_pc hn1; rfl; exact .same rfl .nil) | (apply D_pc hn2; rfl; exact .same rfl .nil) | (apply D_pc (raw0_pc r hr); rfl; exact .same rfl (.same rfl .nil)) | (apply D_pc (raw1_pc r.dropLast hdl); rfl; exact .same rfl (.same rfl .nil)) | (apply D_pc (may1_pc ⟨1, m2, []⟩ (by show 0 < _; decide)); rfl; exact .same rfl .nil) | (apply D_pc (may1_pc ⟨5, m1, []⟩ (by show 0 < _; decide)); rfl; exact .same rfl .nil) | (apply D_pc (may1_pc ⟨6, m1, []⟩ (by show 0 < _; decide)); rfl; exact .same rfl .nil) | (apply D_pc (may1_pc ⟨7, 0, r⟩ (by show r.length < _; omega)); rfl; exact .same rfl .nil) | (apply D_pc (may1_pc ⟨4, 0, unhexV r⟩ (by show (unhexV r).length < _; omega)); rfl; exact .same rfl .nil) | (apply D_pc (may1_pc ⟨3, 0, unqV r.dropLast⟩ (by show (unqV r.dropLast).length < _; omega)); rfl; exact .same rfl .nil) | (apply D_load1; rfl) | (apply D_pickT; rfl; rfl) | (apply D_pickF; rfl; rfl) | (apply D_int; rfl; rfl; rfl) | (apply D_len_str; rfl) | (apply D_str; rfl; rfl; rfl) | (apply D_ext; rfl; rfl) | (apply D_not; rfl) | (apply D_loadW; rfl; rfl) | (apply D_loadA; rfl; rfl) | (apply D_idxSn; rfl; rfl; (first | omega | (simp; done))) | (apply D_idxS; rfl; rfl; omega; (first | omega | (simp; done) | (simp; omega))) | (apply D_slS; rfl; rfl; rfl; all_goals first | omega | ((repeat rw [w64 _ (by omega) (by omega)]); omega) | decide) | (apply D_slSh; rfl; rfl; all_goals first | omega | ((repeat rw [w64 _ (by omega) (by omega)]); omega) | decide) | (apply D_slSl; rfl; rfl; all_goals first | omega | ((repeat rw [w64 _ (by omega) (by omega)]); omega) | decide) | exact D_build rfl | exact D_buildA rfl)
        | refine W_seq ?_
        | refine W_region ?_
        | (refine idC ?_; first | refine c1 rfl ?_ | refine c0 rfl ?_ | refine cs rfl (fun _ => ?_) (fun _ => ?_))
        | refine WL_nil ?_
        | (refine idG ?_; first | refine g0t rfl rfl rfl ?_ | refine g0f rfl rfl rfl ?_ | refine g0u rfl rfl rfl ?_ | refine gr rfl rfl ?_ | refine gs rfl rfl (fun _ => ?_) (fun _ => ?_) | refine grn rfl rfl ?_)
        | refine tn ?_
        | refine tr ?_
        | refine br ?_
        | refine bn ?_
        | refine te ?_
        | (refine idB ?_; first | refine bh rfl ?_ | refine bm rfl ?_)
        | refine W_skip ?_
        | refine W_block ?_
        | refine W_exit ?_
        | refine W_ret ?_
        | refine W_label ?_
        | refine W_scope ?_
        | refine sn ?_
        | refine sr ?_
        | refine se ?_
        | (refine idR ?_; first | refine ret2 rfl rfl rfl rfl ?_ ?_ | refine rL2 rfl (by first | exact trivial | exact ⟨rfl, trivial⟩) (by first | exact ResO.tmp rfl | exact ResO.cellBA rfl rfl rfl | exact ResO.cellB1 rfl rfl rfl | exact ResO.cellEA rfl rfl | exact ResO.cellE1 rfl) (by first | exact ResO.tmp rfl | exact ResO.cellBA rfl rfl rfl | exact ResO.cellB1 rfl rfl rfl | exact ResO.cellEA rfl rfl | exact ResO.cellE1 rfl) ?_ ?_)
        | (refine idLd ?_; first | refine p1L (D_loadB1 rfl rfl rfl) rfl ?_ | refine p1L (D_loadBA rfl rfl rfl) rfl ?_ | refine p1L (D_loadB1 rfl (by (repeat first | assumption | exact get_last | (refine get_last2 ?_; focus (simp; done)) | apply get_set | apply get_app | (apply get_ne; focus omega) | (apply get_ne; focus (simp only [List.length_set, List.length_append, List.length_cons, List.length_nil]; omega))); done) (by rfl)) rfl ?_ | refine p1L (D_loadBA rfl (by (repeat first | assumption | exact get_last | (refine get_last2 ?_; focus (simp; done)) | apply get_set | apply get_app | (apply get_ne; focus omega) | (apply get_ne; focus (simp only [List.length_set, List.length_append, List.length_cons, List.length_nil]; omega))); done) (by rfl)) rfl ?_)
        | (refine idA ?_; first | refine m_alloc rfl ?_)
        | (refine idS ?_; first | refine pS (S_store rfl rfl rfl rfl rfl rfl rfl) ?_ | refine pS (S_store rfl rfl rfl (by (repeat first | assumption | exact get_last | (refine get_last2 ?_; focus (simp; done)) | apply get_set | apply get_app | (apply get_ne; focus omega) | (apply get_ne; focus (simp only [List.length_set, List.length_append, List.length_cons, List.length_nil]; omega))); done) (by rfl) (by rfl) (by rfl)) ?_)
        | refine Le.bool ?_
        | refine Le.int ?_
        | refine Le.str ?_
      all_goals first
        | (rename_i h; rw [h, p_true.1]; exact Le.of_eq rfl)
        | (rename_i h; rw [h, p_true.2]; done)
        | (rename_i h; rw [h, p_false.1]; exact Le.of_eq rfl)
        | (rename_i h; rw [h, p_false.2]; done)
        | contradiction
        | (rw [(lf (B64 (by assumption)) (by assumption)).1]; exact Le.of_eq rfl)
        | (rw [(lf (B64 (by assumption)) (by assumption)).2]; done)
        | (rw [(ly (B64 (by assumption)) (by first | rfl | assumption) (P64 (by assumption) (by assumption)) (by assumption)).1]; exact Le.of_eq rfl)
        | (rw [(ly (B64 (by assumption)) (by first | rfl | assumption) (P64 (by assumption) (by assumption)) (by assumption)).2]; done)
        | (rw [(ln (B64 (by assumption)) (by first | rfl | assumption) (P64 (by assumption) (by assumption)) (by assumption)).1]; exact Le.of_eq rfl)
        | (rw [(ln (B64 (by assumption)) (by first | rfl | assumption) (P64 (by assumption) (by assumption)) (by assumption)).2]; done)
        | (rw [(lf (B33 (by assumption)) (by assumption)).1]; exact Le.of_eq rfl)
        | (rw [(lf (B33 (by assumption)) (by assumption)).2]; done)
        | (rw [(ly (B33 (by assumption)) (by first | rfl | assumption) (P33 (by assumption) (by assumption)) (by assumption)).1]; exact Le.of_eq rfl)
        | (rw [(ly (B33 (by assumption)) (by first | rfl | assumption) (P33 (by assumption) (by assumption)) (by assumption)).2]; done)
        | (rw [(ln (B33 (by assumption)) (by first | rfl | assumption) (P33 (by assumption) (by assumption)) (by assumption)).1]; exact Le.of_eq rfl)
        | (rw [(ln (B33 (by assumption)) (by first | rfl | assumption) (P33 (by assumption) (by assumption)) (by assumption)).2]; done)
        | (rw [(lf (B58 (by assumption)) (by assumption)).1]; exact Le.of_eq rfl)
        | (rw [(lf (B58 (by assumption)) (by assumption)).2]; done)
        | (rw [(ly (B58 (by assumption)) (by first | rfl | assumption) (P58 (by assumption)) (by assumption)).1]; exact Le.of_eq rfl)
        | (rw [(ly (B58 (by assumption)) (by first | rfl | assumption) (P58 (by assumption)) (by assumption)).2]; done)
        | (rw [(ln (B58 (by assumption)) (by first | rfl | assumption) (P58 (by assumption)) (by assumption)).1]; exact Le.of_eq rfl)
        | (rw [(ln (B58 (by assumption)) (by first | rfl | assumption) (P58 (by assumption)) (by assumption)).2]; done)
        | (rw [(lf (B35 (by assumption)) (by assumption)).1]; exact Le.of_eq rfl)
        | (rw [(lf (B35 (by assumption)) (by assumption)).2]; done)
        | (rw [(ly (B35 (by assumption)) (by first | rfl | assumption) (P35 (by assumption) (by assumption)) (by assumption)).1]; exact Le.of_eq rfl)
        | (rw [(ly (B35 (by assumption)) (by first | rfl | assumption) (P35 (by assumption) (by assumption)) (by assumption)).2]; done)
        | (rw [(ln (B35 (by assumption)) (by first | rfl | assumption) (P35 (by assumption) (by assumption)) (by assumption)).1]; exact Le.of_eq rfl)
        | (rw [(ln (B35 (by assumption)) (by first | rfl | assumption) (P35 (by assumption) (by assumption)) (by assumption)).2]; done)
        | (rw [(lf (B34 (by assumption) ((last_q hr0).1 (by assumption))) (by assumption)).1]; exact Le.of_eq rfl)
        | (rw [(lf (B34 (by assumption) ((last_q hr0).1 (by assumption))) (by assumption)).2]; done)
        | (rw [(ly (B34 (by assumption) ((last_q hr0).1 (by assumption))) (by first | rfl | assumption) (P34 (by assumption) ((last_q hr0).1 (by assumption))) (by assumption)).1]; exact Le.of_eq rfl)
        | (rw [(ly (B34 (by assumption) ((last_q hr0).1 (by assumption))) (by first | rfl | assumption) (P34 (by assumption) ((last_q hr0).1 (by assumption))) (by assumption)).2]; done)
        | (rw [(ln (B34 (by assumption) ((last_q hr0).1 (by assumption))) (by first | rfl | assumption) (P34 (by assumption) ((last_q hr0).1 (by assumption))) (by assumption)).1]; exact Le.of_eq rfl)
        | (rw [(ln (B34 (by assumption) ((last_q hr0).1 (by assumption))) (by first | rfl | assumption) (P34 (by assumption) ((last_q hr0).1 (by assumption))) (by assumption)).2]; done)
        | (rw [(lf (Bd (fun h => absurd h.1 (by assumption)) (by assumption) (by assumption) (by assumption) (by assumption) (by assumption) (by assumption)) (by assumption)).1]; exact Le.of_eq rfl)
        | (rw [(lf (Bd (fun h => absurd h.1 (by assumption)) (by assumption) (by assumption) (by assumption) (by assumption) (by assumption) (by assumption)) (by assumption)).2]; done)
        | (rw [(ly (Bd (fun h => absurd h.1 (by assumption)) (by assumption) (by assumption) (by assumption) (by assumption) (by assumption) (by assumption)) (by first | rfl | assumption) (Pd (fun h => absurd h.1 (by assumption)) (by assumption) (by assumption) (by assumption) (by assumption) (by assumption) (by assumption) (by assumption)) (by assumption)).1]; exact Le.of_eq rfl)
        | (rw [(ly (Bd (fun h => absurd h.1 (by assumption)) (by assumption) (by assumption) (by assumption) (by assumption) (by assumption) (by assumption)) (by first | rfl | assumption) (Pd (fun h => absurd h.1 (by assumption)) (by assumption) (by assumption) (by assumption) (by assumption) (by assumption) (by assumption) (by assumption)) (by assumption)).2]; done)
        | (rw [(ln (Bd (fun h => absurd h.1 (by assumption)) (by assumption) (by assumption) (by assumption) (by assumption) (by assumption) (by assumption)) (by first | rfl | assumption) (Pd (fun h => absurd h.1 (by assumption)) (by assumption) (by assumption) (by assumption) (by assumption) (by assumption) (by assumption) (by assumption)) (by assumption)).1]; exact Le.of_eq rfl)
        | (rw [(ln (Bd (fun h => absurd h.1 (by assumption)) (by assumption) (by assumption) (by assumption) (by assumption) (by assumption) (by assumption)) (by first | rfl | assumption) (Pd (fun h => absurd h.1 (by assumption)) (by assumption) (by assumption) (by assumption) (by assumption) (by assumption) (by assumption) (by assumption)) (by assumption)).2]; done)
        | (rw [(lf (Bd (fun h => absurd ((last_q hr0).2 h.2) (by assumption)) (by assumption) (by assumption) (by assumption) (by assumption) (by assumption) (by assumption)) (by assumption)).1]; exact Le.of_eq rfl)
        | (rw [(lf (Bd (fun h => absurd ((last_q hr0).2 h.2) (by assumption)) (by assumption) (by assumption) (by assumption) (by assumption) (by assumption) (by assumption)) (by assumption)).2]; done)
        | (rw [(ly (Bd (fun h => absurd ((last_q hr0).2 h.2) (by assumption)) (by assumption) (by assumption) (by assumption) (by assumption) (by assumption) (by assumption)) (by first | rfl | assumption) (Pd (fun h => absurd ((last_q hr0).2 h.2) (by assumption)) (by assumption) (by assumption) (by assumption) (by assumption) (by assumption) (by assumption) (by assumption)) (by assumption)).1]; exact Le.of_eq rfl)
        | (rw [(ly (Bd (fun h => absurd ((last_q hr0).2 h.2) (by assumption)) (by assumption) (by assumption) (by assumption) (by assumption) (by assumption) (by assumption)) (by first | rfl | assumption) (Pd (fun h => absurd ((last_q hr0).2 h.2) (by assumption)) (by assumption) (by assumption) (by assumption) (by assumption) (by assumption) (by assumption) (by assumption)) (by assumption)).2]; done)
        | (rw [(ln (Bd (fun h => absurd ((last_q hr0).2 h.2) (by assumption)) (by assumption) (by assumption) (by assumption) (by assumption) (by assumption) (by assumption)) (by first | rfl | assumption) (Pd (fun h => absurd ((last_q hr0).2 h.2) (by assumption)) (by assumption) (by assumption) (by assumption) (by assumption) (by assumption) (by assumption) (by assumption)) (by assumption)).1]; exact Le.of_eq rfl)
        | (rw [(ln (Bd (fun h => absurd ((last_q hr0).2 h.2) (by assumption)) (by assumption) (by assumption) (by assumption) (by assumption) (by assumption) (by assumption)) (by first | rfl | assumption) (Pd (fun h => absurd ((last_q hr0).2 h.2) (by assumption)) (by assumption) (by assumption) (by assumption) (by assumption) (by assumption) (by assumption) (by assumption)) (by assumption)).2]; done)
    · have hg1 : Value.bool (iLt 1 ((c :: r).length : Int)) = .bool false := by rw [(iLt_f _ _).mpr (by rw [List.length_cons]; omega)]
      have hq : ¬ (hd0 c r = 34 ∧ sufB r = true) := fun h => by
        have := h.2
        rw [sufB_t, List.length_eq_zero_iff.1 (by omega : r.length = 0)] at this
        cases this
      refine PC.of_body Tryz.func30 Tryz.ntmps30 rfl rfl rfl ?_
      repeat' first
        | (apply p1 (hd := rfl); case hop => first | (apply D_move; rfl) | (apply D_assign; rfl) | (refine D_eqv (D_slSl (l := c :: r) (i := 1) rfl rfl (by decide) ?_) (v' := str r) rfl; rw [List.length_cons]; omega) | exact D_sc (D_int rfl rfl rfl) (congrArg _ hlw) | exact D_sc (D_int rfl rfl rfl) hg0 | exact D_sc (D_int rfl rfl rfl) hg1 | (apply D_pc hn1; rfl; exact .same rfl .nil) | (apply D_pc hn2; rfl; exact .same rfl .nil) | (apply D_pc (raw0_pc r hr); rfl; exact .same rfl (.same rfl .nil)) | (apply D_pc (may1_pc ⟨1, m2, []⟩ (by show 0 < _; decide)); rfl; exact .same rfl .nil) | (apply D_pc (may1_pc ⟨5, m1, []⟩ (by show 0 < _; decide)); rfl; exact .same rfl .nil) | (apply D_pc (may1_pc ⟨6, m1, []⟩ (by show 0 < _; decide)); rfl; exact .same rfl .nil) | (apply D_pc (may1_pc ⟨7, 0, r⟩ (by show r.length < _; omega)); rfl; exact .same rfl .nil) | (apply D_pc (may1_pc ⟨4, 0, unhexV r⟩ (by show (unhexV r).length < _; omega)); rfl; exact .same rfl .nil) | (apply D_load1; rfl) | (apply D_pickT; rfl; rfl) | (apply D_pickF; rfl; rfl) | (apply D_int; rfl; rfl; rfl) | (apply D_len_str; rfl) | (apply D_str; rfl; rfl; rfl) | (apply D_ext; rfl; rfl) | (apply D_not; rfl) | (apply D_loadW; rfl; rfl) | (apply D_loadA; rfl; rfl) | (apply D_idxSn; rfl; rfl; (first | omega | (simp; done))) | (apply D_idxS; rfl; rfl; omega; (first | omega | (simp; done) | (simp; omega))) | (apply D_slS; rfl; rfl; rfl; all_goals first | omega | ((repeat rw [w64 _ (by omega) (by omega)]); omega) | decide) | (apply D_slSh; rfl; rfl; all_goals first | omega | ((repeat rw [w64 _ (by omega) (by omega)]); omega) | decide) | (apply D_slSl; rfl; rfl; all_goals first | omega | ((repeat rw [w64 _ (by omega) (by omega)]); omega) | decide) | exact D_build rfl | exact D_buildA rfl)
        | refine W_seq ?_
        | refine W_region ?_
        | (refine idC ?_; first | refine c1 rfl ?_ | refine c0 rfl ?_ | refine cs rfl (fun _ => ?_) (fun _ => ?_))
        | refine WL_nil ?_
        | (refine idG ?_; first | refine g0t rfl rfl rfl ?_ | refine g0f rfl rfl rfl ?_ | refine g0u rfl rfl rfl ?_ | refine gr rfl rfl ?_ | refine gs rfl rfl (fun _ => ?_) (fun _ => ?_) | refine grn rfl rfl ?_)
        | refine tn ?_
        | refine tr ?_
        | refine br ?_
        | refine bn ?_
        | refine te ?_
        | (refine idB ?_; first | refine bh rfl ?_ | refine bm rfl ?_)
        | refine W_skip ?_
        | refine W_block ?_
        | refine W_exit ?_
        | refine W_ret ?_
        | refine W_label ?_
        | refine W_scope ?_
        | refine sn ?_
        | refine sr ?_
        | refine se ?_
        | (refine idR ?_; first | refine ret2 rfl rfl rfl rfl ?_ ?_ | refine rL2 rfl (by first | exact trivial | exact ⟨rfl, trivial⟩) (by first | exact ResO.tmp rfl | exact ResO.cellBA rfl rfl rfl | exact ResO.cellB1 rfl rfl rfl | exact ResO.cellEA rfl rfl | exact ResO.cellE1 rfl) (by first | exact ResO.tmp rfl | exact ResO.cellBA rfl rfl rfl | exact ResO.cellB1 rfl rfl rfl | exact ResO.cellEA rfl rfl | exact ResO.cellE1 rfl) ?_ ?_)
        | (refine idLd ?_; first | refine p1L (D_loadB1 rfl rfl rfl) rfl ?_ | refine p1L (D_loadBA rfl rfl rfl) rfl ?_ | refine p1L (D_loadB1 rfl (by (repeat first | assumption | exact get_last | (refine get_last2 ?_; focus (simp; done)) | apply get_set | apply get_app | (apply get_ne; focus omega) | (apply get_ne; focus (simp only [List.length_set, List.length_append, List.length_cons, List.length_nil]; omega))); done) (by rfl)) rfl ?_ | refine p1L (D_loadBA rfl (by (repeat first | assumption | exact get_last | (refine get_last2 ?_; focus (simp; done)) | apply get_set | apply get_app | (apply get_ne; focus omega) | (apply get_ne; focus (simp only [List.length_set, List.length_append, List.length_cons, List.length_nil]; omega))); done) (by rfl)) rfl ?_)
        | (refine idA ?_; first | refine m_alloc rfl ?_)
        | (refine idS ?_; first | refine pS (S_store rfl rfl rfl rfl rfl rfl rfl) ?_ | refine pS (S_store rfl rfl rfl (by (repeat first | assumption | exact get_last | (refine get_last2 ?_; focus (simp; done)) | apply get_set | apply get_app | (apply get_ne; focus omega) | (apply get_ne; focus (simp only [List.length_set, List.length_append, List.length_cons, List.length_nil]; omega))); done) (by rfl) (by rfl) (by rfl)) ?_)
        | refine Le.bool ?_
        | refine Le.int ?_
        | refine Le.str ?_
      all_goals first
        | (rename_i h; rw [h, p_true.1]; exact Le.of_eq rfl)
        | (rename_i h; rw [h, p_true.2]; done)
        | (rename_i h; rw [h, p_false.1]; exact Le.of_eq rfl)
        | (rename_i h; rw [h, p_false.2]; done)
        | contradiction
        | (rw [(lf (B64 (by assumption)) (by assumption)).1]; exact Le.of_eq rfl)
        | (rw [(lf (B64 (by assumption)) (by assumption)).2]; done)
        | (rw [(ly (B64 (by assumption)) (by first | rfl | assumption) (P64 (by assumption) (by assumption)) (by assumption)).1]; exact Le.of_eq rfl)
        | (rw [(ly (B64 (by assumption)) (by first | rfl | assumption) (P64 (by assumption) (by assumption)) (by assumption)).2]; done)
        | (rw [(ln (B64 (by assumption)) (by first | rfl | assumption) (P64 (by assumption) (by assumption)) (by assumption)).1]; exact Le.of_eq rfl)
        | (rw [(ln (B64 (by assumption)) (by first | rfl | assumption) (P64 (by assumption) (by assumption)) (by assumption)).2]; done)
        | (rw [(lf (B33 (by assumption)) (by assumption)).1]; exact Le.of_eq rfl)
        | (rw [(lf (B33 (by assumption)) (by assumption)).2]; done)
        | (rw [(ly (B33 (by assumption)) (by first | rfl | assumption) (P33 (by assumption) (by assumption)) (by assumption)).1]; exact Le.of_eq rfl)
        | (rw [(ly (B33 (by assumption)) (by first | rfl | assumption) (P33 (by assumption) (by assumption)) (by assumption)).2]; done)
        | (rw [(ln (B33 (by assumption)) (by first | rfl | assumption) (P33 (by assumption) (by assumption)) (by assumption)).1]; exact Le.of_eq rfl)
        | (rw [(ln (B33 (by assumption)) (by first | rfl | assumption) (P33 (by assumption) (by assumption)) (by assumption)).2]; done)
        | (rw [(lf (B58 (by assumption)) (by assumption)).1]; exact Le.of_eq rfl)
        | (rw [(lf (B58 (by assumption)) (by assumption)).2]; done)
        | (rw [(ly (B58 (by assumption)) (by first | rfl | assumption) (P58 (by assumption)) (by assumption)).1]; exact Le.of_eq rfl)
        | (rw [(ly (B58 (by assumption)) (by first | rfl | assumption) (P58 (by assumption)) (by assumption)).2]; done)
        | (rw [(ln (B58 (by assumption)) (by first | rfl | assumption) (P58 (by assumption)) (by assumption)).1]; exact Le.of_eq rfl)
        | (rw [(ln (B58 (by assumption)) (by first | rfl | assumption) (P58 (by assumption)) (by assumption)).2]; done)
        | (rw [(lf (B35 (by assumption)) (by assumption)).1]; exact Le.of_eq rfl)
        | (rw [(lf (B35 (by assumption)) (by assumption)).2]; done)
        | (rw [(ly (B35 (by assumption)) (by first | rfl | assumption) (P35 (by assumption) (by assumption)) (by assumption)).1]; exact Le.of_eq rfl)
        | (rw [(ly (B35 (by assumption)) (by first | rfl | assumption) (P35 (by assumption) (by assumption)) (by assumption)).2]; done)
        | (rw [(ln (B35 (by assumption)) (by first | rfl | assumption) (P35 (by assumption) (by assumption)) (by assumption)).1]; exact Le.of_eq rfl)
        | (rw [(ln (B35 (by assumption)) (by first | rfl | assumption) (P35 (by assumption) (by assumption)) (by assumption)).2]; done)
        | (rw [(lf (Bd hq (by assumption) (by assumption) (by assumption) (by assumption) (by assumption) (by assumption)) (by assumption)).1]; exact Le.of_eq rfl)
        | (rw [(lf (Bd hq (by assumption) (by assumption) (by assumption) (by assumption) (by assumption) (by assumption)) (by assumption)).2]; done)
        | (rw [(ly (Bd hq (by assumption) (by assumption) (by assumption) (by assumption) (by assumption) (by assumption)) (by first | rfl | assumption) (Pd hq (by assumption) (by assumption) (by assumption) (by assumption) (by assumption) (by assumption) (by assumption)) (by assumption)).1]; exact Le.of_eq rfl)
        | (rw [(ly (Bd hq (by assumption) (by assumption) (by assumption) (by assumption) (by assumption) (by assumption)) (by first | rfl | assumption) (Pd hq (by assumption) (by assumption) (by assumption) (by assumption) (by assumption) (by assumption) (by assumption)) (by assumption)).2]; done)
        | (rw [(ln (Bd hq (by assumption) (by assumption) (by assumption) (by assumption) (by assumption) (by assumption)) (by first | rfl | assumption) (Pd hq (by assumption) (by assumption) (by assumption) (by assumption) (by assumption) (by assumption) (by assumption)) (by assumption)).1]; exact Le.of_eq rfl)
        | (rw [(ln (Bd hq (by assumption) (by assumption) (by assumption) (by assumption) (by assumption) (by assumption)) (by first | rfl | assumption) (Pd hq (by assumption) (by assumption) (by assumption) (by assumption) (by assumption) (by assumption) (by assumption)) (by assumption)).2]; done)

end Go.Proofs
