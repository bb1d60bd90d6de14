/- Contracts of the statements: CalcNumbers. -/
import Derived.Test.YtaphfieahcimcaaDoorQD8
namespace Go.Proofs
open Go.AL
attribute [local irreducible] Go.AL.W Go.AL.WL Go.AL.WD Go.AL.POp Go.AL.PPOp Go.AL.POpS Go.AL.PC Go.AL.AC Go.AL.YW Go.AL.Ret Go.AL.Le Go.AL.thn Go.AL.inBlk Go.AL.scp

theorem rq_v {s : List UInt8} {a b : Int} (h0 : s ≠ mnL) (h1 : s ≠ mxL) (h2 : s ≠ ctL) : twoV s (nV a) (nV b) = nV (recN s a b) := td2 h0 h1 h2 rfl rfl
theorem rq_p {s : List UInt8} {a b : Int} (h0 : s ≠ mnL) (h1 : s ≠ mxL) (h2 : s ≠ ctL) : twoP s (nV a) (nV b) ↔ recP s a b := by
  rw [tdP h0 h1 h2]; exact ⟨fun h => h.2, fun h => ⟨⟨rfl, rfl⟩, h⟩⟩
theorem rq_y {s : List UInt8} {a b : Int} (hs : s ∈ twos) (h0 : s ≠ mnL) (h1 : s ≠ mxL) (h2 : s ≠ ctL) (h : recP s a b) : doP s [nV a, nV b] ∧ doV s [nV a, nV b] = nV (recN s a b) := by
  have hd : doP s [nV a, nV b] := ⟨right_two2 hs (may_n _) (may_n _), (rq_p h0 h1 h2).2 h, by show MayP (twoV s (nV a) (nV b)); rw [rq_v h0 h1 h2]; exact may_n _⟩
  exact ⟨hd, by unfold doV; rw [if_pos hd]; exact rq_v h0 h1 h2⟩
theorem rq_n {s : List UInt8} {a b : Int} (h0 : s ≠ mnL) (h1 : s ≠ mxL) (h2 : s ≠ ctL) (h : ¬ recP s a b) : ¬ doP s [nV a, nV b] := fun e => h ((rq_p h0 h1 h2).1 e.2.1)
theorem inN {a b : Int} (ra : inR a) (rb : inR b) : ∀ v, v ∈ [nV a, nV b] → v.s.length < 134217728 ∧ inR v.n := inD2 (by show 0 < _; decide) (by show 0 < _; decide) ra rb
theorem dn_y [GlobF Tryd.prog] (hp : PowOK) (he : ErrsOK) {s : List UInt8} {a b n : Int} (ra : inR a) (rb : inR b) (hs : s ∈ twos) (h0 : s ≠ mnL) (h1 : s ≠ mxL) (h2 : s ≠ ctL) (h : recP s a b) (e : recN s a b = n) :
    PC Tryd.prog 18 [str s, .sl none 3 ([nV a, nV b].map vC)] (.tu [eV (nV n), .sc (.bool true), .sc (.int .i64 0)]) :=
  do_of hp he hs (may_n _) (may_n _) ra rb (rq_y hs h0 h1 h2 h).1 (by rw [(rq_y hs h0 h1 h2 h).2, e])
theorem dn_n [GlobF Tryd.prog] (hp : PowOK) (he : ErrsOK) {s : List UInt8} {a b : Int} (ra : inR a) (rb : inR b) (hs : s ∈ twos) (h0 : s ≠ mnL) (h1 : s ≠ mxL) (h2 : s ≠ ctL) (h : ¬ recP s a b) :
    PC Tryd.prog 18 [str s, .sl none 3 ([nV a, nV b].map vC)] (.tu [eV zV, .sc (.bool false), .sc (.int .i64 0)]) := by
  have g := do_pc hp he s [nV a, nV b] (by show 2 < _; decide) (inN ra rb)
  rwa [← dP_F (rq_n h0 h1 h2 h), right_two2 hs (may_n _) (may_n _), doV_z (rq_n h0 h1 h2 h)] at g
theorem ds_y [GlobF Tryd.prog] (hp : PowOK) (he : ErrsOK) {s : List UInt8} {a b n : Int} (ra : inR a) (rb : inR b) (hs : s ∈ twos) (h0 : s ≠ mnL) (h1 : s ≠ mxL) (h2 : s ≠ ctL) (h : recP s a b) (e : recN s a b = n) :
    PC Tryd.prog 17 [eV (nV n), str s, .sl none 3 ([nV a, nV b].map vC)] (.sc (.bool true)) := by
  have g := does_pc hp he (nV n) s [nV a, nV b] (by show 2 < _; decide) (inN ra rb)
  rwa [← dP_T (show doesP (nV n) s [nV a, nV b] from ⟨(rq_y hs h0 h1 h2 h).1, by rw [(rq_y hs h0 h1 h2 h).2, e]⟩)] at g
theorem recP_add {a b : Int} : recP [43] a b = inR (a + b) := by simp [recP]
theorem recP_sub {a b : Int} : recP [45] a b = inR (a - b) := by simp [recP]
theorem recP_mul {a b : Int} : recP [42] a b = inR (a * b) := by simp [recP]
theorem recN_add {a b : Int} (h : inR (a + b)) : recN [43] a b = a + b := by unfold recN; rw [if_pos rfl, wrap_i h]
theorem recN_sub {a b : Int} (h : inR (a - b)) : recN [45] a b = a - b := by unfold recN; rw [if_neg (by decide), if_pos rfl, wrap_i h]
theorem recN_mul {a b : Int} (h : inR (a * b)) : recN [42] a b = a * b := by unfold recN; rw [if_neg (by decide), if_neg (by decide), if_pos rfl, wrap_i h]
theorem negw {b : Int} (h : inR b) (hne : b ≠ -9223372036854775808) : IntKind.i64.wrap (0 - b) = -b := by
  unfold inR at h; rw [w64 _ (by omega) (by omega)]; omega
theorem tmod_f {a b : Int} (h : b ≠ 0) : (a.tmod b).natAbs < b.natAbs ∧ (0 ≤ a → 0 ≤ a.tmod b) ∧ (a ≤ 0 → a.tmod b ≤ 0) := by
  refine ⟨by rw [Int.natAbs_tmod]; exact Nat.mod_lt _ (by omega), fun h => Int.tmod_nonneg b h, fun h2 => ?_⟩
  have := Int.tmod_nonneg b (a := -a) (by omega)
  rw [Int.neg_tmod] at this; omega
theorem mul_in {a b : Int} (ra : inR a) (rb : inR b) (h : b ≠ 0) : inR (a.tdiv b * b) := by
  have h1 := Int.mul_tdiv_add_tmod a b
  have h2 := tmod_f (a := a) h
  rw [Int.mul_comm] at h1
  have h3 : (a.tdiv b * b).natAbs ≤ a.natAbs := by
    rw [Int.natAbs_mul, Int.natAbs_tdiv]; exact Nat.div_mul_le_self _ _
  obtain ⟨h5, h6, h7⟩ := h2
  unfold inR at *
  by_cases h4 : 0 ≤ a
  · have h6 := h6 h4; omega
  · have h7 := h7 (by omega); omega
theorem sgn_eq {a m : Int} (h0 : m ≠ 0) (h2 : 0 ≤ a → 0 ≤ m) (h3 : a ≤ 0 → m ≤ 0) : iLt m 0 = iLt a 0 := by
  by_cases h : a < 0
  · have := h3 (by omega); rw [(iLt_t _ _).mpr h, (iLt_t _ _).mpr (by omega)]
  · have := h2 (by omega); rw [(iLt_f _ _).mpr (by omega), (iLt_f _ _).mpr (by omega)]
set_option maxHeartbeats 32000000 in
set_option maxRecDepth 100000 in
theorem calcNumbers_pc [GlobF Tryd.prog] (hg : MaxLenOK) (hp : PowOK) (he : ErrsOK) (a b : Int) (ra : inR a) (rb : inR b) : PC Tryd.prog 6 [.sc (.int .i64 a), .sc (.int .i64 b)] (.sc (.bool true)) := by
  have hal := alive_pc hg hp he
  -- the sums
  have sums : (∃ n : Int, PC Tryd.prog 18 [str [43], .sl none 3 ([nV a, nV b].map vC)] (.tu [eV (nV n), .sc (.bool true), .sc (.int .i64 0)]) ∧ PC Tryd.prog 18 [str [43], .sl none 3 ([nV b, nV a].map vC)] (.tu [eV (nV n), .sc (.bool true), .sc (.int .i64 0)])
        ∧ PC Tryd.prog 17 [eV (nV a), str [45], .sl none 3 ([nV n, nV b].map vC)] (.sc (.bool true)) ∧ PC Tryd.prog 17 [eV (nV b), str [45], .sl none 3 ([nV n, nV a].map vC)] (.sc (.bool true)))
      ∨ (PC Tryd.prog 18 [str [43], .sl none 3 ([nV a, nV b].map vC)] (.tu [eV zV, .sc (.bool false), .sc (.int .i64 0)]) ∧ PC Tryd.prog 18 [str [43], .sl none 3 ([nV b, nV a].map vC)] (.tu [eV zV, .sc (.bool false), .sc (.int .i64 0)])) := by
    by_cases h : inR (a + b)
    · have h' : inR (b + a) := by rwa [Int.add_comm]
      have e1 : inR (a + b - b) := by rw [show a + b - b = a by omega]; exact ra
      have e2 : inR (a + b - a) := by rw [show a + b - a = b by omega]; exact rb
      exact .inl ⟨a + b, dn_y hp he ra rb (by decide) (by decide) (by decide) (by decide) (recP_add ▸ h) (recN_add h), dn_y hp he rb ra (by decide) (by decide) (by decide) (by decide) (recP_add ▸ h') ((recN_add h').trans (Int.add_comm _ _)),
        ds_y hp he h rb (by decide) (by decide) (by decide) (by decide) (recP_sub ▸ e1) ((recN_sub e1).trans (by omega)), ds_y hp he h ra (by decide) (by decide) (by decide) (by decide) (recP_sub ▸ e2) ((recN_sub e2).trans (by omega))⟩
    · have h' : ¬ inR (b + a) := by rwa [Int.add_comm]
      exact .inr ⟨dn_n hp he ra rb (by decide) (by decide) (by decide) (by decide) (recP_add ▸ h), dn_n hp he rb ra (by decide) (by decide) (by decide) (by decide) (recP_add ▸ h')⟩
  by_cases hbad : badP a b
  · have q1 := dn_n hp he (s := [47]) ra rb (by decide) (by decide) (by decide) (by decide) (by rw [recP_d (by decide) (by decide) (by decide)]; exact fun h => h hbad)
    have q2 := dn_n hp he (s := [109, 111, 100]) ra rb (by decide) (by decide) (by decide) (by decide) (by rw [recP_d (by decide) (by decide) (by decide)]; exact fun h => h hbad)
    rcases sums with ⟨n, sm1, sm2, sm3, sm4⟩ | ⟨sm1, sm2⟩
    · refine PC.of_body Tryd.func6 Tryd.ntmps6 rfl rfl rfl ?_
      repeat' first
        | (apply p1 (hd := rfl); case hop => first | (apply D_move; rfl) | (apply D_assign; rfl) | (apply D_pc hal; rfl; exact .nil) | (apply D_pc (lnum_pc _); rfl; exact .same rfl .nil) | (apply D_pc sm1; rfl; exact .same rfl (.same rfl .nil)) | (apply D_pc sm2; rfl; exact .same rfl (.same rfl .nil)) | (apply D_pc sm3; rfl; exact .same rfl (.same rfl (.same rfl .nil))) | (apply D_pc sm4; rfl; exact .same rfl (.same rfl (.same rfl .nil))) | (apply D_pc q1; rfl; exact .same rfl (.same rfl .nil)) | (apply D_pc q2; rfl; exact .same rfl (.same rfl .nil)) | (apply D_load1; rfl) | (apply D_fld; rfl) | (apply D_pickT; rfl; rfl) | (apply D_pickF; rfl; rfl) | (apply D_int; rfl; rfl; rfl) | (apply D_ext; rfl; rfl) | (apply D_not; rfl) | (apply D_loadW; rfl; rfl) | (apply D_loadA; rfl; rfl) | (apply D_beq; rfl; rfl) | (apply D_bne; rfl; rfl) | (apply D_lit; rfl; rfl; rfl; rfl) | exact D_fldB rfl | exact D_eqA rfl rfl rfl rfl rfl rfl rfl | exact D_neA rfl rfl rfl rfl rfl rfl rfl | (apply D_neg; rfl))
        | refine W_seq ?_
        | refine W_region ?_
        | (refine idC ?_; first | refine c1 rfl ?_ | refine c0 rfl ?_ | refine cs rfl (fun _ => ?_) (fun _ => ?_))
        | refine WL_nil ?_
        | (refine idG ?_; first | refine g0t rfl rfl rfl ?_ | refine g0f rfl rfl rfl ?_ | refine g0u rfl rfl rfl ?_ | refine gr rfl rfl ?_ | refine gs rfl rfl (fun _ => ?_) (fun _ => ?_) | refine grn rfl rfl ?_)
        | refine tn ?_
        | refine tr ?_
        | refine br ?_
        | refine bn ?_
        | refine te ?_
        | (refine idB ?_; first | refine bh rfl ?_ | refine bm rfl ?_)
        | refine W_skip ?_
        | refine W_block ?_
        | refine W_exit ?_
        | refine W_ret ?_
        | refine W_label ?_
        | refine W_scope ?_
        | refine sn ?_
        | refine sr ?_
        | refine se ?_
        | (refine idR ?_; first | refine ret1 rfl rfl rfl ?_ | refine rL1 rfl (by first | exact trivial | exact ⟨rfl, trivial⟩) (by first | exact ResO.tmp rfl | exact ResO.cellBA rfl rfl rfl | exact ResO.cellB1 rfl rfl rfl | exact ResO.cellEA rfl rfl | exact ResO.cellE1 rfl) ?_)
        | (refine idLd ?_; first | refine p1L (D_loadB1 rfl rfl rfl) rfl ?_ | refine p1L (D_loadBA rfl rfl rfl) rfl ?_ | refine p1L (D_loadB1 rfl (by (repeat first | assumption | exact get_last | (refine get_last2 ?_; focus (simp; done)) | apply get_set | apply get_app | (apply get_ne; focus omega) | (apply get_ne; focus (simp only [List.length_set, List.length_append, List.length_cons, List.length_nil]; omega))); done) (by rfl)) rfl ?_ | refine p1L (D_loadBA rfl (by (repeat first | assumption | exact get_last | (refine get_last2 ?_; focus (simp; done)) | apply get_set | apply get_app | (apply get_ne; focus omega) | (apply get_ne; focus (simp only [List.length_set, List.length_append, List.length_cons, List.length_nil]; omega))); done) (by rfl)) rfl ?_)
        | (refine idA ?_; first | refine m_var rfl rfl rfl rfl rfl rfl rfl ?_ | refine m_alloc rfl ?_)
        | (refine idS ?_; first | refine pS (S_store rfl rfl rfl rfl rfl rfl rfl) ?_ | refine pS (S_store rfl rfl rfl (by (repeat first | assumption | exact get_last | (refine get_last2 ?_; focus (simp; done)) | apply get_set | apply get_app | (apply get_ne; focus omega) | (apply get_ne; focus (simp only [List.length_set, List.length_append, List.length_cons, List.length_nil]; omega))); done) (by rfl) (by rfl) (by rfl)) ?_)
        | refine Le.bool ?_
        | refine Le.int ?_
        | refine Le.str ?_
      all_goals first | rfl | contradiction | (rw [iEq_t]; unfold badP at hbad; omega) | (exfalso; unfold badP at hbad; omega)
    · refine PC.of_body Tryd.func6 Tryd.ntmps6 rfl rfl rfl ?_
      repeat' first
        | (apply p1 (hd := rfl); case hop => first | (apply D_move; rfl) | (apply D_assign; rfl) | (apply D_pc hal; rfl; exact .nil) | (apply D_pc (lnum_pc _); rfl; exact .same rfl .nil) | (apply D_pc sm1; rfl; exact .same rfl (.same rfl .nil)) | (apply D_pc sm2; rfl; exact .same rfl (.same rfl .nil)) | (apply D_pc q1; rfl; exact .same rfl (.same rfl .nil)) | (apply D_pc q2; rfl; exact .same rfl (.same rfl .nil)) | (apply D_load1; rfl) | (apply D_fld; rfl) | (apply D_pickT; rfl; rfl) | (apply D_pickF; rfl; rfl) | (apply D_int; rfl; rfl; rfl) | (apply D_ext; rfl; rfl) | (apply D_not; rfl) | (apply D_loadW; rfl; rfl) | (apply D_loadA; rfl; rfl) | (apply D_beq; rfl; rfl) | (apply D_bne; rfl; rfl) | (apply D_lit; rfl; rfl; rfl; rfl) | exact D_fldB rfl | exact D_eqA rfl rfl rfl rfl rfl rfl rfl | exact D_neA rfl rfl rfl rfl rfl rfl rfl | (apply D_neg; rfl))
        | refine W_seq ?_
        | refine W_region ?_
        | (refine idC ?_; first | refine c1 rfl ?_ | refine c0 rfl ?_ | refine cs rfl (fun _ => ?_) (fun _ => ?_))
        | refine WL_nil ?_
        | (refine idG ?_; first | refine g0t rfl rfl rfl ?_ | refine g0f rfl rfl rfl ?_ | refine g0u rfl rfl rfl ?_ | refine gr rfl rfl ?_ | refine gs rfl rfl (fun _ => ?_) (fun _ => ?_) | refine grn rfl rfl ?_)
        | refine tn ?_
        | refine tr ?_
        | refine br ?_
        | refine bn ?_
        | refine te ?_
        | (refine idB ?_; first | refine bh rfl ?_ | refine bm rfl ?_)
        | refine W_skip ?_
        | refine W_block ?_
        | refine W_exit ?_
        | refine W_ret ?_
        | refine W_label ?_
        | refine W_scope ?_
        | refine sn ?_
        | refine sr ?_
        | refine se ?_
        | (refine idR ?_; first | refine ret1 rfl rfl rfl ?_ | refine rL1 rfl (by first | exact trivial | exact ⟨rfl, trivial⟩) (by first | exact ResO.tmp rfl | exact ResO.cellBA rfl rfl rfl | exact ResO.cellB1 rfl rfl rfl | exact ResO.cellEA rfl rfl | exact ResO.cellE1 rfl) ?_)
        | (refine idLd ?_; first | refine p1L (D_loadB1 rfl rfl rfl) rfl ?_ | refine p1L (D_loadBA rfl rfl rfl) rfl ?_ | refine p1L (D_loadB1 rfl (by (repeat first | assumption | exact get_last | (refine get_last2 ?_; focus (simp; done)) | apply get_set | apply get_app | (apply get_ne; focus omega) | (apply get_ne; focus (simp only [List.length_set, List.length_append, List.length_cons, List.length_nil]; omega))); done) (by rfl)) rfl ?_ | refine p1L (D_loadBA rfl (by (repeat first | assumption | exact get_last | (refine get_last2 ?_; focus (simp; done)) | apply get_set | apply get_app | (apply get_ne; focus omega) | (apply get_ne; focus (simp only [List.length_set, List.length_append, List.length_cons, List.length_nil]; omega))); done) (by rfl)) rfl ?_)
        | (refine idA ?_; first | refine m_var rfl rfl rfl rfl rfl rfl rfl ?_ | refine m_alloc rfl ?_)
        | (refine idS ?_; first | refine pS (S_store rfl rfl rfl rfl rfl rfl rfl) ?_ | refine pS (S_store rfl rfl rfl (by (repeat first | assumption | exact get_last | (refine get_last2 ?_; focus (simp; done)) | apply get_set | apply get_app | (apply get_ne; focus omega) | (apply get_ne; focus (simp only [List.length_set, List.length_append, List.length_cons, List.length_nil]; omega))); done) (by rfl) (by rfl) (by rfl)) ?_)
        | refine Le.bool ?_
        | refine Le.int ?_
        | refine Le.str ?_
      all_goals first | rfl | contradiction | (rw [iEq_t]; unfold badP at hbad; omega) | (exfalso; unfold badP at hbad; omega)
  · have hb0 : b ≠ 0 := fun e => hbad (.inl e)
    have hdi := div_in ra hbad
    obtain ⟨hm1, hm2, hm3⟩ := tmod_f (a := a) hb0
    have hmr : inR (a.tmod b) := by unfold inR at *; omega
    have hmn : a.tmod b ≠ -9223372036854775808 := by unfold inR at *; omega
    have hmi := mul_in ra rb hb0
    have hsum : a.tdiv b * b + a.tmod b = a := by rw [Int.mul_comm]; exact Int.mul_tdiv_add_tmod a b
    have hsi : inR (a.tdiv b * b + a.tmod b) := by rw [hsum]; exact ra
    have q1 := dn_y hp he (s := [47]) (n := a.tdiv b) ra rb (by decide) (by decide) (by decide) (by decide) (by rw [recP_d (by decide) (by decide) (by decide)]; exact hbad) (by rw [recN_d (by decide) (by decide) (by decide), if_neg hbad, if_pos rfl])
    have q2 := dn_y hp he (s := [109, 111, 100]) (n := a.tmod b) ra rb (by decide) (by decide) (by decide) (by decide) (by rw [recP_d (by decide) (by decide) (by decide)]; exact hbad) (by rw [recN_d (by decide) (by decide) (by decide), if_neg hbad, if_neg (by decide)])
    have q3 := dn_y hp he (s := [42]) hdi rb (by decide) (by decide) (by decide) (by decide) (recP_mul ▸ hmi) (recN_mul hmi)
    have q4 := ds_y hp he (s := [43]) hmi hmr (by decide) (by decide) (by decide) (by decide) (recP_add ▸ hsi) ((recN_add hsi).trans hsum)
    rcases sums with ⟨n, sm1, sm2, sm3, sm4⟩ | ⟨sm1, sm2⟩
    · refine PC.of_body Tryd.func6 Tryd.ntmps6 rfl rfl rfl ?_
      repeat' first
        | (apply p1 (hd := rfl); case hop => first | (apply D_move; rfl) | (apply D_assign; rfl) | (apply D_pc hal; rfl; exact .nil) | (apply D_pc (lnum_pc _); rfl; exact .same rfl .nil) | (apply D_pc sm1; rfl; exact .same rfl (.same rfl .nil)) | (apply D_pc sm2; rfl; exact .same rfl (.same rfl .nil)) | (apply D_pc sm3; rfl; exact .same rfl (.same rfl (.same rfl .nil))) | (apply D_pc sm4; rfl; exact .same rfl (.same rfl (.same rfl .nil))) | (apply D_pc q1; rfl; exact .same rfl (.same rfl .nil)) | (apply D_pc q2; rfl; exact .same rfl (.same rfl .nil)) | exact D_max rfl rfl | exact D_sc (D_neg rfl) (congrArg _ (negw rb (by assumption))) | exact D_sc (D_neg rfl) (congrArg _ (negw hmr hmn)) | (apply D_pc q3; rfl; exact .same rfl (.same rfl .nil)) | (apply D_pc q4; rfl; exact .same rfl (.same rfl (.same rfl .nil))) | (apply D_load1; rfl) | (apply D_fld; rfl) | (apply D_pickT; rfl; rfl) | (apply D_pickF; rfl; rfl) | (apply D_int; rfl; rfl; rfl) | (apply D_ext; rfl; rfl) | (apply D_not; rfl) | (apply D_loadW; rfl; rfl) | (apply D_loadA; rfl; rfl) | (apply D_beq; rfl; rfl) | (apply D_bne; rfl; rfl) | (apply D_lit; rfl; rfl; rfl; rfl) | exact D_fldB rfl | exact D_eqA rfl rfl rfl rfl rfl rfl rfl | exact D_neA rfl rfl rfl rfl rfl rfl rfl | (apply D_neg; rfl))
        | refine W_seq ?_
        | refine W_region ?_
        | (refine idC ?_; first | refine c1 rfl ?_ | refine c0 rfl ?_ | refine cs rfl (fun _ => ?_) (fun _ => ?_))
        | refine WL_nil ?_
        | (refine idG ?_; first | refine g0t rfl rfl rfl ?_ | refine g0f rfl rfl rfl ?_ | refine g0u rfl rfl rfl ?_ | refine gr rfl rfl ?_ | refine gs rfl rfl (fun _ => ?_) (fun _ => ?_) | refine grn rfl rfl ?_)
        | refine tn ?_
        | refine tr ?_
        | refine br ?_
        | refine bn ?_
        | refine te ?_
        | (refine idB ?_; first | refine bh rfl ?_ | refine bm rfl ?_)
        | refine W_skip ?_
        | refine W_block ?_
        | refine W_exit ?_
        | refine W_ret ?_
        | refine W_label ?_
        | refine W_scope ?_
        | refine sn ?_
        | refine sr ?_
        | refine se ?_
        | (refine idR ?_; first | refine ret1 rfl rfl rfl ?_ | refine rL1 rfl (by first | exact trivial | exact ⟨rfl, trivial⟩) (by first | exact ResO.tmp rfl | exact ResO.cellBA rfl rfl rfl | exact ResO.cellB1 rfl rfl rfl | exact ResO.cellEA rfl rfl | exact ResO.cellE1 rfl) ?_)
        | (refine idLd ?_; first | refine p1L (D_loadB1 rfl rfl rfl) rfl ?_ | refine p1L (D_loadBA rfl rfl rfl) rfl ?_ | refine p1L (D_loadB1 rfl (by (repeat first | assumption | exact get_last | (refine get_last2 ?_; focus (simp; done)) | apply get_set | apply get_app | (apply get_ne; focus omega) | (apply get_ne; focus (simp only [List.length_set, List.length_append, List.length_cons, List.length_nil]; omega))); done) (by rfl)) rfl ?_ | refine p1L (D_loadBA rfl (by (repeat first | assumption | exact get_last | (refine get_last2 ?_; focus (simp; done)) | apply get_set | apply get_app | (apply get_ne; focus omega) | (apply get_ne; focus (simp only [List.length_set, List.length_append, List.length_cons, List.length_nil]; omega))); done) (by rfl)) rfl ?_)
        | (refine idA ?_; first | refine m_var rfl rfl rfl rfl rfl rfl rfl ?_ | refine m_alloc rfl ?_)
        | (refine idS ?_; first | refine pS (S_store rfl rfl rfl rfl rfl rfl rfl) ?_ | refine pS (S_store rfl rfl rfl (by (repeat first | assumption | exact get_last | (refine get_last2 ?_; focus (simp; done)) | apply get_set | apply get_app | (apply get_ne; focus omega) | (apply get_ne; focus (simp only [List.length_set, List.length_append, List.length_cons, List.length_nil]; omega))); done) (by rfl) (by rfl) (by rfl)) ?_)
        | refine Le.bool ?_
        | refine Le.int ?_
        | refine Le.str ?_
      all_goals first
        | rfl
        | contradiction
        | (rw [iLt_t]; dsimp only at *; rw [Int.max_def]; split <;> omega)
        | (exfalso; rename_i h; dsimp only at h; rw [Int.max_def] at h; split at h <;> omega)
        | (exfalso; rename_i h; exact h (sgn_eq (by assumption) hm2 hm3))
    · refine PC.of_body Tryd.func6 Tryd.ntmps6 rfl rfl rfl ?_
      repeat' first
        | (apply p1 (hd := rfl); case hop => first | (apply D_move; rfl) | (apply D_assign; rfl) | (apply D_pc hal; rfl; exact .nil) | (apply D_pc (lnum_pc _); rfl; exact .same rfl .nil) | (apply D_pc sm1; rfl; exact .same rfl (.same rfl .nil)) | (apply D_pc sm2; rfl; exact .same rfl (.same rfl .nil)) | (apply D_pc q1; rfl; exact .same rfl (.same rfl .nil)) | (apply D_pc q2; rfl; exact .same rfl (.same rfl .nil)) | exact D_max rfl rfl | exact D_sc (D_neg rfl) (congrArg _ (negw rb (by assumption))) | exact D_sc (D_neg rfl) (congrArg _ (negw hmr hmn)) | (apply D_pc q3; rfl; exact .same rfl (.same rfl .nil)) | (apply D_pc q4; rfl; exact .same rfl (.same rfl (.same rfl .nil))) | (apply D_load1; rfl) | (apply D_fld; rfl) | (apply D_pickT; rfl; rfl) | (apply D_pickF; rfl; rfl) | (apply D_int; rfl; rfl; rfl) | (apply D_ext; rfl; rfl) | (apply D_not; rfl) | (apply D_loadW; rfl; rfl) | (apply D_loadA; rfl; rfl) | (apply D_beq; rfl; rfl) | (apply D_bne; rfl; rfl) | (apply D_lit; rfl; rfl; rfl; rfl) | exact D_fldB rfl | exact D_eqA rfl rfl rfl rfl rfl rfl rfl | exact D_neA rfl rfl rfl rfl rfl rfl rfl | (apply D_neg; rfl))
        | refine W_seq ?_
        | refine W_region ?_
        | (refine idC ?_; first | refine c1 rfl ?_ | refine c0 rfl ?_ | refine cs rfl (fun _ => ?_) (fun _ => ?_))
        | refine WL_nil ?_
        | (refine idG ?_; first | refine g0t rfl rfl rfl ?_ | refine g0f rfl rfl rfl ?_ | refine g0u rfl rfl rfl ?_ | refine gr rfl rfl ?_ | refine gs rfl rfl (fun _ => ?_) (fun _ => ?_) | refine grn rfl rfl ?_)
        | refine tn ?_
        | refine tr ?_
        | refine br ?_
        | refine bn ?_
        | refine te ?_
        | (refine idB ?_; first | refine bh rfl ?_ | refine bm rfl ?_)
        | refine W_skip ?_
        | refine W_block ?_
        | refine W_exit ?_
        | refine W_ret ?_
        | refine W_label ?_
        | refine W_scope ?_
        | refine sn ?_
        | refine sr ?_
        | refine se ?_
        | (refine idR ?_; first | refine ret1 rfl rfl rfl ?_ | refine rL1 rfl (by first | exact trivial | exact ⟨rfl, trivial⟩) (by first | exact ResO.tmp rfl | exact ResO.cellBA rfl rfl rfl | exact ResO.cellB1 rfl rfl rfl | exact ResO.cellEA rfl rfl | exact ResO.cellE1 rfl) ?_)
        | (refine idLd ?_; first | refine p1L (D_loadB1 rfl rfl rfl) rfl ?_ | refine p1L (D_loadBA rfl rfl rfl) rfl ?_ | refine p1L (D_loadB1 rfl (by (repeat first | assumption | exact get_last | (refine get_last2 ?_; focus (simp; done)) | apply get_set | apply get_app | (apply get_ne; focus omega) | (apply get_ne; focus (simp only [List.length_set, List.length_append, List.length_cons, List.length_nil]; omega))); done) (by rfl)) rfl ?_ | refine p1L (D_loadBA rfl (by (repeat first | assumption | exact get_last | (refine get_last2 ?_; focus (simp; done)) | apply get_set | apply get_app | (apply get_ne; focus omega) | (apply get_ne; focus (simp only [List.length_set, List.length_append, List.length_cons, List.length_nil]; omega))); done) (by rfl)) rfl ?_)
        | (refine idA ?_; first | refine m_var rfl rfl rfl rfl rfl rfl rfl ?_ | refine m_alloc rfl ?_)
        | (refine idS ?_; first | refine pS (S_store rfl rfl rfl rfl rfl rfl rfl) ?_ | refine pS (S_store rfl rfl rfl (by (repeat first | assumption | exact get_last | (refine get_last2 ?_; focus (simp; done)) | apply get_set | apply get_app | (apply get_ne; focus omega) | (apply get_ne; focus (simp only [List.length_set, List.length_append, List.length_cons, List.length_nil]; omega))); done) (by rfl) (by rfl) (by rfl)) ?_)
        | refine Le.bool ?_
        | refine Le.int ?_
        | refine Le.str ?_
      all_goals first
        | rfl
        | contradiction
        | (rw [iLt_t]; dsimp only at *; rw [Int.max_def]; split <;> omega)
        | (exfalso; rename_i h; dsimp only at h; rw [Int.max_def] at h; split at h <;> omega)
        | (exfalso; rename_i h; exact h (sgn_eq (by assumption) hm2 hm3))
theorem i64_of {n : Int} (h : (Lit.int .i64 n).wf = true) : inR n := by
  simp [Lit.wf, IntKind.min, IntKind.max, IntKind.signed, IntKind.bits] at h
  unfold inR; omega
end Go.Proofs
