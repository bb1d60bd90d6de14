/- ValueNames: the contract. -/
import Derived.Test.YtpfalehodcbnbaaDoorT15
namespace Go.Proofs
open Go.AL
attribute [local irreducible] Go.AL.W Go.AL.WL Go.AL.WD Go.AL.POp Go.AL.PPOp Go.AL.POpS Go.AL.PC Go.AL.AC Go.AL.YW Go.AL.Ret Go.AL.Le Go.AL.thn Go.AL.inBlk Go.AL.scp

theorem text_y [GlobF Tryd.prog] (hp : PowOK) (v : Val) (l : List UInt8) (hs : v.s.length < 268435456) (h0 : -9223372036854775808 ≤ v.n) (h1 : v.n ≤ 9223372036854775807) (hm : MayP v) (hl : textL v = l) : PC Tryd.prog 9 [eV v] (.tu [str l, .sc (.int .i64 0)]) := by
  have := text_pc hp v hs h0 h1
  rwa [tL_t hm, tE_t hm, hl] at this
theorem text_n [GlobF Tryd.prog] (hp : PowOK) (v : Val) (hs : v.s.length < 268435456) (h0 : -9223372036854775808 ≤ v.n) (h1 : v.n ≤ 9223372036854775807) (hm : ¬ MayP v) : PC Tryd.prog 9 [eV v] (.tu [str [], .sc (.int .i64 10)]) := by
  have := text_pc hp v hs h0 h1
  rwa [tL_f hm, tE_f hm] at this
theorem check_n [GlobF Tryd.prog] (v : Val) (hs : v.s.length < 268435456) (hm : ¬ MayP v) : PC Tryd.prog 14 [eV v] (.sc (.int .i64 10)) := by
  have := check_pc v (by omega)
  rwa [tE_f hm] at this
theorem parse_yy [GlobF Tryd.prog] (hp : PowOK) (he : ErrsOK) (s : List UInt8) (v : Val) (hs : s.length < 268435456) (hr : readL s = some v) (hm : MayP v) : PC Tryd.prog 11 [str s] (.tu [eV v, .sc (.int .i64 0)]) := by
  have := parse_pc hp he s hs
  rwa [(parse_ok hr hm).1, (parse_ok hr hm).2] at this
theorem parse_nn [GlobF Tryd.prog] (hp : PowOK) (he : ErrsOK) (s : List UInt8) (hs : s.length < 268435456) (h : ∀ v, readL s = some v → ¬ MayP v) : PC Tryd.prog 11 [str s] (.tu [eV zV, .sc (.int .i64 11)]) := by
  have := parse_pc hp he s hs
  rwa [(parse_no h).1, (parse_no h).2] at this
set_option maxHeartbeats 4000000 in
theorem refused_pc [GlobF Tryd.prog] (hp : PowOK) (he : ErrsOK) (s : List UInt8) (hs : s.length < 268435456) (h : ∀ v, readL s = some v → ¬ MayP v) : PC Tryd.prog 13 [str s] (.sc (.int .i64 1)) := by
  refine PC.of_body Tryd.func13 Tryd.ntmps13 rfl rfl rfl ?_
  repeat' first
    | (apply p1 (hd := rfl); case hop => first | (apply D_move; rfl) | (apply D_assign; rfl) | (apply D_pc (parse_nn hp he s hs h); rfl; exact .same rfl .nil) | (apply D_load1; rfl) | (apply D_pickT; rfl; rfl) | (apply D_pickF; rfl; rfl) | (apply D_int; rfl; rfl; rfl) | (apply D_ext; rfl; rfl) | (apply D_loadW; rfl; rfl) | (apply D_loadA; rfl; rfl) | exact D_build rfl | exact D_buildA rfl | exact D_eqA rfl rfl rfl rfl rfl rfl rfl | exact D_neA rfl rfl rfl rfl rfl rfl rfl)
    | refine W_seq ?_
    | refine W_region ?_
    | (refine idC ?_; first | refine c1 rfl ?_ | refine c0 rfl ?_ | refine cs rfl (fun _ => ?_) (fun _ => ?_))
    | refine WL_nil ?_
    | (refine idG ?_; first | refine g0t rfl rfl rfl ?_ | refine g0f rfl rfl rfl ?_ | refine g0u rfl rfl rfl ?_ | refine gr rfl rfl ?_ | refine gs rfl rfl (fun _ => ?_) (fun _ => ?_) | refine grn rfl rfl ?_)
    | refine tn ?_
    | refine tr ?_
    | refine br ?_
    | refine bn ?_
    | refine te ?_
    | (refine idB ?_; first | refine bh rfl ?_ | refine bm rfl ?_)
    | refine W_skip ?_
    | refine W_block ?_
    | refine W_exit ?_
    | refine W_ret ?_
    | refine W_label ?_
    | refine W_scope ?_
    | refine sn ?_
    | refine sr ?_
    | refine se ?_
    | (refine idR ?_; first | refine ret1 rfl rfl rfl ?_ | refine rL1 rfl (by first | exact trivial | exact ⟨rfl, trivial⟩) (by first | exact ResO.tmp rfl | exact ResO.cellBA rfl rfl rfl | exact ResO.cellB1 rfl rfl rfl | exact ResO.cellEA rfl rfl | exact ResO.cellE1 rfl) ?_)
    | (refine idLd ?_; first | refine p1L (D_loadB1 rfl rfl rfl) rfl ?_ | refine p1L (D_loadBA rfl rfl rfl) rfl ?_ | refine p1L (D_loadB1 rfl (by (repeat first | assumption | exact get_last | (refine get_last2 ?_; focus (simp; done)) | apply get_set | apply get_app | (apply get_ne; focus omega) | (apply get_ne; focus (simp only [List.length_set, List.length_append, List.length_cons, List.length_nil]; omega))); done) (by rfl)) rfl ?_ | refine p1L (D_loadBA rfl (by (repeat first | assumption | exact get_last | (refine get_last2 ?_; focus (simp; done)) | apply get_set | apply get_app | (apply get_ne; focus omega) | (apply get_ne; focus (simp only [List.length_set, List.length_append, List.length_cons, List.length_nil]; omega))); done) (by rfl)) rfl ?_)
    | (refine idA ?_; first | refine m_var rfl rfl rfl rfl rfl rfl rfl ?_ | refine m_alloc rfl ?_)
    | (refine idS ?_; first | refine pS (S_store rfl rfl rfl rfl rfl rfl rfl) ?_ | refine pS (S_store rfl rfl rfl (by (repeat first | assumption | exact get_last | (refine get_last2 ?_; focus (simp; done)) | apply get_set | apply get_app | (apply get_ne; focus omega) | (apply get_ne; focus (simp only [List.length_set, List.length_append, List.length_cons, List.length_nil]; omega))); done) (by rfl) (by rfl) (by rfl)) ?_)
    | refine Le.bool ?_
    | refine Le.int ?_
    | refine Le.str ?_
  all_goals first | rfl | contradiction
theorem no_num {c : UInt8} {r : List UInt8} (h1 : ¬ (c = 116 ∨ c = 102)) (h2 : ¬ c = 64) (h3 : ¬ c = 33) (h4 : ¬ c = 58) (h5 : ¬ c = 35) (h6 : ¬ c = 34) (hb : pB (c :: r) = false) : ∀ v, readL (c :: r) = some v → ¬ MayP v := fun v h => by
  rw [readL, if_neg h1, if_neg h2, if_neg h3, if_neg h4, if_neg h5, if_neg h6] at h
  unfold numO at h; rw [hb] at h; cases h
theorem no_ref {r : List UInt8} {n : Int} (hb : pB r = true) (hn : pN r = n) (hno : n < 0 ∨ 9007199254740992 ≤ n) : ∀ v, readL (64 :: r) = some v → ¬ MayP v := fun v h => by
  rw [readL, if_neg (by decide), if_pos rfl] at h
  unfold numO at h; rw [hb, hn] at h
  cases h
  unfold MayP; simp; omega
theorem no1 : ∀ v, readL [45, 48] = some v → ¬ MayP v := no_num (by decide) (by decide) (by decide) (by decide) (by decide) (by decide) (by decide +kernel)
theorem no2 : ∀ v, readL [43, 49] = some v → ¬ MayP v := no_num (by decide) (by decide) (by decide) (by decide) (by decide) (by decide) (by decide +kernel)
theorem no3 : ∀ v, readL [64, 45, 49] = some v → ¬ MayP v := no_ref (n := -1) (by decide +kernel) (by decide +kernel) (.inl (by decide))
theorem no4 : ∀ v, readL [34, 97] = some v → ¬ MayP v := fun v h => by simp [readL] at h
theorem no5 : ∀ v, readL [35, 48] = some v → ¬ MayP v := fun v h => by simp [readL, unhex] at h
theorem no6 : ∀ v, readL [58, 65] = some v → ¬ MayP v := fun v h => by
  simp [readL] at h; subst h
  unfold MayP WordP; simp [lowP]
theorem no7 : ∀ v, readL [34, 92, 54, 49, 34] = some v → ¬ MayP v := fun v h => by
  have e : unq [92, 54, 49] = none := by
    have h92 : ¬ plainB 92 = true := by rw [plainB_t]; unfold plainP; decide
    have h97 : plainB 97 = true := by rw [plainB_t]; unfold plainP; decide
    have hp : pairO 54 49 = some 97 := by decide
    rw [unq_cons, if_neg h92, if_pos rfl]; simp only [hp]; rw [if_pos h97]
  simp [readL, e] at h
theorem no8 : ∀ v, readL [] = some v → ¬ MayP v := fun v h => by simp [readL] at h
theorem no9 : ∀ v, readL [34] = some v → ¬ MayP v := fun v h => by simp [readL] at h
theorem no10 : ∀ v, readL [64, 57, 48, 48, 55, 49, 57, 57, 50, 53, 52, 55, 52, 48, 57, 57, 50] = some v → ¬ MayP v := no_ref (n := 9007199254740992) (by decide +kernel) (by decide +kernel) (.inr (by decide))
theorem no11 : ∀ v, readL [57, 50, 50, 51, 51, 55, 50, 48, 51, 54, 56, 53, 52, 55, 55, 53, 56, 48, 56] = some v → ¬ MayP v := no_num (by decide) (by decide) (by decide) (by decide) (by decide) (by decide) (by decide +kernel)
theorem ye1 : readL [45, 57, 50, 50, 51, 51, 55, 50, 48, 51, 54, 56, 53, 52, 55, 55, 53, 56, 48, 56] = some ⟨1, -9223372036854775808, []⟩ := by
  rw [readL, if_neg (by decide), if_neg (by decide), if_neg (by decide), if_neg (by decide), if_neg (by decide), if_neg (by decide)]
  have h : numO [45, 57, 50, 50, 51, 51, 55, 50, 48, 51, 54, 56, 53, 52, 55, 55, 53, 56, 48, 56] = some (-9223372036854775808) := numO_iff.2 ⟨by decide, by decide, by decide +kernel⟩
  rw [h]; rfl
theorem nV0 : ¬ MayP zV := by simp [MayP]
theorem nV1 : ¬ MayP ⟨2, 2, []⟩ := by simp [MayP]
theorem nV2 : ¬ MayP ⟨7, 0, [85, 115, 101, 114]⟩ := by
  unfold MayP; simp
  intro h
  have := h.2.2 0 (by decide)
  simp [lowP] at this
theorem yV : MayP ⟨7, 0, [117, 115, 101, 114, 47, 110, 97, 109, 101]⟩ := by
  unfold MayP
  refine .inr (.inr (.inr (.inr ⟨rfl, rfl, ?_⟩)))
  refine ⟨by decide, by decide, ?_⟩
  have : ∀ j : Fin 9, lowP (([117, 115, 101, 114, 47, 110, 97, 109, 101] : List UInt8)[j.val]'(by show _ < 9; exact j.isLt)) ∨ (0 < j.val ∧ tailP (([117, 115, 101, 114, 47, 110, 97, 109, 101] : List UInt8)[j.val]'(by show _ < 9; exact j.isLt))) := by unfold lowP tailP digP; decide
  intro j h
  exact this ⟨j, h⟩
set_option maxHeartbeats 16000000 in
set_option maxRecDepth 100000 in
theorem valueNames_pc [GlobF Tryd.prog] (hp : PowOK) (he : ErrsOK) : PC Tryd.prog 5 [] (.sc (.bool true)) := by
  have tt1 := text_y hp ⟨2, 1, []⟩ [116, 114, 117, 101] (by decide) (by decide) (by decide) (by simp [MayP]) (by simp [textL])
  have tt2 := text_y hp ⟨4, 0, [0, 255]⟩ [35, 48, 48, 102, 102] (by decide) (by decide) (by decide) (by simp [MayP]) (by simp [textL, hexL])
  have tt3 := text_y hp ⟨5, 7, []⟩ [64, 55] (by decide) (by decide) (by decide) (by simp [MayP]) (by simp [textL]; decide +kernel)
  have tt4 := text_y hp ⟨6, 0, []⟩ [33, 48] (by decide) (by decide) (by decide) (by simp [MayP]) (by simp [textL]; decide +kernel)
  have tt5 := text_y hp ⟨7, 0, [117, 115, 101, 114, 47, 110, 97, 109, 101]⟩ [58, 117, 115, 101, 114, 47, 110, 97, 109, 101] (by decide) (by decide) (by decide) yV (by simp [textL])
  have tt6 := text_n hp ⟨7, 0, [85, 115, 101, 114]⟩ (by decide) (by decide) (by decide) nV2
  have pp1 := parse_yy hp he _ _ (by decide) ye1 (by simp [MayP])
  have pp2 := parse_nn hp he _ (by decide) no11
  have rr1 := refused_pc hp he _ (by decide) no1
  have rr2 := refused_pc hp he _ (by decide) no2
  have rr3 := refused_pc hp he _ (by decide) no3
  have rr4 := refused_pc hp he _ (by decide) no4
  have rr5 := refused_pc hp he _ (by decide) no5
  have rr6 := refused_pc hp he _ (by decide) no6
  have rr7 := refused_pc hp he _ (by decide) no7
  have rr8 := refused_pc hp he _ (by decide) no8
  have rr9 := refused_pc hp he _ (by decide) no9
  have rr10 := refused_pc hp he _ (by decide) no10
  have cc1 := check_n zV (by decide) nV0
  have cc2 := check_n ⟨2, 2, []⟩ (by decide) nV1
  refine PC.of_body Tryd.func5 Tryd.ntmps5 rfl rfl rfl ?_
  repeat' first
    | (apply p1 (hd := rfl); case hop => first | (apply D_move; rfl) | (apply D_assign; rfl) | (apply D_pc (alive_pc hp); rfl; exact .nil) | (apply D_pc tt1; rfl; exact .same rfl .nil) | (apply D_pc tt2; rfl; exact .same rfl .nil) | (apply D_pc tt3; rfl; exact .same rfl .nil) | (apply D_pc tt4; rfl; exact .same rfl .nil) | (apply D_pc tt5; rfl; exact .same rfl .nil) | (apply D_pc tt6; rfl; exact .same rfl .nil) | (apply D_pc pp1; rfl; exact .same rfl .nil) | (apply D_pc pp2; rfl; exact .same rfl .nil) | (apply D_pc rr1; rfl; exact .same rfl .nil) | (apply D_pc rr2; rfl; exact .same rfl .nil) | (apply D_pc rr3; rfl; exact .same rfl .nil) | (apply D_pc rr4; rfl; exact .same rfl .nil) | (apply D_pc rr5; rfl; exact .same rfl .nil) | (apply D_pc rr6; rfl; exact .same rfl .nil) | (apply D_pc rr7; rfl; exact .same rfl .nil) | (apply D_pc rr8; rfl; exact .same rfl .nil) | (apply D_pc rr9; rfl; exact .same rfl .nil) | (apply D_pc rr10; rfl; exact .same rfl .nil) | (apply D_pc cc1; rfl; exact .same rfl .nil) | (apply D_pc cc2; rfl; exact .same rfl .nil) | (apply D_load1; rfl) | (apply D_fld; rfl) | (apply D_pickT; rfl; rfl) | (apply D_pickF; rfl; rfl) | (apply D_int; rfl; rfl; rfl) | (apply D_str; rfl; rfl; rfl) | (apply D_ext; rfl; rfl) | (apply D_loadW; rfl; rfl) | (apply D_loadA; rfl; rfl) | exact D_build rfl | exact D_buildA rfl | exact D_fldB rfl)
    | refine W_seq ?_
    | refine W_region ?_
    | refine WL_nil ?_
    | (refine idG ?_; first | refine g0t rfl rfl rfl ?_ | refine g0f rfl rfl rfl ?_ | refine g0u rfl rfl rfl ?_ | refine gr rfl rfl ?_ | refine gs rfl rfl (fun _ => ?_) (fun _ => ?_) | refine grn rfl rfl ?_)
    | refine tn ?_
    | refine tr ?_
    | refine br ?_
    | refine bn ?_
    | refine te ?_
    | (refine idB ?_; first | refine bh rfl ?_ | refine bm rfl ?_)
    | refine W_skip ?_
    | refine W_block ?_
    | refine W_exit ?_
    | refine W_ret ?_
    | refine W_label ?_
    | refine W_scope ?_
    | refine sn ?_
    | refine sr ?_
    | refine se ?_
    | (refine idR ?_; first | refine ret1 rfl rfl rfl ?_ | refine rL1 rfl (by first | exact trivial | exact ⟨rfl, trivial⟩) (by first | exact ResO.tmp rfl | exact ResO.cellBA rfl rfl rfl | exact ResO.cellB1 rfl rfl rfl | exact ResO.cellEA rfl rfl | exact ResO.cellE1 rfl) ?_)
    | (refine idLd ?_; first | refine p1L (D_loadB1 rfl rfl rfl) rfl ?_ | refine p1L (D_loadBA rfl rfl rfl) rfl ?_ | refine p1L (D_loadB1 rfl (by (repeat first | assumption | exact get_last | (refine get_last2 ?_; focus (simp; done)) | apply get_set | apply get_app | (apply get_ne; focus omega) | (apply get_ne; focus (simp only [List.length_set, List.length_append, List.length_cons, List.length_nil]; omega))); done) (by rfl)) rfl ?_ | refine p1L (D_loadBA rfl (by (repeat first | assumption | exact get_last | (refine get_last2 ?_; focus (simp; done)) | apply get_set | apply get_app | (apply get_ne; focus omega) | (apply get_ne; focus (simp only [List.length_set, List.length_append, List.length_cons, List.length_nil]; omega))); done) (by rfl)) rfl ?_)
    | (refine idA ?_; first | refine m_var rfl rfl rfl rfl rfl rfl rfl ?_ | refine m_alloc rfl ?_)
    | (refine idS ?_; first | refine pS (S_store rfl rfl rfl rfl rfl rfl rfl) ?_ | refine pS (S_store rfl rfl rfl (by (repeat first | assumption | exact get_last | (refine get_last2 ?_; focus (simp; done)) | apply get_set | apply get_app | (apply get_ne; focus omega) | (apply get_ne; focus (simp only [List.length_set, List.length_append, List.length_cons, List.length_nil]; omega))); done) (by rfl) (by rfl) (by rfl)) ?_)
    | refine Le.bool ?_
    | refine Le.int ?_
    | refine Le.str ?_
  all_goals first | rfl | contradiction | (rw [iEq_t]; done)
end Go.Proofs
