/- ValueOrder: the contract. -/
import Derived.Test.YtpfalehodcbnbaaDoorT5
import Derived.Test.YtpfalehodcbnbaaDoorTV2
namespace Go.Proofs
open Go.AL
attribute [local irreducible] Go.AL.W Go.AL.WL Go.AL.WD Go.AL.POp Go.AL.PPOp Go.AL.POpS Go.AL.PC Go.AL.AC Go.AL.YW Go.AL.Ret Go.AL.Le Go.AL.thn Go.AL.inBlk Go.AL.scp

theorem al1 : tL ⟨1, -5, []⟩ = [45, 53] := by
  rw [tL_t (by simp [MayP])]
  show Lib.itoa (-5) = _
  decide +kernel
theorem al2 : tL ⟨3, 0, [97, 34, 98, 10]⟩ = [34, 97, 92, 50, 50, 98, 92, 48, 97, 34] := by
  rw [tL_t (by simp [MayP])]
  have e1 : escL 97 = [97] := by unfold escL; rw [if_pos (by unfold plainP; decide)]
  have e2 : escL 34 = [92, 50, 50] := by unfold escL; rw [if_neg (by unfold plainP; decide)]; rfl
  have e3 : escL 98 = [98] := by unfold escL; rw [if_pos (by unfold plainP; decide)]
  have e4 : escL 10 = [92, 48, 97] := by unfold escL; rw [if_neg (by unfold plainP; decide)]; rfl
  have : textL ⟨3, 0, [97, 34, 98, 10]⟩ = 34 :: (([97, 34, 98, 10] : List UInt8).flatMap escL ++ [34]) := by simp [textL]
  rw [this]
  simp only [List.flatMap_cons, List.flatMap_nil, e1, e2, e3, e4]
  rfl
theorem al1e : (if mayB ⟨1, -5, []⟩ then (0 : Int) else 10) = 0 := tE_t (by simp [MayP])
theorem al2e : (if mayB ⟨3, 0, [97, 34, 98, 10]⟩ then (0 : Int) else 10) = 0 := tE_t (by simp [MayP])
set_option maxHeartbeats 4000000 in
theorem alive_pc [GlobF Tryd.prog] (hp : PowOK) : PC Tryd.prog 7 [] (.sc (.bool true)) := by
  have h1 := text_pc hp ⟨1, -5, []⟩ (by decide) (by decide) (by decide)
  have h2 := text_pc hp ⟨3, 0, [97, 34, 98, 10]⟩ (by decide) (by decide) (by decide)
  rw [al1, al1e] at h1
  rw [al2, al2e] at h2
  refine PC.of_body Tryd.func7 Tryd.ntmps7 rfl rfl rfl ?_
  repeat' first
    | (apply p1 (hd := rfl); case hop => first | (apply D_move; rfl) | (apply D_assign; rfl) | (apply D_pc h1; rfl; exact .same rfl .nil) | (apply D_pc h2; rfl; exact .same rfl .nil) | (apply D_pickT; rfl; rfl) | (apply D_pickF; rfl; rfl) | (apply D_int; rfl; rfl; rfl) | (apply D_str; rfl; rfl; rfl) | (apply D_ext; rfl; rfl) | exact D_build rfl | exact D_buildA rfl)
    | refine W_seq ?_
    | refine W_region ?_
    | refine WL_nil ?_
    | (refine idG ?_; first | refine g0t rfl rfl rfl ?_ | refine g0f rfl rfl rfl ?_ | refine g0u rfl rfl rfl ?_ | refine gr rfl rfl ?_ | refine gs rfl rfl (fun _ => ?_) (fun _ => ?_) | refine grn rfl rfl ?_)
    | refine tn ?_
    | refine tr ?_
    | refine br ?_
    | refine bn ?_
    | refine te ?_
    | (refine idB ?_; first | refine bh rfl ?_ | refine bm rfl ?_)
    | refine W_skip ?_
    | refine W_block ?_
    | refine W_exit ?_
    | refine W_ret ?_
    | refine W_label ?_
    | refine W_scope ?_
    | refine sn ?_
    | refine sr ?_
    | refine se ?_
    | (refine idR ?_; first | refine ret1 rfl rfl rfl ?_ | refine rL1 rfl (by first | exact trivial | exact ⟨rfl, trivial⟩) (by first | exact ResO.tmp rfl | exact ResO.cellBA rfl rfl rfl | exact ResO.cellB1 rfl rfl rfl | exact ResO.cellEA rfl rfl | exact ResO.cellE1 rfl) ?_)
    | refine Le.bool ?_
    | refine Le.int ?_
    | refine Le.str ?_
  all_goals first | contradiction | simp [sEq]
theorem veq (a b : Val) : iEq (cmpV a b) 0 = lEq [Value.int IntKind.i64 a.kind, Value.int IntKind.i64 a.n, Value.string { data := a.s.toArray }] [Value.int IntKind.i64 b.kind, Value.int IntKind.i64 b.n, Value.string { data := b.s.toArray }] := by
  rw [Bool.eq_iff_iff, iEq_t, lEq_t, cmpV_z]
  obtain ⟨k, n, s⟩ := a
  obtain ⟨k', n', s'⟩ := b
  constructor
  · rintro h; cases h; rfl
  · intro h
    simp only [List.cons.injEq, Value.int.injEq, true_and, Value.string.injEq, ByteArray.mk.injEq, and_true] at h
    obtain ⟨rfl, rfl, h⟩ := h
    have : s = s' := by simpa using h
    subst this; rfl
set_option maxHeartbeats 16000000 in
theorem valueOrder_pc [GlobF Tryd.prog] (hp : PowOK) (a b c : Val) : PC Tryd.prog 3 [eV a, eV b, eV c] (.sc (.bool true)) := by
  have wc := wc_cmpV
  have z1 := cmpV_z a b
  have g1 := cmpV_range a b
  have g2 := cmpV_range b a
  have a1 := wc.anti a b
  have a2 := wc.anti b a
  have l1 := wc.le a b c
  have t1 : cmpV a b ≤ 0 → cmpV b c ≤ 0 → (cmpV a b < 0 ∨ cmpV b c < 0) → cmpV a c < 0 := wc.lt
  refine PC.of_body Tryd.func3 Tryd.ntmps3 rfl rfl rfl ?_
  repeat' first
    | (apply p1 (hd := rfl); case hop => first | (apply D_move; rfl) | (apply D_assign; rfl) | (apply D_pc (alive_pc hp); rfl; exact .nil) | (apply D_pc (compare_pc _ _); rfl; exact .same rfl (.same rfl .nil)) | (apply D_load1; rfl) | (apply D_fld; rfl) | (apply D_pickT; rfl; rfl) | (apply D_pickF; rfl; rfl) | (apply D_int; rfl; rfl; rfl) | (apply D_len_str; rfl) | (apply D_not; rfl) | (apply D_loadW; rfl; rfl) | (apply D_loadA; rfl; rfl) | (apply D_box; rfl; rfl) | (apply D_beq; rfl; rfl) | (apply D_bne; rfl; rfl) | exact D_fldB rfl | exact D_eqA rfl rfl rfl rfl rfl rfl rfl | exact D_neA rfl rfl rfl rfl rfl rfl rfl | (apply D_neg; rfl))
    | refine W_seq ?_
    | refine W_region ?_
    | (refine idC ?_; first | refine c1 rfl ?_ | refine c0 rfl ?_ | refine cs rfl (fun _ => ?_) (fun _ => ?_))
    | refine WL_nil ?_
    | (refine idG ?_; first | refine g0t rfl rfl rfl ?_ | refine g0f rfl rfl rfl ?_ | refine g0u rfl rfl rfl ?_ | refine gr rfl rfl ?_ | refine gs rfl rfl (fun _ => ?_) (fun _ => ?_) | refine grn rfl rfl ?_)
    | refine tn ?_
    | refine tr ?_
    | refine br ?_
    | refine bn ?_
    | refine te ?_
    | (refine idB ?_; first | refine bh rfl ?_ | refine bm rfl ?_)
    | refine W_skip ?_
    | refine W_block ?_
    | refine W_exit ?_
    | refine W_ret ?_
    | refine W_label ?_
    | refine W_scope ?_
    | refine sn ?_
    | refine sr ?_
    | refine se ?_
    | (refine idR ?_; first | refine ret1 rfl rfl rfl ?_ | refine rL1 rfl (by first | exact trivial | exact ⟨rfl, trivial⟩) (by first | exact ResO.tmp rfl | exact ResO.cellBA rfl rfl rfl | exact ResO.cellB1 rfl rfl rfl | exact ResO.cellEA rfl rfl | exact ResO.cellE1 rfl) ?_)
    | (refine idLd ?_; first | refine p1L (D_loadB1 rfl rfl rfl) rfl ?_ | refine p1L (D_loadBA rfl rfl rfl) rfl ?_ | refine p1L (D_loadB1 rfl (by (repeat first | assumption | exact get_last | (refine get_last2 ?_; focus (simp; done)) | apply get_set | apply get_app | (apply get_ne; focus omega) | (apply get_ne; focus (simp only [List.length_set, List.length_append, List.length_cons, List.length_nil]; omega))); done) (by rfl)) rfl ?_ | refine p1L (D_loadBA rfl (by (repeat first | assumption | exact get_last | (refine get_last2 ?_; focus (simp; done)) | apply get_set | apply get_app | (apply get_ne; focus omega) | (apply get_ne; focus (simp only [List.length_set, List.length_append, List.length_cons, List.length_nil]; omega))); done) (by rfl)) rfl ?_)
    | refine Le.bool ?_
    | refine Le.int ?_
    | refine Le.str ?_
  all_goals first
    | rfl
    | contradiction
    | (exfalso; omega)
    | (rw [bNot_t]; done)
    | (rw [bNot_t, iLe_f]; omega)
    | (exfalso; rename_i h; rw [w64 _ (by omega) (by omega)] at h; omega)
    | (rename_i h; exact absurd (veq a b) h)
end Go.Proofs
