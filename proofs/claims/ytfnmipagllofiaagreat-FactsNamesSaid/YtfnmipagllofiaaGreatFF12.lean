/- What datoms and facts weigh: small ones pass the statements' guards only if they are few. -/
import Derived.Test.YtfnmipagllofiaaGreatFP6
import Derived.Test.YtfnmipagllofiaaGreatFF8
namespace Go.Proofs
open Go.AL Go.Sort
end Go.Proofs

namespace Go.Proofs
open Go.AL Go.Sort
attribute [local irreducible] Go.AL.W Go.AL.WL Go.AL.WD Go.AL.POp Go.AL.PPOp Go.AL.POpS Go.AL.PC Go.AL.AC Go.AL.YW Go.AL.Ret Go.AL.Le Go.AL.thn Go.AL.inBlk Go.AL.scp
theorem fac_sl {F : List Fac} (h : allF F) {f : Fac} (hf : f ∈ F) : f.v.s.length < 9223372036854775808 := by
  obtain ⟨i, hi, rfl⟩ := List.getElem_of_mem hf
  have h := (h i hi hi).1.1.2.2.2.2.1
  have h : MayP F[i].v := by unfold mayB at h; rwa [dP_t] at h
  rcases h with ⟨_, _, _, h⟩ | ⟨_, h⟩ | ⟨_, h, _⟩ | ⟨_, _, h⟩ | ⟨_, _, h⟩
  · rw [h]; decide
  · rw [h]; decide
  · rw [h]; decide
  · omega
  · unfold WordP at h; omega
end Go.Proofs

namespace Go.Proofs
open Go.AL Go.Sort
attribute [local irreducible] Go.AL.W Go.AL.WL Go.AL.WD Go.AL.POp Go.AL.PPOp Go.AL.POpS Go.AL.PC Go.AL.AC Go.AL.YW Go.AL.Ret Go.AL.Le Go.AL.thn Go.AL.inBlk Go.AL.scp
structure Vw where
  up : Int
  af : Int
  at_ : Int
  one : Bool
  no : Bool
def wC (v : Vw) : List AV := [.sc (.int .i64 v.up), .sc (.int .i64 v.af), .sc (.int .i64 v.at_), .sc (.bool v.one), .sc (.bool v.no)]
instance (v : Vw) : PurL (wC v) := by unfold wC; infer_instance
def eW (v : Vw) : AV := .ag (wC v)
instance (v : Vw) : Pur (eW v) := by unfold eW; infer_instance
def viewP (v : Vw) (d : Dat) : Prop := v.af < d.t ∧ (v.up ≤ 0 ∨ d.t ≤ v.up)
noncomputable def viewB (v : Vw) (d : Dat) : Bool := dP (viewP v d)
set_option maxHeartbeats 4000000 in
theorem vele_pc [GlobF Tryz.prog] (o : Vw) (d : Dat) : PC Tryz.prog 57 [eD d, .ep (wC o)] (.sc (.bool (!viewB o d))) := by
  refine PC.of_body Tryz.func57 Tryz.ntmps57 rfl rfl rfl ?_
  repeat' first
    | (apply p1 (hd := rfl); case hop => first | (apply D_move; rfl) | (apply D_assign; rfl) | (apply D_load1; rfl) | (apply D_fld; rfl) | (apply D_pickT; rfl; rfl) | (apply D_pickF; rfl; rfl) | (apply D_int; rfl; rfl; rfl) | (apply D_box; rfl; rfl))
    | refine W_seq ?_
    | refine W_region ?_
    | refine WL_nil ?_
    | (refine idG ?_; first | refine g0t rfl rfl rfl ?_ | refine g0f rfl rfl rfl ?_ | refine g0u rfl rfl rfl ?_ | refine gr rfl rfl ?_ | refine gs rfl rfl (fun _ => ?_) (fun _ => ?_))
    | refine tn ?_
    | refine W_ret ?_
    | (refine idR ?_; refine ret1 rfl rfl rfl ?_)
    | refine Le.bool ?_
    | fail
  · rw [show viewB o d = false from dP_f.mpr fun h => by have := h.1; omega]; rfl
  · rename_i h1 h2
    have e : iLt o.up d.t = !viewB o d := by
      cases hv : viewB o d with
      | true => have h : viewP o d := dP_t.mp hv
                exact (iLt_f _ _).mpr (by have := h.2; omega)
      | false => have h : ¬ viewP o d := dP_f.mp hv
                 exact (iLt_t _ _).mpr (by unfold viewP at h; omega)
    exact e
  · rw [show viewB o d = true from dP_t.mpr ⟨by omega, .inl (by omega)⟩]; rfl
set_option maxHeartbeats 8000000 in
theorem indexV_ac [GlobF Tryz.prog] {h : List AObj} {r : Nat} {l : List Dat} {sp : List AV} (o : Vw) (hr : h[r]? = some (.cells ((l.map dC).flatten ++ sp))) (hl : l.length < 4611686018427387904) :
    AC Tryz.prog 89 [.mr r 0 l.length, .fn (.func 57) [] [.ep (wC o)]] h (fun v h' => v = .sc (.int .i64 (indexI (viewB o) l)) ∧ h' = h) := by
  refine AC.of_body Tryz.func89 Tryz.ntmps89 rfl rfl rfl ?_
  repeat' first
    | (apply p1 (hd := rfl); case hop => first | (apply D_move; rfl) | (apply D_assign; rfl) | (apply D_lenR; rfl))
    | refine W_seq ?_
    | refine W_region ?_
    | refine WL_nil ?_
    | refine tn ?_
    | refine W_block ?_
    | fail
  refine W_loopL (X := Nat) (fun i => [(0, .mr r 0 l.length), (1, .fn (.func 57) [] [.ep (wC o)]), (7, .sc (.int .i64 (l.length : Int))), (8, .sc (.int .i64 (i : Int)))]) (fun _ => h)
    (fun i => i ≤ l.length ∧ ∀ (j : Nat) (h : j < l.length), j < i → viewB o l[j] = true) (fun i => l.length - i) 0 ⟨Nat.zero_le _, fun j h hj => absurd hj (Nat.not_lt_zero j)⟩ ⟨rfl, rfl, rfl, rfl, trivial⟩ rfl ?_
  rintro i ⟨hi, hz⟩
  repeat' first
    | (apply p1 (hd := rfl); case hop => first | (apply D_move; rfl) | (apply D_assign; rfl) | (apply D_int; rfl; rfl; rfl) | (apply D_ixRn; rfl; rfl; (first | omega | (simp; done))))
    | refine W_seq ?_
    | refine W_region ?_
    | (refine idC ?_; refine cs rfl (fun _ => ?_) (fun _ => ?_))
    | refine WL_nil ?_
    | refine tn ?_
    | refine te ?_
    | (refine idB ?_; refine bh rfl ?_)
    | refine W_skip ?_
    | refine W_block ?_
    | refine W_exit ?_
    | refine W_ret ?_
    | fail
  · have hi1 : i < l.length := by omega
    have he1 : 0 + i * 9 = i * 9 := Nat.zero_add _
    repeat' first
      | (refine p1L (d := 15) (D_loadRA (i := i) rfl hr dC_len hi1 he1) rfl ?_)
      | (apply p1 (hd := rfl); case hop => first | (apply D_move; rfl) | (apply D_assign; rfl) | (apply D_add1; rfl; rfl; omega) | (apply D_pcC (ys := [eD l[i]]) (ys' := [.ep (wC o)]) (vele_pc o l[i]); rfl; exact .same rfl .nil; exact ⟨Le.of_eq rfl, trivial⟩))
      | refine W_seq ?_
      | refine W_region ?_
      | (refine idC ?_; refine cs rfl (fun _ => ?_) (fun _ => ?_))
      | refine WL_nil ?_
      | refine tn ?_
      | refine tr ?_
      | refine br ?_
      | refine bn ?_
      | refine W_skip ?_
      | refine W_ret ?_
      | fail
    · rename_i hx
      have hx' : viewB o l[i] = false := by simpa using hx
      exact retK1 (.inl rfl) rfl rfl (ResO.tmp rfl) ⟨by rw [indexI_at (viewB o) l i hi1 hz hx'], rfl⟩
    · rename_i hx
      have hx' : viewB o l[i] = true := by simpa using hx
      refine ⟨rfl, i + 1, ⟨by omega, fun j h hj => ?_⟩, by omega, ⟨rfl, rfl, rfl, rfl, trivial⟩, rfl⟩
      by_cases e : j = i
      · subst e; exact hx'
      · exact hz j h (by omega)
  · have hend : i = l.length := by omega
    exact retK1 (.inl rfl) rfl rfl (ResO.tmp rfl) ⟨by rw [indexI_all (viewB o) l fun j h => hz j h (by omega)], rfl⟩
set_option maxHeartbeats 16000000 in
theorem deleteV_ac [GlobF Tryz.prog] {h : List AObj} {r : Nat} {l : List Dat} {sp : List AV} (o : Vw) (hr : h[r]? = some (.cells ((l.map dC).flatten ++ sp))) (hl : l.length < 4611686018427387904) :
    AC Tryz.prog 55 [.mr r 0 l.length, .fn (.func 57) [] [.ep (wC o)]] h (fun v h' => ∃ sp', v = .mr r 0 (l.filter (viewB o)).length ∧ h' = h.set r (.cells (((l.filter (viewB o)).map dC).flatten ++ sp'))) := by
  have hx := indexV_ac o hr hl
  rcases indexI_cases (viewB o) l with ⟨e, hf⟩ | ⟨n, hn, e, hf⟩
  · rw [e] at hx
    refine AC.of_body Tryz.func55 Tryz.ntmps55 rfl rfl rfl ?_
    repeat' first
      | (apply p1 (hd := rfl); case hop => first | (apply D_move; rfl) | (apply D_assign; rfl) | (apply D_int; rfl; rfl; rfl))
      | refine W_seq ?_
      | refine W_region ?_
      | (refine idC ?_; refine cs rfl (fun _ => ?_) (fun _ => ?_))
      | refine WL_nil ?_
      | refine tn ?_
      | refine tr ?_
      | refine W_skip ?_
      | refine W_block ?_
      | refine W_ret ?_
      | (refine m_call (d := 10) hx rfl rfl rfl ?_; rintro _ h2 ⟨rfl, hh⟩; have hh := hh.symm; subst hh)
      | fail
    · exact retK1 (.inl rfl) rfl rfl (ResO.tmp rfl) ⟨sp, by rw [hf], by rw [hf]; exact (set_self hr).symm⟩
    all_goals (rename_i h1; exact absurd h1 (by simp))
  rw [e] at hx
  refine AC.of_body Tryz.func55 Tryz.ntmps55 rfl rfl rfl ?_
  repeat' first
    | (apply p1 (hd := rfl); case hop => first | (apply D_move; rfl) | (apply D_assign; rfl) | (apply D_add1; rfl; rfl; omega) | (apply D_int; rfl; rfl; rfl))
    | refine W_seq ?_
    | refine W_region ?_
    | (refine idC ?_; refine cs rfl (fun _ => ?_) (fun _ => ?_))
    | refine WL_nil ?_
    | refine tn ?_
    | refine tr ?_
    | refine W_skip ?_
    | refine W_block ?_
    | refine W_ret ?_
    | (refine m_call (d := 10) hx rfl rfl rfl ?_; rintro _ h2 ⟨rfl, hh⟩; have hh := hh.symm; subst hh)
    | fail
  · exfalso; omega
  refine W_loopL (X := Nat × Nat × List Dat) (fun x => [(0, .mr r 0 l.length), (1, .fn (.func 57) [] [.ep (wC o)]), (5, .sc (.int .i64 (x.1 : Int))), (6, .sc (.int .i64 ((x.2.1 + 1 : Nat) : Int)))]) (fun x => h.set r (.cells ((x.2.2.map dC).flatten ++ sp)))
    (fun x => x.2.1 + 1 ≤ l.length ∧ x.2.2.length = l.length ∧ x.1 ≤ x.2.1 ∧ (l.take (x.2.1 + 1)).filter (viewB o) = x.2.2.take x.1 ∧ x.2.2.drop (x.2.1 + 1) = l.drop (x.2.1 + 1)) (fun x => l.length - x.2.1) (n, n, l) ⟨by dsimp only; omega, rfl, Nat.le_refl _, hf, rfl⟩ ⟨rfl, rfl, rfl, rfl, trivial⟩ (set_self hr) ?_
  rintro ⟨k, q, R⟩ ⟨g1, g2, g3, g4, g5⟩
  dsimp only at g1 g2 g3 g4 g5 ⊢
  have hr2 : (h.set r (.cells ((R.map dC).flatten ++ sp)))[r]? = some (.cells ((R.map dC).flatten ++ sp)) := get_set hr
  repeat' first
    | (apply p1 (hd := rfl); case hop => first | (apply D_move; rfl) | (apply D_int; rfl; rfl; rfl) | (apply D_lenR; rfl) | (apply D_ixRn; rfl; rfl; (first | omega | (simp; done))) | (apply D_slRl; rfl; rfl; all_goals first | omega | ((repeat rw [w64 _ (by omega) (by omega)]); omega) | decide))
    | refine W_seq ?_
    | refine W_region ?_
    | (refine idC ?_; refine cs rfl (fun _ => ?_) (fun _ => ?_))
    | refine WL_nil ?_
    | refine tn ?_
    | refine te ?_
    | (refine idB ?_; refine bh rfl ?_)
    | refine W_skip ?_
    | refine W_block ?_
    | refine W_exit ?_
    | fail
  · have hq1 : q + 1 < R.length := by omega
    have hq2 : q + 1 < l.length := by omega
    have hkR : k < R.length := by omega
    have he1 : 0 + (q + 1) * 9 = (q + 1) * 9 := Nat.zero_add _
    have hek : 0 + k * 9 = k * 9 := Nat.zero_add _
    have hR1 : R[q + 1] = l[q + 1] := by
      have := congrArg (·[0]?) g5
      simp only [List.getElem?_drop, Nat.add_zero] at this
      rw [List.getElem?_eq_getElem hq1, List.getElem?_eq_getElem (by omega)] at this
      exact Option.some.inj this
    have hft := filt_succ (viewB o) l (q + 1) hq2
    rw [g4, ← hR1] at hft
    repeat' first
      | (refine p1L (d := 25) (D_loadRA (i := q + 1) rfl hr2 dC_len hq1 he1) rfl ?_)
      | (refine pS (S_storeR (i := k) (a := R[q + 1]) rfl rfl hr2 dC_len rfl hkR hek) ?_)
      | (apply p1 (hd := rfl); case hop => first | (apply D_move; rfl) | (apply D_assign; rfl) | (apply D_add1; rfl; rfl; omega) | (apply D_pcC (ys := [eD R[q + 1]]) (ys' := [.ep (wC o)]) (vele_pc o R[q + 1]); rfl; exact .same rfl .nil; exact ⟨Le.of_eq rfl, trivial⟩) | (apply D_not; rfl) | (apply D_loadW; rfl; rfl) | (apply D_ixRn; rfl; rfl; (first | omega | (simp; done))))
      | refine W_seq ?_
      | refine W_region ?_
      | (refine idC ?_; refine cs rfl (fun _ => ?_) (fun _ => ?_))
      | refine WL_nil ?_
      | refine tn ?_
      | refine bn ?_
      | refine W_skip ?_
      | (refine idA ?_; refine m_var rfl rfl rfl rfl rfl rfl rfl ?_)
      | fail
    · rename_i hx
      have hx' : viewB o R[q + 1] = true := by simpa using hx
      rw [hx', if_pos rfl] at hft
      refine ⟨rfl, (k + 1, q + 1, R.set k R[q + 1]), ⟨by dsimp only; omega, by simp [g2], by dsimp only; omega, ?_, ?_⟩, by dsimp only; omega, ⟨rfl, rfl, rfl, rfl, trivial⟩, by rw [List.set_set]⟩
      · dsimp only
        rw [hft, List.take_succ_eq_append_getElem (by simpa using hkR), List.take_set_of_le (Nat.le_refl _), List.getElem_set_self]
      · dsimp only
        rw [List.drop_set_of_lt (by omega), ← List.drop_drop, g5, List.drop_drop]
    · rename_i hx
      have hx' : viewB o R[q + 1] = false := by simpa using hx
      rw [hx'] at hft
      simp only [Bool.false_eq_true, if_false, List.append_nil] at hft
      refine ⟨rfl, (k, q + 1, R), ⟨by dsimp only; omega, g2, by dsimp only; omega, hft, ?_⟩, by dsimp only; omega, ⟨rfl, rfl, rfl, rfl, trivial⟩, rfl⟩
      dsimp only
      rw [← List.drop_drop, g5, List.drop_drop]
  · have hend : q + 1 = l.length := by omega
    rw [hend, List.take_length] at g4
    have hkl : k ≤ R.length := by omega
    have hlen : (l.filter (viewB o)).length = k := by rw [g4, List.length_take]; omega
    have hcl := row_len (l := R) (f := dC) (k := 9) dC_len sp
    repeat' first
      | (refine pS (S_clear (k := 9) rfl hr2 rfl (by decide) ?_) ?_; focus (rw [hcl]; have := Nat.mul_le_mul_right 9 hkl; omega))
      | (apply p1 (hd := rfl); case hop => first | (apply D_move; rfl) | (apply D_assign; rfl) | (apply D_slRh; rfl; rfl; all_goals first | omega | ((repeat rw [w64 _ (by omega) (by omega)]); omega) | decide))
      | refine W_seq ?_
      | refine W_region ?_
      | refine WL_nil ?_
      | refine tn ?_
      | refine W_ret ?_
      | fail
    refine retK1 (.inl rfl) rfl rfl (ResO.tmp rfl) ⟨?_, ?_, ?_⟩
    rotate_left 1
    · rw [hlen]; rfl
    rw [List.set_set]
    refine congrArg (fun x => h.set r (AObj.cells x)) ?_
    rw [List.append_assoc]
    refine congrArg (fun x : List AV => x ++ _) ?_
    show ((R.map dC).flatten ++ sp).take (0 + k * 9) = _
    rw [Nat.zero_add, row_take dC_len sp k hkl, g4]
set_option maxHeartbeats 4000000 in
theorem deleteV0_pc [GlobF Tryz.prog] (o : Vw) : PC Tryz.prog 55 [.sl none 9 [], .fn (.func 57) [] [.ep (wC o)]] (.sl none 9 []) := by
  refine PC.of_body Tryz.func55 Tryz.ntmps55 rfl rfl rfl ?_
  repeat' first
    | (apply p1 (hd := rfl); case hop => first | (apply D_move; rfl) | (apply D_assign; rfl) | (apply D_pc (indexD0_pc (.fn (.func 57) [] [.ep (wC o)])); rfl; exact .same rfl (.cons rfl (Le.of_eq rfl) .nil)) | (apply D_int; rfl; rfl; rfl))
    | refine W_seq ?_
    | refine W_region ?_
    | (refine idC ?_; refine cs rfl (fun _ => ?_) (fun _ => ?_))
    | refine WL_nil ?_
    | refine tn ?_
    | refine tr ?_
    | refine W_skip ?_
    | refine W_block ?_
    | refine W_ret ?_
    | (refine idR ?_; refine ret1 rfl rfl rfl ?_)
    | fail
  all_goals first
    | exact Le.of_eq rfl
    | (exfalso; rename_i hx; exact absurd hx (by simp))
def vwP (v : Vw) : Prop := 0 ≤ v.up ∧ 0 ≤ v.af ∧ v.up ≤ 1099511627776 ∧ v.af ≤ 1099511627776
noncomputable def vdatL (l : List Dat) (v : Vw) : List Dat := dsortL 1 (l.filter (viewB v))
set_option maxHeartbeats 4000000 in
theorem vdat_pc [GlobF Tryz.prog] (l : List Dat) (v : Vw) (hl : l.length < 1759218604500) : PC Tryz.prog 26 [sl9 l, eW v] (.tu [sl9 (if dP (vwP v) then vdatL l v else []), .sc (.int .i64 (if dP (vwP v) then 0 else 2))]) := by
  have hfl : (l.filter (viewB v)).length ≤ l.length := List.length_filter_le _ _
  have hd := dsort_pc 1 (l.filter (viewB v)) (by omega)
  by_cases hw : vwP v
  · rw [← dP_T hw, if_pos rfl, if_pos rfl]
    unfold vdatL
    have hw' := hw
    obtain ⟨w1, w2, w3, w4⟩ := hw'
    have hmn : Value.bool (iLt (min v.up v.af) 0) = .bool false := by rw [(iLt_f _ _).mpr (by omega)]
    have hmx : Value.bool (iLt 1099511627776 (max v.up v.af)) = .bool false := by rw [(iLt_f _ _).mpr (by omega)]
    rcases Nat.eq_zero_or_pos l.length with h0 | h0
    · have e : l = [] := List.length_eq_zero_iff.1 h0
      subst e
      rw [show ([] : List Dat).filter (viewB v) = [] from rfl] at hd ⊢
      refine PC.of_body Tryz.func26 Tryz.ntmps26 rfl rfl rfl ?_
      repeat' first
        | (apply p1 (hd := rfl); case hop => first | (apply D_move; rfl) | (apply D_assign; rfl) | exact D_sc (D_int rfl rfl rfl) hmn | exact D_sc (D_int rfl rfl rfl) hmx | (apply D_min; rfl; rfl) | (apply D_max; rfl; rfl) | (apply D_pc cloneD0_pc; rfl; exact .same rfl .nil) | (apply D_pc (deleteV0_pc v); rfl; exact .same rfl (.cons rfl (Le.of_eq rfl) .nil)) | (apply D_pc hd; rfl; exact .same rfl (.same rfl .nil)) | (apply D_load1; rfl) | (apply D_fld; rfl) | (apply D_pickF; rfl; rfl) | (apply D_box; rfl; rfl) | exact D_mkfn rfl)
        | refine W_seq ?_
        | refine W_region ?_
        | (refine idC ?_; refine c0 rfl ?_)
        | refine WL_nil ?_
        | (refine idG ?_; refine gr rfl rfl ?_)
        | refine tn ?_
        | refine W_skip ?_
        | refine W_ret ?_
        | (refine idR ?_; refine ret2 rfl rfl rfl rfl ?_ ?_)
        | refine Le.int ?_
        | fail
      all_goals first
        | rfl
        | exact Le.of_eq rfl
        | skip
      all_goals trace_state
    · refine PC.of_body Tryz.func26 Tryz.ntmps26 rfl rfl rfl ?_
      repeat' first
        | (apply p1 (hd := rfl); case hop => first | (apply D_move; rfl) | (apply D_assign; rfl) | exact D_sc (D_int rfl rfl rfl) hmn | exact D_sc (D_int rfl rfl rfl) hmx | (apply D_min; rfl; rfl) | (apply D_max; rfl; rfl) | (apply D_pc hd; rfl; exact .same rfl (.cons rfl (Le.of_eq (by rw [take_map_len])) .nil)) | (apply D_load1; rfl) | (apply D_fld; rfl) | (apply D_pickF; rfl; rfl) | (apply D_box; rfl; rfl) | exact D_mkfn rfl)
        | refine W_seq ?_
        | refine W_region ?_
        | (refine idC ?_; refine c0 rfl ?_)
        | refine WL_nil ?_
        | (refine idG ?_; refine gr rfl rfl ?_)
        | refine tn ?_
        | refine W_skip ?_
        | refine W_ret ?_
        | (refine idR ?_; refine ret2 rfl rfl rfl rfl ?_ ?_)
        | refine Le.int ?_
        | (refine m_call (d := 22) (cloneD_ac l h0 hl) rfl rfl rfl ?_; rintro _ _ ⟨sp, rfl, rfl⟩)
        | (refine m_call (d := 24) (deleteV_ac (l := l) v rfl (by omega)) rfl rfl rfl ?_; rintro _ _ ⟨sp, rfl, rfl⟩; refine WL_frz 24 1 9 (els := (l.filter (viewB v)).map dC) (sp := sp) rfl rfl (by simp) dC_row ?_)
        | fail
      all_goals first
        | rfl
        | exact Le.of_eq rfl
        | skip
      all_goals trace_state
  · rw [← dP_F hw]
    refine PC.of_body Tryz.func26 Tryz.ntmps26 rfl rfl rfl ?_
    repeat' first
      | (exfalso; apply hw; unfold vwP; omega)
      | (apply p1 (hd := rfl); case hop => first | (apply D_move; rfl) | (apply D_assign; rfl) | (apply D_min; rfl; rfl) | (apply D_max; rfl; rfl) | (apply D_load1; rfl) | (apply D_fld; rfl) | (apply D_pickT; rfl; rfl) | (apply D_pickF; rfl; rfl) | (apply D_int; rfl; rfl; rfl) | (apply D_box; rfl; rfl))
      | refine W_seq ?_
      | refine W_region ?_
      | (refine idC ?_; first | refine c1 rfl ?_ | refine cs rfl (fun _ => ?_) (fun _ => ?_))
      | refine WL_nil ?_
      | (refine idG ?_; first | refine g0f rfl rfl rfl ?_ | refine gr rfl rfl ?_ | refine gs rfl rfl (fun _ => ?_) (fun _ => ?_))
      | refine tn ?_
      | refine tr ?_
      | refine W_ret ?_
      | (refine idR ?_; refine ret2 rfl rfl rfl rfl ?_ ?_)
      | refine Le.int ?_
      | fail
    all_goals first
      | exact Le.nil rfl
      | rfl
      | (exfalso; apply hw; unfold vwP; omega)
      | skip
    all_goals trace_state
noncomputable def vofL (l : List Dat) (v : Vw) : Option (List Fac) := (foldR (vdatL l v)).map fun F => if v.one then atL F v.at_ else F
noncomputable def vofE (l : List Dat) (v : Vw) : Int := if dP (vwP v) && !v.no then (if (foldR (vdatL l v)).isSome then 0 else 60) else 2
noncomputable def vofF (l : List Dat) (v : Vw) : List Fac := if dP (vwP v) && !v.no then (vofL l v).getD [] else []
theorem vdat_len (l : List Dat) (v : Vw) : (vdatL l v).length ≤ l.length := Nat.le_trans (dsortL_len _ _) (List.length_filter_le _ _)
theorem vdat_mem {l : List Dat} {v : Vw} {d : Dat} (h : d ∈ vdatL l v) : d ∈ l := (List.mem_filter.1 ((dsort_iff _ d).1 h)).1
set_option maxHeartbeats 4000000 in
theorem vof_pc [GlobF Tryz.prog] (l : List Dat) (v : Vw) (hl : l.length < 1759218604500) (hsl : ∀ d, d ∈ l → d.v.s.length < 9223372036854775808) (hrg : rgD l) : PC Tryz.prog 28 [sl9 l, eW v] (.tu [sl6 (vofF l v), .sc (.int .i64 (vofE l v))]) := by
  have hd := vdat_pc l v hl
  have hlen := vdat_len l v
  have hf := fold_pc (vdatL l v) (by omega) (fun d h => hsl d (vdat_mem h)) (fun d h => hrg d (vdat_mem h))
  obtain ⟨fl1, fl2⟩ := foldR_len (vdatL l v)
  have hok := foldR_ok (vdatL l v) (fun d h => hrg d (vdat_mem h))
  obtain ⟨up, af, at_, one, no⟩ := v
  unfold vofF vofE vofL
  generalize vdatL l ⟨up, af, at_, one, no⟩ = S at *
  generalize dP (vwP ⟨up, af, at_, one, no⟩) = b at *
  cases b
  · simp only [Bool.false_and, Bool.false_eq_true, if_false] at hd ⊢
    refine PC.of_body Tryz.func28 Tryz.ntmps28 rfl rfl rfl ?_
    repeat' first
      | (exfalso; omega)
      | (apply p1 (hd := rfl); case hop => first | (apply D_move; rfl) | (apply D_assign; rfl) | (apply D_pc hd; rfl; exact .same rfl (.same rfl .nil)) | (apply D_pickT; rfl; rfl) | (apply D_int; rfl; rfl; rfl) | (apply D_ext; rfl; rfl) | (apply D_loadW; rfl; rfl) | (apply D_box; rfl; rfl))
      | refine W_seq ?_
      | refine W_region ?_
      | (refine idC ?_; refine c1 rfl ?_)
      | refine WL_nil ?_
      | (refine idG ?_; first | refine g0f rfl rfl rfl ?_ | refine gs rfl rfl (fun _ => ?_) (fun _ => ?_))
      | refine tn ?_
      | refine tr ?_
      | refine W_ret ?_
      | (refine idR ?_; refine ret2 rfl rfl rfl rfl ?_ ?_)
      | refine Le.int ?_
      | fail
    all_goals first
      | exact Le.nil rfl
      | rfl
      | contradiction
      | skip
    all_goals trace_state
  · simp only [Bool.true_and, if_true] at hd ⊢
    cases no
    rotate_left 1
    · refine PC.of_body Tryz.func28 Tryz.ntmps28 rfl rfl rfl ?_
      repeat' first
        | (apply p1 (hd := rfl); case hop => first | (apply D_move; rfl) | (apply D_assign; rfl) | (apply D_pc hd; rfl; exact .same rfl (.same rfl .nil)) | (apply D_load1; rfl) | (apply D_fld; rfl) | (apply D_pickT; rfl; rfl) | (apply D_pickF; rfl; rfl) | (apply D_int; rfl; rfl; rfl) | (apply D_ext; rfl; rfl) | (apply D_loadW; rfl; rfl) | (apply D_box; rfl; rfl))
        | refine W_seq ?_
        | refine W_region ?_
        | (refine idC ?_; refine c1 rfl ?_)
        | refine WL_nil ?_
        | (refine idG ?_; first | refine g0f rfl rfl rfl ?_ | refine gr rfl rfl ?_ | refine gs rfl rfl (fun _ => ?_) (fun _ => ?_))
        | refine tn ?_
        | refine tr ?_
        | refine W_ret ?_
        | (refine idR ?_; refine ret2 rfl rfl rfl rfl ?_ ?_)
        | refine Le.int ?_
        | fail
      all_goals first
        | exact Le.nil rfl
        | rfl
        | contradiction
        | skip
      all_goals trace_state
    · cases hF : foldR S with
      | none =>
        rw [hF] at hf
        have hf : PC Tryz.prog 23 [sl9 S] (.tu [sl6 [], .sc (.int .i64 60)]) := hf
        refine PC.of_body Tryz.func28 Tryz.ntmps28 rfl rfl rfl ?_
        repeat' first
          | (apply p1 (hd := rfl); case hop => first | (apply D_move; rfl) | (apply D_assign; rfl) | (apply D_pc hd; rfl; exact .same rfl (.same rfl .nil)) | (apply D_pc hf; rfl; exact .same rfl .nil) | (apply D_load1; rfl) | (apply D_fld; rfl) | (apply D_pickT; rfl; rfl) | (apply D_pickF; rfl; rfl) | (apply D_int; rfl; rfl; rfl) | (apply D_ext; rfl; rfl) | (apply D_not; rfl) | (apply D_loadW; rfl; rfl) | (apply D_box; rfl; rfl))
          | refine W_seq ?_
          | refine W_region ?_
          | (refine idC ?_; first | refine c1 rfl ?_ | refine c0 rfl ?_ | refine cs rfl (fun _ => ?_) (fun _ => ?_))
          | refine WL_nil ?_
          | (refine idG ?_; first | refine g0f rfl rfl rfl ?_ | refine gr rfl rfl ?_ | refine gs rfl rfl (fun _ => ?_) (fun _ => ?_))
          | refine tn ?_
          | refine tr ?_
          | refine W_skip ?_
          | refine W_ret ?_
          | (refine idR ?_; refine ret2 rfl rfl rfl rfl ?_ ?_)
          | refine Le.int ?_
          | fail
        all_goals first
          | exact Le.nil rfl
          | exact Le.of_eq rfl
          | rfl
          | contradiction
          | (exfalso; omega)
          | skip
        all_goals trace_state
      | some F =>
        rw [hF] at hf hok fl1 fl2
        have hf : PC Tryz.prog 23 [sl9 S] (.tu [sl6 F, .sc (.int .i64 0)]) := hf
        have fl1 : F.length ≤ S.length := fl1
        have fl2 : ∀ f, f ∈ F → f.sp.length ≤ 2 * S.length := fl2
        obtain ⟨hmay, haf, hrs, hcf, hfk⟩ := hok
        have ha := fat_pc F at_ (by omega) (fun f hf => ⟨fac_sl haf hf, by have := fl2 f hf; omega⟩)
        rw [← dP_T haf, if_pos rfl, if_pos rfl] at ha
        cases one
        · refine PC.of_body Tryz.func28 Tryz.ntmps28 rfl rfl rfl ?_
          repeat' first
            | (apply p1 (hd := rfl); case hop => first | (apply D_move; rfl) | (apply D_assign; rfl) | (apply D_pc hd; rfl; exact .same rfl (.same rfl .nil)) | (apply D_pc hf; rfl; exact .same rfl .nil) | (apply D_load1; rfl) | (apply D_fld; rfl) | (apply D_pickT; rfl; rfl) | (apply D_pickF; rfl; rfl) | (apply D_int; rfl; rfl; rfl) | (apply D_ext; rfl; rfl) | (apply D_not; rfl) | (apply D_loadW; rfl; rfl) | (apply D_box; rfl; rfl))
            | refine W_seq ?_
            | refine W_region ?_
            | (refine idC ?_; first | refine c1 rfl ?_ | refine c0 rfl ?_ | refine cs rfl (fun _ => ?_) (fun _ => ?_))
            | refine WL_nil ?_
            | (refine idG ?_; first | refine g0f rfl rfl rfl ?_ | refine gr rfl rfl ?_ | refine gs rfl rfl (fun _ => ?_) (fun _ => ?_))
            | refine tn ?_
            | refine tr ?_
            | refine W_skip ?_
            | refine W_ret ?_
            | (refine idR ?_; refine ret2 rfl rfl rfl rfl ?_ ?_)
            | refine Le.int ?_
            | fail
          all_goals first
            | exact Le.of_eq rfl
            | rfl
            | contradiction
            | (exfalso; omega)
            | skip
          all_goals trace_state
        · refine PC.of_body Tryz.func28 Tryz.ntmps28 rfl rfl rfl ?_
          repeat' first
            | (apply p1 (hd := rfl); case hop => first | (apply D_move; rfl) | (apply D_assign; rfl) | (apply D_pc hd; rfl; exact .same rfl (.same rfl .nil)) | (apply D_pc hf; rfl; exact .same rfl .nil) | (apply D_pc ha; rfl; exact .same rfl (.same rfl .nil)) | (apply D_load1; rfl) | (apply D_fld; rfl) | (apply D_pickT; rfl; rfl) | (apply D_pickF; rfl; rfl) | (apply D_int; rfl; rfl; rfl) | (apply D_ext; rfl; rfl) | (apply D_not; rfl) | (apply D_loadW; rfl; rfl) | (apply D_box; rfl; rfl))
            | refine W_seq ?_
            | refine W_region ?_
            | (refine idC ?_; first | refine c1 rfl ?_ | refine c0 rfl ?_ | refine cs rfl (fun _ => ?_) (fun _ => ?_))
            | refine WL_nil ?_
            | (refine idG ?_; first | refine g0f rfl rfl rfl ?_ | refine gr rfl rfl ?_ | refine gs rfl rfl (fun _ => ?_) (fun _ => ?_))
            | refine tn ?_
            | refine tr ?_
            | refine W_skip ?_
            | refine W_ret ?_
            | (refine idR ?_; refine ret2 rfl rfl rfl rfl ?_ ?_)
            | refine Le.int ?_
            | fail
          all_goals first
            | exact Le.of_eq rfl
            | rfl
            | contradiction
            | (exfalso; omega)
            | skip
          all_goals trace_state
end Go.Proofs

namespace Go.Proofs
open Go.AL Go.Sort
attribute [local irreducible] Go.AL.W Go.AL.WL Go.AL.WD Go.AL.POp Go.AL.PPOp Go.AL.POpS Go.AL.PC Go.AL.AC Go.AL.YW Go.AL.Ret Go.AL.Le Go.AL.thn Go.AL.inBlk Go.AL.scp
abbrev HC (o : List Dat) : List AObj := [.cells [.sl (some 1) 9 (o.map dC)], .tail o.length 9 52]
theorem hc_snoc (o : List Dat) (d : Dat) : HC (o ++ [d]) = [.cells [.sl (some 1) 9 (o.map dC ++ [dC d])], .tail ((o.map dC).length + 1) 9 52] := by simp [HC]
set_option maxHeartbeats 8000000 in
theorem change1_ac [GlobF Tryz.prog] (O : List Dat) (f : Fac) (a b : List Sp) (put : Bool) (T : Int) (ha : SetP a) (hb : SetP b) (hla : a.length + b.length + 1 < 8796093022208) (hlb : b.length < 8796093022208) (hO : (O.length + (meetL a (restL loT b)).length) * 80 ≤ 140737488355328) :
    AC Tryz.prog 38 [eF f, sl2 a, sl2 b, .sc (.bool put), .bp 0 0, .ep [.sc (.int .i64 T)]] (HC O)
      (fun v h' => v = .tu [] ∧ h' = HC (O ++ sayD f T put (meetL a (restL loT b)))) := by
  have hm := sminus_pc a b ha hb hla hlb
  generalize meetL a (restL loT b) = D at *
  refine AC.of_body Tryz.func38 Tryz.ntmps38 rfl rfl rfl ?_
  repeat' first
    | (apply p1 (hd := rfl); case hop => first | (apply D_move; rfl) | (apply D_assign; rfl) | (apply D_pc hm; rfl; exact .same rfl (.same rfl .nil)) | (apply D_lenM; rfl) | (apply D_ext; rfl; rfl) | (apply D_box; rfl; rfl))
    | refine W_seq ?_
    | refine W_region ?_
    | refine WL_nil ?_
    | refine tn ?_
    | refine W_block ?_
    | fail
  refine W_loopL (X := Nat) (fun i => [(3, .sc (.bool put)), (4, .bp 0 0), (5, .ep [.sc (.int .i64 T)]), (6, .ep (fC f)), (20, sl2 D), (21, .sc (.int .i64 (D.length : Int))), (22, .sc (.int .i64 (i : Int)))]) (fun i => HC (O ++ sayD f T put (D.take i)))
    (fun i => i ≤ D.length) (fun i => D.length - i) 0 (Nat.zero_le _) ⟨rfl, rfl, rfl, rfl, rfl, rfl, rfl, trivial⟩ (by simp [sayD]) ?_
  intro i hi
  have hlen : (O ++ sayD f T put (D.take i)).length ≤ O.length + i := by rw [List.length_append, sayD_len, List.length_take]; omega
  by_cases hil : i < D.length
  · have hsn : O ++ sayD f T put (D.take (i + 1)) = (O ++ sayD f T put (D.take i)) ++ [⟨f.e, f.a, f.v, T, put, (D[i]'hil).f, (D[i]'hil).t⟩] := by rw [sayD_take f T put hil, List.append_assoc]
    generalize O ++ sayD f T put (D.take i) = E at *
    repeat' first
      | (apply p1 (hd := rfl); case hop => first | (apply D_move; rfl) | (apply D_load1; rfl) | (apply D_fld; rfl) | (apply D_int; rfl; rfl; rfl) | (apply D_loadW; rfl; rfl) | (apply D_loadA; rfl; rfl) | (apply D_idxAn; rfl; rfl; (first | omega | (simp; done))) | (apply D_lit; rfl; rfl; rfl; rfl) | exact D_build rfl)
      | refine W_seq ?_
      | refine W_region ?_
      | (refine idC ?_; refine cs rfl (fun _ => ?_) (fun _ => ?_))
      | refine WL_nil ?_
      | refine tn ?_
      | refine bn ?_
      | refine te ?_
      | (refine idB ?_; refine bh rfl ?_)
      | refine W_skip ?_
      | refine W_block ?_
      | refine W_exit ?_
      | (refine idLd ?_; refine p1L (D_loadB1 rfl rfl rfl) rfl ?_)
      | (refine idA ?_; refine m_var rfl rfl rfl rfl rfl rfl rfl ?_)
      | (refine idS ?_; refine pS (S_store rfl rfl rfl rfl rfl rfl rfl) ?_)
      | (refine idAp ?_; refine m_appB rfl rfl rfl (by first | rfl | assumption | exact get_set (by assumption) | exact get_set (get_set (by assumption)) | exact get_set (get_set (get_set (by assumption))) | ((repeat first | assumption | exact get_last | (refine get_last2 ?_; focus (simp; done)) | apply get_set | apply get_app | (apply get_ne; focus omega)); done)) ?_ rfl rfl ?_ ?_ rfl ?_; (first | rfl | focus (simp only [List.length_map, List.length_append, List.length_cons, List.length_nil]; omega) | focus (simp; done) | focus (simp; omega)); (first | focus (simp only [List.length_map, List.length_append, List.length_cons, List.length_nil]; omega) | focus (simp; done) | focus (simp; omega)); (first | focus (simp only [List.length_map, List.length_append, List.length_cons, List.length_nil]; omega) | focus (simp; done) | focus (simp; omega)))
      | fail
    all_goals first
      | (exfalso; omega)
      | (refine ⟨rfl, i + 1, by omega, by omega, ⟨rfl, rfl, rfl, rfl, rfl, rfl, ieq (wsucc i (by omega)), trivial⟩, ?_⟩
         rw [hsn, hc_snoc]; rfl)
      | skip
    all_goals trace_state
  · have e : i = D.length := by omega
    subst e
    rw [List.take_length] at *
    repeat' first
      | (apply p1 (hd := rfl); case hop => first | (apply D_move; rfl) | (apply D_load1; rfl) | (apply D_fld; rfl) | (apply D_int; rfl; rfl; rfl) | (apply D_loadW; rfl; rfl) | (apply D_loadA; rfl; rfl) | (apply D_idxAn; rfl; rfl; (first | omega | (simp; done))) | (apply D_lit; rfl; rfl; rfl; rfl) | exact D_build rfl)
      | refine W_seq ?_
      | refine W_region ?_
      | (refine idC ?_; refine cs rfl (fun _ => ?_) (fun _ => ?_))
      | refine WL_nil ?_
      | refine tn ?_
      | refine bn ?_
      | refine te ?_
      | (refine idB ?_; refine bh rfl ?_)
      | refine W_skip ?_
      | refine W_block ?_
      | refine W_exit ?_
      | (refine idLd ?_; refine p1L (D_loadB1 rfl rfl rfl) rfl ?_)
      | (refine idA ?_; refine m_var rfl rfl rfl rfl rfl rfl rfl ?_)
      | (refine idS ?_; refine pS (S_store rfl rfl rfl rfl rfl rfl rfl) ?_)
      | (refine idAp ?_; refine m_appB rfl rfl rfl (by first | rfl | assumption | exact get_set (by assumption) | exact get_set (get_set (by assumption)) | exact get_set (get_set (get_set (by assumption))) | ((repeat first | assumption | exact get_last | (refine get_last2 ?_; focus (simp; done)) | apply get_set | apply get_app | (apply get_ne; focus omega)); done)) ?_ rfl rfl ?_ ?_ rfl ?_; (first | rfl | focus (simp only [List.length_map, List.length_append, List.length_cons, List.length_nil]; omega) | focus (simp; done) | focus (simp; omega)); (first | focus (simp only [List.length_map, List.length_append, List.length_cons, List.length_nil]; omega) | focus (simp; done) | focus (simp; omega)); (first | focus (simp only [List.length_map, List.length_append, List.length_cons, List.length_nil]; omega) | focus (simp; done) | focus (simp; omega)))
      | fail
    all_goals first
      | (exfalso; omega)
      | exact ret0 (.inr rfl) rfl rfl ⟨rfl, rfl⟩
      | exact ret0 (.inl rfl) rfl rfl ⟨rfl, rfl⟩
      | skip
    all_goals trace_state
end Go.Proofs
