/- Contracts of the value layer's functions, program and reference: third part. -/
import Derived.Test.YtpfalehodcbnbaaV2
namespace Go.Proofs
open Go.AL
attribute [local irreducible] Go.AL.W Go.AL.WL Go.AL.WD Go.AL.POp Go.AL.PC Go.AL.AC Go.AL.Ret Go.AL.Le Go.AL.thn Go.AL.inBlk


set_option maxHeartbeats 1000000 in
theorem check_pc (v : Val) (hl : v.s.length < 4611686018427387904) : PC Try.prog 13 [eV v] (.sc (.int .i64 (if mayB v then 0 else 10))) := by
  refine PC.of_body Try.func13 Try.ntmps13 rfl rfl rfl ?_
  repeat' first
    | (apply p1 (hd := rfl); case hop => first | (apply D_move; rfl) | (apply D_assign; rfl) | (apply D_pc (may_pc v hl); rfl; exact .same rfl .nil) | (apply D_load1; rfl) | (apply D_fld; rfl) | (apply D_pickT; rfl; rfl) | (apply D_pickF; rfl; rfl) | (apply D_int; rfl; rfl; rfl) | (apply D_lenM; rfl) | (apply D_len_sl; rfl) | (apply D_len_str; rfl) | (apply D_str; rfl; rfl; rfl) | (apply D_ext; rfl; rfl) | (apply D_not; rfl) | (apply D_loadW; rfl; rfl) | (apply D_loadA; rfl; rfl) | (apply D_box; rfl; rfl) | (apply D_conv_int; rfl) | (apply D_conv_str; rfl) | (apply D_s2b; rfl) | (apply D_len_nil; rfl) | (apply D_beq; rfl; rfl) | (apply D_bne; rfl; rfl) | (apply D_idxAn; rfl; rfl; omega) | (apply D_idxSn; rfl; rfl; omega) | (apply D_idxA; rfl; rfl; omega; (first | omega | (simp; omega))) | (apply D_idxS; rfl; rfl; omega; (first | omega | (simp; omega))) | (apply D_lit; rfl; rfl; rfl; rfl) | exact D_xcmp rfl rfl rfl | (apply D_conv_int; rfl) | (apply D_neg; rfl))
    | refine W_seq ?_
    | refine W_region ?_
    | refine c1 rfl ?_
    | refine c0 rfl ?_
    | refine cs rfl (fun _ => ?_) (fun _ => ?_)
    | refine WL_nil ?_
    | refine g0t rfl rfl rfl ?_
    | refine g0f rfl rfl rfl ?_
    | refine g0u rfl rfl rfl ?_
    | refine gr rfl rfl ?_
    | refine gs rfl rfl (fun _ => ?_) (fun _ => ?_)
    | refine tn ?_
    | refine tr ?_
    | refine br ?_
    | refine bn ?_
    | refine te ?_
    | refine bh rfl ?_
    | refine bm rfl ?_
    | refine W_skip ?_
    | refine W_block ?_
    | refine W_exit ?_
    | refine W_ret ?_
    | refine W_label ?_
    | refine ret1 rfl rfl rfl ?_
    | refine ret2 rfl rfl rfl rfl ?_ ?_
    | refine Le.bool ?_
    | refine Le.int ?_
    | refine Le.str ?_
    | refine W_draw (by decide +kernel) ?_
    | (apply d1 (hd := rfl); case hop => first | (apply D_move; rfl) | (apply D_assign; rfl) | (apply D_pc (may_pc v hl); rfl; exact .same rfl .nil) | (apply D_load1; rfl) | (apply D_fld; rfl) | (apply D_pickT; rfl; rfl) | (apply D_pickF; rfl; rfl) | (apply D_int; rfl; rfl; rfl) | (apply D_lenM; rfl) | (apply D_len_sl; rfl) | (apply D_len_str; rfl) | (apply D_str; rfl; rfl; rfl) | (apply D_ext; rfl; rfl) | (apply D_not; rfl) | (apply D_loadW; rfl; rfl) | (apply D_loadA; rfl; rfl) | (apply D_box; rfl; rfl) | (apply D_conv_int; rfl) | (apply D_conv_str; rfl) | (apply D_s2b; rfl) | (apply D_len_nil; rfl) | (apply D_beq; rfl; rfl) | (apply D_bne; rfl; rfl) | (apply D_idxAn; rfl; rfl; omega) | (apply D_idxSn; rfl; rfl; omega) | (apply D_idxA; rfl; rfl; omega; (first | omega | (simp; omega))) | (apply D_idxS; rfl; rfl; omega; (first | omega | (simp; omega))) | (apply D_lit; rfl; rfl; rfl; rfl) | exact D_xcmp rfl rfl rfl | (apply D_conv_int; rfl) | (apply D_neg; rfl))
    | refine dg0t rfl rfl rfl ?_
    | refine dg0f rfl rfl rfl ?_
    | refine dg0u rfl rfl rfl ?_
    | refine dgr rfl rfl ?_
    | refine dgs rfl rfl (fun _ => ?_) (fun _ => ?_)
    | refine WD_nil ?_
  all_goals simp [mayB, dP_t, *]

def cmpV (a b : Val) : Int := orI [cmpI a.kind b.kind, cmpI a.n b.n, Lib.compareBytes a.s b.s]
set_option maxHeartbeats 1000000 in
theorem compare_pc (a b : Val) : PC Try.prog 14 [eV a, eV b] (.sc (.int .i64 (cmpV a b))) := by
  refine PC.of_body Try.func14 Try.ntmps14 rfl rfl rfl ?_
  repeat' first
    | (apply p1 (hd := rfl); case hop => first | (apply D_move; rfl) | (apply D_assign; rfl) | (apply D_pc (cmpInt_pc _ _); rfl; exact .same rfl (.same rfl .nil)) | (apply D_pc (cmpInt64_pc _ _); rfl; exact .same rfl (.same rfl .nil)) | (apply D_pc (cmpStr_pc _ _); rfl; exact .same rfl (.same rfl .nil)) | (apply D_pc (or_pc [cmpI a.kind b.kind, cmpI a.n b.n, Lib.compareBytes a.s b.s] (by show 3 < _; decide)); rfl; exact .same rfl .nil) | (apply D_load1; rfl) | (apply D_fld; rfl) | (apply D_pickT; rfl; rfl) | (apply D_pickF; rfl; rfl) | (apply D_int; rfl; rfl; rfl) | (apply D_lenM; rfl) | (apply D_len_sl; rfl) | (apply D_len_str; rfl) | (apply D_str; rfl; rfl; rfl) | (apply D_ext; rfl; rfl) | (apply D_not; rfl) | (apply D_loadW; rfl; rfl) | (apply D_loadA; rfl; rfl) | (apply D_box; rfl; rfl) | (apply D_conv_int; rfl) | (apply D_conv_str; rfl) | (apply D_s2b; rfl) | (apply D_len_nil; rfl) | (apply D_beq; rfl; rfl) | (apply D_bne; rfl; rfl) | (apply D_idxAn; rfl; rfl; omega) | (apply D_idxSn; rfl; rfl; omega) | (apply D_idxA; rfl; rfl; omega; (first | omega | (simp; omega))) | (apply D_idxS; rfl; rfl; omega; (first | omega | (simp; omega))) | (apply D_lit; rfl; rfl; rfl; rfl) | exact D_xcmp rfl rfl rfl | (apply D_conv_int; rfl) | (apply D_neg; rfl))
    | refine W_seq ?_
    | refine W_region ?_
    | refine c1 rfl ?_
    | refine c0 rfl ?_
    | refine cs rfl (fun _ => ?_) (fun _ => ?_)
    | refine WL_nil ?_
    | refine g0t rfl rfl rfl ?_
    | refine g0f rfl rfl rfl ?_
    | refine g0u rfl rfl rfl ?_
    | refine gr rfl rfl ?_
    | refine gs rfl rfl (fun _ => ?_) (fun _ => ?_)
    | refine tn ?_
    | refine tr ?_
    | refine br ?_
    | refine bn ?_
    | refine te ?_
    | refine bh rfl ?_
    | refine bm rfl ?_
    | refine W_skip ?_
    | refine W_block ?_
    | refine W_exit ?_
    | refine W_ret ?_
    | refine W_label ?_
    | refine ret1 rfl rfl rfl ?_
    | refine ret2 rfl rfl rfl rfl ?_ ?_
    | refine Le.bool ?_
    | refine Le.int ?_
    | refine Le.str ?_
    | refine W_draw (by decide +kernel) ?_
    | (apply d1 (hd := rfl); case hop => first | (apply D_move; rfl) | (apply D_assign; rfl) | (apply D_pc (cmpInt_pc _ _); rfl; exact .same rfl (.same rfl .nil)) | (apply D_pc (cmpInt64_pc _ _); rfl; exact .same rfl (.same rfl .nil)) | (apply D_pc (cmpStr_pc _ _); rfl; exact .same rfl (.same rfl .nil)) | (apply D_pc (or_pc [cmpI a.kind b.kind, cmpI a.n b.n, Lib.compareBytes a.s b.s] (by show 3 < _; decide)); rfl; exact .same rfl .nil) | (apply D_load1; rfl) | (apply D_fld; rfl) | (apply D_pickT; rfl; rfl) | (apply D_pickF; rfl; rfl) | (apply D_int; rfl; rfl; rfl) | (apply D_lenM; rfl) | (apply D_len_sl; rfl) | (apply D_len_str; rfl) | (apply D_str; rfl; rfl; rfl) | (apply D_ext; rfl; rfl) | (apply D_not; rfl) | (apply D_loadW; rfl; rfl) | (apply D_loadA; rfl; rfl) | (apply D_box; rfl; rfl) | (apply D_conv_int; rfl) | (apply D_conv_str; rfl) | (apply D_s2b; rfl) | (apply D_len_nil; rfl) | (apply D_beq; rfl; rfl) | (apply D_bne; rfl; rfl) | (apply D_idxAn; rfl; rfl; omega) | (apply D_idxSn; rfl; rfl; omega) | (apply D_idxA; rfl; rfl; omega; (first | omega | (simp; omega))) | (apply D_idxS; rfl; rfl; omega; (first | omega | (simp; omega))) | (apply D_lit; rfl; rfl; rfl; rfl) | exact D_xcmp rfl rfl rfl | (apply D_conv_int; rfl) | (apply D_neg; rfl))
    | refine dg0t rfl rfl rfl ?_
    | refine dg0f rfl rfl rfl ?_
    | refine dg0u rfl rfl rfl ?_
    | refine dgr rfl rfl ?_
    | refine dgs rfl rfl (fun _ => ?_) (fun _ => ?_)
    | refine WD_nil ?_
  all_goals rfl
theorem cb_drop : ∀ (i : Nat) (a b : List UInt8), i ≤ a.length → i ≤ b.length → (∀ j (h : j < a.length) (h' : j < b.length), j < i → a[j] = b[j]) → Lib.compareBytes a b = Lib.compareBytes (a.drop i) (b.drop i)
  | 0, _, _, _, _, _ => rfl
  | i + 1, [], _, h, _, _ => by simp at h
  | i + 1, _, [], _, h, _ => by simp at h
  | i + 1, x :: a, y :: b, h1, h2, h => by
    have e : x = y := h 0 (by simp) (by simp) (by omega)
    subst e
    simp only [List.drop_succ_cons, Lib.compareBytes, UInt8.lt_irrefl, if_false]
    exact cb_drop i a b (by simpa using h1) (by simpa using h2) fun j hj hj' hji => by
      have := h (j + 1) (by simpa using hj) (by simpa using hj') (by omega)
      simpa using this
theorem cmpV_s {a b : Val} (h1 : a.kind = b.kind) (h2 : a.n = b.n) : cmpV a b = Lib.compareBytes a.s b.s := by
  simp only [cmpV, cmpI, h1, h2, Int.lt_irrefl, if_false, orI]
  split <;> simp_all
set_option maxHeartbeats 1000000 in
theorem compare1_pc (a b : Val) (ha : a.s.length < 4611686018427387904) : PC Try.prog 15 [eV a, eV b] (.sc (.int .i64 (cmpV a b))) := by
  refine PC.of_body Try.func15 Try.ntmps15 rfl rfl rfl ?_
  repeat' first
    | (apply p1 (hd := rfl); case hop => first | (apply D_move; rfl) | (apply D_assign; rfl) | (apply D_load1; rfl) | (apply D_fld; rfl) | (apply D_pickT; rfl; rfl) | (apply D_pickF; rfl; rfl) | (apply D_int; rfl; rfl; rfl) | (apply D_lenM; rfl) | (apply D_len_sl; rfl) | (apply D_len_str; rfl) | (apply D_str; rfl; rfl; rfl) | (apply D_ext; rfl; rfl) | (apply D_not; rfl) | (apply D_loadW; rfl; rfl) | (apply D_loadA; rfl; rfl) | (apply D_box; rfl; rfl) | (apply D_conv_int; rfl) | (apply D_conv_str; rfl) | (apply D_s2b; rfl) | (apply D_len_nil; rfl) | (apply D_beq; rfl; rfl) | (apply D_bne; rfl; rfl) | (apply D_idxAn; rfl; rfl; omega) | (apply D_idxSn; rfl; rfl; omega) | (apply D_idxA; rfl; rfl; omega; (first | omega | (simp; omega))) | (apply D_idxS; rfl; rfl; omega; (first | omega | (simp; omega))) | (apply D_lit; rfl; rfl; rfl; rfl) | exact D_xcmp rfl rfl rfl | (apply D_conv_int; rfl) | (apply D_neg; rfl))
    | refine W_seq ?_
    | refine W_region ?_
    | refine c1 rfl ?_
    | refine c0 rfl ?_
    | refine cs rfl (fun _ => ?_) (fun _ => ?_)
    | refine WL_nil ?_
    | refine g0t rfl rfl rfl ?_
    | refine g0f rfl rfl rfl ?_
    | refine g0u rfl rfl rfl ?_
    | refine gr rfl rfl ?_
    | refine gs rfl rfl (fun _ => ?_) (fun _ => ?_)
    | refine tn ?_
    | refine tr ?_
    | refine br ?_
    | refine bn ?_
    | refine te ?_
    | refine bh rfl ?_
    | refine bm rfl ?_
    | refine W_skip ?_
    | refine W_block ?_
    | refine W_exit ?_
    | refine W_ret ?_
    | refine W_label ?_
    | refine ret1 rfl rfl rfl ?_
    | refine ret2 rfl rfl rfl rfl ?_ ?_
    | refine Le.bool ?_
    | refine Le.int ?_
    | refine Le.str ?_
    | refine W_draw (by decide +kernel) ?_
    | (apply d1 (hd := rfl); case hop => first | (apply D_move; rfl) | (apply D_assign; rfl) | (apply D_load1; rfl) | (apply D_fld; rfl) | (apply D_pickT; rfl; rfl) | (apply D_pickF; rfl; rfl) | (apply D_int; rfl; rfl; rfl) | (apply D_lenM; rfl) | (apply D_len_sl; rfl) | (apply D_len_str; rfl) | (apply D_str; rfl; rfl; rfl) | (apply D_ext; rfl; rfl) | (apply D_not; rfl) | (apply D_loadW; rfl; rfl) | (apply D_loadA; rfl; rfl) | (apply D_box; rfl; rfl) | (apply D_conv_int; rfl) | (apply D_conv_str; rfl) | (apply D_s2b; rfl) | (apply D_len_nil; rfl) | (apply D_beq; rfl; rfl) | (apply D_bne; rfl; rfl) | (apply D_idxAn; rfl; rfl; omega) | (apply D_idxSn; rfl; rfl; omega) | (apply D_idxA; rfl; rfl; omega; (first | omega | (simp; omega))) | (apply D_idxS; rfl; rfl; omega; (first | omega | (simp; omega))) | (apply D_lit; rfl; rfl; rfl; rfl) | exact D_xcmp rfl rfl rfl | (apply D_conv_int; rfl) | (apply D_neg; rfl))
    | refine dg0t rfl rfl rfl ?_
    | refine dg0f rfl rfl rfl ?_
    | refine dg0u rfl rfl rfl ?_
    | refine dgr rfl rfl ?_
    | refine dgs rfl rfl (fun _ => ?_) (fun _ => ?_)
    | refine WD_nil ?_
  · simp only [cmpV, cmpI, orI]; split <;> simp_all
  · simp only [cmpV, cmpI, orI]; split <;> simp_all <;> omega
  · have e : a.kind = b.kind := by omega
    simp only [cmpV, cmpI, orI, e]; simp_all
  · have e : a.kind = b.kind := by omega
    have e2 : ¬ a.n < b.n := by omega
    have e3 : b.n < a.n := by omega
    simp [cmpV, cmpI, orI, e, e2, e3]
  rename_i h1 h2 h3 h4
  have hc := cmpV_s (a := a) (b := b) (by omega) (by omega)
  rw [hc]
  refine W_loopL (X := Nat) (fun i => [(2, .ep (vC a)), (3, .ep (vC b)), (4, .sc (.int .i64 0)), (5, .sc (.int .i64 (i : Int)))]) (fun _ => [])
    (fun i => i ≤ a.s.length ∧ i ≤ b.s.length ∧ ∀ (j : Nat) (h : j < a.s.length) (h' : j < b.s.length), j < i → a.s[j] = b.s[j]) (fun i => a.s.length - i) 0 ⟨by omega, by omega, fun j h h' h'' => by omega⟩ ⟨rfl, rfl, rfl, rfl, trivial⟩ rfl ?_
  rintro i ⟨hia, hib, hz⟩
  have hd := cb_drop i a.s b.s hia hib hz
  repeat' first
    | (apply p1 (hd := rfl); case hop => first | (apply D_move; rfl) | (apply D_assign; rfl) | (apply D_load1; rfl) | (apply D_fld; rfl) | (apply D_pickT; rfl; rfl) | (apply D_pickF; rfl; rfl) | (apply D_int; rfl; rfl; rfl) | (apply D_lenM; rfl) | (apply D_len_sl; rfl) | (apply D_len_str; rfl) | (apply D_str; rfl; rfl; rfl) | (apply D_ext; rfl; rfl) | (apply D_not; rfl) | (apply D_loadW; rfl; rfl) | (apply D_loadA; rfl; rfl) | (apply D_box; rfl; rfl) | (apply D_conv_int; rfl) | (apply D_conv_str; rfl) | (apply D_s2b; rfl) | (apply D_len_nil; rfl) | (apply D_beq; rfl; rfl) | (apply D_bne; rfl; rfl) | (apply D_idxAn; rfl; rfl; omega) | (apply D_idxSn; rfl; rfl; omega) | (apply D_idxA; rfl; rfl; omega; (first | omega | (simp; omega))) | (apply D_idxS; rfl; rfl; omega; (first | omega | (simp; omega))) | (apply D_lit; rfl; rfl; rfl; rfl) | exact D_xcmp rfl rfl rfl | (apply D_conv_int; rfl) | (apply D_neg; rfl))
    | refine W_seq ?_
    | refine W_region ?_
    | refine c1 rfl ?_
    | refine c0 rfl ?_
    | refine cs rfl (fun _ => ?_) (fun _ => ?_)
    | refine WL_nil ?_
    | refine g0t rfl rfl rfl ?_
    | refine g0f rfl rfl rfl ?_
    | refine g0u rfl rfl rfl ?_
    | refine gr rfl rfl ?_
    | refine gs rfl rfl (fun _ => ?_) (fun _ => ?_)
    | refine tn ?_
    | refine tr ?_
    | refine br ?_
    | refine bn ?_
    | refine te ?_
    | refine bh rfl ?_
    | refine bm rfl ?_
    | refine W_skip ?_
    | refine W_block ?_
    | refine W_exit ?_
    | refine W_ret ?_
    | refine W_label ?_
    | refine ret1 rfl rfl rfl ?_
    | refine ret2 rfl rfl rfl rfl ?_ ?_
    | refine Le.bool ?_
    | refine Le.int ?_
    | refine Le.str ?_
    | refine W_draw (by decide +kernel) ?_
    | (apply d1 (hd := rfl); case hop => first | (apply D_move; rfl) | (apply D_assign; rfl) | (apply D_load1; rfl) | (apply D_fld; rfl) | (apply D_pickT; rfl; rfl) | (apply D_pickF; rfl; rfl) | (apply D_int; rfl; rfl; rfl) | (apply D_lenM; rfl) | (apply D_len_sl; rfl) | (apply D_len_str; rfl) | (apply D_str; rfl; rfl; rfl) | (apply D_ext; rfl; rfl) | (apply D_not; rfl) | (apply D_loadW; rfl; rfl) | (apply D_loadA; rfl; rfl) | (apply D_box; rfl; rfl) | (apply D_conv_int; rfl) | (apply D_conv_str; rfl) | (apply D_s2b; rfl) | (apply D_len_nil; rfl) | (apply D_beq; rfl; rfl) | (apply D_bne; rfl; rfl) | (apply D_idxAn; rfl; rfl; omega) | (apply D_idxSn; rfl; rfl; omega) | (apply D_idxA; rfl; rfl; omega; (first | omega | (simp; omega))) | (apply D_idxS; rfl; rfl; omega; (first | omega | (simp; omega))) | (apply D_lit; rfl; rfl; rfl; rfl) | exact D_xcmp rfl rfl rfl | (apply D_conv_int; rfl) | (apply D_neg; rfl))
    | refine dg0t rfl rfl rfl ?_
    | refine dg0f rfl rfl rfl ?_
    | refine dg0u rfl rfl rfl ?_
    | refine dgr rfl rfl ?_
    | refine dgs rfl rfl (fun _ => ?_) (fun _ => ?_)
    | refine WD_nil ?_
  · have ga : i < a.s.length := by omega
    have gb : i < b.s.length := by omega
    rw [hd, List.drop_eq_getElem_cons ga, List.drop_eq_getElem_cons gb, Lib.compareBytes, if_pos (by rw [UInt8.lt_iff_toNat_lt]; omega)]
  · have ga : i < a.s.length := by omega
    have gb : i < b.s.length := by omega
    rw [hd, List.drop_eq_getElem_cons ga, List.drop_eq_getElem_cons gb, Lib.compareBytes, if_neg (by rw [UInt8.lt_iff_toNat_lt]; omega), if_pos (by rw [UInt8.lt_iff_toNat_lt]; omega)]
  · refine ⟨rfl, i + 1, ⟨by omega, by omega, fun j h h' hj => ?_⟩, by omega, ⟨rfl, rfl, rfl, ieq (wsucc i (by omega)), trivial⟩, rfl⟩
    by_cases e : j = i
    · subst e; exact UInt8.toNat_inj.1 (by omega)
    · exact hz j h h' (by omega)
  all_goals rw [hd]
  all_goals first
    | (exfalso; omega)
    | (have ga : i < a.s.length := by omega
       have gb : b.s.drop i = [] := List.drop_eq_nil_of_le (by omega)
       rw [List.drop_eq_getElem_cons ga, gb]; rfl)
    | (have gb : i < b.s.length := by omega
       have ga : a.s.drop i = [] := List.drop_eq_nil_of_le (by omega)
       rw [List.drop_eq_getElem_cons gb, ga]; rfl)
    | (have gb : b.s.drop i = [] := List.drop_eq_nil_of_le (by omega)
       have ga : a.s.drop i = [] := List.drop_eq_nil_of_le (by omega)
       rw [ga, gb]; rfl)

set_option maxHeartbeats 1000000 in
theorem valueTells_pc (a b : Val) : PC Try.prog 3 [eV a, eV b] (.sc (.bool true)) := by
  refine PC.of_body Try.func3 Try.ntmps3 rfl rfl rfl ?_
  repeat' first
    | (apply p1 (hd := rfl); case hop => first | (apply D_move; rfl) | (apply D_assign; rfl) | (apply D_pc (may1_pc a (by omega)); rfl; exact .same rfl .nil) | (apply D_pc (check_pc a (by omega)); rfl; exact .same rfl .nil) | (apply D_pc (compare_pc a b); rfl; exact .same rfl (.same rfl .nil)) | (apply D_pc (compare1_pc a b (by omega)); rfl; exact .same rfl (.same rfl .nil)) | (apply D_load1; rfl) | (apply D_fld; rfl) | (apply D_pickT; rfl; rfl) | (apply D_pickF; rfl; rfl) | (apply D_int; rfl; rfl; rfl) | (apply D_lenM; rfl) | (apply D_len_sl; rfl) | (apply D_len_str; rfl) | (apply D_str; rfl; rfl; rfl) | (apply D_ext; rfl; rfl) | (apply D_not; rfl) | (apply D_loadW; rfl; rfl) | (apply D_loadA; rfl; rfl) | (apply D_box; rfl; rfl) | (apply D_conv_int; rfl) | (apply D_conv_str; rfl) | (apply D_s2b; rfl) | (apply D_len_nil; rfl) | (apply D_beq; rfl; rfl) | (apply D_bne; rfl; rfl) | (apply D_idxAn; rfl; rfl; omega) | (apply D_idxSn; rfl; rfl; omega) | (apply D_idxA; rfl; rfl; omega; (first | omega | (simp; omega))) | (apply D_idxS; rfl; rfl; omega; (first | omega | (simp; omega))) | (apply D_lit; rfl; rfl; rfl; rfl) | exact D_xcmp rfl rfl rfl | (apply D_conv_int; rfl) | (apply D_neg; rfl))
    | refine W_seq ?_
    | refine W_region ?_
    | refine c1 rfl ?_
    | refine c0 rfl ?_
    | refine cs rfl (fun _ => ?_) (fun _ => ?_)
    | refine WL_nil ?_
    | refine g0t rfl rfl rfl ?_
    | refine g0f rfl rfl rfl ?_
    | refine g0u rfl rfl rfl ?_
    | refine gr rfl rfl ?_
    | refine gs rfl rfl (fun _ => ?_) (fun _ => ?_)
    | refine tn ?_
    | refine tr ?_
    | refine br ?_
    | refine bn ?_
    | refine te ?_
    | refine bh rfl ?_
    | refine bm rfl ?_
    | refine W_skip ?_
    | refine W_block ?_
    | refine W_exit ?_
    | refine W_ret ?_
    | refine W_label ?_
    | refine ret1 rfl rfl rfl ?_
    | refine ret2 rfl rfl rfl rfl ?_ ?_
    | refine Le.bool ?_
    | refine Le.int ?_
    | refine Le.str ?_
    | refine W_draw (by decide +kernel) ?_
    | (apply d1 (hd := rfl); case hop => first | (apply D_move; rfl) | (apply D_assign; rfl) | (apply D_pc (may1_pc a (by omega)); rfl; exact .same rfl .nil) | (apply D_pc (check_pc a (by omega)); rfl; exact .same rfl .nil) | (apply D_pc (compare_pc a b); rfl; exact .same rfl (.same rfl .nil)) | (apply D_pc (compare1_pc a b (by omega)); rfl; exact .same rfl (.same rfl .nil)) | (apply D_load1; rfl) | (apply D_fld; rfl) | (apply D_pickT; rfl; rfl) | (apply D_pickF; rfl; rfl) | (apply D_int; rfl; rfl; rfl) | (apply D_lenM; rfl) | (apply D_len_sl; rfl) | (apply D_len_str; rfl) | (apply D_str; rfl; rfl; rfl) | (apply D_ext; rfl; rfl) | (apply D_not; rfl) | (apply D_loadW; rfl; rfl) | (apply D_loadA; rfl; rfl) | (apply D_box; rfl; rfl) | (apply D_conv_int; rfl) | (apply D_conv_str; rfl) | (apply D_s2b; rfl) | (apply D_len_nil; rfl) | (apply D_beq; rfl; rfl) | (apply D_bne; rfl; rfl) | (apply D_idxAn; rfl; rfl; omega) | (apply D_idxSn; rfl; rfl; omega) | (apply D_idxA; rfl; rfl; omega; (first | omega | (simp; omega))) | (apply D_idxS; rfl; rfl; omega; (first | omega | (simp; omega))) | (apply D_lit; rfl; rfl; rfl; rfl) | exact D_xcmp rfl rfl rfl | (apply D_conv_int; rfl) | (apply D_neg; rfl))
    | refine dg0t rfl rfl rfl ?_
    | refine dg0f rfl rfl rfl ?_
    | refine dg0u rfl rfl rfl ?_
    | refine dgr rfl rfl ?_
    | refine dgs rfl rfl (fun _ => ?_) (fun _ => ?_)
    | refine WD_nil ?_
  all_goals first
    | rfl
    | (simp [iEq_t]; done)
    | (by_cases h : MayP a
       · have hm : mayB a = true := by unfold mayB; rwa [dP_t]
         simp_all [iEq_t, iEq_f]
       · have hm : mayB a = false := by unfold mayB; rwa [dP_f]
         simp_all [iEq_t, iEq_f])
end Go.Proofs
