
/- Contracts of the value layer's functions: may one be? -/
import Derived.Test.YtaphfieahcimcaaDoorQTInst
import Derived.Test.YtaphfieahcimcaaDoorQTEq
namespace Go.Proofs
open Go.AL
attribute [local irreducible] Go.AL.W Go.AL.WL Go.AL.WD Go.AL.POp Go.AL.PPOp Go.AL.POpS Go.AL.PC Go.AL.AC Go.AL.YW Go.AL.Ret Go.AL.Le Go.AL.thn Go.AL.inBlk Go.AL.scp

structure Val where
  kind : Int
  n : Int
  s : List UInt8
abbrev vC (v : Val) : List AV := [.sc (.int .i64 v.kind), .sc (.int .i64 v.n), str v.s]
abbrev eV (v : Val) : AV := .ag (vC v)

/-! Words. -/
def lowP (c : UInt8) : Prop := 97 ≤ (c.toNat : Int) ∧ (c.toNat : Int) ≤ 122
def digP (c : UInt8) : Prop := 48 ≤ (c.toNat : Int) ∧ (c.toNat : Int) ≤ 57
def tailP (c : UInt8) : Prop := digP c ∨ (c.toNat : Int) = 46 ∨ (c.toNat : Int) = 95 ∨ (c.toNat : Int) = 45 ∨ (c.toNat : Int) = 47
def WordP (s : List UInt8) : Prop := 1 ≤ s.length ∧ s.length ≤ 64 ∧ ∀ (j : Nat) (h : j < s.length), lowP s[j] ∨ (0 < j ∧ tailP s[j])
open Classical in
noncomputable def wordB (s : List UInt8) : Bool := decide (WordP s)
theorem wordB_t {s : List UInt8} (h : WordP s) : true = wordB s := by unfold wordB; simp [h]
theorem wordB_f {s : List UInt8} (h : ¬ WordP s) : false = wordB s := by unfold wordB; simp [h]

set_option maxHeartbeats 1000000 in
theorem word_pc [GlobF Tryd.prog] (s : List UInt8) (hl : s.length < 9223372036854775808) : PC Tryd.prog 52 [str s] (.sc (.bool (wordB s))) := by
  refine PC.of_body Tryd.func52 Tryd.ntmps52 rfl rfl rfl ?_
  repeat' first
    | (apply p1 (hd := rfl); case hop => first | (apply D_move; rfl) | (apply D_assign; rfl) | (apply D_load1; rfl) | (apply D_pickT; rfl; rfl) | (apply D_pickF; rfl; rfl) | (apply D_int; rfl; rfl; rfl) | (apply D_lenM; rfl) | (apply D_len_sl; rfl) | (apply D_len_str; rfl) | (apply D_loadW; rfl; rfl) | (apply D_loadA; rfl; rfl) | (apply D_s2b; rfl) | (apply D_len_nil; rfl) | (apply D_idxAn; rfl; rfl; (first | omega | (simp; done))) | (apply D_idxA; rfl; rfl; omega; (first | omega | (simp; done) | (simp; omega))) | (apply D_idxA0; rfl; rfl; omega; (first | omega | (simp; done) | (simp; omega))) | (apply D_lenR; rfl) | (apply D_ixRn; rfl; rfl; (first | omega | (simp; done))) | (apply D_ixR; rfl; rfl; all_goals first | omega | ((repeat rw [w64 _ (by omega) (by omega)]); omega) | decide))
    | refine W_seq ?_
    | refine W_region ?_
    | (refine idC ?_; first | refine c1 rfl ?_ | refine c0 rfl ?_ | refine cs rfl (fun _ => ?_) (fun _ => ?_))
    | refine WL_nil ?_
    | (refine idG ?_; first | refine g0t rfl rfl rfl ?_ | refine g0f rfl rfl rfl ?_ | refine g0u rfl rfl rfl ?_ | refine gr rfl rfl ?_ | refine gs rfl rfl (fun _ => ?_) (fun _ => ?_) | refine grn rfl rfl ?_)
    | refine tn ?_
    | refine tr ?_
    | refine br ?_
    | refine bn ?_
    | refine te ?_
    | (refine idB ?_; first | refine bh rfl ?_ | refine bm rfl ?_)
    | refine W_skip ?_
    | refine W_block ?_
    | refine W_exit ?_
    | refine W_ret ?_
    | refine W_label ?_
    | refine W_scope ?_
    | refine sn ?_
    | refine sr ?_
    | refine se ?_
    | (refine idR ?_; first | refine ret1 rfl rfl rfl ?_ | refine rL1 rfl (by first | exact trivial | exact ⟨rfl, trivial⟩) (by first | exact ResO.tmp rfl | exact ResO.cellBA rfl rfl rfl | exact ResO.cellB1 rfl rfl rfl | exact ResO.cellEA rfl rfl | exact ResO.cellE1 rfl) ?_)
    | refine Le.bool ?_
    | refine Le.int ?_
    | refine Le.str ?_
  refine W_loopL (X := Nat) (fun i => [(0, str s), (2, .sc (.bool false)), (6, bytesAV s), (7, .sc (.int .i64 (s.length : Int))), (8, .sc (.int .i64 (i : Int)))]) (fun _ => [])
    (fun i => i ≤ s.length ∧ ∀ (j : Nat) (h : j < s.length), j < i → lowP s[j] ∨ (0 < j ∧ tailP s[j])) (fun i => s.length - i) 0 ⟨by omega, fun j h h' => by omega⟩ ⟨rfl, rfl, rfl, rfl, rfl, trivial⟩ rfl ?_
  rintro i ⟨hi, hz⟩
  repeat' first
    | (apply p1 (hd := rfl); case hop => first | (apply D_move; rfl) | (apply D_assign; rfl) | (apply D_load1; rfl) | (apply D_pickT; rfl; rfl) | (apply D_pickF; rfl; rfl) | (apply D_int; rfl; rfl; rfl) | (apply D_lenM; rfl) | (apply D_len_sl; rfl) | (apply D_len_str; rfl) | (apply D_loadW; rfl; rfl) | (apply D_loadA; rfl; rfl) | (apply D_s2b; rfl) | (apply D_len_nil; rfl) | (apply D_idxAn; rfl; rfl; (first | omega | (simp; done))) | (apply D_idxA; rfl; rfl; omega; (first | omega | (simp; done) | (simp; omega))) | (apply D_idxA0; rfl; rfl; omega; (first | omega | (simp; done) | (simp; omega))) | (apply D_lenR; rfl) | (apply D_ixRn; rfl; rfl; (first | omega | (simp; done))) | (apply D_ixR; rfl; rfl; all_goals first | omega | ((repeat rw [w64 _ (by omega) (by omega)]); omega) | decide))
    | refine W_seq ?_
    | refine W_region ?_
    | (refine idC ?_; first | refine c1 rfl ?_ | refine c0 rfl ?_ | refine cs rfl (fun _ => ?_) (fun _ => ?_))
    | refine WL_nil ?_
    | (refine idG ?_; first | refine g0t rfl rfl rfl ?_ | refine g0f rfl rfl rfl ?_ | refine g0u rfl rfl rfl ?_ | refine gr rfl rfl ?_ | refine gs rfl rfl (fun _ => ?_) (fun _ => ?_) | refine grn rfl rfl ?_)
    | refine tn ?_
    | refine tr ?_
    | refine br ?_
    | refine bn ?_
    | refine te ?_
    | (refine idB ?_; first | refine bh rfl ?_ | refine bm rfl ?_)
    | refine W_skip ?_
    | refine W_block ?_
    | refine W_exit ?_
    | refine W_ret ?_
    | refine W_label ?_
    | refine W_scope ?_
    | refine sn ?_
    | refine sr ?_
    | refine se ?_
    | (refine idR ?_; first | refine ret1 rfl rfl rfl ?_ | refine rL1 rfl (by first | exact trivial | exact ⟨rfl, trivial⟩) (by first | exact ResO.tmp rfl | exact ResO.cellBA rfl rfl rfl | exact ResO.cellB1 rfl rfl rfl | exact ResO.cellEA rfl rfl | exact ResO.cellE1 rfl) ?_)
    | refine Le.bool ?_
    | refine Le.int ?_
    | refine Le.str ?_
  all_goals first
    | (refine ⟨rfl, i + 1, ⟨by omega, fun j h hj => ?_⟩, by omega, ⟨rfl, rfl, rfl, rfl, ieq (wsucc i (by omega)), trivial⟩, rfl⟩
       by_cases e : j = i
       · subst e; simp only [lowP, tailP, digP]; omega
       · exact hz j h (by omega))
    | exact wordB_f fun h => by
        have := h.2.2 i (by omega)
        simp only [lowP, tailP, digP] at this; omega
    | exact wordB_f fun h => by have h1 := h.1; have h2 := h.2.1; omega
    | skip
  all_goals
    by_cases hs : s.length ≤ 64
    · rw [(iLe_t _ _).mpr (by omega)]
      exact wordB_t ⟨by omega, hs, fun j h => hz j h (by omega)⟩
    · rw [(iLe_f _ _).mpr (by omega)]
      exact wordB_f fun h => hs h.2.1
open Classical in
noncomputable def dP (p : Prop) : Bool := decide p
theorem dP_t {p : Prop} : (dP p = true) = p := by unfold dP; simp
theorem dP_f {p : Prop} : (dP p = false) = ¬ p := by unfold dP; simp
instance (p : Prop) : BP (dP p) p (¬ p) := ⟨fun h => by rwa [dP_t] at h, fun h => by rwa [dP_f] at h⟩
instance (s : List UInt8) : BP (wordB s) (WordP s) (¬ WordP s) := ⟨fun h => by unfold wordB at h; simpa using h, fun h => by unfold wordB at h; simpa using h⟩
theorem dP_eq {p : Prop} {b : Bool} (h : b = true ↔ p) : b = dP p := by
  cases b
  · exact (dP_f.mpr (fun hp => by simpa using h.2 hp)).symm
  · exact (dP_t.mpr (h.1 rfl)).symm

def MayP (v : Val) : Prop :=
  (v.kind = 2 ∧ 0 ≤ v.n ∧ v.n ≤ 1 ∧ v.s = []) ∨ ((v.kind = 1 ∨ v.kind = 6) ∧ v.s = []) ∨ (v.kind = 5 ∧ v.s = [] ∧ 0 ≤ v.n ∧ v.n < 9007199254740992) ∨
  ((v.kind = 3 ∨ v.kind = 4) ∧ v.n = 0 ∧ v.s.length ≤ 1000) ∨ (v.kind = 7 ∧ v.n = 0 ∧ WordP v.s)
noncomputable def mayB (v : Val) : Bool := dP (MayP v)
instance (v : Val) : BP (mayB v) (MayP v) (¬ MayP v) := ⟨fun h => by unfold mayB at h; rwa [dP_t] at h, fun h => by unfold mayB at h; rwa [dP_f] at h⟩
theorem wordB_tt (s : List UInt8) : (wordB s = true) = WordP s := by unfold wordB; simp

set_option maxHeartbeats 1000000 in
theorem may_pc [GlobF Tryd.prog] (v : Val) (hl : v.s.length < 9223372036854775808) : PC Tryd.prog 35 [eV v] (.sc (.bool (mayB v))) := by
  refine PC.of_body Tryd.func35 Tryd.ntmps35 rfl rfl rfl ?_
  repeat' first
    | (apply p1 (hd := rfl); case hop => first | (apply D_move; rfl) | (apply D_assign; rfl) | (apply D_pc (word_pc v.s hl); rfl; exact .same rfl .nil) | (apply D_load1; rfl) | (apply D_fld; rfl) | (apply D_pickT; rfl; rfl) | (apply D_pickF; rfl; rfl) | (apply D_int; rfl; rfl; rfl) | (apply D_len_str; rfl) | (apply D_str; rfl; rfl; rfl) | (apply D_loadW; rfl; rfl) | (apply D_loadA; rfl; rfl) | (apply D_box; rfl; rfl) | exact D_fldB rfl)
    | refine W_seq ?_
    | refine W_region ?_
    | (refine idC ?_; first | refine c1 rfl ?_ | refine c0 rfl ?_ | refine cs rfl (fun _ => ?_) (fun _ => ?_))
    | refine WL_nil ?_
    | (refine idG ?_; first | refine g0t rfl rfl rfl ?_ | refine g0f rfl rfl rfl ?_ | refine g0u rfl rfl rfl ?_ | refine gr rfl rfl ?_ | refine gs rfl rfl (fun _ => ?_) (fun _ => ?_) | refine grn rfl rfl ?_)
    | refine tn ?_
    | refine tr ?_
    | refine br ?_
    | refine bn ?_
    | refine te ?_
    | (refine idB ?_; first | refine bh rfl ?_ | refine bm rfl ?_)
    | refine W_skip ?_
    | refine W_block ?_
    | refine W_exit ?_
    | refine W_ret ?_
    | refine W_label ?_
    | refine W_scope ?_
    | refine sn ?_
    | refine sr ?_
    | refine se ?_
    | (refine idR ?_; first | refine ret1 rfl rfl rfl ?_ | refine rL1 rfl (by first | exact trivial | exact ⟨rfl, trivial⟩) (by first | exact ResO.tmp rfl | exact ResO.cellBA rfl rfl rfl | exact ResO.cellB1 rfl rfl rfl | exact ResO.cellEA rfl rfl | exact ResO.cellE1 rfl) ?_)
    | (refine idLd ?_; first | refine p1L (D_loadB1 rfl rfl rfl) rfl ?_ | refine p1L (D_loadBA rfl rfl rfl) rfl ?_ | refine p1L (D_loadB1 rfl (by (repeat first | assumption | exact get_last | (refine get_last2 ?_; focus (simp; done)) | apply get_set | apply get_app | (apply get_ne; focus omega) | (apply get_ne; focus (simp only [List.length_set, List.length_append, List.length_cons, List.length_nil]; omega))); done) (by rfl)) rfl ?_ | refine p1L (D_loadBA rfl (by (repeat first | assumption | exact get_last | (refine get_last2 ?_; focus (simp; done)) | apply get_set | apply get_app | (apply get_ne; focus omega) | (apply get_ne; focus (simp only [List.length_set, List.length_append, List.length_cons, List.length_nil]; omega))); done) (by rfl)) rfl ?_)
    | refine Le.bool ?_
    | refine Le.int ?_
    | refine Le.str ?_
  all_goals (refine dP_eq ?_; simp_all [MayP, sEq_t, iLe_t, iLt_t, iEq_t, wordB_tt] <;> omega)
set_option maxHeartbeats 1000000 in
theorem check_pc [GlobF Tryd.prog] (v : Val) (hl : v.s.length < 9223372036854775808) : PC Tryd.prog 22 [eV v] (.sc (.int .i64 (if mayB v then 0 else 10))) := by
  refine PC.of_body Tryd.func22 Tryd.ntmps22 rfl rfl rfl ?_
  repeat' first
    | (apply p1 (hd := rfl); case hop => first | (apply D_assign; rfl) | (apply D_pc (may_pc v hl); rfl; exact .same rfl .nil) | (apply D_load1; rfl) | (apply D_not; rfl) | (apply D_loadW; rfl; rfl) | (apply D_loadA; rfl; rfl) | (apply D_box; rfl; rfl))
    | refine W_seq ?_
    | refine W_region ?_
    | (refine idC ?_; first | refine c1 rfl ?_ | refine c0 rfl ?_ | refine cs rfl (fun _ => ?_) (fun _ => ?_))
    | refine WL_nil ?_
    | refine tn ?_
    | refine tr ?_
    | refine br ?_
    | refine bn ?_
    | refine te ?_
    | (refine idB ?_; first | refine bh rfl ?_ | refine bm rfl ?_)
    | refine W_skip ?_
    | refine W_block ?_
    | refine W_exit ?_
    | refine W_ret ?_
    | refine W_label ?_
    | refine W_scope ?_
    | refine sn ?_
    | refine sr ?_
    | refine se ?_
    | (refine idR ?_; first | refine ret1 rfl rfl rfl ?_ | refine rL1 rfl (by first | exact trivial | exact ⟨rfl, trivial⟩) (by first | exact ResO.tmp rfl | exact ResO.cellBA rfl rfl rfl | exact ResO.cellB1 rfl rfl rfl | exact ResO.cellEA rfl rfl | exact ResO.cellE1 rfl) ?_)
    | (refine idLd ?_; first | refine p1L (D_loadB1 rfl rfl rfl) rfl ?_ | refine p1L (D_loadBA rfl rfl rfl) rfl ?_ | refine p1L (D_loadB1 rfl (by (repeat first | assumption | exact get_last | (refine get_last2 ?_; focus (simp; done)) | apply get_set | apply get_app | (apply get_ne; focus omega) | (apply get_ne; focus (simp only [List.length_set, List.length_append, List.length_cons, List.length_nil]; omega))); done) (by rfl)) rfl ?_ | refine p1L (D_loadBA rfl (by (repeat first | assumption | exact get_last | (refine get_last2 ?_; focus (simp; done)) | apply get_set | apply get_app | (apply get_ne; focus omega) | (apply get_ne; focus (simp only [List.length_set, List.length_append, List.length_cons, List.length_nil]; omega))); done) (by rfl)) rfl ?_)
    | refine Le.bool ?_
    | refine Le.int ?_
    | refine Le.str ?_
  all_goals simp [mayB, dP_t, *]

end Go.Proofs
