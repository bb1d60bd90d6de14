/- Contracts of facts' functions for seat E: may some be; the document's; what they weigh. -/
import Derived.Test.YtjojdiefnhbglaaEEq
import Derived.Test.YtjojdiefnhbglaaOps5
import Derived.Test.YtjojdiefnhbglaaOps12
import Derived.Test.YtjojdiefnhbglaaOps17
import Derived.Test.YtjojdiefnhbglaaOps19
import Derived.Test.YtjojdiefnhbglaaOps22
import Derived.Test.YtjojdiefnhbglaaOps26
namespace Go.Proofs
open Go.AL Go.Sort
attribute [local irreducible] Go.AL.W Go.AL.WL Go.AL.WD Go.AL.POp Go.AL.PPOp Go.AL.POpS Go.AL.PC Go.AL.AC Go.AL.YW Go.AL.Ret Go.AL.Le Go.AL.thn Go.AL.inBlk Go.AL.scp
structure Val where
  kind : Int
  n : Int
  s : List UInt8
abbrev vC (v : Val) : List AV := [.sc (.int .i64 v.kind), .sc (.int .i64 v.n), str v.s]
abbrev eV (v : Val) : AV := .ag (vC v)
def lowP (c : UInt8) : Prop := 97 ≤ (c.toNat : Int) ∧ (c.toNat : Int) ≤ 122
def digP (c : UInt8) : Prop := 48 ≤ (c.toNat : Int) ∧ (c.toNat : Int) ≤ 57
def tailP (c : UInt8) : Prop := digP c ∨ (c.toNat : Int) = 46 ∨ (c.toNat : Int) = 95 ∨ (c.toNat : Int) = 45 ∨ (c.toNat : Int) = 47
def WordP (s : List UInt8) : Prop := 1 ≤ s.length ∧ s.length ≤ 64 ∧ ∀ (j : Nat) (h : j < s.length), lowP s[j] ∨ (0 < j ∧ tailP s[j])
open Classical in
noncomputable def wordB (s : List UInt8) : Bool := decide (WordP s)
theorem wordB_t {s : List UInt8} (h : WordP s) : true = wordB s := by unfold wordB; simp [h]
theorem wordB_f {s : List UInt8} (h : ¬ WordP s) : false = wordB s := by unfold wordB; simp [h]
set_option maxHeartbeats 1000000 in
theorem word_pc [GlobF Try.prog] (s : List UInt8) (hl : s.length < 9223372036854775808) : PC Try.prog 153 [str s] (.sc (.bool (wordB s))) := by
  refine PC.of_body Try.func153 Try.ntmps153 rfl rfl rfl ?_
  repeat' first
    | (apply p1 (hd := rfl); case hop => first | (apply D_move; rfl) | (apply D_assign; rfl) | (apply D_lenM; rfl) | (apply D_s2b; rfl))
    | refine W_seq ?_
    | refine W_region ?_
    | refine WL_nil ?_
    | refine tn ?_
    | refine W_block ?_
  refine W_loopL (X := Nat) (fun i => [(0, str s), (2, .sc (.bool false)), (6, bytesAV s), (7, .sc (.int .i64 (s.length : Int))), (8, .sc (.int .i64 (i : Int)))]) (fun _ => [])
    (fun i => i ≤ s.length ∧ ∀ (j : Nat) (h : j < s.length), j < i → lowP s[j] ∨ (0 < j ∧ tailP s[j])) (fun i => s.length - i) 0 ⟨by omega, fun j h h' => by omega⟩ ⟨rfl, rfl, rfl, rfl, rfl, trivial⟩ rfl ?_
  rintro i ⟨hi, hz⟩
  repeat' first
    | (apply p1 (hd := rfl); case hop => first | (apply D_move; rfl) | (apply D_assign; rfl) | (apply D_load1; rfl) | (apply D_pickT; rfl; rfl) | (apply D_pickF; rfl; rfl) | (apply D_int; rfl; rfl; rfl) | (apply D_len_str; rfl) | (apply D_idxAn; rfl; rfl; (first | omega | (simp; done))))
    | refine W_seq ?_
    | refine W_region ?_
    | (refine idC ?_; first | refine c1 rfl ?_ | refine c0 rfl ?_ | refine cs rfl (fun _ => ?_) (fun _ => ?_))
    | refine WL_nil ?_
    | (refine idG ?_; first | refine g0t rfl rfl rfl ?_ | refine g0f rfl rfl rfl ?_ | refine g0u rfl rfl rfl ?_ | refine gr rfl rfl ?_ | refine gs rfl rfl (fun _ => ?_) (fun _ => ?_))
    | refine tn ?_
    | refine tr ?_
    | refine br ?_
    | refine bn ?_
    | refine te ?_
    | (refine idB ?_; first | refine bh rfl ?_)
    | refine W_skip ?_
    | refine W_block ?_
    | refine W_exit ?_
    | refine W_ret ?_
    | (refine idR ?_; first | refine ret1 rfl rfl rfl ?_)
    | refine Le.bool ?_
  all_goals first
    | (refine ⟨rfl, i + 1, ⟨by omega, fun j h hj => ?_⟩, by omega, ⟨rfl, rfl, rfl, rfl, ieq (wsucc i (by omega)), trivial⟩, rfl⟩
       by_cases e : j = i
       · subst e; simp only [lowP, tailP, digP]; omega
       · exact hz j h (by omega))
    | exact wordB_f fun h => by
        have := h.2.2 i (by omega)
        simp only [lowP, tailP, digP] at this; omega
    | exact wordB_f fun h => by have h1 := h.1; have h2 := h.2.1; omega
    | skip
  all_goals
    by_cases hs : s.length ≤ 64
    · rw [(iLe_t _ _).mpr (by omega)]
      exact wordB_t ⟨by omega, hs, fun j h => hz j h (by omega)⟩
    · rw [(iLe_f _ _).mpr (by omega)]
      exact wordB_f fun h => hs h.2.1
open Classical in
noncomputable def dP (p : Prop) : Bool := decide p
theorem dP_t {p : Prop} : (dP p = true) = p := by unfold dP; simp
theorem dP_f {p : Prop} : (dP p = false) = ¬ p := by unfold dP; simp
instance (p : Prop) : BP (dP p) p (¬ p) := ⟨fun h => by rwa [dP_t] at h, fun h => by rwa [dP_f] at h⟩
instance (s : List UInt8) : BP (wordB s) (WordP s) (¬ WordP s) := ⟨fun h => by unfold wordB at h; simpa using h, fun h => by unfold wordB at h; simpa using h⟩
theorem dP_eq {p : Prop} {b : Bool} (h : b = true ↔ p) : b = dP p := by
  cases b
  · exact (dP_f.mpr (fun hp => by simpa using h.2 hp)).symm
  · exact (dP_t.mpr (h.1 rfl)).symm
def MayP (v : Val) : Prop :=
  (v.kind = 2 ∧ 0 ≤ v.n ∧ v.n ≤ 1 ∧ v.s = []) ∨ ((v.kind = 1 ∨ v.kind = 6) ∧ v.s = []) ∨ (v.kind = 5 ∧ v.s = [] ∧ 0 ≤ v.n ∧ v.n < 9007199254740992) ∨
  ((v.kind = 3 ∨ v.kind = 4) ∧ v.n = 0 ∧ v.s.length ≤ 1000) ∨ (v.kind = 7 ∧ v.n = 0 ∧ WordP v.s)
noncomputable def mayB (v : Val) : Bool := dP (MayP v)
instance (v : Val) : BP (mayB v) (MayP v) (¬ MayP v) := ⟨fun h => by unfold mayB at h; rwa [dP_t] at h, fun h => by unfold mayB at h; rwa [dP_f] at h⟩
theorem wordB_tt (s : List UInt8) : (wordB s = true) = WordP s := by unfold wordB; simp
set_option maxHeartbeats 1000000 in
theorem may_pc [GlobF Try.prog] (v : Val) (hl : v.s.length < 9223372036854775808) : PC Try.prog 130 [eV v] (.sc (.bool (mayB v))) := by
  refine PC.of_body Try.func130 Try.ntmps130 rfl rfl rfl ?_
  repeat' first
    | (apply p1 (hd := rfl); case hop => first | (apply D_move; rfl) | (apply D_assign; rfl) | (apply D_pc (word_pc v.s hl); rfl; exact .same rfl .nil) | (apply D_load1; rfl) | (apply D_fld; rfl) | (apply D_pickT; rfl; rfl) | (apply D_pickF; rfl; rfl) | (apply D_int; rfl; rfl; rfl) | (apply D_len_str; rfl) | (apply D_str; rfl; rfl; rfl) | (apply D_box; rfl; rfl))
    | refine W_seq ?_
    | refine W_region ?_
    | (refine idC ?_; first | refine c1 rfl ?_ | refine cs rfl (fun _ => ?_) (fun _ => ?_))
    | refine WL_nil ?_
    | (refine idG ?_; first | refine g0t rfl rfl rfl ?_ | refine g0f rfl rfl rfl ?_ | refine gr rfl rfl ?_ | refine gs rfl rfl (fun _ => ?_) (fun _ => ?_))
    | refine tn ?_
    | refine tr ?_
    | refine br ?_
    | refine bn ?_
    | refine te ?_
    | (refine idB ?_; first | refine bh rfl ?_ | refine bm rfl ?_)
    | refine W_skip ?_
    | refine W_block ?_
    | refine W_exit ?_
    | refine W_ret ?_
    | (refine idR ?_; first | refine ret1 rfl rfl rfl ?_)
    | refine Le.bool ?_
  all_goals (refine dP_eq ?_; simp_all [MayP, sEq_t, iLe_t, iLt_t, iEq_t, wordB_tt] <;> omega)
set_option maxHeartbeats 1000000 in
theorem check_pc [GlobF Try.prog] (v : Val) (hl : v.s.length < 9223372036854775808) : PC Try.prog 93 [eV v] (.sc (.int .i64 (if mayB v then 0 else 10))) := by
  refine PC.of_body Try.func93 Try.ntmps93 rfl rfl rfl ?_
  repeat' first
    | (apply p1 (hd := rfl); case hop => first | (apply D_assign; rfl) | (apply D_pc (may_pc v hl); rfl; exact .same rfl .nil) | (apply D_not; rfl) | (apply D_loadW; rfl; rfl) | (apply D_box; rfl; rfl))
    | refine W_seq ?_
    | refine W_region ?_
    | (refine idC ?_; first | refine cs rfl (fun _ => ?_) (fun _ => ?_))
    | refine WL_nil ?_
    | refine tn ?_
    | refine tr ?_
    | refine W_skip ?_
    | refine W_ret ?_
    | (refine idR ?_; first | refine ret1 rfl rfl rfl ?_)
    | refine Le.int ?_
  all_goals simp [mayB, dP_t, *]
def cmpI (a b : Int) : Int := if a < b then -1 else if b < a then 1 else 0
def orI : List Int → Int
  | [] => 0
  | x :: l => if x = 0 then orI l else x
instance : Xt Try.prog 173 Extern.BytealgCompare.compare := ⟨run_callFunc_extern Try.func173 (by kernel_rfl) (by kernel_rfl) (by kernel_rfl) (by kernel_rfl)⟩
def cmpV (a b : Val) : Int := orI [cmpI a.kind b.kind, cmpI a.n b.n, Lib.compareBytes a.s b.s]
abbrev sC (s : Sp) : List AV := [.sc (.int .i64 s.f), .sc (.int .i64 s.t)]
theorem dP_T {p : Prop} (h : p) : true = dP p := (dP_t.mpr h).symm
theorem dP_F {p : Prop} (h : ¬ p) : false = dP p := (dP_f.mpr h).symm
instance : Inhabited Sp := ⟨⟨0, 0⟩⟩
structure Dat where
  e : Int
  a : Int
  v : Val
  t : Int
  add : Bool
  fr : Int
  to : Int
abbrev dC (d : Dat) : List AV := [.sc (.int .i64 d.e), .sc (.int .i64 d.a), .sc (.int .i64 d.v.kind), .sc (.int .i64 d.v.n), str d.v.s, .sc (.int .i64 d.t), .sc (.bool d.add), .sc (.int .i64 d.fr), .sc (.int .i64 d.to)]
abbrev eD (d : Dat) : AV := .ag (dC d)
def val0 : Val := ⟨0, 0, []⟩
def dat0 : Dat := ⟨0, 0, val0, 0, false, 0, 0⟩
def dmayP (d : Dat) : Prop := 0 ≤ d.e ∧ d.e < 9007199254740992 ∧ 0 ≤ d.a ∧ d.a < 9007199254740992 ∧ mayB d.v = true ∧ 1 ≤ d.t ∧ d.t ≤ 1099511627776 ∧ d.fr < d.to
set_option maxHeartbeats 1000000 in
theorem dmay_pc [GlobF Try.prog] (d : Dat) (hl : d.v.s.length < 9223372036854775808) : PC Try.prog 56 [eD d] (.sc (.bool (dP (dmayP d)))) := by
  refine PC.of_body Try.func56 Try.ntmps56 rfl rfl rfl ?_
  repeat' first
    | (apply p1 (hd := rfl); case hop => first | (apply D_move; rfl) | (apply D_assign; rfl) | (apply D_pc (check_pc d.v hl); rfl; exact .same rfl .nil) | (apply D_load1; rfl) | (apply D_fld; rfl) | (apply D_pickT; rfl; rfl) | (apply D_pickF; rfl; rfl) | (apply D_int; rfl; rfl; rfl) | (apply D_loadA; rfl; rfl) | (apply D_box; rfl; rfl))
    | refine W_seq ?_
    | refine W_region ?_
    | refine WL_nil ?_
    | (refine idG ?_; first | refine g0t rfl rfl rfl ?_ | refine gr rfl rfl ?_ | refine gs rfl rfl (fun _ => ?_) (fun _ => ?_))
    | refine tn ?_
    | refine W_ret ?_
    | (refine idR ?_; first | refine ret1 rfl rfl rfl ?_)
    | refine Le.bool ?_
  all_goals (refine dP_eq ?_; unfold dmayP)
  all_goals first
    | (simp only [iLt_t, Bool.false_eq_true]; cases hm : mayB d.v <;> simp_all <;> omega)
    | (simp only [iLt_t, Bool.false_eq_true]; omega)
noncomputable instance : DecidableEq Val := fun _ _ => Classical.propDecidable _
set_option maxHeartbeats 1000000 in
theorem dcheck_pc [GlobF Try.prog] (d : Dat) (hl : d.v.s.length < 9223372036854775808) : PC Try.prog 29 [eD d] (.sc (.int .i64 (if dP (dmayP d) then 0 else 40))) := by
  refine PC.of_body Try.func29 Try.ntmps29 rfl rfl rfl ?_
  repeat' first
    | (apply p1 (hd := rfl); case hop => first | (apply D_assign; rfl) | (apply D_pc (dmay_pc d hl); rfl; exact .same rfl .nil) | (apply D_not; rfl) | (apply D_loadW; rfl; rfl) | (apply D_box; rfl; rfl))
    | refine W_seq ?_
    | refine W_region ?_
    | (refine idC ?_; first | refine cs rfl (fun _ => ?_) (fun _ => ?_))
    | refine WL_nil ?_
    | refine tn ?_
    | refine tr ?_
    | refine W_skip ?_
    | refine W_ret ?_
    | (refine idR ?_; first | refine ret1 rfl rfl rfl ?_)
    | refine Le.int ?_
  all_goals
    simp [dP_t, *]
instance : Inhabited Dat := ⟨dat0⟩
instance : Inhabited Val := ⟨val0⟩
instance : Inhabited Dat := ⟨dat0⟩
noncomputable instance : DecidableEq Dat := fun _ _ => Classical.propDecidable _
instance : Inhabited Val := ⟨val0⟩
instance : Inhabited Dat := ⟨dat0⟩
structure Fac where
  e : Int
  a : Int
  v : Val
  sp : List Sp
abbrev wtF (f : Fac) : Nat := 1 + f.v.s.length + f.sp.length
end Go.Proofs
