/- The facts on equality of structs, as instances. No condition. -/
import Derived.Test.YtfnmipagllofiaaGreatOps11
import Derived.Test.YtfnmipagllofiaaGreatFInst
namespace Go.Proofs
open Go.AL
instance : EqF Tryz.prog 2 [.i .i64] 1 := eqf_int Tryz.underlying2 Tryz.isAgg2
instance : EqF Tryz.prog 3 [.i .i64] 1 := eqf_int Tryz.underlying3 Tryz.isAgg3
instance : EqF Tryz.prog 4 [.b] 1 := eqf_bool Tryz.underlying4 Tryz.isAgg4
instance : EqF Tryz.prog 5 [.i .u8] 1 := eqf_int Tryz.underlying5 Tryz.isAgg5
instance : EqF Tryz.prog 6 [.i .u8] 1 := eqf_int Tryz.underlying6 Tryz.isAgg6
instance : EqF Tryz.prog 9 [.s] 1 := eqf_str Tryz.underlying9 Tryz.isAgg9
instance : EqF Tryz.prog 10 [.s] 1 := eqf_str Tryz.underlying10 Tryz.isAgg10
instance : EqF Tryz.prog 11 [.s] 1 := eqf_str Tryz.underlying11 Tryz.isAgg11
instance : EqF Tryz.prog 12 [.i .u64] 1 := eqf_int Tryz.underlying12 Tryz.isAgg12
instance : EqF Tryz.prog 21 [.i .i32] 1 := eqf_int Tryz.underlying21 Tryz.isAgg21
instance : EqF Tryz.prog 25 [.i .i64] 1 := eqf_int Tryz.underlying25 Tryz.isAgg25
instance : EqF Tryz.prog 39 [.i .i64, .i .i64, .s] 2 := eqf_struct Tryz.underlying39 (by kernel_rfl) Tryz.isAgg39 Tryz.sizeOf39 rfl (by repeat first | exact FldEq.nil _ | refine FldEq.cons3 (by decide) rfl (by decide) (by rfl) ?_)
instance : EqG Tryz.prog 39 := ⟨by kernel_rfl⟩
instance : EqF Tryz.prog 52 [.i .i64, .i .i64, .i .i64, .i .i64, .s, .i .i64, .b, .i .i64, .i .i64] 3 := eqf_struct Tryz.underlying52 (by kernel_rfl) Tryz.isAgg52 Tryz.sizeOf52 rfl (by repeat first | exact FldEq.nil _ | refine FldEq.cons3 (by decide) rfl (by decide) (by rfl) ?_)
instance : EqG Tryz.prog 52 := ⟨by kernel_rfl⟩
instance : EqF Tryz.prog 57 [.i .i64, .i .i64, .i .i64, .b, .b] 2 := eqf_struct Tryz.underlying57 (by kernel_rfl) Tryz.isAgg57 Tryz.sizeOf57 rfl (by repeat first | exact FldEq.nil _ | refine FldEq.cons3 (by decide) rfl (by decide) (by rfl) ?_)
instance : EqG Tryz.prog 57 := ⟨by kernel_rfl⟩
instance : EqF Tryz.prog 69 [.i .i64, .i .i64] 2 := eqf_struct Tryz.underlying69 (by kernel_rfl) Tryz.isAgg69 Tryz.sizeOf69 rfl (by repeat first | exact FldEq.nil _ | refine FldEq.cons3 (by decide) rfl (by decide) (by rfl) ?_)
instance : EqG Tryz.prog 69 := ⟨by kernel_rfl⟩
instance : EqF Tryz.prog 109 [.i .u64] 1 := eqf_int Tryz.underlying109 Tryz.isAgg109
instance : EqF Tryz.prog 132 [.b, .i .i64, .i .i64, .i .i64, .s] 3 := eqf_struct Tryz.underlying132 (by kernel_rfl) Tryz.isAgg132 Tryz.sizeOf132 rfl (by repeat first | exact FldEq.nil _ | refine FldEq.cons3 (by decide) rfl (by decide) (by rfl) ?_)
instance : EqG Tryz.prog 132 := ⟨by kernel_rfl⟩
instance : EqF Tryz.prog 143 [.i .i64] 1 := eqf_int Tryz.underlying143 Tryz.isAgg143
instance : EqF Tryz.prog 150 [.i .u32] 1 := eqf_int Tryz.underlying150 Tryz.isAgg150
instance : EqF Tryz.prog 152 [.i .u64] 1 := eqf_int Tryz.underlying152 Tryz.isAgg152
instance : EqF Tryz.prog 163 [.i .u64] 1 := eqf_int Tryz.underlying163 Tryz.isAgg163
instance : EqF Tryz.prog 190 [.i .u8] 1 := eqf_int Tryz.underlying190 Tryz.isAgg190
instance : EqF Tryz.prog 191 [.i .u8] 1 := eqf_int Tryz.underlying191 Tryz.isAgg191
instance : EqF Tryz.prog 194 [.i .i32] 1 := eqf_int Tryz.underlying194 Tryz.isAgg194
instance : EqF Tryz.prog 195 [.i .i32] 1 := eqf_int Tryz.underlying195 Tryz.isAgg195
end Go.Proofs

namespace Go.Proofs
open Go.AL
attribute [local irreducible] Go.AL.W Go.AL.WL Go.AL.WD Go.AL.POp Go.AL.PPOp Go.AL.POpS Go.AL.PC Go.AL.AC Go.AL.YW Go.AL.Ret Go.AL.Le Go.AL.thn Go.AL.inBlk Go.AL.scp
structure Val where
  kind : Int
  n : Int
  s : List UInt8
abbrev vC (v : Val) : List AV := [.sc (.int .i64 v.kind), .sc (.int .i64 v.n), str v.s]
abbrev eV (v : Val) : AV := .ag (vC v)
def lowP (c : UInt8) : Prop := 97 ≤ (c.toNat : Int) ∧ (c.toNat : Int) ≤ 122
def digP (c : UInt8) : Prop := 48 ≤ (c.toNat : Int) ∧ (c.toNat : Int) ≤ 57
def tailP (c : UInt8) : Prop := digP c ∨ (c.toNat : Int) = 46 ∨ (c.toNat : Int) = 95 ∨ (c.toNat : Int) = 45 ∨ (c.toNat : Int) = 47
def WordP (s : List UInt8) : Prop := 1 ≤ s.length ∧ s.length ≤ 64 ∧ ∀ (j : Nat) (h : j < s.length), lowP s[j] ∨ (0 < j ∧ tailP s[j])
open Classical in
noncomputable def wordB (s : List UInt8) : Bool := decide (WordP s)
theorem wordB_t {s : List UInt8} (h : WordP s) : true = wordB s := by unfold wordB; simp [h]
theorem wordB_f {s : List UInt8} (h : ¬ WordP s) : false = wordB s := by unfold wordB; simp [h]
set_option maxHeartbeats 1000000 in
theorem word_pc [GlobF Tryz.prog] (s : List UInt8) (hl : s.length < 9223372036854775808) : PC Tryz.prog 141 [str s] (.sc (.bool (wordB s))) := by
  refine PC.of_body Tryz.func141 Tryz.ntmps141 rfl rfl rfl ?_
  repeat' first
    | (apply p1 (hd := rfl); case hop => first | (apply D_move; rfl) | (apply D_assign; rfl) | (apply D_lenM; rfl) | (apply D_s2b; rfl))
    | refine W_seq ?_
    | refine W_region ?_
    | refine WL_nil ?_
    | refine tn ?_
    | refine W_block ?_
    | fail
  refine W_loopL (X := Nat) (fun i => [(0, str s), (2, .sc (.bool false)), (6, bytesAV s), (7, .sc (.int .i64 (s.length : Int))), (8, .sc (.int .i64 (i : Int)))]) (fun _ => [])
    (fun i => i ≤ s.length ∧ ∀ (j : Nat) (h : j < s.length), j < i → lowP s[j] ∨ (0 < j ∧ tailP s[j])) (fun i => s.length - i) 0 ⟨by omega, fun j h h' => by omega⟩ ⟨rfl, rfl, rfl, rfl, rfl, trivial⟩ rfl ?_
  rintro i ⟨hi, hz⟩
  repeat' first
    | (apply p1 (hd := rfl); case hop => first | (apply D_move; rfl) | (apply D_assign; rfl) | (apply D_load1; rfl) | (apply D_pickT; rfl; rfl) | (apply D_pickF; rfl; rfl) | (apply D_int; rfl; rfl; rfl) | (apply D_len_str; rfl) | (apply D_idxAn; rfl; rfl; (first | omega | (simp; done))))
    | refine W_seq ?_
    | refine W_region ?_
    | (refine idC ?_; first | refine c1 rfl ?_ | refine c0 rfl ?_ | refine cs rfl (fun _ => ?_) (fun _ => ?_))
    | refine WL_nil ?_
    | (refine idG ?_; first | refine g0t rfl rfl rfl ?_ | refine g0f rfl rfl rfl ?_ | refine g0u rfl rfl rfl ?_ | refine gr rfl rfl ?_ | refine gs rfl rfl (fun _ => ?_) (fun _ => ?_))
    | refine tn ?_
    | refine tr ?_
    | refine br ?_
    | refine bn ?_
    | refine te ?_
    | (refine idB ?_; refine bh rfl ?_)
    | refine W_skip ?_
    | refine W_block ?_
    | refine W_exit ?_
    | refine W_ret ?_
    | (refine idR ?_; refine ret1 rfl rfl rfl ?_)
    | refine Le.bool ?_
    | fail
  all_goals first
    | (refine ⟨rfl, i + 1, ⟨by omega, fun j h hj => ?_⟩, by omega, ⟨rfl, rfl, rfl, rfl, ieq (wsucc i (by omega)), trivial⟩, rfl⟩
       by_cases e : j = i
       · subst e; simp only [lowP, tailP, digP]; omega
       · exact hz j h (by omega))
    | exact wordB_f fun h => by
        have := h.2.2 i (by omega)
        simp only [lowP, tailP, digP] at this; omega
    | exact wordB_f fun h => by have h1 := h.1; have h2 := h.2.1; omega
    | skip
  all_goals
    by_cases hs : s.length ≤ 64
    · rw [(iLe_t _ _).mpr (by omega)]
      exact wordB_t ⟨by omega, hs, fun j h => hz j h (by omega)⟩
    · rw [(iLe_f _ _).mpr (by omega)]
      exact wordB_f fun h => hs h.2.1
open Classical in
noncomputable def dP (p : Prop) : Bool := decide p
theorem dP_t {p : Prop} : (dP p = true) = p := by unfold dP; simp
theorem dP_f {p : Prop} : (dP p = false) = ¬ p := by unfold dP; simp
instance (p : Prop) : BP (dP p) p (¬ p) := ⟨fun h => by rwa [dP_t] at h, fun h => by rwa [dP_f] at h⟩
instance (s : List UInt8) : BP (wordB s) (WordP s) (¬ WordP s) := ⟨fun h => by unfold wordB at h; simpa using h, fun h => by unfold wordB at h; simpa using h⟩
theorem dP_eq {p : Prop} {b : Bool} (h : b = true ↔ p) : b = dP p := by
  cases b
  · exact (dP_f.mpr (fun hp => by simpa using h.2 hp)).symm
  · exact (dP_t.mpr (h.1 rfl)).symm
def MayP (v : Val) : Prop :=
  (v.kind = 2 ∧ 0 ≤ v.n ∧ v.n ≤ 1 ∧ v.s = []) ∨ ((v.kind = 1 ∨ v.kind = 6) ∧ v.s = []) ∨ (v.kind = 5 ∧ v.s = [] ∧ 0 ≤ v.n ∧ v.n < 9007199254740992) ∨
  ((v.kind = 3 ∨ v.kind = 4) ∧ v.n = 0 ∧ v.s.length ≤ 1000) ∨ (v.kind = 7 ∧ v.n = 0 ∧ WordP v.s)
noncomputable def mayB (v : Val) : Bool := dP (MayP v)
instance (v : Val) : BP (mayB v) (MayP v) (¬ MayP v) := ⟨fun h => by unfold mayB at h; rwa [dP_t] at h, fun h => by unfold mayB at h; rwa [dP_f] at h⟩
theorem wordB_tt (s : List UInt8) : (wordB s = true) = WordP s := by unfold wordB; simp
set_option maxHeartbeats 1000000 in
theorem may_pc [GlobF Tryz.prog] (v : Val) (hl : v.s.length < 9223372036854775808) : PC Tryz.prog 129 [eV v] (.sc (.bool (mayB v))) := by
  refine PC.of_body Tryz.func129 Tryz.ntmps129 rfl rfl rfl ?_
  repeat' first
    | (apply p1 (hd := rfl); case hop => first | (apply D_move; rfl) | (apply D_assign; rfl) | (apply D_pc (word_pc v.s hl); rfl; exact .same rfl .nil) | (apply D_load1; rfl) | (apply D_fld; rfl) | (apply D_pickT; rfl; rfl) | (apply D_pickF; rfl; rfl) | (apply D_int; rfl; rfl; rfl) | (apply D_len_str; rfl) | (apply D_str; rfl; rfl; rfl) | (apply D_box; rfl; rfl))
    | refine W_seq ?_
    | refine W_region ?_
    | (refine idC ?_; first | refine c1 rfl ?_ | refine cs rfl (fun _ => ?_) (fun _ => ?_))
    | refine WL_nil ?_
    | (refine idG ?_; first | refine g0t rfl rfl rfl ?_ | refine g0f rfl rfl rfl ?_ | refine gr rfl rfl ?_ | refine gs rfl rfl (fun _ => ?_) (fun _ => ?_))
    | refine tn ?_
    | refine tr ?_
    | refine br ?_
    | refine bn ?_
    | refine te ?_
    | (refine idB ?_; first | refine bh rfl ?_ | refine bm rfl ?_)
    | refine W_skip ?_
    | refine W_block ?_
    | refine W_exit ?_
    | refine W_ret ?_
    | (refine idR ?_; refine ret1 rfl rfl rfl ?_)
    | refine Le.bool ?_
    | fail
  all_goals (refine dP_eq ?_; simp_all [MayP, sEq_t, iLe_t, iLt_t, iEq_t, wordB_tt] <;> omega)
set_option maxHeartbeats 1000000 in
theorem check_pc [GlobF Tryz.prog] (v : Val) (hl : v.s.length < 9223372036854775808) : PC Tryz.prog 105 [eV v] (.sc (.int .i64 (if mayB v then 0 else 10))) := by
  refine PC.of_body Tryz.func105 Tryz.ntmps105 rfl rfl rfl ?_
  repeat' first
    | (apply p1 (hd := rfl); case hop => first | (apply D_assign; rfl) | (apply D_pc (may_pc v hl); rfl; exact .same rfl .nil) | (apply D_not; rfl) | (apply D_loadW; rfl; rfl) | (apply D_box; rfl; rfl))
    | refine W_seq ?_
    | refine W_region ?_
    | (refine idC ?_; refine cs rfl (fun _ => ?_) (fun _ => ?_))
    | refine WL_nil ?_
    | refine tn ?_
    | refine tr ?_
    | refine W_skip ?_
    | refine W_ret ?_
    | (refine idR ?_; refine ret1 rfl rfl rfl ?_)
    | refine Le.int ?_
    | fail
  all_goals simp [mayB, dP_t, *]
end Go.Proofs

namespace Go.Proofs
open Go.AL
attribute [local irreducible] Go.AL.W Go.AL.WL Go.AL.WD Go.AL.POp Go.AL.PPOp Go.AL.POpS Go.AL.PC Go.AL.AC Go.AL.YW Go.AL.Ret Go.AL.Le Go.AL.thn Go.AL.inBlk Go.AL.scp
abbrev iC (n : Int) : List AV := [.sc (.int .i64 n)]
def cmpI (a b : Int) : Int := if a < b then -1 else if b < a then 1 else 0
def orI : List Int → Int
  | [] => 0
  | x :: l => if x = 0 then orI l else x
instance : Xt Tryz.prog 140 Extern.BytealgCompare.compare := ⟨run_callFunc_extern Tryz.func140 (by kernel_rfl) (by kernel_rfl) (by kernel_rfl) (by kernel_rfl)⟩
set_option maxHeartbeats 400000 in
theorem isNaN_pc [GlobF Tryz.prog] (n : Int) : PC Tryz.prog 127 [.sc (.int .i64 n)] (.sc (.bool false)) := by
  refine PC.of_body Tryz.func127 Tryz.ntmps127 rfl rfl rfl ?_
  repeat' first
    | (apply p1 (hd := rfl); case hop => first | (apply D_move; rfl) | (apply D_assign; rfl) | (apply D_int; rfl; rfl; rfl))
    | refine W_seq ?_
    | refine W_region ?_
    | refine WL_nil ?_
    | refine tn ?_
    | refine W_ret ?_
    | (refine idR ?_; refine ret1 rfl rfl rfl ?_)
    | refine Le.bool ?_
    | fail
  simp [bNot, iEq]
set_option maxHeartbeats 400000 in
theorem isNaN64_pc [GlobF Tryz.prog] (n : Int) : PC Tryz.prog 102 [.sc (.int .i64 n)] (.sc (.bool false)) := by
  refine PC.of_body Tryz.func102 Tryz.ntmps102 rfl rfl rfl ?_
  repeat' first
    | (apply p1 (hd := rfl); case hop => first | (apply D_move; rfl) | (apply D_assign; rfl) | (apply D_int; rfl; rfl; rfl))
    | refine W_seq ?_
    | refine W_region ?_
    | refine WL_nil ?_
    | refine tn ?_
    | refine W_ret ?_
    | (refine idR ?_; refine ret1 rfl rfl rfl ?_)
    | refine Le.bool ?_
    | fail
  simp [bNot, iEq]
set_option maxHeartbeats 400000 in
theorem cmpInt_pc [GlobF Tryz.prog] (a b : Int) : PC Tryz.prog 103 [.sc (.int .i64 a), .sc (.int .i64 b)] (.sc (.int .i64 (cmpI a b))) := by
  refine PC.of_body Tryz.func103 Tryz.ntmps103 rfl rfl rfl ?_
  repeat' first
    | (apply p1 (hd := rfl); case hop => first | (apply D_move; rfl) | (apply D_assign; rfl) | (apply D_pc (isNaN_pc a); rfl; exact .same rfl .nil) | (apply D_pc (isNaN_pc b); rfl; exact .same rfl .nil) | (apply D_int; rfl; rfl; rfl))
    | refine W_seq ?_
    | refine W_region ?_
    | (refine idC ?_; first | refine c0 rfl ?_ | refine cs rfl (fun _ => ?_) (fun _ => ?_))
    | refine WL_nil ?_
    | refine tn ?_
    | refine tr ?_
    | refine W_skip ?_
    | refine W_ret ?_
    | (refine idR ?_; refine ret1 rfl rfl rfl ?_)
    | refine Le.int ?_
    | fail
  all_goals (unfold cmpI; split <;> first | rfl | omega | (split <;> first | rfl | omega))
set_option maxHeartbeats 400000 in
theorem cmpInt64_pc [GlobF Tryz.prog] (a b : Int) : PC Tryz.prog 79 [.sc (.int .i64 a), .sc (.int .i64 b)] (.sc (.int .i64 (cmpI a b))) := by
  refine PC.of_body Tryz.func79 Tryz.ntmps79 rfl rfl rfl ?_
  repeat' first
    | (apply p1 (hd := rfl); case hop => first | (apply D_move; rfl) | (apply D_assign; rfl) | (apply D_pc (isNaN64_pc a); rfl; exact .same rfl .nil) | (apply D_pc (isNaN64_pc b); rfl; exact .same rfl .nil) | (apply D_int; rfl; rfl; rfl))
    | refine W_seq ?_
    | refine W_region ?_
    | (refine idC ?_; first | refine c0 rfl ?_ | refine cs rfl (fun _ => ?_) (fun _ => ?_))
    | refine WL_nil ?_
    | refine tn ?_
    | refine tr ?_
    | refine W_skip ?_
    | refine W_ret ?_
    | (refine idR ?_; refine ret1 rfl rfl rfl ?_)
    | refine Le.int ?_
    | fail
  all_goals (unfold cmpI; split <;> first | rfl | omega | (split <;> first | rfl | omega))
set_option maxHeartbeats 400000 in
theorem cmpStr0_pc [GlobF Tryz.prog] (a b : List UInt8) : PC Tryz.prog 128 [str a, str b] (.sc (.int .i64 (Lib.compareBytes a b))) := by
  refine PC.of_body Tryz.func128 Tryz.ntmps128 rfl rfl rfl ?_
  repeat' first
    | (apply p1 (hd := rfl); case hop => first | (apply D_move; rfl) | (apply D_assign; rfl) | exact D_xcmp rfl rfl rfl)
    | refine W_seq ?_
    | refine W_region ?_
    | refine WL_nil ?_
    | refine tn ?_
    | refine W_ret ?_
    | (refine idR ?_; refine ret1 rfl rfl rfl ?_)
    | refine Le.int ?_
    | fail
  rfl
set_option maxHeartbeats 400000 in
theorem cmpStr_pc [GlobF Tryz.prog] (a b : List UInt8) : PC Tryz.prog 104 [str a, str b] (.sc (.int .i64 (Lib.compareBytes a b))) := by
  refine PC.of_body Tryz.func104 Tryz.ntmps104 rfl rfl rfl ?_
  repeat' first
    | (apply p1 (hd := rfl); case hop => first | (apply D_move; rfl) | (apply D_assign; rfl) | (apply D_pc (cmpStr0_pc a b); rfl; exact .same rfl (.same rfl .nil)))
    | refine W_seq ?_
    | refine W_region ?_
    | refine WL_nil ?_
    | refine tn ?_
    | refine W_ret ?_
    | (refine idR ?_; refine ret1 rfl rfl rfl ?_)
    | refine Le.int ?_
    | fail
  rfl
theorem orI_zeros : ∀ (l : List Int) (i : Nat), (∀ j, j < i → l[j]? = some 0) → orI l = orI (l.drop i)
  | _, 0, _ => rfl
  | [], i + 1, h => by have := h 0 (by omega); simp at this
  | x :: l, i + 1, h => by
    have h0 := h 0 (by omega)
    simp at h0; subst h0
    simp only [orI, if_true, List.drop_succ_cons]
    exact orI_zeros l i fun j hj => by have := h (j + 1) (by omega); simpa using this
set_option maxHeartbeats 400000 in
theorem or_pc [GlobF Tryz.prog] (l : List Int) (hl : l.length < 9223372036854775808) : PC Tryz.prog 78 [.sl none 1 (l.map iC)] (.sc (.int .i64 (orI l))) := by
  refine PC.of_body Tryz.func78 Tryz.ntmps78 rfl rfl rfl ?_
  repeat' first
    | (apply p1 (hd := rfl); case hop => first | (apply D_move; rfl) | (apply D_assign; rfl) | (apply D_lenM; rfl))
    | refine W_seq ?_
    | refine W_region ?_
    | refine WL_nil ?_
    | refine tn ?_
    | refine W_block ?_
    | fail
  refine W_loopL (X := Nat) (fun i => [(3, .sc (.int .i64 0)), (6, .sl none 1 (l.map iC)), (7, .sc (.int .i64 (l.length : Int))), (8, .sc (.int .i64 (i : Int)))]) (fun _ => [])
    (fun i => i ≤ l.length ∧ ∀ j, j < i → l[j]? = some 0) (fun i => l.length - i) 0 ⟨by omega, fun j h => by omega⟩ ⟨rfl, rfl, rfl, rfl, trivial⟩ rfl ?_
  rintro i ⟨hi, hz⟩
  repeat' first
    | (apply p1 (hd := rfl); case hop => first | (apply D_move; rfl) | (apply D_assign; rfl) | (apply D_load1; rfl) | (apply D_int; rfl; rfl; rfl) | (apply D_idxAn; rfl; rfl; (first | omega | (simp; done))))
    | refine W_seq ?_
    | refine W_region ?_
    | (refine idC ?_; refine cs rfl (fun _ => ?_) (fun _ => ?_))
    | refine WL_nil ?_
    | refine tn ?_
    | refine tr ?_
    | refine br ?_
    | refine bn ?_
    | refine te ?_
    | (refine idB ?_; refine bh rfl ?_)
    | refine W_skip ?_
    | refine W_block ?_
    | refine W_exit ?_
    | refine W_ret ?_
    | (refine idR ?_; refine ret1 rfl rfl rfl ?_)
    | refine Le.int ?_
    | fail
  · rename_i hlt hne
    have hlt' : i < l.length := by omega
    rw [orI_zeros l i hz, List.drop_eq_getElem_cons hlt', orI, if_neg hne]
  · rename_i hlt heq
    refine ⟨rfl, i + 1, ⟨by omega, fun j hj => ?_⟩, by omega, ⟨rfl, rfl, rfl, ieq (wsucc i (by omega)), trivial⟩, rfl⟩
    by_cases e : j = i
    · subst e; rw [List.getElem?_eq_getElem (by omega), heq]
    · exact hz j (by omega)
  · rw [orI_zeros l i hz, List.drop_eq_nil_of_le (by omega)]; rfl
def cmpV (a b : Val) : Int := orI [cmpI a.kind b.kind, cmpI a.n b.n, Lib.compareBytes a.s b.s]
set_option maxHeartbeats 1000000 in
theorem compare_pc [GlobF Tryz.prog] (a b : Val) : PC Tryz.prog 80 [eV a, eV b] (.sc (.int .i64 (cmpV a b))) := by
  refine PC.of_body Tryz.func80 Tryz.ntmps80 rfl rfl rfl ?_
  repeat' first
    | (apply p1 (hd := rfl); case hop => first | (apply D_assign; rfl) | (apply D_box; rfl; rfl))
    | refine W_seq ?_
    | refine W_region ?_
    | refine WL_nil ?_
    | refine tn ?_
    | refine W_ret ?_
    | (refine idR ?_; refine ret1 rfl rfl rfl ?_)
    | refine Le.int ?_
    | (refine idW ?_; refine W_draw0 rfl ?_)
    | (apply d1 (hd := rfl); case hop => first | (apply D_assign; rfl) | (apply D_pc (cmpInt_pc _ _); rfl; exact .same rfl (.same rfl .nil)) | (apply D_pc (cmpInt64_pc _ _); rfl; exact .same rfl (.same rfl .nil)) | (apply D_pc (cmpStr_pc _ _); rfl; exact .same rfl (.same rfl .nil)) | (apply D_pc (or_pc [cmpI a.kind b.kind, cmpI a.n b.n, Lib.compareBytes a.s b.s] (by show 3 < _; decide)); rfl; exact .same rfl .nil) | (apply D_load1; rfl) | (apply D_fld; rfl) | (apply D_lit; rfl; rfl; rfl; rfl))
    | refine WD_nil (by first | decide +kernel | kernel_rfl | rfl) ?_
    | fail
  all_goals rfl
theorem cmpI_z (a b : Int) : cmpI a b = 0 ↔ a = b := by
  unfold cmpI; split
  · omega
  · split <;> omega
theorem cmpB_z : ∀ (a b : List UInt8), Lib.compareBytes a b = 0 ↔ a = b
  | [], [] => by simp [Lib.compareBytes]
  | [], _ :: _ => by simp [Lib.compareBytes]
  | _ :: _, [] => by simp [Lib.compareBytes]
  | x :: a, y :: b => by
    simp only [Lib.compareBytes]
    by_cases h1 : x < y
    · rw [if_pos h1]
      exact ⟨fun h => (by cases h), fun h => (by injection h with h _; rw [h] at h1; exact absurd h1 (UInt8.lt_irrefl _))⟩
    · rw [if_neg h1]
      by_cases h2 : y < x
      · rw [if_pos h2]
        exact ⟨fun h => (by cases h), fun h => (by injection h with h _; rw [h] at h2; exact absurd h2 (UInt8.lt_irrefl _))⟩
      · rw [if_neg h2, cmpB_z a b]
        have : x = y := UInt8.le_antisymm (UInt8.not_lt.1 h2) (UInt8.not_lt.1 h1)
        simp [this]
theorem cmpV_z (a b : Val) : cmpV a b = 0 ↔ a = b := by
  obtain ⟨k, n, s⟩ := a
  obtain ⟨k', n', s'⟩ := b
  have h1 := cmpI_z k k'
  have h2 := cmpI_z n n'
  have h3 := cmpB_z s s'
  simp only [cmpV, orI, Val.mk.injEq]
  by_cases e1 : k = k'
  · rw [if_pos (h1.2 e1)]
    by_cases e2 : n = n'
    · rw [if_pos (h2.2 e2)]
      by_cases e3 : s = s'
      · rw [if_pos (h3.2 e3)]; simp [e1, e2, e3]
      · rw [if_neg fun h => e3 (h3.1 h)]; simp [e1, e2, e3, h3]
    · rw [if_neg fun h => e2 (h2.1 h)]; simp [e1, e2, h2]
  · rw [if_neg fun h => e1 (h1.1 h)]; simp [e1, h1]
end Go.Proofs
