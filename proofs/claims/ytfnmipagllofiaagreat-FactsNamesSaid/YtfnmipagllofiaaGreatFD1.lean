/- Contracts of datoms functions: how two stand, may one be? -/
import Derived.Test.YtfnmipagllofiaaGreatFQTV2
import Derived.Test.YtfnmipagllofiaaGreatOps8
import Derived.Test.YtfnmipagllofiaaGreatOps15
namespace Go.Proofs
open Go.AL Go.Sort
attribute [local irreducible] Go.AL.W Go.AL.WL Go.AL.WD Go.AL.POp Go.AL.PPOp Go.AL.POpS Go.AL.PC Go.AL.AC Go.AL.YW Go.AL.Ret Go.AL.Le Go.AL.thn Go.AL.inBlk Go.AL.scp
structure Dat where
  e : Int
  a : Int
  v : Val
  t : Int
  add : Bool
  fr : Int
  to : Int
abbrev dC (d : Dat) : List AV := [.sc (.int .i64 d.e), .sc (.int .i64 d.a), .sc (.int .i64 d.v.kind), .sc (.int .i64 d.v.n), str d.v.s, .sc (.int .i64 d.t), .sc (.bool d.add), .sc (.int .i64 d.fr), .sc (.int .i64 d.to)]
abbrev eD (d : Dat) : AV := .ag (dC d)
structure Prt where
  value : Bool
  n : Int
  v : Val
abbrev pC (p : Prt) : List AV := [.sc (.bool p.value), .sc (.int .i64 p.n), .sc (.int .i64 p.v.kind), .sc (.int .i64 p.v.n), str p.v.s]
abbrev eP (p : Prt) : AV := .ag (pC p)
def val0 : Val := ⟨0, 0, []⟩
def dat0 : Dat := ⟨0, 0, val0, 0, false, 0, 0⟩
def prtN (n : Int) : Prt := ⟨false, n, val0⟩
def prtV (v : Val) : Prt := ⟨true, 0, v⟩
set_option maxHeartbeats 1000000 in
theorem is_pc [GlobF Tryz.prog] (o : Int) : PC Tryz.prog 69 [.sc (.int .i64 o)] (.sc (.bool (dP (1 ≤ o ∧ o ≤ 4)))) := by
  refine PC.of_body Tryz.func69 Tryz.ntmps69 rfl rfl rfl ?_
  repeat' first
    | (apply p1 (hd := rfl); case hop => first | (apply D_move; rfl) | (apply D_assign; rfl) | (apply D_pickT; rfl; rfl) | (apply D_pickF; rfl; rfl) | (apply D_int; rfl; rfl; rfl))
    | refine W_seq ?_
    | refine W_region ?_
    | refine WL_nil ?_
    | (refine idG ?_; first | refine g0t rfl rfl rfl ?_ | refine gr rfl rfl ?_ | refine gs rfl rfl (fun _ => ?_) (fun _ => ?_))
    | refine tn ?_
    | refine W_ret ?_
    | (refine idR ?_; refine ret1 rfl rfl rfl ?_)
    | refine Le.bool ?_
    | fail
  all_goals (refine dP_eq ?_; first | (rw [iLe_t]; omega) | (simp; omega))
def hasP (o : Int) (d : Dat) : Prop := (1 ≤ o ∧ o ≤ 3) ∨ (o = 4 ∧ d.v.kind = 5)
set_option maxHeartbeats 1000000 in
theorem dhas_pc [GlobF Tryz.prog] (o : Int) (d : Dat) : PC Tryz.prog 71 [.sc (.int .i64 o), eD d] (.sc (.bool (dP (hasP o d)))) := by
  refine PC.of_body Tryz.func71 Tryz.ntmps71 rfl rfl rfl ?_
  repeat' first
    | (apply p1 (hd := rfl); case hop => first | (apply D_move; rfl) | (apply D_assign; rfl) | (apply D_load1; rfl) | (apply D_fld; rfl) | (apply D_int; rfl; rfl; rfl) | (apply D_box; rfl; rfl))
    | refine W_seq ?_
    | refine W_region ?_
    | (refine idC ?_; first | refine c1 rfl ?_ | refine cs rfl (fun _ => ?_) (fun _ => ?_))
    | refine WL_nil ?_
    | refine tn ?_
    | refine tr ?_
    | refine br ?_
    | refine bn ?_
    | refine te ?_
    | (refine idB ?_; first | refine bh rfl ?_ | refine bm rfl ?_)
    | refine W_skip ?_
    | refine W_block ?_
    | refine W_exit ?_
    | refine W_ret ?_
    | (refine idR ?_; refine ret1 rfl rfl rfl ?_)
    | refine Le.bool ?_
    | fail
  all_goals (refine dP_eq ?_; unfold hasP; simp; omega)
set_option maxHeartbeats 1000000 in
theorem number_pc [GlobF Tryz.prog] (n : Int) : PC Tryz.prog 125 [.sc (.int .i64 n)] (eP (prtN n)) := by
  refine PC.of_body Tryz.func125 Tryz.ntmps125 rfl rfl rfl ?_
  repeat' first
    | (apply p1 (hd := rfl); case hop => first | (apply D_move; rfl) | exact D_build rfl)
    | refine W_seq ?_
    | refine W_region ?_
    | refine WL_nil ?_
    | refine tn ?_
    | refine W_ret ?_
    | (refine idR ?_; refine rL1 rfl (by first | exact trivial | exact ⟨rfl, trivial⟩) (by first | exact ResO.tmp rfl | exact ResO.cellBA rfl rfl rfl | exact ResO.cellB1 rfl rfl rfl | exact ResO.cellEA rfl rfl | exact ResO.cellE1 rfl) ?_)
    | (refine idA ?_; refine m_alloc rfl ?_)
    | (refine idS ?_; refine pS (S_store rfl rfl rfl rfl rfl rfl rfl) ?_)
    | fail
  all_goals exact Le.of_eq rfl
set_option maxHeartbeats 1000000 in
theorem said_pc [GlobF Tryz.prog] (v : Val) : PC Tryz.prog 139 [eV v] (eP (prtV v)) := by
  refine PC.of_body Tryz.func139 Tryz.ntmps139 rfl rfl rfl ?_
  repeat' first
    | (apply p1 (hd := rfl); case hop => first | (apply D_loadW; rfl; rfl) | (apply D_box; rfl; rfl) | exact D_build rfl)
    | refine W_seq ?_
    | refine W_region ?_
    | refine WL_nil ?_
    | refine tn ?_
    | refine W_ret ?_
    | (refine idR ?_; refine rL1 rfl (by first | exact trivial | exact ⟨rfl, trivial⟩) (by first | exact ResO.tmp rfl | exact ResO.cellBA rfl rfl rfl | exact ResO.cellB1 rfl rfl rfl | exact ResO.cellEA rfl rfl | exact ResO.cellE1 rfl) ?_)
    | (refine idA ?_; refine m_alloc rfl ?_)
    | (refine idS ?_; refine pS (S_store rfl rfl rfl rfl rfl rfl rfl) ?_)
    | fail
  all_goals exact Le.of_eq rfl
set_option maxHeartbeats 1000000 in
theorem added_pc [GlobF Tryz.prog] (d : Dat) : PC Tryz.prog 124 [eD d] (.sc (.int .i64 (if d.add then 0 else 1))) := by
  refine PC.of_body Tryz.func124 Tryz.ntmps124 rfl rfl rfl ?_
  repeat' first
    | (apply p1 (hd := rfl); case hop => first | (apply D_assign; rfl) | (apply D_load1; rfl) | (apply D_fld; rfl) | (apply D_box; rfl; rfl))
    | refine W_seq ?_
    | refine W_region ?_
    | (refine idC ?_; refine cs rfl (fun _ => ?_) (fun _ => ?_))
    | refine WL_nil ?_
    | refine tn ?_
    | refine tr ?_
    | refine W_skip ?_
    | refine W_ret ?_
    | (refine idR ?_; refine ret1 rfl rfl rfl ?_)
    | refine Le.int ?_
    | fail
  all_goals simp_all
def fst1 (o : Int) (d : Dat) : Prt := if o = 1 then prtN d.e else if o = 2 then prtN d.a else if o = 3 then prtN d.a else prtV d.v
def fst2 (o : Int) (d : Dat) : Prt := if o = 1 then prtN d.a else if o = 2 then prtN d.e else if o = 3 then prtV d.v else prtN d.a
def fst3 (o : Int) (d : Dat) : Prt := if o = 1 then prtV d.v else if o = 2 then prtV d.v else if o = 3 then prtN d.e else prtN d.e
def part7 (o : Int) (d : Dat) : List Prt := [fst1 o d, fst2 o d, fst3 o d, prtN d.t, prtN (if d.add then 0 else 1), prtN d.fr, prtN d.to]
abbrev pC3 (p q r : Prt) : List AV := [.sc (.bool p.value), .sc (.int .i64 p.n), .sc (.int .i64 p.v.kind), .sc (.int .i64 p.v.n), str p.v.s, .sc (.bool q.value), .sc (.int .i64 q.n), .sc (.int .i64 q.v.kind), .sc (.int .i64 q.v.n), str q.v.s, .sc (.bool r.value), .sc (.int .i64 r.n), .sc (.int .i64 r.v.kind), .sc (.int .i64 r.v.n), str r.v.s]
set_option maxHeartbeats 4000000 in
theorem first_pc [GlobF Tryz.prog] (o : Int) (d : Dat) : PC Tryz.prog 123 [.sc (.int .i64 o), eD d] (.ag (pC3 (fst1 o d) (fst2 o d) (fst3 o d))) := by
  refine PC.of_body Tryz.func123 Tryz.ntmps123 rfl rfl rfl ?_
  repeat' first
    | (apply p1 (hd := rfl); case hop => first | (apply D_move; rfl) | (apply D_assign; rfl) | (apply D_int; rfl; rfl; rfl) | (apply D_box; rfl; rfl))
    | refine W_seq ?_
    | refine W_region ?_
    | (refine idC ?_; refine cs rfl (fun _ => ?_) (fun _ => ?_))
    | refine WL_nil ?_
    | refine tn ?_
    | refine tr ?_
    | refine br ?_
    | refine bn ?_
    | refine W_skip ?_
    | refine W_block ?_
    | refine W_ret ?_
    | (refine idR ?_; refine rL1 rfl (by first | exact trivial | exact ⟨rfl, trivial⟩) (by first | exact ResO.tmp rfl | exact ResO.cellBA rfl rfl rfl | exact ResO.cellB1 rfl rfl rfl | exact ResO.cellEA rfl rfl | exact ResO.cellE1 rfl) ?_)
    | (refine idA ?_; refine m_alloc rfl ?_)
    | (refine idW ?_; refine W_draw0 rfl ?_)
    | (apply d1 (hd := rfl); case hop => first | (apply D_pc (number_pc _); rfl; exact .same rfl .nil) | (apply D_pc (said_pc d.v); rfl; exact .same rfl .nil) | (apply D_load1; rfl) | (apply D_fld; rfl) | (apply D_loadA; rfl; rfl) | exact D_buildA rfl)
    | (refine idDn ?_; refine dS (S_store rfl rfl rfl rfl rfl rfl rfl) rfl ?_)
    | refine WD_nil (by first | decide +kernel | kernel_rfl | rfl) ?_
    | fail
  all_goals
    first
      | (have h1 : fst1 o d = prtN d.e := by simp [fst1, *]
         have h2 : fst2 o d = prtN d.a := by simp [fst2, *]
         have h3 : fst3 o d = prtV d.v := by simp [fst3, *]
         rw [h1, h2, h3]; exact Le.of_eq rfl)
      | (have h1 : fst1 o d = prtN d.a := by simp [fst1, *]
         have h2 : fst2 o d = prtN d.e := by simp [fst2, *]
         have h3 : fst3 o d = prtV d.v := by simp [fst3, *]
         rw [h1, h2, h3]; exact Le.of_eq rfl)
      | (have h1 : fst1 o d = prtN d.a := by simp [fst1, *]
         have h2 : fst2 o d = prtV d.v := by simp [fst2, *]
         have h3 : fst3 o d = prtN d.e := by simp [fst3, *]
         rw [h1, h2, h3]; exact Le.of_eq rfl)
      | (have h1 : fst1 o d = prtV d.v := by simp [fst1, *]
         have h2 : fst2 o d = prtN d.a := by simp [fst2, *]
         have h3 : fst3 o d = prtN d.e := by simp [fst3, *]
         rw [h1, h2, h3]; exact Le.of_eq rfl)
set_option maxHeartbeats 4000000 in
theorem parts1_ac [GlobF Tryz.prog] (o : Int) (d : Dat) (l : Nat) (I : Nat → List AObj → Prop) (Stop : List AObj → Prop) {h0 : List AObj} (hI : I 0 h0)
    (hy : ∀ (i : Nat) (hi : i < 7) (h : List AObj), I i h → YW Tryz.prog l [.sc (.int .i64 (i : Int)), eP ((part7 o d)[i]'hi)] h (fun b h' => (b = true ∧ I (i + 1) h') ∨ (b = false ∧ Stop h'))) :
    AC Tryz.prog 122 [.sc (.func (.yield l) #[] #[]), .ep [.sc (.int .i64 o)], .ep (dC d)] h0 (fun _ h' => I 7 h' ∨ Stop h') := by
  refine AC.of_body Tryz.func122 Tryz.ntmps122 rfl rfl rfl ?_
  repeat' first
    | (apply p1 (hd := rfl); case hop => first | (apply D_move; rfl) | (apply D_assign; rfl) | (apply D_pc (first_pc o d); rfl; exact .same rfl (.same rfl .nil)) | (apply D_load1; rfl) | (apply D_loadW; rfl; rfl))
    | refine W_seq ?_
    | refine W_region ?_
    | refine WL_nil ?_
    | refine tn ?_
    | refine W_block ?_
    | fail
  refine W_loopL (X := Nat × List AObj) (fun x => [(0, .sc (.func (.yield l) #[] #[])), (2, .ep (dC d)), (4, .sc (.int .i64 (x.1 : Int))), (11, .ag (pC3 (fst1 o d) (fst2 o d) (fst3 o d))), (12, .sc (.int .i64 (x.1 : Int)))]) (fun x => x.2)
    (fun x => x.1 ≤ 3 ∧ I x.1 x.2) (fun x => 3 - x.1) (0, h0) ⟨by show 0 ≤ 3; omega, hI⟩ ⟨rfl, rfl, rfl, rfl, rfl, trivial⟩ rfl ?_
  rintro ⟨i, hi0⟩ ⟨hi, hIi⟩
  simp only at hi hIi
  have hyi := hy i (by omega) _ hIi
  have hc : i = 0 ∨ i = 1 ∨ i = 2 ∨ i = 3 := by omega
  rcases hc with rfl | rfl | rfl | rfl
  all_goals
    repeat' first
      | (apply p1 (hd := rfl); case hop => first | (apply D_move; rfl) | (apply D_assign; rfl) | (apply D_int; rfl; rfl; rfl) | (apply D_not; rfl) | (apply D_loadW; rfl; rfl) | (apply D_ixVA; rfl; rfl; all_goals first | omega | ((repeat rw [w64 _ (by omega) (by omega)]); omega) | decide))
      | refine W_seq ?_
      | refine W_region ?_
      | (refine idC ?_; refine cs rfl (fun _ => ?_) (fun _ => ?_))
      | refine WL_nil ?_
      | refine tn ?_
      | refine tr ?_
      | refine br ?_
      | refine bn ?_
      | refine te ?_
      | (refine idB ?_; refine bh rfl ?_)
      | refine W_skip ?_
      | refine W_block ?_
      | refine W_exit ?_
      | refine W_ret ?_
      | (refine idA ?_; first | refine m_var rfl rfl rfl rfl rfl rfl rfl ?_ | refine m_alloc rfl ?_)
      | (refine m_yield rfl rfl rfl hyi ?_; rintro b h' (⟨rfl, hnx⟩ | ⟨rfl, hst⟩))
      | (refine idW ?_; refine W_draw0 rfl ?_)
      | (apply d1 (hd := rfl); case hop => first | (apply D_move; rfl) | (apply D_pc (added_pc d); rfl; exact .same rfl .nil) | (apply D_load1; rfl) | (apply D_fld; rfl) | (apply D_len_sl; rfl) | (apply D_loadW; rfl; rfl) | (apply D_lit; rfl; rfl; rfl; rfl))
      | refine WD_nil (by first | decide +kernel | kernel_rfl | rfl) ?_
      | fail
  all_goals first
    | contradiction
    | omega
    | exact ret0 (.inl rfl) rfl rfl (.inr (by assumption))
    | (refine ⟨rfl, (_, _), ⟨?_, hnx⟩, ?_, ⟨rfl, rfl, ieq (wsucc _ (by omega)), rfl, ieq (wsucc _ (by omega)), trivial⟩, rfl⟩ <;> (simp only; omega))
    | skip
  refine W_loopL (X := Nat × List AObj) (fun x => [(0, .sc (.func (.yield l) #[] #[])), (4, .sc (.int .i64 ((3 + x.1 : Nat) : Int))), (31, .sl none 1 [[.sc (.int .i64 d.t)], [.sc (.int .i64 (if d.add then 0 else 1))], [.sc (.int .i64 d.fr)], [.sc (.int .i64 d.to)]]), (32, .sc (.int .i64 4)), (33, .sc (.int .i64 (x.1 : Int)))]) (fun x => x.2)
    (fun x => x.1 ≤ 4 ∧ I (3 + x.1) x.2) (fun x => 4 - x.1) (0, hi0) ⟨by show 0 ≤ 4; omega, hIi⟩ ⟨rfl, rfl, rfl, rfl, rfl, trivial⟩ rfl ?_
  rintro ⟨i, hi1⟩ ⟨hi, hIi2⟩
  simp only at hi hIi2
  have hyi := fun h => hy (3 + i) h _ hIi2
  have hc : i = 0 ∨ i = 1 ∨ i = 2 ∨ i = 3 ∨ i = 4 := by omega
  rcases hc with rfl | rfl | rfl | rfl | rfl
  all_goals
    repeat' first
      | (apply p1 (hd := rfl); case hop => first | (apply D_move; rfl) | (apply D_assign; rfl) | (apply D_pc (number_pc _); rfl; exact .same rfl .nil) | (apply D_load1; rfl) | (apply D_int; rfl; rfl; rfl) | (apply D_not; rfl) | (apply D_idxA0; rfl; rfl; omega; (first | omega | (simp; done) | (simp; omega))))
      | refine W_seq ?_
      | refine W_region ?_
      | (refine idC ?_; refine cs rfl (fun _ => ?_) (fun _ => ?_))
      | refine WL_nil ?_
      | refine tn ?_
      | refine tr ?_
      | refine br ?_
      | refine bn ?_
      | refine te ?_
      | (refine idB ?_; refine bh rfl ?_)
      | refine W_skip ?_
      | refine W_block ?_
      | refine W_exit ?_
      | refine W_ret ?_
      | (refine m_yield rfl rfl rfl (hyi (by omega)) ?_; rintro b h' (⟨rfl, hnx⟩ | ⟨rfl, hst⟩))
      | fail
  all_goals first
    | contradiction
    | omega
    | exact ret0 (.inl rfl) rfl rfl (.inr (by assumption))
    | exact ret0 (.inr rfl) rfl rfl (.inl hIi2)
    | (refine ⟨rfl, (1, _), ⟨?_, hnx⟩, ?_, ⟨rfl, ieq (wsucc _ (by omega)), rfl, rfl, ieq (wsucc _ (by omega)), trivial⟩, rfl⟩ <;> (simp only; omega))
    | (refine ⟨rfl, (2, _), ⟨?_, hnx⟩, ?_, ⟨rfl, ieq (wsucc _ (by omega)), rfl, rfl, ieq (wsucc _ (by omega)), trivial⟩, rfl⟩ <;> (simp only; omega))
    | (refine ⟨rfl, (3, _), ⟨?_, hnx⟩, ?_, ⟨rfl, ieq (wsucc _ (by omega)), rfl, rfl, ieq (wsucc _ (by omega)), trivial⟩, rfl⟩ <;> (simp only; omega))
    | (refine ⟨rfl, (4, _), ⟨?_, hnx⟩, ?_, ⟨rfl, ieq (wsucc _ (by omega)), rfl, rfl, ieq (wsucc _ (by omega)), trivial⟩, rfl⟩ <;> (simp only; omega))
theorem parts1_acC [GlobF Tryz.prog] (o : Int) (d : Dat) (l : Nat) (C : Nat → Prop) {h0 : List AObj} {Stop : List AObj → Prop} (hC : C 0)
    (hy : ∀ (i : Nat) (hi : i < 7), C i → YW Tryz.prog l [.sc (.int .i64 (i : Int)), eP ((part7 o d)[i]'hi)] h0 (fun b h' => (b = true ∧ h' = h0 ∧ C (i + 1)) ∨ (b = false ∧ Stop h'))) (hend : C 7 → Stop h0) :
    AC Tryz.prog 122 [.sc (.func (.yield l) #[] #[]), .ep [.sc (.int .i64 o)], .ep (dC d)] h0 (fun _ h' => Stop h') := by
  refine AC.mono (parts1_ac o d l (fun i h => h = h0 ∧ C i) Stop ⟨rfl, hC⟩ ?_) ?_
  · rintro i hi h ⟨rfl, hc⟩
    refine (hy i hi hc).mono ?_
    rintro b h' (⟨h1, h2, h3⟩ | h1)
    · exact .inl ⟨h1, h2, h3⟩
    · exact .inr h1
  · rintro _ h' (⟨rfl, h2⟩ | h1)
    · exact hend h2
    · exact h1
theorem parts1_acX [GlobF Tryz.prog] (o : Int) (d : Dat) (l : Nat) (Hs : Nat → List AObj) (C : Nat → Prop) {h0 : List AObj} {Stop : List AObj → Prop} (hH : Hs 0 = h0) (hC : C 0)
    (hy : ∀ (i : Nat) (hi : i < 7), C i → YW Tryz.prog l [.sc (.int .i64 (i : Int)), eP ((part7 o d)[i]'hi)] (Hs i) (fun b h' => (b = true ∧ h' = Hs (i + 1) ∧ C (i + 1)) ∨ (b = false ∧ Stop h'))) (hend : C 7 → Stop (Hs 7)) :
    AC Tryz.prog 122 [.sc (.func (.yield l) #[] #[]), .ep [.sc (.int .i64 o)], .ep (dC d)] h0 (fun _ h' => Stop h') := by
  refine AC.mono (parts1_ac o d l (fun i h => h = Hs i ∧ C i) Stop ⟨hH.symm, hC⟩ ?_) ?_
  · rintro i hi h ⟨rfl, hc⟩
    refine (hy i hi hc).mono ?_
    rintro b h' (⟨h1, h2, h3⟩ | h1)
    · exact .inl ⟨h1, h2, h3⟩
    · exact .inr h1
  · rintro _ h' (⟨rfl, h2⟩ | h1)
    · exact hend h2
    · exact h1
set_option maxHeartbeats 1000000 in
theorem parts_pc [GlobF Tryz.prog] (o : Int) (d : Dat) : PC Tryz.prog 98 [.sc (.int .i64 o), eD d] (.fn (.func 122) [] [.ep [.sc (.int .i64 o)], .ep (dC d)]) := by
  refine PC.of_body Tryz.func98 Tryz.ntmps98 rfl rfl rfl ?_
  repeat' first
    | (apply p1 (hd := rfl); case hop => first | (apply D_assign; rfl) | (apply D_box; rfl; rfl) | exact D_mkfn rfl)
    | refine W_seq ?_
    | refine W_region ?_
    | refine WL_nil ?_
    | refine tn ?_
    | refine W_ret ?_
    | (refine idR ?_; refine ret1 rfl rfl rfl ?_)
    | fail
  all_goals exact Le.of_eq rfl
def standI (p q : Prt) : Int := if p.value then cmpV p.v q.v else cmpI p.n q.n
set_option maxHeartbeats 1000000 in
theorem stand_pc [GlobF Tryz.prog] (p q : Prt) : PC Tryz.prog 99 [eP p, eP q] (.sc (.int .i64 (standI p q))) := by
  refine PC.of_body Tryz.func99 Tryz.ntmps99 rfl rfl rfl ?_
  repeat' first
    | (apply p1 (hd := rfl); case hop => first | (apply D_assign; rfl) | (apply D_pc (compare_pc p.v q.v); rfl; exact .same rfl (.same rfl .nil)) | (apply D_pc (cmpInt64_pc p.n q.n); rfl; exact .same rfl (.same rfl .nil)) | (apply D_load1; rfl) | (apply D_fld; rfl) | (apply D_loadW; rfl; rfl) | (apply D_box; rfl; rfl))
    | refine W_seq ?_
    | refine W_region ?_
    | (refine idC ?_; refine cs rfl (fun _ => ?_) (fun _ => ?_))
    | refine WL_nil ?_
    | refine tn ?_
    | refine tr ?_
    | refine W_skip ?_
    | refine W_ret ?_
    | (refine idR ?_; refine ret1 rfl rfl rfl ?_)
    | refine Le.int ?_
    | fail
  all_goals simp [standI, *]
theorem part7_len (o : Int) (d : Dat) : (part7 o d).length = 7 := rfl
def cmpPs : List Prt → List Prt → Int
  | p :: a, q :: b => if standI p q = 0 then cmpPs a b else standI p q
  | _, _ => 0
theorem cmpPs_drop : ∀ (i : Nat) (a b : List Prt), (∀ (j : Nat) (h : j < a.length) (h' : j < b.length), j < i → standI a[j] b[j] = 0) → cmpPs a b = cmpPs (a.drop i) (b.drop i)
  | 0, _, _, _ => rfl
  | i + 1, [], b, _ => by simp [cmpPs]
  | i + 1, p :: a, [], _ => by cases a <;> simp [cmpPs]
  | i + 1, p :: a, q :: b, h => by
    have h0 := h 0 (by simp) (by simp) (by omega)
    simp only [List.getElem_cons_zero] at h0
    simp only [cmpPs, h0, if_true, List.drop_succ_cons]
    exact cmpPs_drop i a b fun j h1 h2 hj => by
      have := h (j + 1) (by simpa using h1) (by simpa using h2) (by omega)
      simpa using this
theorem cmpPs_at {a b : List Prt} (i : Nat) (h1 : i < a.length) (h2 : i < b.length) (h : ∀ (j : Nat) (h : j < a.length) (h' : j < b.length), j < i → standI a[j] b[j] = 0) (h3 : standI a[i] b[i] ≠ 0) : cmpPs a b = standI a[i] b[i] := by
  rw [cmpPs_drop i a b h, List.drop_eq_getElem_cons h1, List.drop_eq_getElem_cons h2, cmpPs, if_neg h3]
theorem cmpPs_end {a b : List Prt} (i : Nat) (h1 : a.length ≤ i ∨ b.length ≤ i) (h : ∀ (j : Nat) (h : j < a.length) (h' : j < b.length), j < i → standI a[j] b[j] = 0) : cmpPs a b = 0 := by
  rw [cmpPs_drop i a b h]
  rcases h1 with h1 | h1
  · rw [List.drop_eq_nil_of_le h1]; rfl
  · rw [List.drop_eq_nil_of_le h1]; cases a.drop i <;> rfl
def dmayP (d : Dat) : Prop := 0 ≤ d.e ∧ d.e < 9007199254740992 ∧ 0 ≤ d.a ∧ d.a < 9007199254740992 ∧ mayB d.v = true ∧ 1 ≤ d.t ∧ d.t ≤ 1099511627776 ∧ d.fr < d.to
set_option maxHeartbeats 1000000 in
theorem dmay_pc [GlobF Tryz.prog] (d : Dat) (hl : d.v.s.length < 9223372036854775808) : PC Tryz.prog 81 [eD d] (.sc (.bool (dP (dmayP d)))) := by
  refine PC.of_body Tryz.func81 Tryz.ntmps81 rfl rfl rfl ?_
  repeat' first
    | (apply p1 (hd := rfl); case hop => first | (apply D_move; rfl) | (apply D_assign; rfl) | (apply D_pc (check_pc d.v hl); rfl; exact .same rfl .nil) | (apply D_load1; rfl) | (apply D_fld; rfl) | (apply D_pickT; rfl; rfl) | (apply D_pickF; rfl; rfl) | (apply D_int; rfl; rfl; rfl) | (apply D_loadA; rfl; rfl) | (apply D_box; rfl; rfl))
    | refine W_seq ?_
    | refine W_region ?_
    | refine WL_nil ?_
    | (refine idG ?_; first | refine g0t rfl rfl rfl ?_ | refine gr rfl rfl ?_ | refine gs rfl rfl (fun _ => ?_) (fun _ => ?_))
    | refine tn ?_
    | refine W_ret ?_
    | (refine idR ?_; refine ret1 rfl rfl rfl ?_)
    | refine Le.bool ?_
    | fail
  all_goals (refine dP_eq ?_; unfold dmayP)
  all_goals first
    | (simp only [iLt_t, Bool.false_eq_true]; cases hm : mayB d.v <;> simp_all <;> omega)
    | (simp only [iLt_t, Bool.false_eq_true]; omega)
theorem list4 {α : Type} {a a' b b' c d : α} (h1 : a = a') (h2 : b = b') : [a, b, c, d] = [a', b', c, d] := by rw [h1, h2]
set_option maxHeartbeats 4000000 in
theorem list_pc [GlobF Tryz.prog] (o : Int) (d : Dat) : PC Tryz.prog 97 [.sc (.int .i64 o), eD d] (.sl none 5 ((part7 o d).map pC)) := by
  refine PC.of_body Tryz.func97 Tryz.ntmps97 rfl rfl rfl ?_
  repeat' first
    | (apply p1 (hd := rfl); case hop => first | (apply D_move; rfl) | (apply D_assign; rfl) | (apply D_pc (parts_pc o d); rfl; exact .same rfl (.same rfl .nil)) | (apply D_loadW; rfl; rfl) | (apply D_box; rfl; rfl))
    | refine W_seq ?_
    | refine W_region ?_
    | refine WL_nil ?_
    | refine tn ?_
    | refine W_block ?_
    | (refine idA ?_; refine m_alloc rfl ?_)
    | fail
  refine W_adoptC 0 0 5 132 rfl rfl ?_
  refine W_range (.inl rfl) fun r => ?_
  refine parts1_acX o d r (fun i => [.cells [.sl (some 1) 5 (((part7 o d).take i).map pC)], .tail i 5 132, _, _]) (fun _ => True) rfl trivial ?_ ?_
  · rintro i hi -
    have hl : ((part7 o d).take i).length = i := by rw [List.length_take, part7_len]; omega
    have e : ((part7 o d).take (i + 1)).map pC = ((part7 o d).take i).map pC ++ [pC ((part7 o d)[i]'hi)] := by
      rw [List.take_succ_eq_append_getElem hi, List.map_append]; rfl
    refine YW.round (r := 3) rfl rfl rfl ?_
    repeat' first
      | refine W_region ?_
      | refine WL_nil ?_
      | (refine idA ?_; refine m_var rfl rfl rfl rfl rfl rfl rfl ?_)
      | fail
    refine ⟨rfl, rfl, ?_⟩
    repeat' first
      | (apply p1 (hd := rfl); case hop => first | (apply D_loadW; rfl; rfl) | (apply D_lit; rfl; rfl; rfl; rfl))
      | refine W_region ?_
      | refine WL_nil ?_
      | refine bn ?_
      | refine W_block ?_
      | (refine idLd ?_; refine p1L (D_loadB1 rfl rfl rfl) rfl ?_)
      | (refine idS ?_; refine pS (S_store rfl rfl rfl rfl rfl rfl rfl) ?_)
      | (refine idAp ?_; refine m_app rfl rfl (by first | rfl | assumption | exact get_set (by assumption) | exact get_set (get_set (by assumption)) | exact get_set (get_set (get_set (by assumption))) | ((repeat first | assumption | exact get_last | (refine get_last2 ?_; focus (simp; done)) | apply get_set | apply get_app | (apply get_ne; focus omega)); done)) ?_ rfl rfl ?_ ?_ rfl ?_; (first | rfl | focus (simp only [List.length_map, List.length_append, List.length_cons, List.length_nil]; omega) | focus (simp; done) | focus (simp; omega)); (first | focus (simp only [List.length_map, List.length_append, List.length_cons, List.length_nil]; omega) | focus (simp; done) | focus (simp; omega)); (first | focus (simp only [List.length_map, List.length_append, List.length_cons, List.length_nil]; omega) | focus (simp; done) | focus (simp; omega)))
      | fail
    refine ⟨rfl, ⟨_, _, rfl⟩, .inl ⟨rfl, list4 ?_ ?_, trivial⟩⟩
    · rw [e]; rfl
    · rw [List.length_map, hl]; rfl
  · intro _
    refine ⟨_, _, rfl, by decide, ?_⟩
    repeat' first
      | (apply p1 (hd := rfl); case hop => (apply D_assign; rfl))
      | refine W_seq ?_
      | refine W_region ?_
      | refine WL_nil ?_
      | refine tn ?_
      | refine bn ?_
      | refine W_ret ?_
      | (refine idR ?_; refine rL1 rfl (by first | exact trivial | exact ⟨rfl, trivial⟩) (by first | exact ResO.tmp rfl | exact ResO.cellBA rfl rfl rfl | exact ResO.cellB1 rfl rfl rfl | exact ResO.cellEA rfl rfl | exact ResO.cellE1 rfl) ?_)
      | (refine idLd ?_; refine p1L (D_loadB1 rfl rfl rfl) rfl ?_)
      | fail
    exact Le.tokq rfl
set_option maxHeartbeats 4000000 in
theorem dcmp_pc [GlobF Tryz.prog] (o : Int) (a b : Dat) : PC Tryz.prog 74 [.sc (.int .i64 o), eD a, eD b] (.sc (.int .i64 (if 1 ≤ o ∧ o ≤ 4 then cmpPs (part7 o a) (part7 o b) else 0))) := by
  refine PC.of_body Tryz.func74 Tryz.ntmps74 rfl rfl rfl ?_
  repeat' first
    | (apply p1 (hd := rfl); case hop => first | (apply D_move; rfl) | (apply D_assign; rfl) | (apply D_pc (is_pc o); rfl; exact .same rfl .nil) | (apply D_pc (list_pc o b); rfl; exact .same rfl (.same rfl .nil)) | (apply D_pc (parts_pc o a); rfl; exact .same rfl (.same rfl .nil)) | (apply D_not; rfl) | (apply D_loadW; rfl; rfl) | (apply D_box; rfl; rfl))
    | refine W_seq ?_
    | refine W_region ?_
    | (refine idC ?_; refine cs rfl (fun _ => ?_) (fun _ => ?_))
    | refine WL_nil ?_
    | refine tn ?_
    | refine tr ?_
    | refine W_skip ?_
    | refine W_block ?_
    | refine W_ret ?_
    | refine W_label ?_
    | refine W_scope ?_
    | refine sr ?_
    | (refine idR ?_; refine ret1 rfl rfl rfl ?_)
    | (refine idLd ?_; refine p1L (D_loadB1 rfl rfl rfl) rfl ?_)
    | (refine idA ?_; refine m_alloc rfl ?_)
    | (refine idS ?_; refine pS (S_store rfl rfl rfl rfl rfl rfl rfl) ?_)
    | refine Le.int ?_
    | fail
  · rename_i h1
    rw [if_neg h1]
  rename_i h1
  rw [if_pos h1]
  refine W_range (.inl rfl) fun r => ?_
  refine parts1_acC o a r (fun i => ∀ (j : Nat) (h : j < (part7 o a).length) (h' : j < (part7 o b).length), j < i → standI (part7 o a)[j] (part7 o b)[j] = 0) (fun j h h' hj => absurd hj (Nat.not_lt_zero j)) ?_ ?_
  · intro i hi hc
    have hib : i < (part7 o b).length := hi
    refine YW.round (r := 3) rfl rfl rfl ?_
    repeat' first
      | (apply p1 (hd := rfl); case hop => (apply D_assign; rfl))
      | refine W_seq ?_
      | refine W_region ?_
      | refine WL_nil ?_
      | refine tn ?_
      | (refine idA ?_; refine m_var rfl rfl rfl rfl rfl rfl rfl ?_)
      | fail
    refine ⟨rfl, rfl, ?_⟩
    repeat' first
      | (apply p1 (hd := rfl); case hop => (apply D_int; rfl; rfl; rfl))
      | refine W_seq ?_
      | refine W_region ?_
      | (refine idC ?_; refine cs rfl (fun _ => ?_) (fun _ => ?_))
      | refine WL_nil ?_
      | refine tn ?_
      | refine bn ?_
      | (refine idB ?_; refine bm rfl ?_)
      | refine W_skip ?_
      | refine W_block ?_
      | refine W_exit ?_
      | (refine idLd ?_; refine p1L (D_loadB1 rfl rfl rfl) rfl ?_)
      | (refine idW ?_; refine W_draw0 rfl ?_)
      | (apply d1 (hd := rfl); case hop => first | (apply D_move; rfl) | (apply D_pc (stand_pc ((part7 o a)[i]) ((part7 o b)[i])); rfl; exact .same rfl (.same rfl .nil)) | (apply D_loadW; rfl; rfl) | (apply D_idxAn; rfl; rfl; (first | omega | (simp; done))))
      | (refine idDn ?_; first | refine dL _ (fun hp' hs => D_loadB1 rfl (hs.trans rfl) rfl) rfl ?_ | refine dS (S_store rfl rfl rfl rfl rfl rfl rfl) rfl ?_)
      | refine WD_nil (by first | decide +kernel | kernel_rfl | rfl) ?_
      | fail
    · rename_i h3
      refine ⟨rfl, ⟨_, _, rfl⟩, .inr ⟨rfl, _, _, rfl, by decide, ?_⟩⟩
      repeat' first
        | (apply p1 (hd := rfl); case hop => (apply D_assign; rfl))
        | refine W_seq ?_
        | refine W_region ?_
        | refine WL_nil ?_
        | refine tn ?_
        | (refine idB ?_; refine bh rfl ?_)
        | refine W_ret ?_
        | refine sr ?_
        | (refine idR ?_; refine rL1 rfl (by first | exact trivial | exact ⟨rfl, trivial⟩) (by first | exact ResO.tmp rfl | exact ResO.cellBA rfl rfl rfl | exact ResO.cellB1 rfl rfl rfl | exact ResO.cellEA rfl rfl | exact ResO.cellE1 rfl) ?_)
        | (refine idLd ?_; refine p1L (D_loadB1 rfl rfl rfl) rfl ?_)
        | refine Le.int ?_
        | fail
      exact (cmpPs_at (a := part7 o a) (b := part7 o b) i hi hib hc h3).symm
    · rename_i h3
      refine ⟨rfl, ⟨_, _, rfl⟩, .inl ⟨rfl, ?_, fun j h h' hj => ?_⟩⟩
      · show [AObj.cells [.sc (.int .i64 (standI ((part7 o a)[i]) ((part7 o b)[i])))], _, _, _] = _
        rw [h3]; rfl
      · by_cases e : j = i
        · subst e; exact h3
        · exact hc j h h' (by omega)
  · intro hc
    refine ⟨_, _, rfl, by decide, ?_⟩
    repeat' first
      | (apply p1 (hd := rfl); case hop => (apply D_assign; rfl))
      | refine W_seq ?_
      | refine W_region ?_
      | refine WL_nil ?_
      | refine tn ?_
      | refine bn ?_
      | refine W_ret ?_
      | refine sr ?_
      | (refine idR ?_; refine rL1 rfl (by first | exact trivial | exact ⟨rfl, trivial⟩) (by first | exact ResO.tmp rfl | exact ResO.cellBA rfl rfl rfl | exact ResO.cellB1 rfl rfl rfl | exact ResO.cellEA rfl rfl | exact ResO.cellE1 rfl) ?_)
      | (refine idLd ?_; refine p1L (D_loadB1 rfl rfl rfl) rfl ?_)
      | refine Le.int ?_
      | fail
    exact (cmpPs_end (a := part7 o a) (b := part7 o b) 7 (.inl (Nat.le_of_eq (part7_len o a))) fun j h h' hj => hc j h h' hj).symm
theorem cb_lt {x y : UInt8} {a b : List UInt8} (h : x.toNat < y.toNat) : Lib.compareBytes (x :: a) (y :: b) = -1 := by
  rw [Lib.compareBytes, if_pos (UInt8.lt_iff_toNat_lt.2 h)]
theorem cb_gt {x y : UInt8} {a b : List UInt8} (h : y.toNat < x.toNat) : Lib.compareBytes (x :: a) (y :: b) = 1 := by
  rw [Lib.compareBytes, if_neg (by rw [UInt8.lt_iff_toNat_lt]; omega), if_pos (UInt8.lt_iff_toNat_lt.2 h)]
theorem cb_eq (x : UInt8) (a b : List UInt8) : Lib.compareBytes (x :: a) (x :: b) = Lib.compareBytes a b := by
  rw [Lib.compareBytes, if_neg (by rw [UInt8.lt_iff_toNat_lt]; omega), if_neg (by rw [UInt8.lt_iff_toNat_lt]; omega)]
noncomputable instance : DecidableEq Val := fun _ _ => Classical.propDecidable _
theorem wc_cmpI : WC cmpI := by
  constructor
  · intro x y; unfold cmpI; split <;> split <;> (try split) <;> (try split) <;> omega
  · intro x y z; unfold cmpI; intro h1 h2
    split at h1 <;> split at h2 <;> (try split at h1) <;> (try split at h2) <;> split <;> (try split) <;> omega
theorem cb_cases (x y : UInt8) (a b : List UInt8) : (x.toNat < y.toNat ∧ Lib.compareBytes (x :: a) (y :: b) = -1 ∧ Lib.compareBytes (y :: b) (x :: a) = 1) ∨ (y.toNat < x.toNat ∧ Lib.compareBytes (x :: a) (y :: b) = 1 ∧ Lib.compareBytes (y :: b) (x :: a) = -1) ∨
    (x = y ∧ Lib.compareBytes (x :: a) (y :: b) = Lib.compareBytes a b ∧ Lib.compareBytes (y :: b) (x :: a) = Lib.compareBytes b a) := by
  rcases Nat.lt_trichotomy x.toNat y.toNat with h | h | h
  · exact .inl ⟨h, cb_lt h, cb_gt h⟩
  · have e : x = y := UInt8.toNat.inj h
    subst e; exact .inr (.inr ⟨rfl, cb_eq _ _ _, cb_eq _ _ _⟩)
  · exact .inr (.inl ⟨h, cb_gt h, cb_lt h⟩)
theorem cb_anti : ∀ a b : List UInt8, Lib.compareBytes a b < 0 ↔ 0 < Lib.compareBytes b a
  | [], [] => by simp [Lib.compareBytes]
  | [], y :: b => by simp [Lib.compareBytes]
  | x :: a, [] => by simp [Lib.compareBytes]
  | x :: a, y :: b => by
    have ih := cb_anti a b
    rcases cb_cases x y a b with ⟨_, e1, e2⟩ | ⟨_, e1, e2⟩ | ⟨_, e1, e2⟩
    · rw [e1, e2]; omega
    · rw [e1, e2]; omega
    · rw [e1, e2]; exact ih
theorem cb_le : ∀ a b c : List UInt8, Lib.compareBytes a b ≤ 0 → Lib.compareBytes b c ≤ 0 → Lib.compareBytes a c ≤ 0
  | [], b, [], _, _ => by simp [Lib.compareBytes]
  | [], b, z :: c, _, _ => by simp [Lib.compareBytes]
  | x :: a, [], c, h, _ => by simp [Lib.compareBytes] at h
  | x :: a, y :: b, [], _, h => by simp [Lib.compareBytes] at h
  | x :: a, y :: b, z :: c, h1, h2 => by
    have ih := cb_le a b c
    rcases cb_cases x y a b with ⟨p, e1, _⟩ | ⟨p, e1, _⟩ | ⟨p, e1, _⟩
    · rcases cb_cases y z b c with ⟨q, e3, _⟩ | ⟨q, e3, _⟩ | ⟨q, e3, _⟩
      · rw [cb_lt (by omega)]; omega
      · rw [e3] at h2; omega
      · subst q; rw [cb_lt p]; omega
    · rw [e1] at h1; omega
    · subst p
      rcases cb_cases x z b c with ⟨q, e3, _⟩ | ⟨q, e3, _⟩ | ⟨q, e3, _⟩
      · rw [cb_lt q]; omega
      · rw [e3] at h2; omega
      · subst q; rw [cb_eq]; rw [e1] at h1; rw [e3] at h2; exact ih h1 h2
theorem wc_cb : WC Lib.compareBytes := ⟨cb_anti, cb_le⟩
theorem wc_cmpV : WC cmpV := by
  have e : cmpV = fun a b => if cmpI a.kind b.kind = 0 then (if cmpI a.n b.n = 0 then Lib.compareBytes a.s b.s else cmpI a.n b.n) else cmpI a.kind b.kind := by
    funext a b
    simp only [cmpV, orI]
    split
    · split
      · split
        · rename_i h; exact h.symm
        · rfl
      · rfl
    · rfl
  rw [e]
  exact (wc_cmpI.comap Val.kind).lex ((wc_cmpI.comap Val.n).lex (wc_cb.comap Val.s))
def lexD : List (Dat → Dat → Int) → Dat → Dat → Int
  | [], _, _ => 0
  | c :: cs, a, b => if c a b = 0 then lexD cs a b else c a b
theorem wc_lexD : ∀ {cs : List (Dat → Dat → Int)}, (∀ c, c ∈ cs → WC c) → WC (lexD cs)
  | [], _ => ⟨fun _ _ => by simp [lexD], fun _ _ _ _ _ => by simp [lexD]⟩
  | c :: cs, h => (h c (.head _)).lex (wc_lexD fun d hd => h d (.tail _ hd))
def cmpD (o : Int) (a b : Dat) : Int := cmpPs (part7 o a) (part7 o b)
abbrev cE (a b : Dat) : Int := cmpI a.e b.e
abbrev cA (a b : Dat) : Int := cmpI a.a b.a
abbrev cVv (a b : Dat) : Int := cmpV a.v b.v
abbrev cRest : List (Dat → Dat → Int) := [fun a b => cmpI a.t b.t, fun a b => cmpI (if a.add then 0 else 1) (if b.add then 0 else 1), fun a b => cmpI a.fr b.fr, fun a b => cmpI a.to b.to]
theorem wc_cmpD (o : Int) : WC (cmpD o) := by
  have hr : ∀ c, c ∈ cRest → WC c := fun c hc => by
    simp only [cRest, List.mem_cons, List.not_mem_nil, or_false] at hc
    rcases hc with rfl | rfl | rfl | rfl
    · exact wc_cmpI.comap Dat.t
    · exact wc_cmpI.comap fun d : Dat => if d.add then 0 else 1
    · exact wc_cmpI.comap Dat.fr
    · exact wc_cmpI.comap Dat.to
  have h3 : ∀ c1 c2 c3 : Dat → Dat → Int, WC c1 → WC c2 → WC c3 → WC (lexD (c1 :: c2 :: c3 :: cRest)) := fun c1 c2 c3 h1 h2 h3 => h1.lex (h2.lex (h3.lex (wc_lexD hr)))
  have wE : WC cE := wc_cmpI.comap Dat.e
  have wA : WC cA := wc_cmpI.comap Dat.a
  have wV : WC cVv := wc_cmpV.comap Dat.v
  by_cases h1 : o = 1
  · subst h1
    have e : cmpD 1 = lexD (cE :: cA :: cVv :: cRest) := by funext a b; rfl
    rw [e]; exact h3 _ _ _ wE wA wV
  · by_cases h2 : o = 2
    · subst h2
      have e : cmpD 2 = lexD (cA :: cE :: cVv :: cRest) := by funext a b; rfl
      rw [e]; exact h3 _ _ _ wA wE wV
    · by_cases h3' : o = 3
      · subst h3'
        have e : cmpD 3 = lexD (cA :: cVv :: cE :: cRest) := by funext a b; rfl
        rw [e]; exact h3 _ _ _ wA wV wE
      · have e4 : ∀ d, part7 o d = part7 4 d := fun d => by simp [part7, fst1, fst2, fst3, h1, h2, h3']
        have e : cmpD o = lexD (cVv :: cA :: cE :: cRest) := by funext a b; unfold cmpD; rw [e4, e4]; rfl
        rw [e]; exact h3 _ _ _ wV wA wE
set_option maxHeartbeats 1000000 in
theorem dcheck_pc [GlobF Tryz.prog] (d : Dat) (hl : d.v.s.length < 9223372036854775808) : PC Tryz.prog 47 [eD d] (.sc (.int .i64 (if dP (dmayP d) then 0 else 40))) := by
  refine PC.of_body Tryz.func47 Tryz.ntmps47 rfl rfl rfl ?_
  repeat' first
    | (apply p1 (hd := rfl); case hop => first | (apply D_assign; rfl) | (apply D_pc (dmay_pc d hl); rfl; exact .same rfl .nil) | (apply D_not; rfl) | (apply D_loadW; rfl; rfl) | (apply D_box; rfl; rfl))
    | refine W_seq ?_
    | refine W_region ?_
    | (refine idC ?_; refine cs rfl (fun _ => ?_) (fun _ => ?_))
    | refine WL_nil ?_
    | refine tn ?_
    | refine tr ?_
    | refine W_skip ?_
    | refine W_ret ?_
    | (refine idR ?_; refine ret1 rfl rfl rfl ?_)
    | refine Le.int ?_
    | fail
  all_goals
    simp [dP_t, *]
instance : Inhabited Dat := ⟨dat0⟩
noncomputable def hasB (o : Int) (d : Dat) : Bool := dP (hasP o d)
set_option maxHeartbeats 4000000 in
theorem dele_pc [GlobF Tryz.prog] (o : Int) (d : Dat) : PC Tryz.prog 70 [eD d, .ep [.sc (.int .i64 o)]] (.sc (.bool (!hasB o d))) := by
  refine PC.of_body Tryz.func70 Tryz.ntmps70 rfl rfl rfl ?_
  repeat' first
    | (apply p1 (hd := rfl); case hop => first | (apply D_assign; rfl) | (apply D_pc (dhas_pc o d); rfl; exact .same rfl (.same rfl .nil)) | (apply D_load1; rfl) | (apply D_not; rfl) | (apply D_loadW; rfl; rfl) | (apply D_box; rfl; rfl))
    | refine W_seq ?_
    | refine W_region ?_
    | refine WL_nil ?_
    | refine tn ?_
    | refine W_ret ?_
    | (refine idR ?_; refine ret1 rfl rfl rfl ?_)
    | refine Le.bool ?_
    | fail
  all_goals (show bNot (hasB o d) = _; unfold bNot; rfl)
set_option maxHeartbeats 4000000 in
theorem ordc_pc [GlobF Tryz.prog] (o : Int) (ho : 1 ≤ o ∧ o ≤ 4) (a b : Dat) : PC Tryz.prog 73 [eD a, eD b, .ep [.sc (.int .i64 o)]] (.sc (.int .i64 (cmpD o a b))) := by
  refine PC.of_body Tryz.func73 Tryz.ntmps73 rfl rfl rfl ?_
  repeat' first
    | (apply p1 (hd := rfl); case hop => first | (apply D_assign; rfl) | (apply D_pc (dcmp_pc o a b); rfl; exact .same rfl (.same rfl (.same rfl .nil))) | (apply D_load1; rfl) | (apply D_loadW; rfl; rfl) | (apply D_box; rfl; rfl))
    | refine W_seq ?_
    | refine W_region ?_
    | refine WL_nil ?_
    | refine tn ?_
    | refine W_ret ?_
    | (refine idR ?_; refine ret1 rfl rfl rfl ?_)
    | refine Le.int ?_
    | fail
  all_goals (rw [if_pos ho]; rfl)
theorem cmpD_z (o : Int) (a b : Dat) (h : cmpD o a b = 0) : a = b := by
  obtain ⟨e, c, v, t, ad, fr, to⟩ := a
  obtain ⟨e', c', v', t', ad', fr', to'⟩ := b
  have key : ∀ (x1 x2 x3 y1 y2 y3 : Prt), (standI x1 y1 = 0 → standI x2 y2 = 0 → standI x3 y3 = 0 → e = e' ∧ c = c' ∧ v = v') →
      cmpPs [x1, x2, x3, prtN t, prtN (if ad then 0 else 1), prtN fr, prtN to] [y1, y2, y3, prtN t', prtN (if ad' then 0 else 1), prtN fr', prtN to'] = 0 → (⟨e, c, v, t, ad, fr, to⟩ : Dat) = ⟨e', c', v', t', ad', fr', to'⟩ := by
    intro x1 x2 x3 y1 y2 y3 hk g
    simp only [cmpPs] at g
    by_cases h1 : standI x1 y1 = 0
    · rw [if_pos h1] at g
      by_cases h2 : standI x2 y2 = 0
      · rw [if_pos h2] at g
        by_cases h3 : standI x3 y3 = 0
        · rw [if_pos h3] at g
          obtain ⟨rfl, rfl, rfl⟩ := hk h1 h2 h3
          have hn : ∀ m n : Int, standI (prtN m) (prtN n) = 0 → m = n := fun m n e => (cmpI_z m n).1 e
          by_cases h4 : standI (prtN t) (prtN t') = 0
          · rw [if_pos h4] at g
            by_cases h5 : standI (prtN (if ad then 0 else 1)) (prtN (if ad' then 0 else 1)) = 0
            · rw [if_pos h5] at g
              by_cases h6 : standI (prtN fr) (prtN fr') = 0
              · rw [if_pos h6] at g
                by_cases h7 : standI (prtN to) (prtN to') = 0
                · have e4 := hn _ _ h4
                  have e5 := hn _ _ h5
                  have e6 := hn _ _ h6
                  have e7 := hn _ _ h7
                  have e8 : ad = ad' := by cases ad <;> cases ad' <;> simp at e5 ⊢
                  rw [e4, e6, e7, e8]
                · rw [if_neg h7] at g; exact absurd g h7
              · rw [if_neg h6] at g; exact absurd g h6
            · rw [if_neg h5] at g; exact absurd g h5
          · rw [if_neg h4] at g; exact absurd g h4
        · rw [if_neg h3] at g; exact absurd g h3
      · rw [if_neg h2] at g; exact absurd g h2
    · rw [if_neg h1] at g; exact absurd g h1
  refine key _ _ _ _ _ _ ?_ h
  have hn : ∀ m n : Int, standI (prtN m) (prtN n) = 0 → m = n := fun m n e => (cmpI_z m n).1 e
  have hv : ∀ m n : Val, standI (prtV m) (prtV n) = 0 → m = n := fun m n e => (cmpV_z m n).1 e
  unfold fst1 fst2 fst3
  intro g1 g2 g3
  split at g1
  · rename_i h1
    simp only [h1, if_true] at g1 g2 g3
    exact ⟨hn _ _ g1, hn _ _ g2, hv _ _ g3⟩
  · rename_i h1
    split at g1
    · rename_i h2
      simp only [h1, h2, if_true, if_false] at g1 g2 g3
      exact ⟨hn _ _ g2, hn _ _ g1, hv _ _ g3⟩
    · rename_i h2
      split at g1
      · rename_i h3
        simp only [h1, h2, h3, if_true, if_false] at g1 g2 g3
        exact ⟨hn _ _ g3, hn _ _ g1, hv _ _ g2⟩
      · rename_i h3
        simp only [h1, h2, h3, if_true, if_false] at g1 g2 g3
        exact ⟨hn _ _ g3, hn _ _ g2, hv _ _ g1⟩
end Go.Proofs
