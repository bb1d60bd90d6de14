/- Contracts of datoms' functions: parts of a datom. -/
import Derived.Test.YtpfalehodcbnbaaAV3
import Derived.Test.YtpfalehodcbnbaaOps5
namespace Go.Proofs
open Go.AL
attribute [local irreducible] Go.AL.W Go.AL.WL Go.AL.WD Go.AL.POp Go.AL.PPOp Go.AL.POpS Go.AL.PC Go.AL.AC Go.AL.YW Go.AL.Ret Go.AL.Le Go.AL.thn Go.AL.inBlk

structure Dat where
  e : Int
  a : Int
  v : Val
  t : Int
  add : Bool
  fr : Int
  to : Int
abbrev dC (d : Dat) : List AV := [.sc (.int .i64 d.e), .sc (.int .i64 d.a), .sc (.int .i64 d.v.kind), .sc (.int .i64 d.v.n), str d.v.s, .sc (.int .i64 d.t), .sc (.bool d.add), .sc (.int .i64 d.fr), .sc (.int .i64 d.to)]
abbrev eD (d : Dat) : AV := .ag (dC d)
structure Prt where
  value : Bool
  n : Int
  v : Val
abbrev pC (p : Prt) : List AV := [.sc (.bool p.value), .sc (.int .i64 p.n), .sc (.int .i64 p.v.kind), .sc (.int .i64 p.v.n), str p.v.s]
abbrev eP (p : Prt) : AV := .ag (pC p)
def val0 : Val := ⟨0, 0, []⟩
def dat0 : Dat := ⟨0, 0, val0, 0, false, 0, 0⟩
def prtN (n : Int) : Prt := ⟨false, n, val0⟩
def prtV (v : Val) : Prt := ⟨true, 0, v⟩

set_option maxHeartbeats 1000000 in
theorem is_pc [GlobF Try.prog] (o : Int) : PC Try.prog 47 [.sc (.int .i64 o)] (.sc (.bool (dP (1 ≤ o ∧ o ≤ 4)))) := by
  refine PC.of_body Try.func47 Try.ntmps47 rfl rfl rfl ?_
  repeat' first
    | (apply p1 (hd := rfl); case hop => first | (apply D_move; rfl) | (apply D_assign; rfl) | (apply D_pickT; rfl; rfl) | (apply D_pickF; rfl; rfl) | (apply D_int; rfl; rfl; rfl))
    | refine W_seq ?_
    | refine W_region ?_
    | refine WL_nil ?_
    | (refine idG ?_; first | refine g0t rfl rfl rfl ?_ | refine g0f rfl rfl rfl ?_ | refine g0u rfl rfl rfl ?_ | refine gr rfl rfl ?_ | refine gs rfl rfl (fun _ => ?_) (fun _ => ?_) | refine grn rfl rfl ?_)
    | refine tn ?_
    | refine tr ?_
    | refine br ?_
    | refine bn ?_
    | refine te ?_
    | (refine idB ?_; first | refine bh rfl ?_ | refine bm rfl ?_)
    | refine W_skip ?_
    | refine W_block ?_
    | refine W_exit ?_
    | refine W_ret ?_
    | refine W_label ?_
    | refine W_scope ?_
    | refine sn ?_
    | refine sr ?_
    | refine se ?_
    | (refine idR ?_; first | refine ret1 rfl rfl rfl ?_ | refine rL1 rfl (by first | exact trivial | exact ⟨rfl, trivial⟩) (by first | exact ResO.tmp rfl | exact ResO.cellBA rfl rfl rfl | exact ResO.cellB1 rfl rfl rfl | exact ResO.cellEA rfl rfl | exact ResO.cellE1 rfl) ?_)
    | refine Le.bool ?_
    | refine Le.int ?_
    | refine Le.str ?_
  all_goals (refine dP_eq ?_; first | (rw [iLe_t]; omega) | (simp; omega))

def hasP (o : Int) (d : Dat) : Prop := (1 ≤ o ∧ o ≤ 3) ∨ (o = 4 ∧ d.v.kind = 5)
set_option maxHeartbeats 1000000 in
theorem has_pc [GlobF Try.prog] (o : Int) (d : Dat) : PC Try.prog 52 [.sc (.int .i64 o), eD d] (.sc (.bool (dP (hasP o d)))) := by
  refine PC.of_body Try.func52 Try.ntmps52 rfl rfl rfl ?_
  repeat' first
    | (apply p1 (hd := rfl); case hop => first | (apply D_move; rfl) | (apply D_assign; rfl) | (apply D_load1; rfl) | (apply D_fld; rfl) | (apply D_int; rfl; rfl; rfl) | (apply D_loadW; rfl; rfl) | (apply D_loadA; rfl; rfl) | (apply D_box; rfl; rfl) | exact D_fldB rfl)
    | refine W_seq ?_
    | refine W_region ?_
    | (refine idC ?_; first | refine c1 rfl ?_ | refine c0 rfl ?_ | refine cs rfl (fun _ => ?_) (fun _ => ?_))
    | refine WL_nil ?_
    | refine tn ?_
    | refine tr ?_
    | refine br ?_
    | refine bn ?_
    | refine te ?_
    | (refine idB ?_; first | refine bh rfl ?_ | refine bm rfl ?_)
    | refine W_skip ?_
    | refine W_block ?_
    | refine W_exit ?_
    | refine W_ret ?_
    | refine W_label ?_
    | refine W_scope ?_
    | refine sn ?_
    | refine sr ?_
    | refine se ?_
    | (refine idR ?_; first | refine ret1 rfl rfl rfl ?_ | refine rL1 rfl (by first | exact trivial | exact ⟨rfl, trivial⟩) (by first | exact ResO.tmp rfl | exact ResO.cellBA rfl rfl rfl | exact ResO.cellB1 rfl rfl rfl | exact ResO.cellEA rfl rfl | exact ResO.cellE1 rfl) ?_)
    | (refine idLd ?_; first | refine p1L (D_loadB1 rfl rfl rfl) rfl ?_ | refine p1L (D_loadBA rfl rfl rfl) rfl ?_ | refine p1L (D_loadB1 rfl (by (repeat first | assumption | exact get_last | (refine get_last2 ?_; focus (simp; done)) | apply get_set | apply get_app | (apply get_ne; focus omega) | (apply get_ne; focus (simp only [List.length_set, List.length_append, List.length_cons, List.length_nil]; omega))); done) (by rfl)) rfl ?_ | refine p1L (D_loadBA rfl (by (repeat first | assumption | exact get_last | (refine get_last2 ?_; focus (simp; done)) | apply get_set | apply get_app | (apply get_ne; focus omega) | (apply get_ne; focus (simp only [List.length_set, List.length_append, List.length_cons, List.length_nil]; omega))); done) (by rfl)) rfl ?_)
    | refine Le.bool ?_
    | refine Le.int ?_
    | refine Le.str ?_
  all_goals (refine dP_eq ?_; unfold hasP; simp; omega)

set_option maxHeartbeats 1000000 in
theorem number_pc [GlobF Try.prog] (n : Int) : PC Try.prog 79 [.sc (.int .i64 n)] (eP (prtN n)) := by
  refine PC.of_body Try.func79 Try.ntmps79 rfl rfl rfl ?_
  repeat' first
    | (apply p1 (hd := rfl); case hop => first | (apply D_move; rfl) | exact D_build rfl | exact D_buildA rfl)
    | refine W_seq ?_
    | refine W_region ?_
    | refine WL_nil ?_
    | refine tn ?_
    | refine tr ?_
    | refine br ?_
    | refine bn ?_
    | refine te ?_
    | (refine idB ?_; first | refine bh rfl ?_ | refine bm rfl ?_)
    | refine W_skip ?_
    | refine W_block ?_
    | refine W_exit ?_
    | refine W_ret ?_
    | refine W_label ?_
    | refine W_scope ?_
    | refine sn ?_
    | refine sr ?_
    | refine se ?_
    | (refine idR ?_; first | refine ret1 rfl rfl rfl ?_ | refine rL1 rfl (by first | exact trivial | exact ⟨rfl, trivial⟩) (by first | exact ResO.tmp rfl | exact ResO.cellBA rfl rfl rfl | exact ResO.cellB1 rfl rfl rfl | exact ResO.cellEA rfl rfl | exact ResO.cellE1 rfl) ?_)
    | (refine idA ?_; first | refine m_var rfl rfl rfl rfl rfl rfl rfl ?_ | refine m_alloc rfl ?_)
    | (refine idS ?_; first | refine pS (S_store rfl rfl rfl rfl rfl rfl rfl) ?_ | refine pS (S_store rfl rfl rfl (by (repeat first | assumption | exact get_last | (refine get_last2 ?_; focus (simp; done)) | apply get_set | apply get_app | (apply get_ne; focus omega) | (apply get_ne; focus (simp only [List.length_set, List.length_append, List.length_cons, List.length_nil]; omega))); done) (by rfl) (by rfl) (by rfl)) ?_)
    | refine Le.bool ?_
    | refine Le.int ?_
    | refine Le.str ?_
  all_goals exact Le.of_eq rfl

set_option maxHeartbeats 1000000 in
theorem said_pc [GlobF Try.prog] (v : Val) : PC Try.prog 100 [eV v] (eP (prtV v)) := by
  refine PC.of_body Try.func100 Try.ntmps100 rfl rfl rfl ?_
  repeat' first
    | (apply p1 (hd := rfl); case hop => first | (apply D_load1; rfl) | (apply D_loadW; rfl; rfl) | (apply D_loadA; rfl; rfl) | (apply D_box; rfl; rfl) | exact D_build rfl | exact D_buildA rfl)
    | refine W_seq ?_
    | refine W_region ?_
    | refine WL_nil ?_
    | refine tn ?_
    | refine tr ?_
    | refine br ?_
    | refine bn ?_
    | refine te ?_
    | (refine idB ?_; first | refine bh rfl ?_ | refine bm rfl ?_)
    | refine W_skip ?_
    | refine W_block ?_
    | refine W_exit ?_
    | refine W_ret ?_
    | refine W_label ?_
    | refine W_scope ?_
    | refine sn ?_
    | refine sr ?_
    | refine se ?_
    | (refine idR ?_; first | refine ret1 rfl rfl rfl ?_ | refine rL1 rfl (by first | exact trivial | exact ⟨rfl, trivial⟩) (by first | exact ResO.tmp rfl | exact ResO.cellBA rfl rfl rfl | exact ResO.cellB1 rfl rfl rfl | exact ResO.cellEA rfl rfl | exact ResO.cellE1 rfl) ?_)
    | (refine idLd ?_; first | refine p1L (D_loadB1 rfl rfl rfl) rfl ?_ | refine p1L (D_loadBA rfl rfl rfl) rfl ?_ | refine p1L (D_loadB1 rfl (by (repeat first | assumption | exact get_last | (refine get_last2 ?_; focus (simp; done)) | apply get_set | apply get_app | (apply get_ne; focus omega) | (apply get_ne; focus (simp only [List.length_set, List.length_append, List.length_cons, List.length_nil]; omega))); done) (by rfl)) rfl ?_ | refine p1L (D_loadBA rfl (by (repeat first | assumption | exact get_last | (refine get_last2 ?_; focus (simp; done)) | apply get_set | apply get_app | (apply get_ne; focus omega) | (apply get_ne; focus (simp only [List.length_set, List.length_append, List.length_cons, List.length_nil]; omega))); done) (by rfl)) rfl ?_)
    | (refine idA ?_; first | refine m_var rfl rfl rfl rfl rfl rfl rfl ?_ | refine m_alloc rfl ?_)
    | (refine idS ?_; first | refine pS (S_store rfl rfl rfl rfl rfl rfl rfl) ?_ | refine pS (S_store rfl rfl rfl (by (repeat first | assumption | exact get_last | (refine get_last2 ?_; focus (simp; done)) | apply get_set | apply get_app | (apply get_ne; focus omega) | (apply get_ne; focus (simp only [List.length_set, List.length_append, List.length_cons, List.length_nil]; omega))); done) (by rfl) (by rfl) (by rfl)) ?_)
    | refine Le.bool ?_
    | refine Le.int ?_
    | refine Le.str ?_
  all_goals exact Le.of_eq rfl

set_option maxHeartbeats 1000000 in
theorem added_pc [GlobF Try.prog] (d : Dat) : PC Try.prog 60 [eD d] (.sc (.int .i64 (if d.add then 0 else 1))) := by
  refine PC.of_body Try.func60 Try.ntmps60 rfl rfl rfl ?_
  repeat' first
    | (apply p1 (hd := rfl); case hop => first | (apply D_assign; rfl) | (apply D_load1; rfl) | (apply D_fld; rfl) | (apply D_loadW; rfl; rfl) | (apply D_loadA; rfl; rfl) | (apply D_box; rfl; rfl) | exact D_fldB rfl)
    | refine W_seq ?_
    | refine W_region ?_
    | (refine idC ?_; first | refine c1 rfl ?_ | refine c0 rfl ?_ | refine cs rfl (fun _ => ?_) (fun _ => ?_))
    | refine WL_nil ?_
    | refine tn ?_
    | refine tr ?_
    | refine br ?_
    | refine bn ?_
    | refine te ?_
    | (refine idB ?_; first | refine bh rfl ?_ | refine bm rfl ?_)
    | refine W_skip ?_
    | refine W_block ?_
    | refine W_exit ?_
    | refine W_ret ?_
    | refine W_label ?_
    | refine W_scope ?_
    | refine sn ?_
    | refine sr ?_
    | refine se ?_
    | (refine idR ?_; first | refine ret1 rfl rfl rfl ?_ | refine rL1 rfl (by first | exact trivial | exact ⟨rfl, trivial⟩) (by first | exact ResO.tmp rfl | exact ResO.cellBA rfl rfl rfl | exact ResO.cellB1 rfl rfl rfl | exact ResO.cellEA rfl rfl | exact ResO.cellE1 rfl) ?_)
    | (refine idLd ?_; first | refine p1L (D_loadB1 rfl rfl rfl) rfl ?_ | refine p1L (D_loadBA rfl rfl rfl) rfl ?_ | refine p1L (D_loadB1 rfl (by (repeat first | assumption | exact get_last | (refine get_last2 ?_; focus (simp; done)) | apply get_set | apply get_app | (apply get_ne; focus omega) | (apply get_ne; focus (simp only [List.length_set, List.length_append, List.length_cons, List.length_nil]; omega))); done) (by rfl)) rfl ?_ | refine p1L (D_loadBA rfl (by (repeat first | assumption | exact get_last | (refine get_last2 ?_; focus (simp; done)) | apply get_set | apply get_app | (apply get_ne; focus omega) | (apply get_ne; focus (simp only [List.length_set, List.length_append, List.length_cons, List.length_nil]; omega))); done) (by rfl)) rfl ?_)
    | refine Le.bool ?_
    | refine Le.int ?_
    | refine Le.str ?_
  all_goals simp_all
end Go.Proofs

/- Contracts of datoms' functions: the parts, told one by one. -/
namespace Go.Proofs
open Go.AL
attribute [local irreducible] Go.AL.W Go.AL.WL Go.AL.WD Go.AL.POp Go.AL.PPOp Go.AL.POpS Go.AL.PC Go.AL.AC Go.AL.YW Go.AL.Ret Go.AL.Le Go.AL.thn Go.AL.inBlk

def fst1 (o : Int) (d : Dat) : Prt := if o = 1 then prtN d.e else if o = 2 then prtN d.a else if o = 3 then prtN d.a else prtV d.v
def fst2 (o : Int) (d : Dat) : Prt := if o = 1 then prtN d.a else if o = 2 then prtN d.e else if o = 3 then prtV d.v else prtN d.a
def fst3 (o : Int) (d : Dat) : Prt := if o = 1 then prtV d.v else if o = 2 then prtV d.v else if o = 3 then prtN d.e else prtN d.e
def part7 (o : Int) (d : Dat) : List Prt := [fst1 o d, fst2 o d, fst3 o d, prtN d.t, prtN (if d.add then 0 else 1), prtN d.fr, prtN d.to]
abbrev pC3 (p q r : Prt) : List AV := [.sc (.bool p.value), .sc (.int .i64 p.n), .sc (.int .i64 p.v.kind), .sc (.int .i64 p.v.n), str p.v.s, .sc (.bool q.value), .sc (.int .i64 q.n), .sc (.int .i64 q.v.kind), .sc (.int .i64 q.v.n), str q.v.s, .sc (.bool r.value), .sc (.int .i64 r.n), .sc (.int .i64 r.v.kind), .sc (.int .i64 r.v.n), str r.v.s]

set_option maxHeartbeats 4000000 in
theorem first_pc [GlobF Try.prog] (o : Int) (d : Dat) : PC Try.prog 78 [.sc (.int .i64 o), eD d] (.ag (pC3 (fst1 o d) (fst2 o d) (fst3 o d))) := by
  refine PC.of_body Try.func78 Try.ntmps78 rfl rfl rfl ?_
  repeat' first
    | (apply p1 (hd := rfl); case hop => first | (apply D_move; rfl) | (apply D_assign; rfl) | (apply D_pc (number_pc _); rfl; exact .same rfl .nil) | (apply D_pc (said_pc d.v); rfl; exact .same rfl .nil) | (apply D_load1; rfl) | (apply D_fld; rfl) | (apply D_int; rfl; rfl; rfl) | (apply D_loadW; rfl; rfl) | (apply D_loadA; rfl; rfl) | (apply D_box; rfl; rfl) | exact D_build rfl | exact D_buildA rfl | exact D_fldB rfl)
    | refine W_seq ?_
    | refine W_region ?_
    | (refine idC ?_; first | refine c1 rfl ?_ | refine c0 rfl ?_ | refine cs rfl (fun _ => ?_) (fun _ => ?_))
    | refine WL_nil ?_
    | refine tn ?_
    | refine tr ?_
    | refine br ?_
    | refine bn ?_
    | refine te ?_
    | (refine idB ?_; first | refine bh rfl ?_ | refine bm rfl ?_)
    | refine W_skip ?_
    | refine W_block ?_
    | refine W_exit ?_
    | refine W_ret ?_
    | refine W_label ?_
    | refine W_scope ?_
    | refine sn ?_
    | refine sr ?_
    | refine se ?_
    | (refine idR ?_; first | refine ret1 rfl rfl rfl ?_ | refine rL1 rfl (by first | exact trivial | exact ⟨rfl, trivial⟩) (by first | exact ResO.tmp rfl | exact ResO.cellBA rfl rfl rfl | exact ResO.cellB1 rfl rfl rfl | exact ResO.cellEA rfl rfl | exact ResO.cellE1 rfl) ?_)
    | (refine idLd ?_; first | refine p1L (D_loadB1 rfl rfl rfl) rfl ?_ | refine p1L (D_loadBA rfl rfl rfl) rfl ?_ | refine p1L (D_loadB1 rfl (by (repeat first | assumption | exact get_last | (refine get_last2 ?_; focus (simp; done)) | apply get_set | apply get_app | (apply get_ne; focus omega) | (apply get_ne; focus (simp only [List.length_set, List.length_append, List.length_cons, List.length_nil]; omega))); done) (by rfl)) rfl ?_ | refine p1L (D_loadBA rfl (by (repeat first | assumption | exact get_last | (refine get_last2 ?_; focus (simp; done)) | apply get_set | apply get_app | (apply get_ne; focus omega) | (apply get_ne; focus (simp only [List.length_set, List.length_append, List.length_cons, List.length_nil]; omega))); done) (by rfl)) rfl ?_)
    | (refine idA ?_; first | refine m_var rfl rfl rfl rfl rfl rfl rfl ?_ | refine m_alloc rfl ?_)
    | (refine idS ?_; first | refine pS (S_store rfl rfl rfl rfl rfl rfl rfl) ?_ | refine pS (S_store rfl rfl rfl (by (repeat first | assumption | exact get_last | (refine get_last2 ?_; focus (simp; done)) | apply get_set | apply get_app | (apply get_ne; focus omega) | (apply get_ne; focus (simp only [List.length_set, List.length_append, List.length_cons, List.length_nil]; omega))); done) (by rfl) (by rfl) (by rfl)) ?_)
    | refine Le.bool ?_
    | refine Le.int ?_
    | refine Le.str ?_
    | (refine idW ?_; first | refine W_draw0 rfl ?_ | refine W_draw1 rfl ?_ | refine W_draw2 rfl ?_ | refine W_draw3 rfl ?_)
    | (apply d1 (hd := rfl); case hop => first | (apply D_move; rfl) | (apply D_assign; rfl) | (apply D_pc (number_pc _); rfl; exact .same rfl .nil) | (apply D_pc (said_pc d.v); rfl; exact .same rfl .nil) | (apply D_load1; rfl) | (apply D_fld; rfl) | (apply D_int; rfl; rfl; rfl) | (apply D_loadW; rfl; rfl) | (apply D_loadA; rfl; rfl) | (apply D_box; rfl; rfl) | exact D_build rfl | exact D_buildA rfl | exact D_fldB rfl)
    | (refine idDn ?_; first | refine dL _ (fun hp' hs => D_loadB1 rfl (hs.trans rfl) rfl) rfl ?_ | refine dL _ (fun hp' hs => D_loadBA rfl (hs.trans rfl) rfl) rfl ?_ | refine dS (S_store rfl rfl rfl rfl rfl rfl rfl) rfl ?_ | refine dV (S_alloc 0 rfl) rfl rfl ?_ | refine dV (S_alloc 1 rfl) rfl rfl ?_ | refine dV (S_alloc 2 rfl) rfl rfl ?_ | refine dV (S_alloc 3 rfl) rfl rfl ?_ | refine dV (S_alloc 4 rfl) rfl rfl ?_ | refine dV (S_alloc 5 rfl) rfl rfl ?_ | refine dV (S_alloc 6 rfl) rfl rfl ?_ | refine dV (S_alloc 7 rfl) rfl rfl ?_)
    | refine WD_nil (by decide +kernel) ?_
  all_goals
    first
      | (have h1 : fst1 o d = prtN d.e := by simp [fst1, *]
         have h2 : fst2 o d = prtN d.a := by simp [fst2, *]
         have h3 : fst3 o d = prtV d.v := by simp [fst3, *]
         rw [h1, h2, h3]; exact Le.of_eq rfl)
      | (have h1 : fst1 o d = prtN d.a := by simp [fst1, *]
         have h2 : fst2 o d = prtN d.e := by simp [fst2, *]
         have h3 : fst3 o d = prtV d.v := by simp [fst3, *]
         rw [h1, h2, h3]; exact Le.of_eq rfl)
      | (have h1 : fst1 o d = prtN d.a := by simp [fst1, *]
         have h2 : fst2 o d = prtV d.v := by simp [fst2, *]
         have h3 : fst3 o d = prtN d.e := by simp [fst3, *]
         rw [h1, h2, h3]; exact Le.of_eq rfl)
      | (have h1 : fst1 o d = prtV d.v := by simp [fst1, *]
         have h2 : fst2 o d = prtN d.a := by simp [fst2, *]
         have h3 : fst3 o d = prtN d.e := by simp [fst3, *]
         rw [h1, h2, h3]; exact Le.of_eq rfl)

set_option maxHeartbeats 4000000 in
/-- The parts, told to whatever yields: each is said once, in order, till there are no more or it says stop. -/
theorem parts1_ac [GlobF Try.prog] (o : Int) (d : Dat) (l : Nat) (I : Nat → List AObj → Prop) (Stop : List AObj → Prop) {h0 : List AObj} (hI : I 0 h0)
    (hy : ∀ (i : Nat) (hi : i < 7) (h : List AObj), I i h → YW Try.prog l [.sc (.int .i64 (i : Int)), eP ((part7 o d)[i]'hi)] h (fun b h' => (b = true ∧ I (i + 1) h') ∨ (b = false ∧ Stop h'))) :
    AC Try.prog 77 [.sc (.func (.yield l) #[] #[]), .ep [.sc (.int .i64 o)], .ep (dC d)] h0 (fun _ h' => I 7 h' ∨ Stop h') := by
  refine AC.of_body Try.func77 Try.ntmps77 rfl rfl rfl ?_
  repeat' first
    | (apply p1 (hd := rfl); case hop => first | (apply D_move; rfl) | (apply D_assign; rfl) | (apply D_pc (first_pc o d); rfl; exact .same rfl (.same rfl .nil)) | (apply D_load1; rfl) | (apply D_fld; rfl) | (apply D_int; rfl; rfl; rfl) | (apply D_lenM; rfl) | (apply D_len_sl; rfl) | (apply D_not; rfl) | (apply D_loadW; rfl; rfl) | (apply D_loadA; rfl; rfl) | (apply D_len_nil; rfl) | (apply D_idxAn; rfl; rfl; (first | omega | (simp; done))) | (apply D_idxA; rfl; rfl; omega; (first | omega | (simp; done) | (simp; omega))) | (apply D_idxA0; rfl; rfl; omega; (first | omega | (simp; done) | (simp; omega))) | (apply D_lit; rfl; rfl; rfl; rfl) | exact D_xcmp rfl rfl rfl | exact D_xidx rfl rfl rfl | exact D_fldB rfl | (apply D_ixVA; rfl; rfl; all_goals first | omega | ((repeat rw [w64 _ (by omega) (by omega)]); omega) | decide) | (apply D_ixV1; rfl; rfl; rfl; all_goals first | omega | ((repeat rw [w64 _ (by omega) (by omega)]); omega) | decide))
    | refine W_seq ?_
    | refine W_region ?_
    | (refine idC ?_; first | refine c1 rfl ?_ | refine c0 rfl ?_ | refine cs rfl (fun _ => ?_) (fun _ => ?_))
    | refine WL_nil ?_
    | refine tn ?_
    | refine tr ?_
    | refine br ?_
    | refine bn ?_
    | refine te ?_
    | (refine idB ?_; first | refine bh rfl ?_ | refine bm rfl ?_)
    | refine W_skip ?_
    | refine W_block ?_
    | refine W_exit ?_
    | refine W_ret ?_
    | refine W_label ?_
    | refine W_scope ?_
    | refine sn ?_
    | refine sr ?_
    | refine se ?_
    | (refine idLd ?_; first | refine p1L (D_loadB1 rfl rfl rfl) rfl ?_ | refine p1L (D_loadBA rfl rfl rfl) rfl ?_ | refine p1L (D_loadB1 rfl (by (repeat first | assumption | exact get_last | (refine get_last2 ?_; focus (simp; done)) | apply get_set | apply get_app | (apply get_ne; focus omega) | (apply get_ne; focus (simp only [List.length_set, List.length_append, List.length_cons, List.length_nil]; omega))); done) (by rfl)) rfl ?_ | refine p1L (D_loadBA rfl (by (repeat first | assumption | exact get_last | (refine get_last2 ?_; focus (simp; done)) | apply get_set | apply get_app | (apply get_ne; focus omega) | (apply get_ne; focus (simp only [List.length_set, List.length_append, List.length_cons, List.length_nil]; omega))); done) (by rfl)) rfl ?_)
    | (refine idA ?_; first | refine m_var rfl rfl rfl rfl rfl rfl rfl ?_ | refine m_alloc rfl ?_)
    | (refine idS ?_; first | refine pS (S_store rfl rfl rfl rfl rfl rfl rfl) ?_ | refine pS (S_store rfl rfl rfl (by (repeat first | assumption | exact get_last | (refine get_last2 ?_; focus (simp; done)) | apply get_set | apply get_app | (apply get_ne; focus omega) | (apply get_ne; focus (simp only [List.length_set, List.length_append, List.length_cons, List.length_nil]; omega))); done) (by rfl) (by rfl) (by rfl)) ?_)
    | refine Le.bool ?_
    | refine Le.int ?_
    | refine Le.str ?_
    | (refine idW ?_; first | refine W_draw0 rfl ?_ | refine W_draw1 rfl ?_ | refine W_draw2 rfl ?_ | refine W_draw3 rfl ?_)
    | (apply d1 (hd := rfl); case hop => first | (apply D_move; rfl) | (apply D_assign; rfl) | (apply D_pc (first_pc o d); rfl; exact .same rfl (.same rfl .nil)) | (apply D_load1; rfl) | (apply D_fld; rfl) | (apply D_int; rfl; rfl; rfl) | (apply D_lenM; rfl) | (apply D_len_sl; rfl) | (apply D_not; rfl) | (apply D_loadW; rfl; rfl) | (apply D_loadA; rfl; rfl) | (apply D_len_nil; rfl) | (apply D_idxAn; rfl; rfl; (first | omega | (simp; done))) | (apply D_idxA; rfl; rfl; omega; (first | omega | (simp; done) | (simp; omega))) | (apply D_idxA0; rfl; rfl; omega; (first | omega | (simp; done) | (simp; omega))) | (apply D_lit; rfl; rfl; rfl; rfl) | exact D_xcmp rfl rfl rfl | exact D_xidx rfl rfl rfl | exact D_fldB rfl | (apply D_ixVA; rfl; rfl; all_goals first | omega | ((repeat rw [w64 _ (by omega) (by omega)]); omega) | decide) | (apply D_ixV1; rfl; rfl; rfl; all_goals first | omega | ((repeat rw [w64 _ (by omega) (by omega)]); omega) | decide))
    | (refine idDn ?_; first | refine dL _ (fun hp' hs => D_loadB1 rfl (hs.trans rfl) rfl) rfl ?_ | refine dL _ (fun hp' hs => D_loadBA rfl (hs.trans rfl) rfl) rfl ?_ | refine dS (S_store rfl rfl rfl rfl rfl rfl rfl) rfl ?_ | refine dV (S_alloc 0 rfl) rfl rfl ?_ | refine dV (S_alloc 1 rfl) rfl rfl ?_ | refine dV (S_alloc 2 rfl) rfl rfl ?_ | refine dV (S_alloc 3 rfl) rfl rfl ?_ | refine dV (S_alloc 4 rfl) rfl rfl ?_ | refine dV (S_alloc 5 rfl) rfl rfl ?_ | refine dV (S_alloc 6 rfl) rfl rfl ?_ | refine dV (S_alloc 7 rfl) rfl rfl ?_)
    | refine WD_nil (by decide +kernel) ?_
  refine W_loopL (X := Nat × List AObj) (fun x => [(0, .sc (.func (.yield l) #[] #[])), (2, .ep (dC d)), (4, .sc (.int .i64 (x.1 : Int))), (11, .ag (pC3 (fst1 o d) (fst2 o d) (fst3 o d))), (12, .sc (.int .i64 (x.1 : Int)))]) (fun x => x.2)
    (fun x => x.1 ≤ 3 ∧ I x.1 x.2) (fun x => 3 - x.1) (0, h0) ⟨by show 0 ≤ 3; omega, hI⟩ ⟨rfl, rfl, rfl, rfl, rfl, trivial⟩ rfl ?_
  rintro ⟨i, hi0⟩ ⟨hi, hIi⟩
  simp only at hi hIi
  have hyi := hy i (by omega) _ hIi
  have hc : i = 0 ∨ i = 1 ∨ i = 2 ∨ i = 3 := by omega
  rcases hc with rfl | rfl | rfl | rfl
  all_goals
    repeat' first
      | (apply p1 (hd := rfl); case hop => first | (apply D_move; rfl) | (apply D_assign; rfl) | (apply D_pc (added_pc d); rfl; exact .same rfl .nil) | (apply D_load1; rfl) | (apply D_fld; rfl) | (apply D_int; rfl; rfl; rfl) | (apply D_lenM; rfl) | (apply D_len_sl; rfl) | (apply D_not; rfl) | (apply D_loadW; rfl; rfl) | (apply D_loadA; rfl; rfl) | (apply D_len_nil; rfl) | (apply D_idxAn; rfl; rfl; (first | omega | (simp; done))) | (apply D_idxA; rfl; rfl; omega; (first | omega | (simp; done) | (simp; omega))) | (apply D_idxA0; rfl; rfl; omega; (first | omega | (simp; done) | (simp; omega))) | (apply D_lit; rfl; rfl; rfl; rfl) | exact D_xcmp rfl rfl rfl | exact D_xidx rfl rfl rfl | exact D_fldB rfl | (apply D_ixVA; rfl; rfl; all_goals first | omega | ((repeat rw [w64 _ (by omega) (by omega)]); omega) | decide) | (apply D_ixV1; rfl; rfl; rfl; all_goals first | omega | ((repeat rw [w64 _ (by omega) (by omega)]); omega) | decide))
      | refine W_seq ?_
      | refine W_region ?_
      | (refine idC ?_; first | refine c1 rfl ?_ | refine c0 rfl ?_ | refine cs rfl (fun _ => ?_) (fun _ => ?_))
      | refine WL_nil ?_
      | refine tn ?_
      | refine tr ?_
      | refine br ?_
      | refine bn ?_
      | refine te ?_
      | (refine idB ?_; first | refine bh rfl ?_ | refine bm rfl ?_)
      | refine W_skip ?_
      | refine W_block ?_
      | refine W_exit ?_
      | refine W_ret ?_
      | refine W_label ?_
      | refine W_scope ?_
      | refine sn ?_
      | refine sr ?_
      | refine se ?_
      | (refine idLd ?_; first | refine p1L (D_loadB1 rfl rfl rfl) rfl ?_ | refine p1L (D_loadBA rfl rfl rfl) rfl ?_ | refine p1L (D_loadB1 rfl (by (repeat first | assumption | exact get_last | (refine get_last2 ?_; focus (simp; done)) | apply get_set | apply get_app | (apply get_ne; focus omega) | (apply get_ne; focus (simp only [List.length_set, List.length_append, List.length_cons, List.length_nil]; omega))); done) (by rfl)) rfl ?_ | refine p1L (D_loadBA rfl (by (repeat first | assumption | exact get_last | (refine get_last2 ?_; focus (simp; done)) | apply get_set | apply get_app | (apply get_ne; focus omega) | (apply get_ne; focus (simp only [List.length_set, List.length_append, List.length_cons, List.length_nil]; omega))); done) (by rfl)) rfl ?_)
      | (refine idA ?_; first | refine m_var rfl rfl rfl rfl rfl rfl rfl ?_ | refine m_alloc rfl ?_)
      | (refine idS ?_; first | refine pS (S_store rfl rfl rfl rfl rfl rfl rfl) ?_ | refine pS (S_store rfl rfl rfl (by (repeat first | assumption | exact get_last | (refine get_last2 ?_; focus (simp; done)) | apply get_set | apply get_app | (apply get_ne; focus omega) | (apply get_ne; focus (simp only [List.length_set, List.length_append, List.length_cons, List.length_nil]; omega))); done) (by rfl) (by rfl) (by rfl)) ?_)
      | refine Le.bool ?_
      | refine Le.int ?_
      | refine Le.str ?_
      | (refine m_yield rfl rfl rfl hyi ?_; rintro b h' (⟨rfl, hnx⟩ | ⟨rfl, hst⟩))
      | (refine idW ?_; first | refine W_draw0 rfl ?_ | refine W_draw1 rfl ?_ | refine W_draw2 rfl ?_ | refine W_draw3 rfl ?_)
      | (apply d1 (hd := rfl); case hop => first | (apply D_move; rfl) | (apply D_assign; rfl) | (apply D_pc (added_pc d); rfl; exact .same rfl .nil) | (apply D_load1; rfl) | (apply D_fld; rfl) | (apply D_int; rfl; rfl; rfl) | (apply D_lenM; rfl) | (apply D_len_sl; rfl) | (apply D_not; rfl) | (apply D_loadW; rfl; rfl) | (apply D_loadA; rfl; rfl) | (apply D_len_nil; rfl) | (apply D_idxAn; rfl; rfl; (first | omega | (simp; done))) | (apply D_idxA; rfl; rfl; omega; (first | omega | (simp; done) | (simp; omega))) | (apply D_idxA0; rfl; rfl; omega; (first | omega | (simp; done) | (simp; omega))) | (apply D_lit; rfl; rfl; rfl; rfl) | exact D_xcmp rfl rfl rfl | exact D_xidx rfl rfl rfl | exact D_fldB rfl | (apply D_ixVA; rfl; rfl; all_goals first | omega | ((repeat rw [w64 _ (by omega) (by omega)]); omega) | decide) | (apply D_ixV1; rfl; rfl; rfl; all_goals first | omega | ((repeat rw [w64 _ (by omega) (by omega)]); omega) | decide))
      | (refine idDn ?_; first | refine dL _ (fun hp' hs => D_loadB1 rfl (hs.trans rfl) rfl) rfl ?_ | refine dL _ (fun hp' hs => D_loadBA rfl (hs.trans rfl) rfl) rfl ?_ | refine dS (S_store rfl rfl rfl rfl rfl rfl rfl) rfl ?_ | refine dV (S_alloc 0 rfl) rfl rfl ?_ | refine dV (S_alloc 1 rfl) rfl rfl ?_ | refine dV (S_alloc 2 rfl) rfl rfl ?_ | refine dV (S_alloc 3 rfl) rfl rfl ?_ | refine dV (S_alloc 4 rfl) rfl rfl ?_ | refine dV (S_alloc 5 rfl) rfl rfl ?_ | refine dV (S_alloc 6 rfl) rfl rfl ?_ | refine dV (S_alloc 7 rfl) rfl rfl ?_)
      | refine WD_nil (by decide +kernel) ?_
  all_goals first
    | contradiction
    | omega
    | exact ret0 (.inl rfl) rfl rfl (.inr (by assumption))
    | (refine ⟨rfl, (_, _), ⟨?_, hnx⟩, ?_, ⟨rfl, rfl, ieq (wsucc _ (by omega)), rfl, ieq (wsucc _ (by omega)), trivial⟩, rfl⟩ <;> (simp only; omega))
    | skip
  refine W_loopL (X := Nat × List AObj) (fun x => [(0, .sc (.func (.yield l) #[] #[])), (4, .sc (.int .i64 ((3 + x.1 : Nat) : Int))), (31, .sl none 1 [[.sc (.int .i64 d.t)], [.sc (.int .i64 (if d.add then 0 else 1))], [.sc (.int .i64 d.fr)], [.sc (.int .i64 d.to)]]), (32, .sc (.int .i64 4)), (33, .sc (.int .i64 (x.1 : Int)))]) (fun x => x.2)
    (fun x => x.1 ≤ 4 ∧ I (3 + x.1) x.2) (fun x => 4 - x.1) (0, hi0) ⟨by show 0 ≤ 4; omega, hIi⟩ ⟨rfl, rfl, rfl, rfl, rfl, trivial⟩ rfl ?_
  rintro ⟨i, hi1⟩ ⟨hi, hIi2⟩
  simp only at hi hIi2
  have hyi := fun h => hy (3 + i) h _ hIi2
  have hc : i = 0 ∨ i = 1 ∨ i = 2 ∨ i = 3 ∨ i = 4 := by omega
  rcases hc with rfl | rfl | rfl | rfl | rfl
  all_goals
    repeat' first
      | (apply p1 (hd := rfl); case hop => first | (apply D_move; rfl) | (apply D_assign; rfl) | (apply D_pc (number_pc _); rfl; exact .same rfl .nil) | (apply D_load1; rfl) | (apply D_fld; rfl) | (apply D_int; rfl; rfl; rfl) | (apply D_lenM; rfl) | (apply D_len_sl; rfl) | (apply D_not; rfl) | (apply D_loadW; rfl; rfl) | (apply D_loadA; rfl; rfl) | (apply D_len_nil; rfl) | (apply D_idxAn; rfl; rfl; (first | omega | (simp; done))) | (apply D_idxA; rfl; rfl; omega; (first | omega | (simp; done) | (simp; omega))) | (apply D_idxA0; rfl; rfl; omega; (first | omega | (simp; done) | (simp; omega))) | (apply D_lit; rfl; rfl; rfl; rfl) | exact D_xcmp rfl rfl rfl | exact D_xidx rfl rfl rfl | exact D_fldB rfl | (apply D_ixVA; rfl; rfl; all_goals first | omega | ((repeat rw [w64 _ (by omega) (by omega)]); omega) | decide) | (apply D_ixV1; rfl; rfl; rfl; all_goals first | omega | ((repeat rw [w64 _ (by omega) (by omega)]); omega) | decide))
      | refine W_seq ?_
      | refine W_region ?_
      | (refine idC ?_; first | refine c1 rfl ?_ | refine c0 rfl ?_ | refine cs rfl (fun _ => ?_) (fun _ => ?_))
      | refine WL_nil ?_
      | refine tn ?_
      | refine tr ?_
      | refine br ?_
      | refine bn ?_
      | refine te ?_
      | (refine idB ?_; first | refine bh rfl ?_ | refine bm rfl ?_)
      | refine W_skip ?_
      | refine W_block ?_
      | refine W_exit ?_
      | refine W_ret ?_
      | refine W_label ?_
      | refine W_scope ?_
      | refine sn ?_
      | refine sr ?_
      | refine se ?_
      | (refine idLd ?_; first | refine p1L (D_loadB1 rfl rfl rfl) rfl ?_ | refine p1L (D_loadBA rfl rfl rfl) rfl ?_ | refine p1L (D_loadB1 rfl (by (repeat first | assumption | exact get_last | (refine get_last2 ?_; focus (simp; done)) | apply get_set | apply get_app | (apply get_ne; focus omega) | (apply get_ne; focus (simp only [List.length_set, List.length_append, List.length_cons, List.length_nil]; omega))); done) (by rfl)) rfl ?_ | refine p1L (D_loadBA rfl (by (repeat first | assumption | exact get_last | (refine get_last2 ?_; focus (simp; done)) | apply get_set | apply get_app | (apply get_ne; focus omega) | (apply get_ne; focus (simp only [List.length_set, List.length_append, List.length_cons, List.length_nil]; omega))); done) (by rfl)) rfl ?_)
      | (refine idA ?_; first | refine m_var rfl rfl rfl rfl rfl rfl rfl ?_ | refine m_alloc rfl ?_)
      | (refine idS ?_; first | refine pS (S_store rfl rfl rfl rfl rfl rfl rfl) ?_ | refine pS (S_store rfl rfl rfl (by (repeat first | assumption | exact get_last | (refine get_last2 ?_; focus (simp; done)) | apply get_set | apply get_app | (apply get_ne; focus omega) | (apply get_ne; focus (simp only [List.length_set, List.length_append, List.length_cons, List.length_nil]; omega))); done) (by rfl) (by rfl) (by rfl)) ?_)
      | refine Le.bool ?_
      | refine Le.int ?_
      | refine Le.str ?_
      | (refine m_yield rfl rfl rfl (hyi (by omega)) ?_; rintro b h' (⟨rfl, hnx⟩ | ⟨rfl, hst⟩))
      | (refine idW ?_; first | refine W_draw0 rfl ?_ | refine W_draw1 rfl ?_ | refine W_draw2 rfl ?_ | refine W_draw3 rfl ?_)
      | (apply d1 (hd := rfl); case hop => first | (apply D_move; rfl) | (apply D_assign; rfl) | (apply D_pc (number_pc _); rfl; exact .same rfl .nil) | (apply D_load1; rfl) | (apply D_fld; rfl) | (apply D_int; rfl; rfl; rfl) | (apply D_lenM; rfl) | (apply D_len_sl; rfl) | (apply D_not; rfl) | (apply D_loadW; rfl; rfl) | (apply D_loadA; rfl; rfl) | (apply D_len_nil; rfl) | (apply D_idxAn; rfl; rfl; (first | omega | (simp; done))) | (apply D_idxA; rfl; rfl; omega; (first | omega | (simp; done) | (simp; omega))) | (apply D_idxA0; rfl; rfl; omega; (first | omega | (simp; done) | (simp; omega))) | (apply D_lit; rfl; rfl; rfl; rfl) | exact D_xcmp rfl rfl rfl | exact D_xidx rfl rfl rfl | exact D_fldB rfl | (apply D_ixVA; rfl; rfl; all_goals first | omega | ((repeat rw [w64 _ (by omega) (by omega)]); omega) | decide) | (apply D_ixV1; rfl; rfl; rfl; all_goals first | omega | ((repeat rw [w64 _ (by omega) (by omega)]); omega) | decide))
      | (refine idDn ?_; first | refine dL _ (fun hp' hs => D_loadB1 rfl (hs.trans rfl) rfl) rfl ?_ | refine dL _ (fun hp' hs => D_loadBA rfl (hs.trans rfl) rfl) rfl ?_ | refine dS (S_store rfl rfl rfl rfl rfl rfl rfl) rfl ?_ | refine dV (S_alloc 0 rfl) rfl rfl ?_ | refine dV (S_alloc 1 rfl) rfl rfl ?_ | refine dV (S_alloc 2 rfl) rfl rfl ?_ | refine dV (S_alloc 3 rfl) rfl rfl ?_ | refine dV (S_alloc 4 rfl) rfl rfl ?_ | refine dV (S_alloc 5 rfl) rfl rfl ?_ | refine dV (S_alloc 6 rfl) rfl rfl ?_ | refine dV (S_alloc 7 rfl) rfl rfl ?_)
      | refine WD_nil (by decide +kernel) ?_
  all_goals first
    | contradiction
    | omega
    | exact ret0 (.inl rfl) rfl rfl (.inr (by assumption))
    | exact ret0 (.inr rfl) rfl rfl (.inl hIi2)
    | (refine ⟨rfl, (1, _), ⟨?_, hnx⟩, ?_, ⟨rfl, ieq (wsucc _ (by omega)), rfl, rfl, ieq (wsucc _ (by omega)), trivial⟩, rfl⟩ <;> (simp only; omega))
    | (refine ⟨rfl, (2, _), ⟨?_, hnx⟩, ?_, ⟨rfl, ieq (wsucc _ (by omega)), rfl, rfl, ieq (wsucc _ (by omega)), trivial⟩, rfl⟩ <;> (simp only; omega))
    | (refine ⟨rfl, (3, _), ⟨?_, hnx⟩, ?_, ⟨rfl, ieq (wsucc _ (by omega)), rfl, rfl, ieq (wsucc _ (by omega)), trivial⟩, rfl⟩ <;> (simp only; omega))
    | (refine ⟨rfl, (4, _), ⟨?_, hnx⟩, ?_, ⟨rfl, ieq (wsucc _ (by omega)), rfl, rfl, ieq (wsucc _ (by omega)), trivial⟩, rfl⟩ <;> (simp only; omega))

/-- .. where what is done leaves the heap as it is, till it says stop. -/
theorem parts1_acC [GlobF Try.prog] (o : Int) (d : Dat) (l : Nat) (C : Nat → Prop) {h0 : List AObj} {Stop : List AObj → Prop} (hC : C 0)
    (hy : ∀ (i : Nat) (hi : i < 7), C i → YW Try.prog l [.sc (.int .i64 (i : Int)), eP ((part7 o d)[i]'hi)] h0 (fun b h' => (b = true ∧ h' = h0 ∧ C (i + 1)) ∨ (b = false ∧ Stop h'))) (hend : C 7 → Stop h0) :
    AC Try.prog 77 [.sc (.func (.yield l) #[] #[]), .ep [.sc (.int .i64 o)], .ep (dC d)] h0 (fun _ h' => Stop h') := by
  refine AC.mono (parts1_ac o d l (fun i h => h = h0 ∧ C i) Stop ⟨rfl, hC⟩ ?_) ?_
  · rintro i hi h ⟨rfl, hc⟩
    refine (hy i hi hc).mono ?_
    rintro b h' (⟨h1, h2, h3⟩ | h1)
    · exact .inl ⟨h1, h2, h3⟩
    · exact .inr h1
  · rintro _ h' (⟨rfl, h2⟩ | h1)
    · exact hend h2
    · exact h1
/-- .. where what is done turns the heap, round by round. -/
theorem parts1_acX [GlobF Try.prog] (o : Int) (d : Dat) (l : Nat) (Hs : Nat → List AObj) (C : Nat → Prop) {h0 : List AObj} {Stop : List AObj → Prop} (hH : Hs 0 = h0) (hC : C 0)
    (hy : ∀ (i : Nat) (hi : i < 7), C i → YW Try.prog l [.sc (.int .i64 (i : Int)), eP ((part7 o d)[i]'hi)] (Hs i) (fun b h' => (b = true ∧ h' = Hs (i + 1) ∧ C (i + 1)) ∨ (b = false ∧ Stop h'))) (hend : C 7 → Stop (Hs 7)) :
    AC Try.prog 77 [.sc (.func (.yield l) #[] #[]), .ep [.sc (.int .i64 o)], .ep (dC d)] h0 (fun _ h' => Stop h') := by
  refine AC.mono (parts1_ac o d l (fun i h => h = Hs i ∧ C i) Stop ⟨hH.symm, hC⟩ ?_) ?_
  · rintro i hi h ⟨rfl, hc⟩
    refine (hy i hi hc).mono ?_
    rintro b h' (⟨h1, h2, h3⟩ | h1)
    · exact .inl ⟨h1, h2, h3⟩
    · exact .inr h1
  · rintro _ h' (⟨rfl, h2⟩ | h1)
    · exact hend h2
    · exact h1

set_option maxHeartbeats 1000000 in
theorem parts_pc [GlobF Try.prog] (o : Int) (d : Dat) : PC Try.prog 48 [.sc (.int .i64 o), eD d] (.fn (.func 77) [] [.ep [.sc (.int .i64 o)], .ep (dC d)]) := by
  refine PC.of_body Try.func48 Try.ntmps48 rfl rfl rfl ?_
  repeat' first
    | (apply p1 (hd := rfl); case hop => first | (apply D_assign; rfl) | (apply D_box; rfl; rfl) | exact D_mkfn rfl)
    | refine W_seq ?_
    | refine W_region ?_
    | refine WL_nil ?_
    | refine tn ?_
    | refine tr ?_
    | refine br ?_
    | refine bn ?_
    | refine te ?_
    | (refine idB ?_; first | refine bh rfl ?_ | refine bm rfl ?_)
    | refine W_skip ?_
    | refine W_block ?_
    | refine W_exit ?_
    | refine W_ret ?_
    | refine W_label ?_
    | refine W_scope ?_
    | refine sn ?_
    | refine sr ?_
    | refine se ?_
    | (refine idR ?_; first | refine ret1 rfl rfl rfl ?_ | refine rL1 rfl (by first | exact trivial | exact ⟨rfl, trivial⟩) (by first | exact ResO.tmp rfl | exact ResO.cellBA rfl rfl rfl | exact ResO.cellB1 rfl rfl rfl | exact ResO.cellEA rfl rfl | exact ResO.cellE1 rfl) ?_)
    | refine Le.bool ?_
    | refine Le.int ?_
    | refine Le.str ?_
  all_goals exact Le.of_eq rfl
end Go.Proofs
