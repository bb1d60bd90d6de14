/- What datoms and facts weigh: small ones pass the statements' guards only if they are few. -/
import Derived.Test.YtfnmipagllofiaaGreatFP6
import Derived.Test.YtfnmipagllofiaaGreatFF8
namespace Go.Proofs
open Go.AL Go.Sort
abbrev wtD (d : Dat) : Nat := 1 + d.v.s.length
abbrev wtF (f : Fac) : Nat := 1 + f.v.s.length + f.sp.length
def gr6 (l : List Fac) : Nat := (l.map fun f => 20 + f.v.s.length + 4 * f.sp.length).sum
theorem gr6_take (l : List Fac) (i : Nat) (h : i < l.length) : gr6 (l.take (i + 1)) = gr6 (l.take i) + (20 + l[i].v.s.length + 4 * l[i].sp.length) := by
  unfold gr6
  rw [List.take_succ_eq_append_getElem h, List.map_append, List.sum_append]; simp
theorem gr6_wt (l : List Fac) : gr6 l ≤ 20 * (l.map wtF).sum := by
  induction l with
  | nil => simp [gr6]
  | cons f l ih => unfold gr6 at *; simp only [List.map_cons, List.sum_cons, wtF]; omega
theorem gr6_mono (l : List Fac) (i : Nat) : gr6 (l.take i) ≤ gr6 l := by
  have h : gr6 (l.take i ++ l.drop i) = gr6 (l.take i) + gr6 (l.drop i) := by unfold gr6; rw [List.map_append, List.sum_append]
  rw [List.take_append_drop] at h; omega
theorem sum_mem {α : Type} {f : α → Nat} : ∀ {l : List α} {a : α}, a ∈ l → f a ≤ (l.map f).sum
  | [], a, h => by simp at h
  | b :: l, a, h => by
    simp only [List.map_cons, List.sum_cons]
    rcases List.mem_cons.1 h with e | e
    · subst e; omega
    · have := sum_mem (f := f) e; omega
theorem sum_len {α : Type} {f : α → Nat} (c : Nat) : ∀ {l : List α}, (∀ a, a ∈ l → c ≤ f a) → c * l.length ≤ (l.map f).sum
  | [], _ => by simp
  | b :: l, h => by
    have h1 := h b List.mem_cons_self
    have h2 := sum_len c (l := l) fun a ha => h a (List.mem_cons_of_mem _ ha)
    simp only [List.map_cons, List.sum_cons, List.length_cons, Nat.mul_succ]; omega
theorem gr6_few {l : List Fac} (h : ¬ 3000 < gr6 l) : l.length ≤ 150 ∧ ∀ f, f ∈ l → f.sp.length ≤ 750 ∧ f.v.s.length ≤ 3000 := by
  have h1 := sum_len (f := fun f : Fac => 20 + f.v.s.length + 4 * f.sp.length) 20 (l := l) fun a _ => by omega
  refine ⟨by unfold gr6 at h; omega, fun f hf => ?_⟩
  have h2 := sum_mem (f := fun f : Fac => 20 + f.v.s.length + 4 * f.sp.length) hf
  unfold gr6 at h; omega
theorem grS_small : ∀ (l : List Dat) (n : Int), 0 ≤ n → n + 20 * ((l.map wtD).sum : Int) ≤ 4611686018427387904 → n + 20 * (l.length : Int) ≤ grS n l
  | [], n, _, _ => by simp [grS]
  | d :: l, n, h0, h => by
    simp only [List.map_cons, List.sum_cons, wtD] at h
    have e1 : IntKind.i64.wrap (n + 20) = n + 20 := w64 _ (by omega) (by omega)
    have e2 : IntKind.i64.wrap (IntKind.i64.wrap (n + 20) + (d.v.s.length : Int)) = n + 20 + d.v.s.length := by rw [e1]; exact w64 _ (by omega) (by omega)
    have ih := grS_small l (n + 20 + d.v.s.length) (by omega) (by omega)
    simp only [grS, List.length_cons]
    rw [e2]
    omega
theorem grS_few {l : List Dat} (hw : (l.map wtD).sum ≤ 1048576) (h : ¬ 4000 < grS 0 l) : l.length ≤ 200 := by
  have := grS_small l 0 (by omega) (by omega)
  omega
end Go.Proofs

namespace Go.Proofs
open Go.AL Go.Sort
attribute [local irreducible] Go.AL.W Go.AL.WL Go.AL.WD Go.AL.POp Go.AL.PPOp Go.AL.POpS Go.AL.PC Go.AL.AC Go.AL.YW Go.AL.Ret Go.AL.Le Go.AL.thn Go.AL.inBlk Go.AL.scp
theorem fac_sl {F : List Fac} (h : allF F) {f : Fac} (hf : f ∈ F) : f.v.s.length < 9223372036854775808 := by
  obtain ⟨i, hi, rfl⟩ := List.getElem_of_mem hf
  have h := (h i hi hi).1.1.2.2.2.2.1
  have h : MayP F[i].v := by unfold mayB at h; rwa [dP_t] at h
  rcases h with ⟨_, _, _, h⟩ | ⟨_, h⟩ | ⟨_, h, _⟩ | ⟨_, _, h⟩ | ⟨_, _, h⟩
  · rw [h]; decide
  · rw [h]; decide
  · rw [h]; decide
  · omega
  · unfold WordP at h; omega
theorem findL_len {F : List Fac} {n : Nat} (k : Fac) (h : ∀ f, f ∈ F → f.sp.length ≤ n) : (findL F k).length ≤ n := by
  unfold findL
  cases hf : F.find? fun g => decide (cmpF g k = 0) with
  | none => exact Nat.zero_le _
  | some f0 => exact h f0 (List.mem_of_find?_eq_some hf)
end Go.Proofs

namespace Go.Proofs
open Go.AL Go.Sort
attribute [local irreducible] Go.AL.W Go.AL.WL Go.AL.WD Go.AL.POp Go.AL.PPOp Go.AL.POpS Go.AL.PC Go.AL.AC Go.AL.YW Go.AL.Ret Go.AL.Le Go.AL.thn Go.AL.inBlk Go.AL.scp
structure Vw where
  up : Int
  af : Int
  at_ : Int
  one : Bool
  no : Bool
def wC (v : Vw) : List AV := [.sc (.int .i64 v.up), .sc (.int .i64 v.af), .sc (.int .i64 v.at_), .sc (.bool v.one), .sc (.bool v.no)]
instance (v : Vw) : PurL (wC v) := by unfold wC; infer_instance
def eW (v : Vw) : AV := .ag (wC v)
instance (v : Vw) : Pur (eW v) := by unfold eW; infer_instance
end Go.Proofs

namespace Go.Proofs
open Go.AL Go.Sort
attribute [local irreducible] Go.AL.W Go.AL.WL Go.AL.WD Go.AL.POp Go.AL.PPOp Go.AL.POpS Go.AL.PC Go.AL.AC Go.AL.YW Go.AL.Ret Go.AL.Le Go.AL.thn Go.AL.inBlk Go.AL.scp
abbrev HC (o : List Dat) : List AObj := [.cells [.sl (some 1) 9 (o.map dC)], .tail o.length 9 52]
theorem hc_snoc (o : List Dat) (d : Dat) : HC (o ++ [d]) = [.cells [.sl (some 1) 9 (o.map dC ++ [dC d])], .tail ((o.map dC).length + 1) 9 52] := by simp [HC]
set_option maxHeartbeats 8000000 in
theorem change1_ac [GlobF Tryz.prog] (O : List Dat) (f : Fac) (a b : List Sp) (put : Bool) (T : Int) (ha : SetP a) (hb : SetP b) (hla : a.length + b.length + 1 < 8796093022208) (hlb : b.length < 8796093022208) (hO : (O.length + (meetL a (restL loT b)).length) * 80 ≤ 140737488355328) :
    AC Tryz.prog 38 [eF f, sl2 a, sl2 b, .sc (.bool put), .bp 0 0, .ep [.sc (.int .i64 T)]] (HC O)
      (fun v h' => v = .tu [] ∧ h' = HC (O ++ sayD f T put (meetL a (restL loT b)))) := by
  have hm := sminus_pc a b ha hb hla hlb
  generalize meetL a (restL loT b) = D at *
  refine AC.of_body Tryz.func38 Tryz.ntmps38 rfl rfl rfl ?_
  repeat' first
    | (apply p1 (hd := rfl); case hop => first | (apply D_move; rfl) | (apply D_assign; rfl) | (apply D_pc hm; rfl; exact .same rfl (.same rfl .nil)) | (apply D_lenM; rfl) | (apply D_ext; rfl; rfl) | (apply D_box; rfl; rfl))
    | refine W_seq ?_
    | refine W_region ?_
    | refine WL_nil ?_
    | refine tn ?_
    | refine W_block ?_
    | fail
  refine W_loopL (X := Nat) (fun i => [(3, .sc (.bool put)), (4, .bp 0 0), (5, .ep [.sc (.int .i64 T)]), (6, .ep (fC f)), (20, sl2 D), (21, .sc (.int .i64 (D.length : Int))), (22, .sc (.int .i64 (i : Int)))]) (fun i => HC (O ++ sayD f T put (D.take i)))
    (fun i => i ≤ D.length) (fun i => D.length - i) 0 (Nat.zero_le _) ⟨rfl, rfl, rfl, rfl, rfl, rfl, rfl, trivial⟩ (by simp [sayD]) ?_
  intro i hi
  have hlen : (O ++ sayD f T put (D.take i)).length ≤ O.length + i := by rw [List.length_append, sayD_len, List.length_take]; omega
  by_cases hil : i < D.length
  · have hsn : O ++ sayD f T put (D.take (i + 1)) = (O ++ sayD f T put (D.take i)) ++ [⟨f.e, f.a, f.v, T, put, (D[i]'hil).f, (D[i]'hil).t⟩] := by rw [sayD_take f T put hil, List.append_assoc]
    generalize O ++ sayD f T put (D.take i) = E at *
    repeat' first
      | (apply p1 (hd := rfl); case hop => first | (apply D_move; rfl) | (apply D_load1; rfl) | (apply D_fld; rfl) | (apply D_int; rfl; rfl; rfl) | (apply D_loadW; rfl; rfl) | (apply D_loadA; rfl; rfl) | (apply D_idxAn; rfl; rfl; (first | omega | (simp; done))) | (apply D_lit; rfl; rfl; rfl; rfl) | exact D_build rfl)
      | refine W_seq ?_
      | refine W_region ?_
      | (refine idC ?_; refine cs rfl (fun _ => ?_) (fun _ => ?_))
      | refine WL_nil ?_
      | refine tn ?_
      | refine bn ?_
      | refine te ?_
      | (refine idB ?_; refine bh rfl ?_)
      | refine W_skip ?_
      | refine W_block ?_
      | refine W_exit ?_
      | (refine idLd ?_; refine p1L (D_loadB1 rfl rfl rfl) rfl ?_)
      | (refine idA ?_; refine m_var rfl rfl rfl rfl rfl rfl rfl ?_)
      | (refine idS ?_; refine pS (S_store rfl rfl rfl rfl rfl rfl rfl) ?_)
      | (refine idAp ?_; refine m_appB rfl rfl rfl (by first | rfl | assumption | exact get_set (by assumption) | exact get_set (get_set (by assumption)) | exact get_set (get_set (get_set (by assumption))) | ((repeat first | assumption | exact get_last | (refine get_last2 ?_; focus (simp; done)) | apply get_set | apply get_app | (apply get_ne; focus omega)); done)) ?_ rfl rfl ?_ ?_ rfl ?_; (first | rfl | focus (simp only [List.length_map, List.length_append, List.length_cons, List.length_nil]; omega) | focus (simp; done) | focus (simp; omega)); (first | focus (simp only [List.length_map, List.length_append, List.length_cons, List.length_nil]; omega) | focus (simp; done) | focus (simp; omega)); (first | focus (simp only [List.length_map, List.length_append, List.length_cons, List.length_nil]; omega) | focus (simp; done) | focus (simp; omega)))
      | fail
    all_goals first
      | (exfalso; omega)
      | (refine ⟨rfl, i + 1, by omega, by omega, ⟨rfl, rfl, rfl, rfl, rfl, rfl, ieq (wsucc i (by omega)), trivial⟩, ?_⟩
         rw [hsn, hc_snoc]; rfl)
      | skip
    all_goals trace_state
  · have e : i = D.length := by omega
    subst e
    rw [List.take_length] at *
    repeat' first
      | (apply p1 (hd := rfl); case hop => first | (apply D_move; rfl) | (apply D_load1; rfl) | (apply D_fld; rfl) | (apply D_int; rfl; rfl; rfl) | (apply D_loadW; rfl; rfl) | (apply D_loadA; rfl; rfl) | (apply D_idxAn; rfl; rfl; (first | omega | (simp; done))) | (apply D_lit; rfl; rfl; rfl; rfl) | exact D_build rfl)
      | refine W_seq ?_
      | refine W_region ?_
      | (refine idC ?_; refine cs rfl (fun _ => ?_) (fun _ => ?_))
      | refine WL_nil ?_
      | refine tn ?_
      | refine bn ?_
      | refine te ?_
      | (refine idB ?_; refine bh rfl ?_)
      | refine W_skip ?_
      | refine W_block ?_
      | refine W_exit ?_
      | (refine idLd ?_; refine p1L (D_loadB1 rfl rfl rfl) rfl ?_)
      | (refine idA ?_; refine m_var rfl rfl rfl rfl rfl rfl rfl ?_)
      | (refine idS ?_; refine pS (S_store rfl rfl rfl rfl rfl rfl rfl) ?_)
      | (refine idAp ?_; refine m_appB rfl rfl rfl (by first | rfl | assumption | exact get_set (by assumption) | exact get_set (get_set (by assumption)) | exact get_set (get_set (get_set (by assumption))) | ((repeat first | assumption | exact get_last | (refine get_last2 ?_; focus (simp; done)) | apply get_set | apply get_app | (apply get_ne; focus omega)); done)) ?_ rfl rfl ?_ ?_ rfl ?_; (first | rfl | focus (simp only [List.length_map, List.length_append, List.length_cons, List.length_nil]; omega) | focus (simp; done) | focus (simp; omega)); (first | focus (simp only [List.length_map, List.length_append, List.length_cons, List.length_nil]; omega) | focus (simp; done) | focus (simp; omega)); (first | focus (simp only [List.length_map, List.length_append, List.length_cons, List.length_nil]; omega) | focus (simp; done) | focus (simp; omega)))
      | fail
    all_goals first
      | (exfalso; omega)
      | exact ret0 (.inr rfl) rfl rfl ⟨rfl, rfl⟩
      | exact ret0 (.inl rfl) rfl rfl ⟨rfl, rfl⟩
      | skip
    all_goals trace_state
end Go.Proofs
