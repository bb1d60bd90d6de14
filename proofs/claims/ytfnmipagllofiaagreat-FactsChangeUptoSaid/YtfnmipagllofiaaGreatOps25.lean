
/- Contracts of the sets of instants: And, Minus, Covers. -/
import Derived.Test.YtfnmipagllofiaaGreatFS3
import Derived.Test.YtfnmipagllofiaaGreatFD2
import Derived.Test.YtfnmipagllofiaaGreatApp4
namespace Go.Proofs
open Go.AL
attribute [local irreducible] Go.AL.W Go.AL.WL Go.AL.WD Go.AL.POp Go.AL.PPOp Go.AL.POpS Go.AL.PC Go.AL.AC Go.AL.YW Go.AL.Ret Go.AL.Le Go.AL.thn Go.AL.inBlk Go.AL.scp
theorem meet_len : ∀ (n : Nat) (a b : List Sp), a.length + b.length ≤ n → (meetL a b).length ≤ a.length + b.length
  | _, [], b, _ => by rw [meetL_nil]; simp
  | _, _ :: _, [], _ => by rw [meetL_nil2]; simp
  | 0, _ :: _, _ :: _, h => by simp at h
  | n + 1, s :: a, r :: b, hn => by
    rw [meetL_cons]
    simp only [List.length_cons, List.length_append] at hn ⊢
    have h1 : (if max s.f r.f < min s.t r.t then [(⟨max s.f r.f, min s.t r.t⟩ : Sp)] else []).length ≤ 1 := by split <;> simp
    by_cases hc : s.t < r.t
    · rw [if_pos hc]
      have := meet_len n a (r :: b) (by simp; omega)
      simp only [List.length_cons] at this; omega
    · rw [if_neg hc]
      have := meet_len n (s :: a) b (by simp; omega)
      simp only [List.length_cons] at this; omega
set_option maxHeartbeats 16000000 in
theorem shared_pc [GlobF Tryz.prog] (a b : List Sp) (hla : a.length + b.length < 8796093022208) (hlb : b.length < 8796093022208) : PC Tryz.prog 67 [sl2 a, sl2 b] (sl2 (meetL a b)) := by
  refine PC.of_body Tryz.func67 Tryz.ntmps67 rfl rfl rfl ?_
  repeat' first
    | (refine WL_adoptC 0 0 2 69 rfl rfl ?_)
    | (apply p1 (hd := rfl); case hop => first | (apply D_move; rfl) | (apply D_assign; rfl))
    | refine W_seq ?_
    | refine W_region ?_
    | refine WL_nil ?_
    | refine tn ?_
    | refine W_block ?_
    | (refine idA ?_; refine m_alloc rfl ?_)
    | (refine m_call (d := 9) (meets_ac a b _) rfl rfl rfl ?_; rintro _ _ ⟨rfl, rfl⟩)
  refine W_range (.inl rfl) fun l => ?_
  refine AC.mono (meets1_ac _ _ a b l hla hlb ?_) ?_
  · intro o a' b' s ex ho
    refine YW.round (r := 5) rfl rfl rfl ?_
    repeat' first
      | refine W_region ?_
      | refine WL_nil ?_
      | (refine idA ?_; refine m_var rfl rfl rfl rfl rfl rfl rfl ?_)
    refine ⟨rfl, rfl, ?_⟩
    repeat' first
      | (apply p1 (hd := rfl); case hop => first | (apply D_loadW; rfl; rfl) | (apply D_lit; rfl; rfl; rfl; rfl))
      | refine W_region ?_
      | refine WL_nil ?_
      | refine bn ?_
      | refine W_block ?_
      | (refine idLd ?_; refine p1L (D_loadB1 rfl rfl rfl) rfl ?_)
      | (refine idS ?_; refine pS (S_store rfl rfl rfl rfl rfl rfl rfl) ?_)
      | (refine idAp ?_; refine m_app rfl rfl (by first | rfl | assumption | exact get_set (by assumption) | exact get_set (get_set (by assumption)) | exact get_set (get_set (get_set (by assumption))) | ((repeat first | assumption | exact get_last | (refine get_last2 ?_; focus (simp; done)) | apply get_set | apply get_app | (apply get_ne; focus omega)); done)) ?_ rfl rfl ?_ ?_ rfl ?_; (first | rfl | focus (simp only [List.length_map, List.length_append, List.length_cons, List.length_nil]; omega) | focus (simp; done) | focus (simp; omega)); (first | focus (simp only [List.length_map, List.length_append, List.length_cons, List.length_nil]; omega) | focus (simp; done) | focus (simp; omega)); (first | focus (simp only [List.length_map, List.length_append, List.length_cons, List.length_nil]; omega) | focus (simp; done) | focus (simp; omega)))
    refine ⟨rfl, ⟨_, _, rfl⟩, rfl, ex, ?_⟩
    simp
  · rintro v h' ⟨a', b', ex, rfl⟩
    refine ⟨_, _, rfl, by decide, ?_⟩
    repeat' first
      | (apply p1 (hd := rfl); case hop => (apply D_assign; rfl))
      | refine W_seq ?_
      | refine W_region ?_
      | refine WL_nil ?_
      | refine tn ?_
      | refine bn ?_
      | refine W_ret ?_
      | (refine idR ?_; refine rL1 rfl (by first | exact trivial | exact ⟨rfl, trivial⟩) (by first | exact ResO.tmp rfl | exact ResO.cellBA rfl rfl rfl | exact ResO.cellB1 rfl rfl rfl | exact ResO.cellEA rfl rfl | exact ResO.cellE1 rfl) ?_)
      | (refine idLd ?_; refine p1L (D_loadB1 rfl rfl rfl) rfl ?_)
    all_goals exact Le.tokq rfl
abbrev HR (o : List Sp) (at_ : Int) : List AObj := [.cells [.sl (some 1) 2 (o.map sC)], .tail o.length 2 69, .cells [.sc (.int .i64 at_)]]
theorem hr3 {n m e : Nat} {x y : List (List AV)} {z : AObj} (h1 : x = y) (h2 : n = m) : [AObj.cells [.sl (some 1) 2 x], .tail n 2 e, z] = [.cells [.sl (some 1) 2 y], .tail m 2 e, z] := by rw [h1, h2]
def oneR (a b : Int) : List Sp := if a < b then [⟨a, b⟩] else []
set_option maxHeartbeats 4000000 in
theorem rest1_ac [GlobF Tryz.prog] (o : List Sp) (a b : Int) (ho : o.length < 8796093022208) : AC Tryz.prog 94 [.sc (.int .i64 b), .bp 2 0, .bp 0 0] (HR o a) (fun v h' => v = .tu [] ∧ h' = HR (o ++ oneR a b) a) := by
  refine AC.of_body Tryz.func94 Tryz.ntmps94 rfl rfl rfl ?_
  repeat' first
    | (apply p1 (hd := rfl); case hop => first | (apply D_move; rfl) | (apply D_int; rfl; rfl; rfl) | (apply D_lit; rfl; rfl; rfl; rfl) | exact D_build rfl)
    | refine W_seq ?_
    | refine W_region ?_
    | (refine idC ?_; refine cs rfl (fun _ => ?_) (fun _ => ?_))
    | refine WL_nil ?_
    | refine tn ?_
    | refine W_skip ?_
    | (refine idLd ?_; refine p1L (D_loadB1 rfl rfl rfl) rfl ?_)
    | (refine idS ?_; refine pS (S_store rfl rfl rfl rfl rfl rfl rfl) ?_)
    | (refine idAp ?_; refine m_appB rfl rfl rfl (by first | rfl | assumption | exact get_set (by assumption) | exact get_set (get_set (by assumption)) | exact get_set (get_set (get_set (by assumption))) | ((repeat first | assumption | exact get_last | (refine get_last2 ?_; focus (simp; done)) | apply get_set | apply get_app | (apply get_ne; focus omega)); done)) ?_ rfl rfl ?_ ?_ rfl ?_; (first | rfl | focus (simp only [List.length_map, List.length_append, List.length_cons, List.length_nil]; omega) | focus (simp; done) | focus (simp; omega)); (first | focus (simp only [List.length_map, List.length_append, List.length_cons, List.length_nil]; omega) | focus (simp; done) | focus (simp; omega)); (first | focus (simp only [List.length_map, List.length_append, List.length_cons, List.length_nil]; omega) | focus (simp; done) | focus (simp; omega)))
  all_goals first
    | exact Nat.le_refl _
    | (rename_i k1
       refine ret0 (.inr rfl) rfl rfl ⟨rfl, ?_⟩
       rw [show oneR a b = [⟨a, b⟩] by unfold oneR; rw [if_pos k1]]
       refine hr3 ?_ ?_
       · rw [List.map_append]; rfl
       · rw [List.length_map, List.length_append]; rfl)
    | (rename_i k1
       refine ret0 (.inr rfl) rfl rfl ⟨rfl, ?_⟩
       unfold oneR; rw [if_neg (Int.not_lt.2 k1)]; simp; done)
    | skip
  all_goals trace_state
set_option maxHeartbeats 16000000 in
theorem rest_pc [GlobF Tryz.prog] (l : List Sp) (hl : l.length + 1 < 8796093022208) : PC Tryz.prog 68 [sl2 l] (sl2 (restL loT l)) := by
  refine PC.of_body Tryz.func68 Tryz.ntmps68 rfl rfl rfl ?_
  repeat' first
    | (refine m_alloc (t := 2) rfl ?_)
    | (refine WL_adoptC 0 0 2 69 rfl rfl ?_)
    | (apply p1 (hd := rfl); case hop => first | (apply D_move; rfl) | (apply D_assign; rfl) | (apply D_lenM; rfl) | exact D_mkfn rfl)
    | refine W_seq ?_
    | refine W_region ?_
    | refine WL_nil ?_
    | refine tn ?_
    | refine W_block ?_
    | (refine idA ?_; refine m_alloc rfl ?_)
    | (refine idS ?_; refine pS (S_store rfl rfl rfl rfl rfl rfl rfl) ?_)
  refine W_loopL (X := Nat × List Sp × Int) (fun x => [(3, .bp 0 0), (4, .bp 2 0), (5, .fn (.func 94) [] [.bp 2 0, .bp 0 0]), (9, sl2 l), (10, .sc (.int .i64 (l.length : Int))), (11, .sc (.int .i64 (x.1 : Int)))]) (fun x => HR x.2.1 x.2.2)
    (fun x => x.1 ≤ l.length ∧ x.2.1.length ≤ x.1 ∧ x.2.1 ++ restL x.2.2 (l.drop x.1) = restL loT l) (fun x => l.length - x.1) (0, [], loT) ⟨Nat.zero_le _, Nat.le_refl _, rfl⟩ ⟨rfl, rfl, rfl, rfl, rfl, rfl, trivial⟩ rfl ?_
  rintro ⟨i, o, a⟩ ⟨hi, ho, hI⟩
  simp only at hi ho hI ⊢
  have hone : ∀ b, (oneR a b).length ≤ 1 := fun b => by unfold oneR; split <;> simp
  by_cases hil : i < l.length
  · rw [List.drop_eq_getElem_cons hil, show restL a (l[i] :: l.drop (i + 1)) = oneR a l[i].f ++ restL l[i].t (l.drop (i + 1)) from rfl] at hI
    repeat' first
      | (apply p1 (hd := rfl); case hop => first | (apply D_move; rfl) | (apply D_load1; rfl) | (apply D_fld; rfl) | (apply D_int; rfl; rfl; rfl) | (apply D_loadW; rfl; rfl) | (apply D_idxAn; rfl; rfl; (first | omega | (simp; done))))
      | refine W_seq ?_
      | refine W_region ?_
      | (refine idC ?_; refine cs rfl (fun _ => ?_) (fun _ => ?_))
      | refine WL_nil ?_
      | refine tn ?_
      | refine bn ?_
      | refine te ?_
      | (refine idB ?_; refine bh rfl ?_)
      | refine W_skip ?_
      | refine W_block ?_
      | refine W_exit ?_
      | (refine idA ?_; refine m_var rfl rfl rfl rfl rfl rfl rfl ?_)
      | (refine idS ?_; refine pS (S_store rfl rfl rfl rfl rfl rfl rfl) ?_)
      | (refine m_callC (d := 18) (rest1_ac o a (l[i]'hil).f (by omega)) rfl rfl rfl rfl ?_; rintro _ _ ⟨rfl, rfl⟩)
    · have := hone (l[i]'hil).f
      refine ⟨rfl, (i + 1, o ++ oneR a l[i].f, l[i].t), ⟨by simp only []; omega, by simp only [List.length_append]; omega, ?_⟩, by simp only []; omega, ⟨rfl, rfl, rfl, rfl, rfl, ieq (wsucc i (by omega)), trivial⟩, rfl⟩
      rw [← hI]; exact List.append_assoc _ _ _
    · exfalso; omega
  · have e : l.drop i = [] := List.drop_eq_nil_of_le (by omega)
    rw [e, show restL a [] = oneR a hiT from rfl] at hI
    repeat' first
      | (apply p1 (hd := rfl); case hop => first | (apply D_move; rfl) | (apply D_assign; rfl) | (apply D_load1; rfl) | (apply D_fld; rfl) | (apply D_int; rfl; rfl; rfl) | (apply D_loadW; rfl; rfl) | (apply D_idxAn; rfl; rfl; (first | omega | (simp; done))))
      | refine W_seq ?_
      | refine W_region ?_
      | (refine idC ?_; refine cs rfl (fun _ => ?_) (fun _ => ?_))
      | refine WL_nil ?_
      | refine tn ?_
      | refine te ?_
      | (refine idB ?_; refine bh rfl ?_)
      | refine W_skip ?_
      | refine W_block ?_
      | refine W_exit ?_
      | refine W_ret ?_
      | (refine idR ?_; refine ret1 rfl rfl rfl ?_)
      | (refine idLd ?_; refine p1L (D_loadB1 rfl rfl rfl) rfl ?_)
      | (refine idA ?_; refine m_var rfl rfl rfl rfl rfl rfl rfl ?_)
      | (refine m_callC (d := 23) (rest1_ac o a hiT (by omega)) rfl rfl rfl rfl ?_; rintro _ _ ⟨rfl, rfl⟩)
    · exfalso; omega
    · rw [← hI]; exact Le.tokq rfl
theorem rest_len : ∀ (l : List Sp) (a : Int), (restL a l).length ≤ l.length + 1
  | [], a => by unfold restL; split <;> simp
  | s :: l, a => by
    have := rest_len l s.t
    unfold restL
    rw [List.length_append]
    split <;> simp <;> omega
set_option maxHeartbeats 4000000 in
theorem sand_pc [GlobF Tryz.prog] (a b : List Sp) (ha : SetP a) (hb : SetP b) (hla : a.length + b.length + 1 < 8796093022208) (hlb : b.length < 8796093022208) : PC Tryz.prog 85 [sl2 a, sl2 b] (.tu [sl2 (meetL a b), .sc (.int .i64 0)]) := by
  have s1 := set_pc a (by omega)
  have s2 := set_pc b (by omega)
  rw [← dP_T ha] at s1
  rw [← dP_T hb] at s2
  refine PC.of_body Tryz.func85 Tryz.ntmps85 rfl rfl rfl ?_
  repeat' first
    | (apply p1 (hd := rfl); case hop => first | (apply D_move; rfl) | (apply D_assign; rfl) | (apply D_pc s1; rfl; exact .same rfl .nil) | (apply D_pc s2; rfl; exact .same rfl .nil) | (apply D_pc (shared_pc a b (by omega) (by omega)); rfl; exact .same rfl (.same rfl .nil)) | (apply D_pickT; rfl; rfl) | (apply D_pickF; rfl; rfl) | (apply D_not; rfl))
    | refine W_seq ?_
    | refine W_region ?_
    | (refine idC ?_; first | refine c1 rfl ?_ | refine cs rfl (fun _ => ?_) (fun _ => ?_))
    | refine WL_nil ?_
    | (refine idG ?_; first | refine g0f rfl rfl rfl ?_ | refine gr rfl rfl ?_ | refine gs rfl rfl (fun _ => ?_) (fun _ => ?_))
    | refine tn ?_
    | refine tr ?_
    | refine W_skip ?_
    | refine W_ret ?_
    | (refine idR ?_; refine ret2 rfl rfl rfl rfl ?_ ?_)
    | refine Le.int ?_
  all_goals first | rfl | contradiction | exact Le.of_eq rfl | skip
  all_goals trace_state
set_option maxHeartbeats 4000000 in
theorem sminus_pc [GlobF Tryz.prog] (a b : List Sp) (ha : SetP a) (hb : SetP b) (hla : a.length + b.length + 1 < 8796093022208) (hlb : b.length < 8796093022208) : PC Tryz.prog 39 [sl2 a, sl2 b] (.tu [sl2 (meetL a (restL loT b)), .sc (.int .i64 0)]) := by
  have s1 := set_pc a (by omega)
  have s2 := set_pc b (by omega)
  rw [← dP_T ha] at s1
  rw [← dP_T hb] at s2
  have hr := rest_len b loT
  refine PC.of_body Tryz.func39 Tryz.ntmps39 rfl rfl rfl ?_
  repeat' first
    | (apply p1 (hd := rfl); case hop => first | (apply D_move; rfl) | (apply D_assign; rfl) | (apply D_pc s1; rfl; exact .same rfl .nil) | (apply D_pc s2; rfl; exact .same rfl .nil) | (apply D_pc (rest_pc b (by omega)); rfl; exact .same rfl .nil) | (apply D_pc (shared_pc a (restL loT b) (by omega) (by omega)); rfl; exact .same rfl (.same rfl .nil)) | (apply D_pickT; rfl; rfl) | (apply D_pickF; rfl; rfl) | (apply D_not; rfl))
    | refine W_seq ?_
    | refine W_region ?_
    | (refine idC ?_; first | refine c1 rfl ?_ | refine cs rfl (fun _ => ?_) (fun _ => ?_))
    | refine WL_nil ?_
    | (refine idG ?_; first | refine g0f rfl rfl rfl ?_ | refine gr rfl rfl ?_ | refine gs rfl rfl (fun _ => ?_) (fun _ => ?_))
    | refine tn ?_
    | refine tr ?_
    | refine W_skip ?_
    | refine W_ret ?_
    | (refine idR ?_; refine ret2 rfl rfl rfl rfl ?_ ?_)
    | refine Le.int ?_
  all_goals first | rfl | contradiction | exact Le.of_eq rfl | skip
  all_goals trace_state
abbrev minL (a b : List Sp) : List Sp := meetL a (restL loT b)
end Go.Proofs

namespace Go.Proofs
open Go.AL
attribute [local irreducible] Go.AL.W Go.AL.WL Go.AL.WD Go.AL.POp Go.AL.PPOp Go.AL.POpS Go.AL.PC Go.AL.AC Go.AL.YW Go.AL.Ret Go.AL.Le Go.AL.thn Go.AL.inBlk Go.AL.scp
theorem rng_in {l : List Sp} (h : rngS l) {x : Int} (hx : inS l x) : loT ≤ x ∧ x < hiT := by
  obtain ⟨s, hs, h1, h2⟩ := hx
  have := h s hs
  omega
theorem rng_of {l : List Sp} (h : SetP l) (hx : ∀ x, inS l x → loT ≤ x ∧ x < hiT) : rngS l := fun s hs => by
  have hne := h.1 s hs
  have h1 := hx s.f ⟨s, hs, Int.le_refl _, hne⟩
  have h2 := hx (s.t - 1) ⟨s, hs, by omega, by omega⟩
  omega
theorem and_ok {a b : List Sp} (ha : SetP a) (hb : SetP b) : SetP (meetL a b) ∧ ∀ x, inS (meetL a b) x ↔ (inS a x ∧ inS b x) := meet_ok _ a b (Nat.le_refl _) ha hb
theorem min_ok {a b : List Sp} (ha : SetP a) (hb : SetP b) (ra : ∀ x, inS a x → loT ≤ x ∧ x < hiT) (rb : rngS b) : SetP (minL a b) ∧ ∀ x, inS (minL a b) x ↔ (inS a x ∧ ¬ inS b x) := by
  obtain ⟨r1, r2⟩ := rest_ok b loT hb rb (fun s hs => (rb s hs).1.1)
  obtain ⟨m1, m2⟩ := and_ok ha r1
  refine ⟨m1, fun x => (m2 x).trans ⟨fun h => ⟨h.1, ((r2 x).1 h.2).2.2⟩, fun h => ⟨h.1, (r2 x).2 ⟨(ra x h.1).1, (ra x h.1).2, h.2⟩⟩⟩⟩
theorem ne_app {a b : List Sp} (ha : SetP a) (hb : SetP b) : neS (a ++ b) := fun s hs => by
  rcases List.mem_append.1 hs with h | h
  · exact ha.1 s h
  · exact hb.1 s h
theorem or_ok {a b : List Sp} (ha : SetP a) (hb : SetP b) : SetP (canS (a ++ b)) ∧ ∀ x, inS (canS (a ++ b)) x ↔ (inS a x ∨ inS b x) := by
  obtain ⟨k1, k2⟩ := canS_ok (ne_app ha hb)
  exact ⟨k1, fun x => (k2 x).trans (inS_append a b x)⟩
theorem canS_len (l : List Sp) : (canS l).length ≤ l.length := by
  have := J_len (l.mergeSort fun x y => decide (x.f ≤ y.f))
  rwa [List.length_mergeSort] at this
theorem min_len (a b : List Sp) : (minL a b).length ≤ a.length + b.length + 1 := by
  have h1 := meet_len _ a (restL loT b) (Nat.le_refl _)
  have h2 := rest_len b loT
  show (meetL a (restL loT b)).length ≤ _
  omega
theorem encS_inj {a b : Sp} (h : [Value.int IntKind.i64 a.f, Value.int IntKind.i64 a.t] = [Value.int IntKind.i64 b.f, Value.int IntKind.i64 b.t]) : a = b := by
  simp at h
  exact Sp.ext' h.1 h.2
set_option maxHeartbeats 4000000 in
theorem ssame_pc [GlobF Tryz.prog] (a b : List Sp) (ha : a.length < 4611686018427387904) : PC Tryz.prog 20 [sl2 a, sl2 b] (.sc (.bool (dP (a = b)))) := by
  refine PC.of_body Tryz.func20 Tryz.ntmps20 rfl rfl rfl ?_
  repeat' first
    | (apply p1 (hd := rfl); case hop => first | (apply D_move; rfl) | (apply D_assign; rfl) | (apply D_int; rfl; rfl; rfl) | (apply D_lenM; rfl))
    | refine W_seq ?_
    | refine W_region ?_
    | (refine idC ?_; refine cs rfl (fun _ => ?_) (fun _ => ?_))
    | refine WL_nil ?_
    | refine tn ?_
    | refine tr ?_
    | refine W_skip ?_
    | refine W_block ?_
    | refine W_ret ?_
    | (refine idR ?_; refine ret1 rfl rfl rfl ?_)
    | refine Le.bool ?_
  · rename_i h1
    exact dP_F fun e => h1 (by rw [e])
  rename_i h1
  have hl : a.length = b.length := by omega
  refine W_loopL (X := Nat) (fun i => [(0, sl2 a), (1, sl2 b), (5, .sc (.int .i64 (i : Int)))]) (fun _ => [])
    (fun i => i ≤ a.length ∧ ∀ (j : Nat) (h : j < a.length) (h' : j < b.length), j < i → a[j] = b[j]) (fun i => a.length - i) 0 ⟨Nat.zero_le _, fun j h h' hj => absurd hj (Nat.not_lt_zero j)⟩ ⟨rfl, rfl, rfl, trivial⟩ rfl ?_
  rintro i ⟨hi, hz⟩
  repeat' first
    | (apply p1 (hd := rfl); case hop => first | (apply D_move; rfl) | (apply D_assign; rfl) | (apply D_int; rfl; rfl; rfl) | (apply D_lenM; rfl))
    | refine W_seq ?_
    | refine W_region ?_
    | (refine idC ?_; refine cs rfl (fun _ => ?_) (fun _ => ?_))
    | refine WL_nil ?_
    | refine tn ?_
    | refine tr ?_
    | refine br ?_
    | refine bn ?_
    | refine te ?_
    | (refine idB ?_; refine bh rfl ?_)
    | refine W_skip ?_
    | refine W_block ?_
    | refine W_exit ?_
    | refine W_ret ?_
    | (refine idR ?_; refine ret1 rfl rfl rfl ?_)
    | refine Le.bool ?_
    | (refine idW ?_; refine W_draw0 rfl ?_)
    | (apply d1 (hd := rfl); case hop => first | (apply D_move; rfl) | (apply D_loadW; rfl; rfl) | (apply D_idxAn; rfl; rfl; (first | omega | (simp; done))) | exact D_neA rfl rfl rfl rfl rfl rfl rfl)
    | refine WD_nil (by first | decide +kernel | kernel_rfl | rfl) ?_
  · rename_i hx
    exact dP_F fun e => hx (by subst e; rfl)
  · rename_i hx
    refine ⟨rfl, i + 1, ⟨by omega, fun j h h' hj => ?_⟩, by omega, ⟨rfl, rfl, ieq (wsucc i (by omega)), trivial⟩, rfl⟩
    by_cases e : j = i
    · subst e; exact encS_inj hx
    · exact hz j h h' (by omega)
  · exact dP_T (List.ext_getElem hl fun j h h' => hz j h h' (by omega))
end Go.Proofs

namespace Go.Proofs
open Go.AL Go.Sort
structure Fac where
  e : Int
  a : Int
  v : Val
  sp : List Sp
abbrev fC (f : Fac) : List AV := [.sc (.int .i64 f.e), .sc (.int .i64 f.a), .sc (.int .i64 f.v.kind), .sc (.int .i64 f.v.n), str f.v.s, sl2 f.sp]
abbrev sl9 (l : List Dat) : AV := .sl none 9 (l.map dC)
abbrev sl6 (l : List Fac) : AV := .sl none 6 (l.map fC)
def alP (a b : Dat) : Prop := a.e = b.e ∧ a.a = b.a ∧ a.v = b.v
def grP (whole : Bool) (a b : Dat) : Prop := alP a b ∧ (whole = true ∨ a.t = b.t)
theorem tw_at (q : Dat → Bool) : ∀ (l : List Dat) (m : Nat), m ≤ l.length → (∀ (j : Nat) (h : j < l.length), j < m → q l[j] = true) → (∀ h : m < l.length, q l[m] = false) → l.takeWhile q = l.take m ∧ l.dropWhile q = l.drop m
  | [], m, hm, _, _ => by simp
  | x :: l, 0, _, _, h2 => by
    have := h2 (by simp)
    simp only [List.getElem_cons_zero] at this
    simp [this]
  | x :: l, m + 1, hm, h1, h2 => by
    have h0 := h1 0 (by simp) (by omega)
    simp only [List.getElem_cons_zero] at h0
    obtain ⟨a, b⟩ := tw_at q l m (by simpa using hm) (fun j h hj => by have := h1 (j + 1) (by simpa using h) (by omega); simpa using this) (fun h => by have := h2 (by simpa using h); simpa using this)
    simp [h0, a, b]
open Classical in
noncomputable def tst (p : Dat → Dat → Prop) (d : Dat) : Dat → Bool := fun x => decide (p d x)
theorem tst_t {p : Dat → Dat → Prop} {d x : Dat} : tst p d x = true ↔ p d x := by unfold tst; simp
theorem tst_f {p : Dat → Dat → Prop} {d x : Dat} : tst p d x = false ↔ ¬ p d x := by unfold tst; simp
noncomputable def grpL (p : Dat → Dat → Prop) : List Dat → List (List Dat)
  | [] => []
  | d :: l => (d :: l.takeWhile (tst p d)) :: grpL p (l.dropWhile (tst p d))
termination_by l => l.length
decreasing_by
  have := (List.dropWhile_sublist (p := tst p d) (l := l)).length_le
  simp; omega
theorem grpL_nil (p : Dat → Dat → Prop) : grpL p [] = [] := by rw [grpL]
theorem grpL_cons (p : Dat → Dat → Prop) (d : Dat) (l : List Dat) : grpL p (d :: l) = (d :: l.takeWhile (tst p d)) :: grpL p (l.dropWhile (tst p d)) := by rw [grpL]
theorem grp_at {p : Dat → Dat → Prop} {r : List Dat} {n : Nat} (h0 : 0 < n) (hn : n ≤ r.length) (h1 : ∀ (j : Nat) (h : j < r.length), 1 ≤ j → j < n → p (r[0]'(by omega)) r[j]) (h2 : ∀ h : n < r.length, ¬ p (r[0]'(by omega)) r[n]) :
    grpL p r = r.take n :: grpL p (r.drop n) := by
  cases r with
  | nil => simp at hn; omega
  | cons d l =>
    obtain ⟨m, rfl⟩ : ∃ m, n = m + 1 := ⟨n - 1, by omega⟩
    obtain ⟨a, b⟩ := tw_at (tst p d) l m (by simpa using hn) (fun j h hj => tst_t.2 (by have := h1 (j + 1) (by simpa using h) (by omega) (by omega); simpa using this)) (fun h => tst_f.2 (by have := h2 (by simpa using h); simpa using this))
    rw [grpL_cons, a, b]; rfl
def saidL (l : List Dat) (b : Bool) : List Sp := (l.filter fun d => d.add == b).map fun d => ⟨d.fr, d.to⟩
theorem saidL_len (l : List Dat) (b : Bool) : (saidL l b).length ≤ l.length := by unfold saidL; rw [List.length_map]; exact List.length_filter_le _ _
theorem saidL_snoc (l : List Dat) (b : Bool) (i : Nat) (h : i < l.length) : saidL (l.take (i + 1)) b = saidL (l.take i) b ++ (if l[i].add = b then [⟨l[i].fr, l[i].to⟩] else []) := by
  unfold saidL
  rw [List.take_succ_eq_append_getElem h, List.filter_append, List.map_append]
  congr 1
  by_cases hb : l[i].add = b <;> simp [hb]
def okD (l : List Dat) : Prop := ∀ d, d ∈ l → d.fr < d.to
theorem saidL_ne {l : List Dat} (h : okD l) (b : Bool) : neS (saidL l b) := fun s hs => by
  unfold saidL at hs
  obtain ⟨d, hd, rfl⟩ := List.mem_map.1 hs
  exact h d (List.mem_filter.1 hd).1
noncomputable def tnL (now : List Sp) (l : List Dat) : List Sp := minL (canS (now ++ canS (saidL l true))) (canS (saidL l false))
noncomputable def bothL (l : List Dat) : List Sp := meetL (canS (saidL l true)) (canS (saidL l false))
noncomputable def foldT (now : List Sp) : List (List Dat) → Option (List Sp)
  | [] => some now
  | x :: xs => if (bothL x).length = 0 then foldT (tnL now x) xs else none
noncomputable def foldG : List (List Dat) → Option (List Fac)
  | [] => some []
  | g :: gs => match foldT [] (grpL (grP false) g), foldG gs with
    | some sp, some r => some ((if sp.length = 0 then [] else [⟨(g.headD dat0).e, (g.headD dat0).a, (g.headD dat0).v, sp⟩]) ++ r)
    | _, _ => none
end Go.Proofs

namespace Go.AL
theorem run_enterLoop_inner {P : Program} {w : World} {l0 : Nat} {L : Loop} (fn : FuncId) (tmps : Array Value) (ps : Array Tmp) (assign body : Code) (h : w.heap[l0]? = some (.loop L)) :
    (Instr.enterLoop fn tmps ps assign body (some l0)).run P w = .ok (w.heap.size, []) (w.alloc (.loop { state := .ready, pending := none, fn, tmps, params := ps, assign, body, defers := L.defers })) := by
  unfold Instr.enterLoop
  simp only [Sem.run_bind, run_getLoop h, run_newObj_alloc, Result.andThen, Sem.run_pure]
section
variable {P : Program} [GlobF P] {fr : Option Nat} {N : Nat} {Q : Exit → AS → Prop} {ops : Array Oper} {rest : List Oper} {rg : List (Nat × AV)} {h : List AObj} {mk : Mk} {ty : TypeId} {pos : String} {af : Array Edge} {d : Nat}
theorem W_rangeN {l0 r0 N0 : Nat} {ps0 : Array Tmp} {as0 bd0 : Code} {rg0 : List (Nat × AV)} {st0 : LoopState} {pe0 : Option Code} {g : Operand} {ps : Array Tmp} {assign body : Code} {f : FuncId} {ys : List AV} (hr0 : h[r0]? = some (.loopr l0 N0 ps0 as0 bd0 rg0 st0 pe0)) (hg : evR rg g = some (.fn (.func f) [] ys) ∨ (evR rg g = some (.sc (.func (.func f) #[] #[])) ∧ ys = []))
    (hc : ∀ l, AC P f (.sc (.func (.yield l) #[] #[]) :: ys) (h ++ [.loopr l N ps assign body rg .ready none]) (fun _ h' => EndR h.length l N ps assign body rg mk Q h')) :
    W P (some l0) N (.rangeFunc g ps assign body) Q ⟨rg, h, mk⟩ := by
  intro B G a w hR
  have eg := hR.ev g
  have hgv : ∃ cs : List Value, a.eval g = .func (.func f) #[] cs.toArray ∧ ConcL G cs ys := by
    rcases hg with hg | ⟨hg, rfl⟩
    · rw [show (⟨rg, h, mk⟩ : AS).ev g = _ from AS.evO_eq ((evR_eq rg h mk) ▸ hg)] at eg
      generalize a.eval g = v at eg
      cases eg with
      | @fn _ fs cs _ _ l1 l2 h1 h2 =>
        have : fs = [] := by simpa using l1
        subst this
        exact ⟨cs, rfl, l2, h2⟩
    · rw [show (⟨rg, h, mk⟩ : AS).ev g = _ from AS.evO_eq ((evR_eq rg h mk) ▸ hg)] at eg
      exact ⟨[], by rw [conc_sc eg], .nil _⟩
  obtain ⟨cs, hgv, hcs⟩ := hgv
  have hh := hR.heap
  obtain ⟨R0, i1, _⟩ := hh.setLoop (st' := .ready) (pe' := none) hr0
  refine wpIn_rangeFunc fun fn _ => ?_
  let L : Loop := { state := .ready, pending := none, fn, tmps := a.tmps, params := ps, assign, body, defers := R0.defers }
  let w1 : World := w.alloc (.loop L)
  have hen : (Instr.enterLoop fn a.tmps ps assign body (fence (some l0)).round).run P w = .ok (w.heap.size, []) w1 := run_enterLoop_inner fn a.tmps ps assign body i1
  have nimm : ∀ o, G.imm w.heap.size o = none := fun o => by
    cases hi : G.imm w.heap.size o with
    | none => rfl
    | some v => exact absurd (hh.lt hi) (by omega)
  have cellk : ∀ (v : World) (o : Obj) (b i : Nat) (u : Value), b < v.heap.size → v.cell? ⟨b, i, none⟩ = some u → (v.alloc o).cell? ⟨b, i, none⟩ = some u := fun v o b i u hb hu => by
    have : (v.alloc o).cell? ⟨b, i, none⟩ = v.cell? ⟨b, i, none⟩ := by
      simp only [World.cell?]; rw [heap_alloc_old v o b hb]
    rw [this]; exact hu
  let G1 : Gh := ⟨G.imm, fun r => if r = h.length then some w.heap.size else G.blk r, G.tl⟩
  have hle1 : G.le G1 := ⟨fun _ _ _ e => e, fun r b e => by
    show (if r = h.length then some w.heap.size else G.blk r) = some b
    by_cases hrl : r = h.length
    · have := (hh.fresh r (by show h.length ≤ r; omega)).1; rw [this] at e; cases e
    · rw [if_neg hrl]; exact e, fun _ _ _ e => e⟩
  have hr1 : RH B G1 (h ++ [.loopr w.heap.size N ps assign body rg .ready none]) w1 := by
    refine hh.allocObj _ hle1 rfl rfl rfl (Nat.le_refl _) (by simp [w1]) (fun b hb => heap_alloc_old w _ b hb) (fun _ _ _ => rfl) (fun b o v hv => cellk w _ b o v (hh.lt hv) (hh.imm b o v hv)) (fun r hne => ⟨if_neg hne, fun _ => rfl⟩) ?_ (fun b hb => ?_)
    · exact ⟨if_pos rfl, hh.size, nimm, fn, a.tmps, R0.defers, heap_alloc_new w (.loop L), hR.size, fun t => (hR.regs t).mono hle1⟩
    · have e1 : G1.blk h.length = some w.heap.size := if_pos rfl
      simp only [ownBlk, e1] at hb; cases hb; exact Nat.le_refl _
  have hac := hc w.heap.size
  let args : List Value := .func (.yield w.heap.size) #[] #[] :: cs
  have hargs : ConcL G1 args (.sc (.func (.yield w.heap.size) #[] #[]) :: ys) := .cons (.sc _) (hcs.mono hle1)
  refine ⟨w.heap.size, [], w1, { target := .fn (.func f) cs.toArray, args := #[.func (.yield w.heap.size) #[] #[]] }, w1, f, args.toArray, w1, hen, ?_, fun _ _ => trivial, ?_, fun hs => (by rw [fence_depth] at hs; cases hs), ?_⟩
  · simp only [resolve, hgv, Deferred.ofValue, Sem.run_pure]
    simp [Act.eval]
  · simp only [invoke]
    rw [show (#[Value.func (.yield w.heap.size) #[] #[]] ++ cs.toArray : Array Value) = args.toArray by simp [args]]
    exact hac.1 args.toArray w1
  · have hcall := callsIn_wide (n := 0 - 1).2 (hac.2 B G1 w1 args hr1 hargs)
    have hcall' : CallsIn (fence (some l0)) (0 - 1) P f args.toArray w1 _ := hcall
    refine CallsIn.mono (F := fence (some l0)) hcall' ?_
    rintro e w3 ⟨r, G3, h3, v, rfl, hg3, hh3, -, st, pe, ho, hst, hq⟩
    obtain ⟨R3, j1, j2, j3, _, _, _, _, _, _, j9⟩ := hh3.setLoop (st' := .exhausted) (pe' := pe) ho
    have hend := run_endLoop (P := P) j1 (by rw [j2]; exact hst)
    have e1 : ({ R3 with state := .exhausted } : Loop) = { R3 with state := .exhausted, pending := pe } := by rw [← j3]
    rw [e1, j3] at hend
    have hRn : R B N G3 ⟨rg, h3.set h.length .dead, mk⟩ { a with defers := [] ++ a.defers } (w3.putObj w.heap.size (.loop { R3 with state := .exhausted, pending := pe })) := by
      refine ⟨j9, hR.size, fun t => ((hR.regs t).mono hle1).mono hg3, ⟨hR.defers.1, fun i dd r hd hr => ?_⟩, hR.own⟩
      obtain ⟨b, e1, e2⟩ := hR.defers.2 i dd r (by simpa using hd) hr
      exact ⟨b, hg3.blk _ _ (hle1.blk _ _ e1), e2⟩
    refine ⟨pe, _, hend, ?_⟩
    cases pe with
    | none => exact ⟨G3, _, hRn, hq⟩
    | some c =>
      cases c with
      | ret => exact wpIn_ret ⟨G3, _, hRn, hq⟩
      | exit i => exact wpIn_exit ⟨G3, _, hRn, hq⟩
      | _ => exact hq.elim
theorem W_rangeX {g : Operand} {ps : Array Tmp} {assign body : Code} {f : FuncId} {ys : List AV} (hg : evR rg g = some (.fn (.func f) [] ys) ∨ (evR rg g = some (.sc (.func (.func f) #[] #[])) ∧ ys = []))
    (hc : ∀ l (X : LoopState → Option Code → AObj), (∀ st pe, X st pe = .loopr l N ps assign body rg st pe) → AC P f (.sc (.func (.yield l) #[] #[]) :: ys) (h ++ [.raw (.deferred (some []))] ++ [X .ready none]) (fun _ h' => EndR (h.length + 1) l N ps assign body rg ⟨h.length :: mk.l, mk.n0⟩ Q h')) :
    W P none N (.rangeFunc g ps assign body) Q ⟨rg, h, mk⟩ := W_range hg fun l => hc l (fun st pe => .loopr l N ps assign body rg st pe) fun _ _ => rfl
theorem W_rangeNX {l0 r0 N0 : Nat} {ps0 : Array Tmp} {as0 bd0 : Code} {rg0 : List (Nat × AV)} {st0 : LoopState} {pe0 : Option Code} {g : Operand} {ps : Array Tmp} {assign body : Code} {f : FuncId} {ys : List AV} (hr0 : h[r0]? = some (.loopr l0 N0 ps0 as0 bd0 rg0 st0 pe0)) (hg : evR rg g = some (.fn (.func f) [] ys) ∨ (evR rg g = some (.sc (.func (.func f) #[] #[])) ∧ ys = []))
    (hc : ∀ l (X : LoopState → Option Code → AObj), (∀ st pe, X st pe = .loopr l N ps assign body rg st pe) → AC P f (.sc (.func (.yield l) #[] #[]) :: ys) (h ++ [X .ready none]) (fun _ h' => EndR h.length l N ps assign body rg mk Q h')) :
    W P (some l0) N (.rangeFunc g ps assign body) Q ⟨rg, h, mk⟩ := W_rangeN hr0 hg fun l => hc l (fun st pe => .loopr l N ps assign body rg st pe) fun _ _ => rfl
theorem W_hq {c : Code} {h' : List AObj} (e : h = h') (hk : W P fr N c Q ⟨rg, h', mk⟩) : W P fr N c Q ⟨rg, h, mk⟩ := e ▸ hk
theorem WL_hq {l : List Oper} {h' : List AObj} (e : h = h') (hk : WL P fr N ops l Q ⟨rg, h', mk⟩) : WL P fr N ops l Q ⟨rg, h, mk⟩ := e ▸ hk
end
end Go.AL
