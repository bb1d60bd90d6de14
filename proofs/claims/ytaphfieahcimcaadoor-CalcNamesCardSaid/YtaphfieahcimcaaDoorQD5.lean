/- Contracts of the statements' helpers: says, does, none, alive. -/
import Derived.Test.YtaphfieahcimcaaDoorQD4
namespace Go.Proofs
open Go.AL
attribute [local irreducible] Go.AL.W Go.AL.WL Go.AL.WD Go.AL.POp Go.AL.PPOp Go.AL.POpS Go.AL.PC Go.AL.AC Go.AL.YW Go.AL.Ret Go.AL.Le Go.AL.thn Go.AL.inBlk Go.AL.scp

theorem right_pred {s : List UInt8} {a b : Val} (h : s ∈ preds) (ha : MayP a) (hb : MayP b) : rightI s [a, b] true = 0 := by
  unfold rightI
  rw [if_neg ?_, if_pos ?_]
  · intro v hv; simp only [List.mem_cons, List.not_mem_nil, or_false] at hv; rcases hv with rfl | rfl <;> assumption
  · have h1 : knownK s = true := by unfold knownK; rw [dP_t]; exact .inl h
    have h2 : knownP s = true := by unfold knownP; rw [dP_t]; exact h
    have h3 : knownI s = 2 := by unfold knownI; rw [if_pos (.inl h)]
    simp [h1, h2, h3]
theorem twos_not : ∀ s, s ∈ twos → ¬ s ∈ preds := by decide
theorem ones_np : ∀ s, s ∈ ones → ¬ s ∈ preds := by decide
theorem right_two2 {s : List UInt8} {a b : Val} (h : s ∈ twos) (ha : MayP a) (hb : MayP b) : rightI s [a, b] false = 0 := by
  unfold rightI
  rw [if_neg ?_, if_pos ?_]
  · intro v hv; simp only [List.mem_cons, List.not_mem_nil, or_false] at hv; rcases hv with rfl | rfl <;> assumption
  · have h1 : knownK s = true := by unfold knownK; rw [dP_t]; exact .inr (.inl h)
    have h2 : knownP s = false := by unfold knownP; rw [dP_f]; exact twos_not s h
    have h3 : knownI s = 2 := by unfold knownI; rw [if_pos (.inr h)]
    simp [h1, h2, h3]
theorem right_one1 {s : List UInt8} {a : Val} (h : s ∈ ones) (ha : MayP a) : rightI s [a] false = 0 := by
  unfold rightI
  rw [if_neg ?_, if_pos ?_]
  · intro v hv; simp only [List.mem_cons, List.not_mem_nil, or_false] at hv; subst hv; exact ha
  · have h1 : knownK s = true := by unfold knownK; rw [dP_t]; exact .inr (.inr (.inl h))
    have h2 : knownP s = false := by unfold knownP; rw [dP_f]; exact ones_np s h
    have hn := ones_not s h
    have h3 : knownI s = 1 := by unfold knownI; rw [if_neg (by rintro (e | e); exact hn.1 e; exact hn.2 e), if_pos h]
    simp [h1, h2, h3]
abbrev subL : List UInt8 := [115, 117, 98]
theorem right_sub {a b c : Val} (ha : MayP a) (hb : MayP b) (hc : MayP c) : rightI subL [a, b, c] false = 0 := by
  unfold rightI
  rw [if_neg ?_, if_pos ?_]
  · intro v hv; simp only [List.mem_cons, List.not_mem_nil, or_false] at hv; rcases hv with rfl | rfl | rfl <;> assumption
  · have h1 : knownK subL = true := by unfold knownK; rw [dP_t]; exact .inr (.inr (.inr rfl))
    have h2 : knownP subL = false := by unfold knownP; rw [dP_f]; exact sub_not.1
    have h3 : knownI subL = 3 := by unfold knownI; rw [if_neg (by rintro (e | e); exact sub_not.1 e; exact sub_not.2.1 e), if_neg sub_not.2.2.1, if_pos rfl]
    simp [h1, h2, h3]
theorem testB_v {s : List UInt8} {a b : Val} (h : rightI s [a, b] true = 0) : testB s [a, b] = dP (testP s a b) := by
  unfold testB
  cases hd : dP (testP s a b) with
  | true => rw [dP_t] at hd; exact (dP_T ⟨h, a, b, rfl, hd⟩).symm
  | false =>
    rw [dP_f] at hd
    exact (dP_F fun ⟨_, x, y, e, ht⟩ => by
      simp only [List.cons.injEq, and_true] at e
      obtain ⟨rfl, rfl⟩ := e
      exact hd ht).symm
theorem testB_0 {s : List UInt8} {l : List Val} (h : testB s l = true) : rightI s l true = 0 := by unfold testB at h; rw [dP_t] at h; exact h.1

def sayP (s : List UInt8) (l : List Val) : Prop := testB s l = true
set_option maxHeartbeats 4000000 in
theorem says_pc [GlobF Tryd.prog] (hg : MaxLenOK) (s : List UInt8) (l : List Val) (hl : l.length < 4611686018427387904) (hs : ∀ v, v ∈ l → v.s.length < 4294967281) :
    PC Tryd.prog 13 [str s, .sl none 3 (l.map vC)] (.sc (.bool (testB s l))) := by
  refine PC.of_body Tryd.func13 Tryd.ntmps13 rfl rfl rfl ?_
  repeat' first
    | (apply p1 (hd := rfl); case hop => first | (apply D_move; rfl) | (apply D_assign; rfl) | (apply D_pc (test_pc hg s l hl hs); rfl; exact .same rfl (.same rfl .nil)) | (apply D_pickT; rfl; rfl) | (apply D_pickF; rfl; rfl) | (apply D_int; rfl; rfl; rfl) | (apply D_ext; rfl; rfl))
    | refine W_seq ?_
    | refine W_region ?_
    | refine WL_nil ?_
    | (refine idG ?_; first | refine g0t rfl rfl rfl ?_ | refine g0f rfl rfl rfl ?_ | refine g0u rfl rfl rfl ?_ | refine gr rfl rfl ?_ | refine gs rfl rfl (fun _ => ?_) (fun _ => ?_) | refine grn rfl rfl ?_)
    | refine tn ?_
    | refine tr ?_
    | refine br ?_
    | refine bn ?_
    | refine te ?_
    | (refine idB ?_; first | refine bh rfl ?_ | refine bm rfl ?_)
    | refine W_skip ?_
    | refine W_block ?_
    | refine W_exit ?_
    | refine W_ret ?_
    | refine W_label ?_
    | refine W_scope ?_
    | refine sn ?_
    | refine sr ?_
    | refine se ?_
    | (refine idR ?_; first | refine ret1 rfl rfl rfl ?_ | refine rL1 rfl (by first | exact trivial | exact ⟨rfl, trivial⟩) (by first | exact ResO.tmp rfl | exact ResO.cellBA rfl rfl rfl | exact ResO.cellB1 rfl rfl rfl | exact ResO.cellEA rfl rfl | exact ResO.cellE1 rfl) ?_)
    | refine Le.bool ?_
    | refine Le.int ?_
    | refine Le.str ?_
  · rename_i h
    rw [(iEq_t _ _).mpr (testB_0 h)]; exact h.symm
  all_goals (rename_i h; exact h.symm)
theorem eqL {a b : Val} : lEq [Value.int IntKind.i64 a.kind, Value.int IntKind.i64 a.n, Value.string { data := a.s.toArray }] [Value.int IntKind.i64 b.kind, Value.int IntKind.i64 b.n, Value.string { data := b.s.toArray }] = dP (a = b) := by
  refine dP_eq ?_
  rw [lEq_t]
  obtain ⟨k, n, s⟩ := a
  obtain ⟨k', n', s'⟩ := b
  constructor
  · intro h
    simp only [List.cons.injEq, Value.int.injEq, true_and, Value.string.injEq, ByteArray.mk.injEq, and_true] at h
    obtain ⟨rfl, rfl, h⟩ := h
    have : s = s' := by simpa using h
    subst this; rfl
  · rintro h; cases h; rfl
def doesP (w : Val) (s : List UInt8) (l : List Val) : Prop := doP s l ∧ doV s l = w
def noneP (s : List UInt8) (l : List Val) : Prop := ¬ doP s l ∧ rightI s l false = 0
theorem doV_z {s : List UInt8} {l : List Val} (h : ¬ doP s l) : doV s l = zV := by unfold doV; rw [if_neg h]
set_option maxHeartbeats 4000000 in
theorem does_pc [GlobF Tryd.prog] (hp : PowOK) (he : ErrsOK) (w : Val) (s : List UInt8) (l : List Val) (hl : l.length < 4611686018427387904) (hs : ∀ v, v ∈ l → v.s.length < 134217728 ∧ inR v.n) :
    PC Tryd.prog 17 [eV w, str s, .sl none 3 (l.map vC)] (.sc (.bool (dP (doesP w s l)))) := by
  refine PC.of_body Tryd.func17 Tryd.ntmps17 rfl rfl rfl ?_
  repeat' first
    | (apply p1 (hd := rfl); case hop => first | (apply D_move; rfl) | (apply D_assign; rfl) | (apply D_pc (do_pc hp he s l hl hs); rfl; exact .same rfl (.same rfl .nil)) | (apply D_load1; rfl) | (apply D_pickT; rfl; rfl) | (apply D_pickF; rfl; rfl) | (apply D_int; rfl; rfl; rfl) | (apply D_ext; rfl; rfl) | (apply D_loadW; rfl; rfl) | (apply D_loadA; rfl; rfl) | (apply D_box; rfl; rfl) | exact D_eqA rfl rfl rfl rfl rfl rfl rfl | exact D_neA rfl rfl rfl rfl rfl rfl rfl)
    | refine W_seq ?_
    | refine W_region ?_
    | refine WL_nil ?_
    | (refine idG ?_; first | refine g0t rfl rfl rfl ?_ | refine g0f rfl rfl rfl ?_ | refine g0u rfl rfl rfl ?_ | refine gr rfl rfl ?_ | refine gs rfl rfl (fun _ => ?_) (fun _ => ?_) | refine grn rfl rfl ?_)
    | refine tn ?_
    | refine tr ?_
    | refine br ?_
    | refine bn ?_
    | refine te ?_
    | (refine idB ?_; first | refine bh rfl ?_ | refine bm rfl ?_)
    | refine W_skip ?_
    | refine W_block ?_
    | refine W_exit ?_
    | refine W_ret ?_
    | refine W_label ?_
    | refine W_scope ?_
    | refine sn ?_
    | refine sr ?_
    | refine se ?_
    | (refine idR ?_; first | refine ret1 rfl rfl rfl ?_ | refine rL1 rfl (by first | exact trivial | exact ⟨rfl, trivial⟩) (by first | exact ResO.tmp rfl | exact ResO.cellBA rfl rfl rfl | exact ResO.cellB1 rfl rfl rfl | exact ResO.cellEA rfl rfl | exact ResO.cellE1 rfl) ?_)
    | (refine idLd ?_; first | refine p1L (D_loadB1 rfl rfl rfl) rfl ?_ | refine p1L (D_loadBA rfl rfl rfl) rfl ?_ | refine p1L (D_loadB1 rfl (by (repeat first | assumption | exact get_last | (refine get_last2 ?_; focus (simp; done)) | apply get_set | apply get_app | (apply get_ne; focus omega) | (apply get_ne; focus (simp only [List.length_set, List.length_append, List.length_cons, List.length_nil]; omega))); done) (by rfl)) rfl ?_ | refine p1L (D_loadBA rfl (by (repeat first | assumption | exact get_last | (refine get_last2 ?_; focus (simp; done)) | apply get_set | apply get_app | (apply get_ne; focus omega) | (apply get_ne; focus (simp only [List.length_set, List.length_append, List.length_cons, List.length_nil]; omega))); done) (by rfl)) rfl ?_)
    | (refine idA ?_; first | refine m_var rfl rfl rfl rfl rfl rfl rfl ?_ | refine m_alloc rfl ?_)
    | (refine idS ?_; first | refine pS (S_store rfl rfl rfl rfl rfl rfl rfl) ?_ | refine pS (S_store rfl rfl rfl (by (repeat first | assumption | exact get_last | (refine get_last2 ?_; focus (simp; done)) | apply get_set | apply get_app | (apply get_ne; focus omega) | (apply get_ne; focus (simp only [List.length_set, List.length_append, List.length_cons, List.length_nil]; omega))); done) (by rfl) (by rfl) (by rfl)) ?_)
    | refine Le.bool ?_
    | refine Le.int ?_
    | refine Le.str ?_
  · rename_i h _
    rw [eqL]; refine dP_eq ?_; rw [dP_t]; exact ⟨fun e => ⟨h, e⟩, fun e => e.2⟩
  · rename_i h h2; exact dP_F fun e => h2 e.1.1
  · rename_i h; exact dP_F fun e => h e.1
set_option maxHeartbeats 4000000 in
theorem none_pc [GlobF Tryd.prog] (hp : PowOK) (he : ErrsOK) (s : List UInt8) (l : List Val) (hl : l.length < 4611686018427387904) (hs : ∀ v, v ∈ l → v.s.length < 134217728 ∧ inR v.n) :
    PC Tryd.prog 16 [str s, .sl none 3 (l.map vC)] (.sc (.bool (dP (noneP s l)))) := by
  refine PC.of_body Tryd.func16 Tryd.ntmps16 rfl rfl rfl ?_
  repeat' first
    | (apply p1 (hd := rfl); case hop => first | (apply D_move; rfl) | (apply D_assign; rfl) | (apply D_pc (do_pc hp he s l hl hs); rfl; exact .same rfl (.same rfl .nil)) | (apply D_load1; rfl) | (apply D_pickT; rfl; rfl) | (apply D_pickF; rfl; rfl) | (apply D_int; rfl; rfl; rfl) | (apply D_ext; rfl; rfl) | (apply D_not; rfl) | (apply D_loadW; rfl; rfl) | (apply D_loadA; rfl; rfl) | exact D_build rfl | exact D_buildA rfl | exact D_eqA rfl rfl rfl rfl rfl rfl rfl | exact D_neA rfl rfl rfl rfl rfl rfl rfl)
    | refine W_seq ?_
    | refine W_region ?_
    | refine WL_nil ?_
    | (refine idG ?_; first | refine g0t rfl rfl rfl ?_ | refine g0f rfl rfl rfl ?_ | refine g0u rfl rfl rfl ?_ | refine gr rfl rfl ?_ | refine gs rfl rfl (fun _ => ?_) (fun _ => ?_) | refine grn rfl rfl ?_)
    | refine tn ?_
    | refine tr ?_
    | refine br ?_
    | refine bn ?_
    | refine te ?_
    | (refine idB ?_; first | refine bh rfl ?_ | refine bm rfl ?_)
    | refine W_skip ?_
    | refine W_block ?_
    | refine W_exit ?_
    | refine W_ret ?_
    | refine W_label ?_
    | refine W_scope ?_
    | refine sn ?_
    | refine sr ?_
    | refine se ?_
    | (refine idR ?_; first | refine ret1 rfl rfl rfl ?_ | refine rL1 rfl (by first | exact trivial | exact ⟨rfl, trivial⟩) (by first | exact ResO.tmp rfl | exact ResO.cellBA rfl rfl rfl | exact ResO.cellB1 rfl rfl rfl | exact ResO.cellEA rfl rfl | exact ResO.cellE1 rfl) ?_)
    | (refine idLd ?_; first | refine p1L (D_loadB1 rfl rfl rfl) rfl ?_ | refine p1L (D_loadBA rfl rfl rfl) rfl ?_ | refine p1L (D_loadB1 rfl (by (repeat first | assumption | exact get_last | (refine get_last2 ?_; focus (simp; done)) | apply get_set | apply get_app | (apply get_ne; focus omega) | (apply get_ne; focus (simp only [List.length_set, List.length_append, List.length_cons, List.length_nil]; omega))); done) (by rfl)) rfl ?_ | refine p1L (D_loadBA rfl (by (repeat first | assumption | exact get_last | (refine get_last2 ?_; focus (simp; done)) | apply get_set | apply get_app | (apply get_ne; focus omega) | (apply get_ne; focus (simp only [List.length_set, List.length_append, List.length_cons, List.length_nil]; omega))); done) (by rfl)) rfl ?_)
    | (refine idA ?_; first | refine m_var rfl rfl rfl rfl rfl rfl rfl ?_ | refine m_alloc rfl ?_)
    | (refine idS ?_; first | refine pS (S_store rfl rfl rfl rfl rfl rfl rfl) ?_ | refine pS (S_store rfl rfl rfl (by (repeat first | assumption | exact get_last | (refine get_last2 ?_; focus (simp; done)) | apply get_set | apply get_app | (apply get_ne; focus omega) | (apply get_ne; focus (simp only [List.length_set, List.length_append, List.length_cons, List.length_nil]; omega))); done) (by rfl) (by rfl) (by rfl)) ?_)
    | refine Le.bool ?_
    | refine Le.int ?_
    | refine Le.str ?_
  · rename_i h h2
    rw [doV_z h, (lEq_t _ _).mpr rfl]; exact dP_T ⟨h, h2⟩
  · rename_i h h2; exact dP_F fun e => h2 e.2
  · rename_i h; exact dP_F fun e => e.1 h
set_option maxHeartbeats 4000000 in
theorem lnum_pc [GlobF Tryd.prog] (n : Int) : PC Tryd.prog 15 [.sc (.int .i64 n)] (eV ⟨1, n, []⟩) := by
  refine PC.of_body Tryd.func15 Tryd.ntmps15 rfl rfl rfl ?_
  repeat' first
    | (apply p1 (hd := rfl); case hop => first | (apply D_move; rfl) | exact D_build rfl | exact D_buildA rfl)
    | refine W_seq ?_
    | refine W_region ?_
    | refine WL_nil ?_
    | refine tn ?_
    | refine tr ?_
    | refine br ?_
    | refine bn ?_
    | refine te ?_
    | (refine idB ?_; first | refine bh rfl ?_ | refine bm rfl ?_)
    | refine W_skip ?_
    | refine W_block ?_
    | refine W_exit ?_
    | refine W_ret ?_
    | refine W_label ?_
    | refine W_scope ?_
    | refine sn ?_
    | refine sr ?_
    | refine se ?_
    | (refine idR ?_; first | refine ret1 rfl rfl rfl ?_ | refine rL1 rfl (by first | exact trivial | exact ⟨rfl, trivial⟩) (by first | exact ResO.tmp rfl | exact ResO.cellBA rfl rfl rfl | exact ResO.cellB1 rfl rfl rfl | exact ResO.cellEA rfl rfl | exact ResO.cellE1 rfl) ?_)
    | (refine idA ?_; first | refine m_var rfl rfl rfl rfl rfl rfl rfl ?_ | refine m_alloc rfl ?_)
    | (refine idS ?_; first | refine pS (S_store rfl rfl rfl rfl rfl rfl rfl) ?_ | refine pS (S_store rfl rfl rfl (by (repeat first | assumption | exact get_last | (refine get_last2 ?_; focus (simp; done)) | apply get_set | apply get_app | (apply get_ne; focus omega) | (apply get_ne; focus (simp only [List.length_set, List.length_append, List.length_cons, List.length_nil]; omega))); done) (by rfl) (by rfl) (by rfl)) ?_)
    | refine Le.bool ?_
    | refine Le.int ?_
    | refine Le.str ?_
  all_goals exact Le.of_eq rfl
set_option maxHeartbeats 4000000 in
theorem ltext_pc [GlobF Tryd.prog] (s : List UInt8) : PC Tryd.prog 14 [str s] (eV ⟨3, 0, s⟩) := by
  refine PC.of_body Tryd.func14 Tryd.ntmps14 rfl rfl rfl ?_
  repeat' first
    | (apply p1 (hd := rfl); case hop => first | (apply D_move; rfl) | exact D_build rfl | exact D_buildA rfl)
    | refine W_seq ?_
    | refine W_region ?_
    | refine WL_nil ?_
    | refine tn ?_
    | refine tr ?_
    | refine br ?_
    | refine bn ?_
    | refine te ?_
    | (refine idB ?_; first | refine bh rfl ?_ | refine bm rfl ?_)
    | refine W_skip ?_
    | refine W_block ?_
    | refine W_exit ?_
    | refine W_ret ?_
    | refine W_label ?_
    | refine W_scope ?_
    | refine sn ?_
    | refine sr ?_
    | refine se ?_
    | (refine idR ?_; first | refine ret1 rfl rfl rfl ?_ | refine rL1 rfl (by first | exact trivial | exact ⟨rfl, trivial⟩) (by first | exact ResO.tmp rfl | exact ResO.cellBA rfl rfl rfl | exact ResO.cellB1 rfl rfl rfl | exact ResO.cellEA rfl rfl | exact ResO.cellE1 rfl) ?_)
    | (refine idA ?_; first | refine m_var rfl rfl rfl rfl rfl rfl rfl ?_ | refine m_alloc rfl ?_)
    | (refine idS ?_; first | refine pS (S_store rfl rfl rfl rfl rfl rfl rfl) ?_ | refine pS (S_store rfl rfl rfl (by (repeat first | assumption | exact get_last | (refine get_last2 ?_; focus (simp; done)) | apply get_set | apply get_app | (apply get_ne; focus omega) | (apply get_ne; focus (simp only [List.length_set, List.length_append, List.length_cons, List.length_nil]; omega))); done) (by rfl) (by rfl) (by rfl)) ?_)
    | refine Le.bool ?_
    | refine Le.int ?_
    | refine Le.str ?_
  all_goals exact Le.of_eq rfl

/-! The chapter's first examples. -/
abbrev nV (n : Int) : Val := ⟨1, n, []⟩
theorem may_n (n : Int) : MayP (nV n) := .inr (.inl ⟨.inl rfl, rfl⟩)
theorem does_two {w : Val} {s : List UInt8} {a b : Val} (h : s ∈ twos) (ha : MayP a) (hb : MayP b) : doesP w s [a, b] ↔ twoP s a b ∧ MayP (twoV s a b) ∧ twoV s a b = w := by
  have hr := right_two2 h ha hb
  unfold doesP doV
  constructor
  · rintro ⟨h1, h2⟩
    rw [if_pos h1] at h2
    exact ⟨h1.2.1, h1.2.2, h2⟩
  · rintro ⟨h1, h2, h3⟩
    have hd : doP s [a, b] := ⟨hr, h1, h2⟩
    exact ⟨hd, by rw [if_pos hd]; exact h3⟩
theorem div_t {a b n : Int} (h : ¬ badP a b) (e : a.tdiv b = n) : doesP (nV n) [47] [nV a, nV b] := by
  rw [does_two (by decide) (may_n _) (may_n _)]
  have hv : twoV [47] (nV a) (nV b) = nV n := by
    rw [td2 (by decide) (by decide) (by decide) rfl rfl, recN_d (by decide) (by decide) (by decide), if_neg h, if_pos rfl]; show nV (a.tdiv b) = _; rw [e]
  refine ⟨?_, by rw [hv]; exact may_n _, hv⟩
  rw [tdP (by decide) (by decide) (by decide), recP_d (by decide) (by decide) (by decide)]
  exact ⟨⟨rfl, rfl⟩, h⟩
theorem mod_t {a b n : Int} (h : ¬ badP a b) (e : a.tmod b = n) : doesP (nV n) [109, 111, 100] [nV a, nV b] := by
  rw [does_two (by decide) (may_n _) (may_n _)]
  have hv : twoV [109, 111, 100] (nV a) (nV b) = nV n := by
    rw [td2 (by decide) (by decide) (by decide) rfl rfl, recN_d (by decide) (by decide) (by decide), if_neg h, if_neg (by decide)]; show nV (a.tmod b) = _; rw [e]
  refine ⟨?_, by rw [hv]; exact may_n _, hv⟩
  rw [tdP (by decide) (by decide) (by decide), recP_d (by decide) (by decide) (by decide)]
  exact ⟨⟨rfl, rfl⟩, h⟩
theorem says_v {s : List UInt8} {a b : Val} (h : s ∈ preds) (ha : MayP a) (hb : MayP b) : testB s [a, b] = dP (testP s a b) := testB_v (right_pred h ha hb)
theorem len2 {a b : Val} (ha : a.s.length < 134217728) (hb : b.s.length < 134217728) : ∀ v, v ∈ [a, b] → v.s.length < 4294967281 := fun v hv => by
  simp only [List.mem_cons, List.not_mem_nil, or_false] at hv; rcases hv with rfl | rfl <;> omega
theorem inD2 {a b : Val} (ha : a.s.length < 134217728) (hb : b.s.length < 134217728) (h1 : inR a.n) (h2 : inR b.n) : ∀ v, v ∈ [a, b] → v.s.length < 134217728 ∧ inR v.n := fun v hv => by
  simp only [List.mem_cons, List.not_mem_nil, or_false] at hv; rcases hv with rfl | rfl <;> exact ⟨by assumption, by assumption⟩
theorem inRn (n : Nat) (h : n < 9223372036854775808) : inR (n : Int) ∧ inR (-(n : Int)) := by unfold inR; omega
set_option maxHeartbeats 16000000 in
theorem alive_pc [GlobF Tryd.prog] (hg : MaxLenOK) (hp : PowOK) (he : ErrsOK) : PC Tryd.prog 20 [] (.sc (.bool true)) := by
  have g1 := says_pc hg [60] [nV 1, ⟨3, 0, [97]⟩] (by decide) (len2 (by decide) (by decide))
  rw [says_v (by decide) (may_n _) (by simp [MayP]), ← dP_T (show testP [60] (nV 1) ⟨3, 0, [97]⟩ by simp [testP, cmpV, cmpI, orI])] at g1
  have hr2 : rightI [61] [nV 2, ⟨6, 2, []⟩] true = 0 := right_pred (by decide) (may_n _) (by simp [MayP])
  have g2 := test_pc hg [61] [nV 2, ⟨6, 2, []⟩] (by decide) (len2 (by decide) (by decide))
  rw [testB_v hr2, hr2, ← dP_F (show ¬ testP [61] (nV 2) ⟨6, 2, []⟩ by simp [testP, cmpV, cmpI, orI])] at g2
  have g3 := does_pc hp he (nV (-3)) [47] [nV (-7), nV 2] (by decide) (inD2 (by decide) (by decide) (by unfold inR; decide) (by unfold inR; decide))
  rw [← dP_T (div_t (by unfold badP; decide) (by decide))] at g3
  have g4 := does_pc hp he (nV (-1)) [109, 111, 100] [nV (-7), nV 2] (by decide) (inD2 (by decide) (by decide) (by unfold inR; decide) (by unfold inR; decide))
  rw [← dP_T (mod_t (by unfold badP; decide) (by decide))] at g4
  refine PC.of_body Tryd.func20 Tryd.ntmps20 rfl rfl rfl ?_
  repeat' first
    | (apply p1 (hd := rfl); case hop => first | (apply D_move; rfl) | (apply D_assign; rfl) | (apply D_pc g1; rfl; exact .same rfl (.same rfl .nil)) | (apply D_pc g2; rfl; exact .same rfl (.same rfl .nil)) | (apply D_pc g3; rfl; exact .same rfl (.same rfl (.same rfl .nil))) | (apply D_pc g4; rfl; exact .same rfl (.same rfl (.same rfl .nil))) | (apply D_pc (lnum_pc _); rfl; exact .same rfl .nil) | (apply D_pc (ltext_pc _); rfl; exact .same rfl .nil) | (apply D_pickT; rfl; rfl) | (apply D_pickF; rfl; rfl) | (apply D_int; rfl; rfl; rfl) | (apply D_ext; rfl; rfl) | (apply D_not; rfl) | (apply D_lit; rfl; rfl; rfl; rfl) | exact D_build rfl | exact D_buildA rfl)
    | refine W_seq ?_
    | refine W_region ?_
    | refine WL_nil ?_
    | (refine idG ?_; first | refine g0t rfl rfl rfl ?_ | refine g0f rfl rfl rfl ?_ | refine g0u rfl rfl rfl ?_ | refine gr rfl rfl ?_ | refine gs rfl rfl (fun _ => ?_) (fun _ => ?_) | refine grn rfl rfl ?_)
    | refine tn ?_
    | refine tr ?_
    | refine br ?_
    | refine bn ?_
    | refine te ?_
    | (refine idB ?_; first | refine bh rfl ?_ | refine bm rfl ?_)
    | refine W_skip ?_
    | refine W_block ?_
    | refine W_exit ?_
    | refine W_ret ?_
    | refine W_label ?_
    | refine W_scope ?_
    | refine sn ?_
    | refine sr ?_
    | refine se ?_
    | (refine idR ?_; first | refine ret1 rfl rfl rfl ?_ | refine rL1 rfl (by first | exact trivial | exact ⟨rfl, trivial⟩) (by first | exact ResO.tmp rfl | exact ResO.cellBA rfl rfl rfl | exact ResO.cellB1 rfl rfl rfl | exact ResO.cellEA rfl rfl | exact ResO.cellE1 rfl) ?_)
    | refine Le.bool ?_
    | refine Le.int ?_
    | refine Le.str ?_
  all_goals first | rfl | contradiction
end Go.Proofs
