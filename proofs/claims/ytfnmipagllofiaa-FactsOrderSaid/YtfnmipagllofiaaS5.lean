/- Contracts of the statements SpanHas, SpanParts. -/
import Derived.Test.YtfnmipagllofiaaS4
namespace Go.Proofs
open Go.AL
attribute [local irreducible] Go.AL.W Go.AL.WL Go.AL.WD Go.AL.POp Go.AL.PPOp Go.AL.POpS Go.AL.PC Go.AL.AC Go.AL.YW Go.AL.Ret Go.AL.Le Go.AL.thn Go.AL.inBlk Go.AL.scp

theorem rng_in {l : List Sp} (h : rngS l) {x : Int} (hx : inS l x) : loT ≤ x ∧ x < hiT := by
  obtain ⟨s, hs, h1, h2⟩ := hx
  have := h s hs
  omega
theorem rng_of {l : List Sp} (h : SetP l) (hx : ∀ x, inS l x → loT ≤ x ∧ x < hiT) : rngS l := fun s hs => by
  have hne := h.1 s hs
  have h1 := hx s.f ⟨s, hs, Int.le_refl _, hne⟩
  have h2 := hx (s.t - 1) ⟨s, hs, by omega, by omega⟩
  omega
theorem and_ok {a b : List Sp} (ha : SetP a) (hb : SetP b) : SetP (meetL a b) ∧ ∀ x, inS (meetL a b) x ↔ (inS a x ∧ inS b x) := meet_ok _ a b (Nat.le_refl _) ha hb
theorem min_ok {a b : List Sp} (ha : SetP a) (hb : SetP b) (ra : ∀ x, inS a x → loT ≤ x ∧ x < hiT) (rb : rngS b) : SetP (minL a b) ∧ ∀ x, inS (minL a b) x ↔ (inS a x ∧ ¬ inS b x) := by
  obtain ⟨r1, r2⟩ := rest_ok b loT hb rb (fun s hs => (rb s hs).1.1)
  obtain ⟨m1, m2⟩ := and_ok ha r1
  refine ⟨m1, fun x => (m2 x).trans ⟨fun h => ⟨h.1, ((r2 x).1 h.2).2.2⟩, fun h => ⟨h.1, (r2 x).2 ⟨(ra x h.1).1, (ra x h.1).2, h.2⟩⟩⟩⟩
theorem ne_app {a b : List Sp} (ha : SetP a) (hb : SetP b) : neS (a ++ b) := fun s hs => by
  rcases List.mem_append.1 hs with h | h
  · exact ha.1 s h
  · exact hb.1 s h
theorem or_ok {a b : List Sp} (ha : SetP a) (hb : SetP b) : SetP (canS (a ++ b)) ∧ ∀ x, inS (canS (a ++ b)) x ↔ (inS a x ∨ inS b x) := by
  obtain ⟨k1, k2⟩ := canS_ok (ne_app ha hb)
  exact ⟨k1, fun x => (k2 x).trans (inS_append a b x)⟩
theorem canS_len (l : List Sp) : (canS l).length ≤ l.length := by
  have := J_len (l.mergeSort fun x y => decide (x.f ≤ y.f))
  rwa [List.length_mergeSort] at this
theorem min_len (a b : List Sp) : (minL a b).length ≤ a.length + b.length + 1 := by
  have h1 := meet_len _ a (restL loT b) (Nat.le_refl _)
  have h2 := rest_len b loT
  show (meetL a (restL loT b)).length ≤ _
  omega

/-! The chapter's first example. -/
abbrev exL : List Sp := [⟨5, 9⟩, ⟨1, 3⟩, ⟨3, 4⟩, ⟨8, 10⟩]
theorem ex_ne : neS exL := fun s hs => by
  simp only [List.mem_cons, List.not_mem_nil, or_false] at hs
  rcases hs with rfl | rfl | rfl | rfl <;> decide
theorem ex_can : canS exL = [⟨1, 4⟩, ⟨5, 10⟩] := by
  obtain ⟨k1, k2⟩ := canS_ok ex_ne
  refine set_ext k1 (setP_cons.2 ⟨by decide, fun r hr => by rw [List.mem_singleton.1 hr]; decide, setP_one (by decide)⟩) fun x => ?_
  rw [k2]
  simp only [inS_cons, show ∀ x, inS [] x = False from fun x => eq_false (inS_nil x), or_false]
  omega
set_option maxHeartbeats 8000000 in
theorem salive_pc [GlobF Try.prog] : PC Try.prog 7 [] (.sc (.bool true)) := by
  have hm := make_pc exL (by decide)
  rw [← dP_T ex_ne, if_pos rfl, if_pos rfl, ex_can] at hm
  refine PC.of_body Try.func7 Try.ntmps7 rfl rfl rfl ?_
  repeat' first
    | (apply p1 (hd := rfl); case hop => first | (apply D_move; rfl) | (apply D_assign; rfl) | (apply D_pc hm; rfl; exact .same rfl .nil) | (apply D_load1; rfl) | (apply D_pickT; rfl; rfl) | (apply D_pickF; rfl; rfl) | (apply D_int; rfl; rfl; rfl) | (apply D_lenM; rfl) | (apply D_len_sl; rfl) | (apply D_ext; rfl; rfl) | (apply D_loadW; rfl; rfl) | (apply D_loadA; rfl; rfl) | (apply D_len_nil; rfl) | (apply D_idxAn; rfl; rfl; (first | omega | (simp; done))) | (apply D_idxA; rfl; rfl; omega; (first | omega | (simp; done) | (simp; omega))) | (apply D_idxA0; rfl; rfl; omega; (first | omega | (simp; done) | (simp; omega))) | (apply D_lit; rfl; rfl; rfl; rfl) | exact D_build rfl | exact D_buildA rfl | (apply D_lenR; rfl) | (apply D_ixRn; rfl; rfl; (first | omega | (simp; done))) | (apply D_ixR; rfl; rfl; all_goals first | omega | ((repeat rw [w64 _ (by omega) (by omega)]); omega) | decide) | exact D_eqA rfl rfl rfl rfl rfl rfl rfl | exact D_neA rfl rfl rfl rfl rfl rfl rfl)
    | refine W_seq ?_
    | refine W_region ?_
    | refine WL_nil ?_
    | (refine idG ?_; first | refine g0t rfl rfl rfl ?_ | refine g0f rfl rfl rfl ?_ | refine g0u rfl rfl rfl ?_ | refine gr rfl rfl ?_ | refine gs rfl rfl (fun _ => ?_) (fun _ => ?_) | refine grn rfl rfl ?_)
    | refine tn ?_
    | refine tr ?_
    | refine br ?_
    | refine bn ?_
    | refine te ?_
    | (refine idB ?_; first | refine bh rfl ?_ | refine bm rfl ?_)
    | refine W_skip ?_
    | refine W_block ?_
    | refine W_exit ?_
    | refine W_ret ?_
    | refine W_label ?_
    | refine W_scope ?_
    | refine sn ?_
    | refine sr ?_
    | refine se ?_
    | (refine idR ?_; first | refine ret1 rfl rfl rfl ?_ | refine rL1 rfl (by first | exact trivial | exact ⟨rfl, trivial⟩) (by first | exact ResO.tmp rfl | exact ResO.cellBA rfl rfl rfl | exact ResO.cellB1 rfl rfl rfl | exact ResO.cellEA rfl rfl | exact ResO.cellE1 rfl) ?_)
    | refine Le.bool ?_
    | refine Le.int ?_
    | refine Le.str ?_
  all_goals first | rfl | contradiction | (rw [lEq_t]; rfl) | skip
  all_goals trace_state
theorem encS_inj {a b : Sp} (h : [Value.int IntKind.i64 a.f, Value.int IntKind.i64 a.t] = [Value.int IntKind.i64 b.f, Value.int IntKind.i64 b.t]) : a = b := by
  simp at h
  exact Sp.ext' h.1 h.2
set_option maxHeartbeats 4000000 in
theorem ssame_pc [GlobF Try.prog] (a b : List Sp) (ha : a.length < 4611686018427387904) : PC Try.prog 12 [sl2 a, sl2 b] (.sc (.bool (dP (a = b)))) := by
  refine PC.of_body Try.func12 Try.ntmps12 rfl rfl rfl ?_
  repeat' first
    | (apply p1 (hd := rfl); case hop => first | (apply D_move; rfl) | (apply D_assign; rfl) | (apply D_load1; rfl) | (apply D_int; rfl; rfl; rfl) | (apply D_lenM; rfl) | (apply D_len_sl; rfl) | (apply D_loadW; rfl; rfl) | (apply D_loadA; rfl; rfl) | (apply D_len_nil; rfl) | (apply D_idxAn; rfl; rfl; (first | omega | (simp; done))) | (apply D_idxA; rfl; rfl; omega; (first | omega | (simp; done) | (simp; omega))) | (apply D_idxA0; rfl; rfl; omega; (first | omega | (simp; done) | (simp; omega))) | (apply D_lenR; rfl) | (apply D_ixRn; rfl; rfl; (first | omega | (simp; done))) | (apply D_ixR; rfl; rfl; all_goals first | omega | ((repeat rw [w64 _ (by omega) (by omega)]); omega) | decide) | exact D_eqA rfl rfl rfl rfl rfl rfl rfl | exact D_neA rfl rfl rfl rfl rfl rfl rfl)
    | refine W_seq ?_
    | refine W_region ?_
    | (refine idC ?_; first | refine c1 rfl ?_ | refine c0 rfl ?_ | refine cs rfl (fun _ => ?_) (fun _ => ?_))
    | refine WL_nil ?_
    | refine tn ?_
    | refine tr ?_
    | refine br ?_
    | refine bn ?_
    | refine te ?_
    | (refine idB ?_; first | refine bh rfl ?_ | refine bm rfl ?_)
    | refine W_skip ?_
    | refine W_block ?_
    | refine W_exit ?_
    | refine W_ret ?_
    | refine W_label ?_
    | refine W_scope ?_
    | refine sn ?_
    | refine sr ?_
    | refine se ?_
    | (refine idR ?_; first | refine ret1 rfl rfl rfl ?_ | refine rL1 rfl (by first | exact trivial | exact ⟨rfl, trivial⟩) (by first | exact ResO.tmp rfl | exact ResO.cellBA rfl rfl rfl | exact ResO.cellB1 rfl rfl rfl | exact ResO.cellEA rfl rfl | exact ResO.cellE1 rfl) ?_)
    | refine Le.bool ?_
    | refine Le.int ?_
    | refine Le.str ?_
    | (refine idW ?_; first | refine W_draw0 rfl ?_ | refine W_draw1 rfl ?_ | refine W_draw2 rfl ?_ | refine W_draw3 rfl ?_)
    | (apply d1 (hd := rfl); case hop => first | (apply D_move; rfl) | (apply D_assign; rfl) | (apply D_load1; rfl) | (apply D_int; rfl; rfl; rfl) | (apply D_lenM; rfl) | (apply D_len_sl; rfl) | (apply D_loadW; rfl; rfl) | (apply D_loadA; rfl; rfl) | (apply D_len_nil; rfl) | (apply D_idxAn; rfl; rfl; (first | omega | (simp; done))) | (apply D_idxA; rfl; rfl; omega; (first | omega | (simp; done) | (simp; omega))) | (apply D_idxA0; rfl; rfl; omega; (first | omega | (simp; done) | (simp; omega))) | (apply D_lenR; rfl) | (apply D_ixRn; rfl; rfl; (first | omega | (simp; done))) | (apply D_ixR; rfl; rfl; all_goals first | omega | ((repeat rw [w64 _ (by omega) (by omega)]); omega) | decide) | exact D_eqA rfl rfl rfl rfl rfl rfl rfl | exact D_neA rfl rfl rfl rfl rfl rfl rfl)
    | (refine idDn ?_; first | refine dL _ (fun hp' hs => D_loadB1 rfl (hs.trans rfl) rfl) rfl ?_ | refine dL _ (fun hp' hs => D_loadBA rfl (hs.trans rfl) rfl) rfl ?_ | refine dS (S_store rfl rfl rfl rfl rfl rfl rfl) rfl ?_ | refine dV (S_alloc 0 rfl) rfl rfl ?_ | refine dV (S_alloc 1 rfl) rfl rfl ?_ | refine dV (S_alloc 2 rfl) rfl rfl ?_ | refine dV (S_alloc 3 rfl) rfl rfl ?_ | refine dV (S_alloc 4 rfl) rfl rfl ?_ | refine dV (S_alloc 5 rfl) rfl rfl ?_ | refine dV (S_alloc 6 rfl) rfl rfl ?_ | refine dV (S_alloc 7 rfl) rfl rfl ?_)
    | refine WD_nil (by first | decide +kernel | kernel_rfl | rfl) ?_
  · rename_i h1
    exact dP_F fun e => h1 (by rw [e])
  rename_i h1
  have hl : a.length = b.length := by omega
  refine W_loopL (X := Nat) (fun i => [(0, sl2 a), (1, sl2 b), (5, .sc (.int .i64 (i : Int)))]) (fun _ => [])
    (fun i => i ≤ a.length ∧ ∀ (j : Nat) (h : j < a.length) (h' : j < b.length), j < i → a[j] = b[j]) (fun i => a.length - i) 0 ⟨Nat.zero_le _, fun j h h' hj => absurd hj (Nat.not_lt_zero j)⟩ ⟨rfl, rfl, rfl, trivial⟩ rfl ?_
  rintro i ⟨hi, hz⟩
  repeat' first
    | (apply p1 (hd := rfl); case hop => first | (apply D_move; rfl) | (apply D_assign; rfl) | (apply D_load1; rfl) | (apply D_int; rfl; rfl; rfl) | (apply D_lenM; rfl) | (apply D_len_sl; rfl) | (apply D_loadW; rfl; rfl) | (apply D_loadA; rfl; rfl) | (apply D_len_nil; rfl) | (apply D_idxAn; rfl; rfl; (first | omega | (simp; done))) | (apply D_idxA; rfl; rfl; omega; (first | omega | (simp; done) | (simp; omega))) | (apply D_idxA0; rfl; rfl; omega; (first | omega | (simp; done) | (simp; omega))) | (apply D_lenR; rfl) | (apply D_ixRn; rfl; rfl; (first | omega | (simp; done))) | (apply D_ixR; rfl; rfl; all_goals first | omega | ((repeat rw [w64 _ (by omega) (by omega)]); omega) | decide) | exact D_eqA rfl rfl rfl rfl rfl rfl rfl | exact D_neA rfl rfl rfl rfl rfl rfl rfl)
    | refine W_seq ?_
    | refine W_region ?_
    | (refine idC ?_; first | refine c1 rfl ?_ | refine c0 rfl ?_ | refine cs rfl (fun _ => ?_) (fun _ => ?_))
    | refine WL_nil ?_
    | refine tn ?_
    | refine tr ?_
    | refine br ?_
    | refine bn ?_
    | refine te ?_
    | (refine idB ?_; first | refine bh rfl ?_ | refine bm rfl ?_)
    | refine W_skip ?_
    | refine W_block ?_
    | refine W_exit ?_
    | refine W_ret ?_
    | refine W_label ?_
    | refine W_scope ?_
    | refine sn ?_
    | refine sr ?_
    | refine se ?_
    | (refine idR ?_; first | refine ret1 rfl rfl rfl ?_ | refine rL1 rfl (by first | exact trivial | exact ⟨rfl, trivial⟩) (by first | exact ResO.tmp rfl | exact ResO.cellBA rfl rfl rfl | exact ResO.cellB1 rfl rfl rfl | exact ResO.cellEA rfl rfl | exact ResO.cellE1 rfl) ?_)
    | refine Le.bool ?_
    | refine Le.int ?_
    | refine Le.str ?_
    | (refine idW ?_; first | refine W_draw0 rfl ?_ | refine W_draw1 rfl ?_ | refine W_draw2 rfl ?_ | refine W_draw3 rfl ?_)
    | (apply d1 (hd := rfl); case hop => first | (apply D_move; rfl) | (apply D_assign; rfl) | (apply D_load1; rfl) | (apply D_int; rfl; rfl; rfl) | (apply D_lenM; rfl) | (apply D_len_sl; rfl) | (apply D_loadW; rfl; rfl) | (apply D_loadA; rfl; rfl) | (apply D_len_nil; rfl) | (apply D_idxAn; rfl; rfl; (first | omega | (simp; done))) | (apply D_idxA; rfl; rfl; omega; (first | omega | (simp; done) | (simp; omega))) | (apply D_idxA0; rfl; rfl; omega; (first | omega | (simp; done) | (simp; omega))) | (apply D_lenR; rfl) | (apply D_ixRn; rfl; rfl; (first | omega | (simp; done))) | (apply D_ixR; rfl; rfl; all_goals first | omega | ((repeat rw [w64 _ (by omega) (by omega)]); omega) | decide) | exact D_eqA rfl rfl rfl rfl rfl rfl rfl | exact D_neA rfl rfl rfl rfl rfl rfl rfl)
    | (refine idDn ?_; first | refine dL _ (fun hp' hs => D_loadB1 rfl (hs.trans rfl) rfl) rfl ?_ | refine dL _ (fun hp' hs => D_loadBA rfl (hs.trans rfl) rfl) rfl ?_ | refine dS (S_store rfl rfl rfl rfl rfl rfl rfl) rfl ?_ | refine dV (S_alloc 0 rfl) rfl rfl ?_ | refine dV (S_alloc 1 rfl) rfl rfl ?_ | refine dV (S_alloc 2 rfl) rfl rfl ?_ | refine dV (S_alloc 3 rfl) rfl rfl ?_ | refine dV (S_alloc 4 rfl) rfl rfl ?_ | refine dV (S_alloc 5 rfl) rfl rfl ?_ | refine dV (S_alloc 6 rfl) rfl rfl ?_ | refine dV (S_alloc 7 rfl) rfl rfl ?_)
    | refine WD_nil (by first | decide +kernel | kernel_rfl | rfl) ?_
  · rename_i hx
    exact dP_F fun e => hx (by subst e; rfl)
  · rename_i hx
    refine ⟨rfl, i + 1, ⟨by omega, fun j h h' hj => ?_⟩, by omega, ⟨rfl, rfl, ieq (wsucc i (by omega)), trivial⟩, rfl⟩
    by_cases e : j = i
    · subst e; exact encS_inj hx
    · exact hz j h h' (by omega)
  · exact dP_T (List.ext_getElem hl fun j h h' => hz j h h' (by omega))
theorem has_of [GlobF Try.prog] (l : List Sp) (b : Bool) (hs : SetP l) (hl : l.length < 4611686018427387904) (at_ : Int) (hb : b = true ↔ inS l at_) : PC Try.prog 11 [sl2 l, .sc (.int .i64 at_)] (.sc (.bool b)) := by
  have := has_pc l hl at_
  rwa [← dP_eq (b := b) (p := SetP l ∧ inS l at_) (hb.trans ⟨fun h => ⟨hs, h⟩, fun h => h.2⟩)] at this
set_option maxHeartbeats 16000000 in
theorem spanHas_core [GlobF Try.prog] (a b : List Sp) (at_ : Int) (ha : SetP a) (hb : SetP b) (ra : rngS a) (rb : rngS b) (hla : a.length ≤ 60) (hlb : b.length ≤ 60) (x y z w v : Bool) (hx : x = true ↔ inS a at_) (hy : y = true ↔ inS b at_) (hz : z = (x && y)) (hw : w = (x && !y)) (hv : v = (x || y)) :
    PC Try.prog 3 [sl2 a, sl2 b, .sc (.int .i64 at_)] (.sc (.bool true)) := by
  have o1 := sand_pc a b ha hb (by omega) (by omega)
  have o2 := sminus_pc a b ha hb (by omega) (by omega)
  have o3 := sor_pc a b ha hb (by omega) (by omega)
  obtain ⟨n1, n2⟩ := and_ok ha hb
  obtain ⟨m1, m2⟩ := min_ok ha hb (fun x h => rng_in ra h) rb
  obtain ⟨u1, u2⟩ := or_ok ha hb
  have l1 := meet_len _ a b (Nat.le_refl _)
  have l2 := min_len a b
  have l3 := canS_len (a ++ b)
  rw [List.length_append] at l3
  have f1 := has_of a x ha (by omega) at_ hx
  have f2 := has_of b y hb (by omega) at_ hy
  have f3 := has_of (meetL a b) z n1 (by omega) at_ (by rw [n2, hz, ← hx, ← hy]; simp)
  have f4 := has_of (minL a b) w m1 (by omega) at_ (by rw [m2, hw, ← hx, ← hy]; simp)
  have f5 := has_of (canS (a ++ b)) v u1 (by omega) at_ (by rw [u2, hv, ← hx, ← hy]; simp)
  have hat : x = true → at_ ≠ hiT := fun h => by have := rng_in ra (hx.1 h); omega
  clear hx hy n2 m2 u2
  refine PC.of_body Try.func3 Try.ntmps3 rfl rfl rfl ?_
  cases x <;> cases y <;> subst hz <;> subst hw <;> subst hv
  all_goals
    repeat' first
      | (apply p1 (hd := rfl); case hop => first | (apply D_move; rfl) | (apply D_assign; rfl) | (apply D_pc salive_pc; rfl; exact .nil) | (apply D_pc o1; rfl; exact .same rfl (.same rfl .nil)) | (apply D_pc o2; rfl; exact .same rfl (.same rfl .nil)) | (apply D_pc o3; rfl; exact .same rfl (.same rfl .nil)) | (apply D_pc f1; rfl; exact .same rfl (.same rfl .nil)) | (apply D_pc f2; rfl; exact .same rfl (.same rfl .nil)) | (apply D_pc f3; rfl; exact .same rfl (.same rfl .nil)) | (apply D_pc f4; rfl; exact .same rfl (.same rfl .nil)) | (apply D_pc f5; rfl; exact .same rfl (.same rfl .nil)) | (apply D_pickT; rfl; rfl) | (apply D_pickF; rfl; rfl) | (apply D_int; rfl; rfl; rfl) | (apply D_lenM; rfl) | (apply D_len_sl; rfl) | (apply D_ext; rfl; rfl) | (apply D_not; rfl) | (apply D_len_nil; rfl) | (apply D_beq; rfl; rfl) | (apply D_bne; rfl; rfl) | (apply D_lenR; rfl))
      | refine W_seq ?_
      | refine W_region ?_
      | (refine idC ?_; first | refine c1 rfl ?_ | refine c0 rfl ?_ | refine cs rfl (fun _ => ?_) (fun _ => ?_))
      | refine WL_nil ?_
      | (refine idG ?_; first | refine g0t rfl rfl rfl ?_ | refine g0f rfl rfl rfl ?_ | refine g0u rfl rfl rfl ?_ | refine gr rfl rfl ?_ | refine gs rfl rfl (fun _ => ?_) (fun _ => ?_) | refine grn rfl rfl ?_)
      | refine tn ?_
      | refine tr ?_
      | refine br ?_
      | refine bn ?_
      | refine te ?_
      | (refine idB ?_; first | refine bh rfl ?_ | refine bm rfl ?_)
      | refine W_skip ?_
      | refine W_block ?_
      | refine W_exit ?_
      | refine W_ret ?_
      | refine W_label ?_
      | refine W_scope ?_
      | refine sn ?_
      | refine sr ?_
      | refine se ?_
      | (refine idR ?_; first | refine ret1 rfl rfl rfl ?_ | refine rL1 rfl (by first | exact trivial | exact ⟨rfl, trivial⟩) (by first | exact ResO.tmp rfl | exact ResO.cellBA rfl rfl rfl | exact ResO.cellB1 rfl rfl rfl | exact ResO.cellEA rfl rfl | exact ResO.cellE1 rfl) ?_)
      | refine Le.bool ?_
      | refine Le.int ?_
      | refine Le.str ?_
  all_goals first
    | rfl
    | contradiction
    | (exfalso; exact absurd (by assumption) (hat rfl))
    | (simp [bNot]; done)
    | (exfalso; rename_i k1; exact absurd (by simp [bNot]) k1)
    | (exfalso; omega)
    | skip
  all_goals trace_state
end Go.Proofs
