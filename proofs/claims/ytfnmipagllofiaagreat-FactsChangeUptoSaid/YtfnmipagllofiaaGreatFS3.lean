/- Rules: the greater of two numbers; a number's complement. No condition. -/
import Derived.Test.YtfnmipagllofiaaGreatOps20
import Derived.Lib.MinMax
import Derived.Test.YtfnmipagllofiaaGreatFD2
import Derived.Test.YtfnmipagllofiaaGreatOps22
import Derived.Test.YtfnmipagllofiaaGreatOps8
namespace Go.AL
section
variable {P : Program} [GlobF P] {ty : TypeId} {pos : String} {af : Array Edge} {dst : Option Nat} {gd : Option (Nat × Bool)} {ρ : Operand → Option AV}
theorem D_max {x y : Operand} {k k' : IntKind} {a b : Int} {ts : Array TypeId} (hx : ρ x = some (.sc (.int k a))) (hy : ρ y = some (.sc (.int k' b))) :
    PPOp P { dst := dst, op := .call { callee := .builtin .max, args := #[x, y], argTypes := ts }, type := ty, pos := pos, after := af, guard := gd } ρ (.sc (.int k (max a b))) :=
  PPOp.val (by simp) (fun B G act w hR E => ⟨.int k (max a b), by
    have e1 := conc_sc (E x (by simp [Op.operands, Call.operands]) _ hx)
    have e2 := conc_sc (E y (by simp [Op.operands, Call.operands]) _ hy)
    rw [exec_builtin]
    simp [e1, e2, builtin, Sem.run_bind, Go.Lib.run_max_ints], .sc _⟩)
end
end Go.AL

namespace Go.AL
section
variable {P : Program} [GlobF P] {ty : TypeId} {pos : String} {af : Array Edge} {dst : Option Nat} {gd : Option (Nat × Bool)} {ρ : Operand → Option AV}
theorem D_min {x y : Operand} {k k' : IntKind} {a b : Int} {ts : Array TypeId} (hx : ρ x = some (.sc (.int k a))) (hy : ρ y = some (.sc (.int k' b))) :
    PPOp P { dst := dst, op := .call { callee := .builtin .min, args := #[x, y], argTypes := ts }, type := ty, pos := pos, after := af, guard := gd } ρ (.sc (.int k (min a b))) :=
  PPOp.val (by simp) (fun B G act w hR E => ⟨.int k (min a b), by
    have e1 := conc_sc (E x (by simp [Op.operands, Call.operands]) _ hx)
    have e2 := conc_sc (E y (by simp [Op.operands, Call.operands]) _ hy)
    rw [exec_builtin]
    simp [e1, e2, builtin, Sem.run_bind, Go.Lib.run_min_ints], .sc _⟩)
end
end Go.AL

namespace Go.Proofs
open Go.AL Go.Sort
attribute [local irreducible] Go.AL.W Go.AL.WL Go.AL.WD Go.AL.POp Go.AL.PPOp Go.AL.POpS Go.AL.PC Go.AL.AC Go.AL.YW Go.AL.Ret Go.AL.Le Go.AL.thn Go.AL.inBlk Go.AL.scp
def encS (s : Sp) : List Value := [.int .i64 s.f, .int .i64 s.t]
instance : Inhabited Sp := ⟨⟨0, 0⟩⟩
theorem sC_enc (s : Sp) : sC s = (encS s).map .sc := rfl
abbrev cmpS (a b : Sp) : Int := cmpI a.f b.f
theorem ltS (a b : Sp) : ltOf cmpS a b = decide (a.f < b.f) := by
  unfold ltOf; show decide (cmpI a.f b.f < 0) = _; unfold cmpI
  by_cases h : a.f < b.f
  · simp [h]
  · by_cases h2 : b.f < a.f <;> simp [h, h2]
theorem swoS : SWO (ltOf cmpS) := ⟨fun x => by rw [ltS]; simp, fun x y z h1 h2 => by rw [ltS] at *; simp at *; omega, fun x y z h1 h2 => by rw [ltS] at *; simp at *; omega⟩
theorem sortS_ac [GlobF Tryz.prog] {h : List AObj} {r : Nat} {l : List Sp} {sp : List AV} (hr : h[r]? = some (.cells ((l.map sC).flatten ++ sp))) (hne : 0 < l.length) (hl : l.length < 4611686018427387904) :
    AC Tryz.prog 131 [.mr r 0 l.length, .sc (.func (.func 132) #[] #[])] h (fun v h' => v = .tu [] ∧ ∃ ms : List Sp, ms.Perm l ∧ ms.Pairwise (fun x y => ltOf cmpS y x = false) ∧ h' = h.set r (.cells ((ms.map sC).flatten ++ sp))) :=
  sortP_ac Tryz.laysSS Tryz.isAgg69 Tryz.sizeOf69 encS sC sC_enc (fun _ => rfl) (fun x v hv => by simp [encS] at hv; rcases hv with rfl | rfl <;> rfl) cmpS swoS 132 [] _
    (fun G v hv => ⟨[], by rw [conc_sc hv], .nil _⟩) (fun x y => joined1_pc x y) hr hne hl
set_option maxHeartbeats 4000000 in
theorem cloneS_ac [GlobF Tryz.prog] {h : List AObj} {tok : Option Nat} (l : List Sp) (hne : 0 < l.length) (hl : l.length < 8796093022208) :
    AC Tryz.prog 45 [.sl tok 2 (l.map sC)] h (fun v h' => ∃ sp, v = .mr (h.length + 1) 0 l.length ∧ h' = h ++ [.dead, .cells ((l.map sC).flatten ++ sp)]) := by
  have hnn : l.map sC ≠ [] := by cases l with | nil => simp at hne | cons a l => simp
  refine AC.of_body Tryz.func45 Tryz.ntmps45 rfl rfl rfl ?_
  repeat' first
    | (refine m_slnil rfl rfl ?_; rintro b hb)
    | refine m_lit (d := 5) rfl rfl rfl rfl rfl rfl ?_
    | (refine m_appR (d := 7) rfl rfl get_last hnn rfl (by rw [List.length_map]; omega) (by rw [List.length_map]; omega) rfl ?_; intro sp)
    | (apply p1 (hd := rfl); case hop => first | (apply D_move; rfl) | (apply D_assign; rfl))
    | refine W_seq ?_
    | refine W_region ?_
    | (refine idC ?_; refine cs rfl (fun _ => ?_) (fun _ => ?_))
    | refine WL_nil ?_
    | refine tn ?_
    | refine tr ?_
    | refine W_skip ?_
    | refine W_ret ?_
  · rename_i hb'
    first
      | exact absurd (hb hb') hnn
      | exact absurd (hb rfl) hnn
  · exact retK1 (.inl rfl) rfl rfl (ResO.tmp rfl) ⟨sp, by simp, by simp⟩
theorem sortS0_pc [GlobF Tryz.prog] : PC Tryz.prog 131 [.sl none 2 [], .sc (.func (.func 132) #[] #[])] (.tu []) := sort_none_pc Tryz.laysSS 2 _
set_option maxHeartbeats 4000000 in
theorem cloneS0_pc [GlobF Tryz.prog] : PC Tryz.prog 45 [.sl none 2 []] (.sl none 2 []) := by
  refine PC.of_body Tryz.func45 Tryz.ntmps45 rfl rfl rfl ?_
  repeat' first
    | (refine m_slnil rfl rfl ?_; rintro b hb)
    | refine m_lit (d := 5) rfl rfl rfl rfl rfl rfl ?_
    | (apply p1 (hd := rfl); case hop => first | (apply D_move; rfl) | (apply D_assign; rfl))
    | refine W_seq ?_
    | refine W_region ?_
    | (refine idC ?_; refine cs rfl (fun _ => ?_) (fun _ => ?_))
    | refine WL_nil ?_
    | refine tn ?_
    | refine tr ?_
    | refine W_skip ?_
    | refine W_ret ?_
    | (refine idR ?_; refine ret1 rfl rfl rfl ?_)
    | (refine idAp ?_; refine m_app rfl rfl (by first | rfl | assumption | exact get_set (by assumption) | exact get_set (get_set (by assumption)) | exact get_set (get_set (get_set (by assumption))) | ((repeat first | assumption | exact get_last | (refine get_last2 ?_; focus (simp; done)) | apply get_set | apply get_app | (apply get_ne; focus omega)); done)) ?_ rfl rfl ?_ ?_ rfl ?_; (first | rfl | focus (simp only [List.length_map, List.length_append, List.length_cons, List.length_nil]; omega) | focus (simp; done) | focus (simp; omega)); (first | focus (simp only [List.length_map, List.length_append, List.length_cons, List.length_nil]; omega) | focus (simp; done) | focus (simp; omega)); (first | focus (simp only [List.length_map, List.length_append, List.length_cons, List.length_nil]; omega) | focus (simp; done) | focus (simp; omega)))
  all_goals first
    | exact Le.nil rfl
    | exact Le.tokq rfl
noncomputable def canS (l : List Sp) : List Sp := J (l.mergeSort fun x y => decide (x.f ≤ y.f))
theorem canS_ok {l : List Sp} (h : neS l) : SetP (canS l) ∧ ∀ x, inS (canS l) x ↔ inS l x := by
  have hp := List.mergeSort_perm l (fun x y => decide (x.f ≤ y.f))
  have hs : (l.mergeSort fun x y => decide (x.f ≤ y.f)).Pairwise (fun a b => a.f ≤ b.f) := by
    have := List.pairwise_mergeSort (le := fun (x y : Sp) => decide (x.f ≤ y.f)) (fun a b c h1 h2 => by simp at *; omega) (fun a b => by simp; omega) l
    exact this.imp (fun h => by simpa using h)
  obtain ⟨k1, k2, _⟩ := J_ok _ (fun s hs => h s (hp.mem_iff.1 hs)) hs
  exact ⟨k1, fun x => (k2 x).trans (inS_perm hp x)⟩
theorem J_can {l ms : List Sp} (h : neS l) (hp : ms.Perm l) (hs : ms.Pairwise (fun x y => ltOf cmpS y x = false)) : J ms = canS l := by
  obtain ⟨k1, k2, _⟩ := J_ok ms (fun s hs => h s (hp.mem_iff.1 hs)) (hs.imp (fun {a b} h => by rw [ltS] at h; simpa using h))
  obtain ⟨j1, j2⟩ := canS_ok h
  exact set_ext k1 j1 fun x => by rw [k2, j2, inS_perm hp]
theorem jn_len (o : List Sp) (s : Sp) : (jn o s).length ≤ o.length + 1 := by
  rcases snoc_cases o with rfl | ⟨o, p, rfl⟩
  · simp [jn_nil]
  · rw [jn_snoc]; split <;> simp
theorem J_len : ∀ m : List Sp, (J m).length ≤ m.length := by
  refine snoc_ind (by simp [J]) fun m x ih => ?_
  rw [J_snoc, List.length_append]
  have := jn_len (J m) x
  simp; omega
theorem J_take (ms : List Sp) (i : Nat) (h : i < ms.length) : J (ms.take (i + 1)) = jn (J (ms.take i)) ms[i] := by
  rw [List.take_succ_eq_append_getElem h, J_snoc]
theorem flat2 {o : List Sp} {p : Sp} : ((o ++ [p]).map sC).flatten = (o.map sC).flatten ++ sC p := by simp
theorem flat2_len (o : List Sp) : ((o.map sC).flatten).length = o.length * 2 := by
  rw [flat_len sC_row, List.length_map]
theorem flat_get {o : List Sp} {p : Sp} : (((o ++ [p]).map sC).flatten)[o.length * 2 + 1]? = some (.sc (.int .i64 p.t)) := by
  have := flat2_len o
  rw [flat2, List.getElem?_append_right (by omega), this, show o.length * 2 + 1 - o.length * 2 = 1 by omega]; rfl
theorem flat_st {o : List Sp} {p : Sp} {t : Int} : ((o ++ [(⟨p.f, t⟩ : Sp)]).map sC).flatten = (((o ++ [p]).map sC).flatten).take (o.length * 2 + 1) ++ [.sc (.int .i64 t)] ++ (((o ++ [p]).map sC).flatten).drop (o.length * 2 + 1 + 1) := by
  have := flat2_len o
  rw [flat2, flat2, List.take_append, List.drop_append, this, show o.length * 2 + 1 - o.length * 2 = 1 by omega, show o.length * 2 + 1 + 1 - o.length * 2 = 2 by omega, List.take_of_length_le (by omega), List.drop_eq_nil_of_le (by omega)]
  simp
theorem ren3 {rg rg' : List (Nat × AV)} {h : List AObj} {q e : Nat} {els : List (List AV)} [PurLL els] (h0 : q ≠ 0) (h1 : q ≠ 1) (hq0 : h[0]?.isSome) (hq1 : h[1]?.isSome) (hq : h[q]? = some (.row 2 e els)) (hr : RenL [0, 1, q] rg rg') : Ren ⟨[], 0⟩ [0, 1, q] rg h rg' [.dead, .dead, .row 2 e els] := by
  obtain ⟨a, ha⟩ := Option.isSome_iff_exists.1 hq0
  obtain ⟨b, hb⟩ := Option.isSome_iff_exists.1 hq1
  exact ⟨by simp; omega, fun r hr => absurd hr (Nat.not_lt_zero r), fun r hr => (by cases hr), hr, ⟨⟨_, ha, .dead _⟩, ⟨_, hb, .dead _⟩, ⟨_, hq, .row _ _ _⟩, trivial⟩⟩
set_option maxHeartbeats 16000000 in
theorem joined0_pc [GlobF Tryz.prog] : PC Tryz.prog 107 [sl2 []] (sl2 []) := by
  refine PC.of_body Tryz.func107 Tryz.ntmps107 rfl rfl rfl ?_
  repeat' first
    | (refine W_rounds 1 ?_)
    | (refine cs rfl ?_ (fun _ => ?_); focus (intro h; exfalso; revert h; decide))
    | (apply p1 (hd := rfl); case hop => first | (apply D_move; rfl) | (apply D_assign; rfl) | (apply D_pc cloneS0_pc; rfl; exact .same rfl .nil) | (apply D_pc sortS0_pc; rfl; exact .same rfl (.same rfl .nil)) | (apply D_int; rfl; rfl; rfl) | (apply D_len_sl; rfl))
    | refine W_seq ?_
    | refine W_region ?_
    | refine WL_nil ?_
    | refine tn ?_
    | refine te ?_
    | (refine idB ?_; refine bh rfl ?_)
    | refine W_block ?_
    | refine W_exit ?_
    | refine W_ret ?_
    | (refine idR ?_; refine ret1 rfl rfl rfl ?_)
  all_goals exact Le.nil rfl
set_option maxHeartbeats 16000000 in
theorem joined_pc [GlobF Tryz.prog] (l : List Sp) (hn : neS l) (hl : l.length < 8796093022208) : PC Tryz.prog 107 [sl2 l] (sl2 (canS l)) := by
  rcases Nat.eq_zero_or_pos l.length with h0 | h0
  · have e : l = [] := List.length_eq_zero_iff.1 h0
    subst e
    have e2 : canS [] = [] := set_empty (canS_ok hn).1 fun x h => inS_nil x (((canS_ok hn).2 x).1 h)
    rw [e2]; exact joined0_pc
  refine PC.of_body Tryz.func107 Tryz.ntmps107 rfl rfl rfl ?_
  repeat' first
    | (apply p1 (hd := rfl); case hop => first | (apply D_move; rfl) | (apply D_assign; rfl) | (apply D_lenM; rfl))
    | refine W_seq ?_
    | refine W_region ?_
    | refine WL_nil ?_
    | refine tn ?_
    | refine W_block ?_
    | (refine m_call (d := 8) (cloneS_ac l h0 (by omega)) rfl rfl rfl ?_; rintro _ _ ⟨sp, rfl, rfl⟩)
    | (refine m_call (d := 10) (sortS_ac (l := l) rfl h0 (by omega)) rfl rfl rfl ?_; rintro _ _ ⟨rfl, ms, hpm, hpw, rfl⟩; refine WL_frz 0 1 2 (els := ms.map sC) (sp := sp) rfl rfl (by rw [List.length_map, hpm.length_eq]; exact Nat.le_refl _) sC_row ?_; rw [List.take_of_length_le (by rw [List.length_map, hpm.length_eq]; exact Nat.le_refl _)])
  refine W_adoptG 3 2 69 rfl ?_
  have hml : ms.length = l.length := hpm.length_eq
  refine W_loopR (X := Nat) (fun i => [(3, rowA 2 (J (ms.take i)).length), (11, sl2 ms), (12, .sc (.int .i64 (ms.length : Int))), (13, .sc (.int .i64 (i : Int)))]) (fun i => [.dead, .dead, .row 2 69 ((J (ms.take i)).map sC)])
    (fun i => i ≤ ms.length) (fun i => ms.length - i) 0 (Nat.zero_le _) ⟨rfl, rfl, rfl, rfl, trivial⟩ rfl ?_
  intro i hi
  have hJ := J_take ms i
  have hlen : (J (ms.take i)).length ≤ i := by have := J_len (ms.take i); rw [List.length_take] at this; omega
  have hfin : ms.length ≤ i → J (ms.take i) = canS l := fun h => by rw [List.take_of_length_le h]; exact J_can hn hpm hpw
  generalize J (ms.take i) = O at *
  rcases snoc_cases O with rfl | ⟨o, p, rfl⟩
  · repeat' first
      | (apply p1 (hd := rfl); case hop => first | (apply D_move; rfl) | (apply D_assign; rfl) | exact D_lenG rfl | (apply D_int; rfl; rfl; rfl) | (apply D_loadW; rfl; rfl) | (apply D_idxAn; rfl; rfl; (first | omega | (simp; done))) | (apply D_lit; rfl; rfl; rfl; rfl))
      | refine W_seq ?_
      | refine W_region ?_
      | (refine idC ?_; first | refine c0 rfl ?_ | refine cs rfl (fun _ => ?_) (fun _ => ?_))
      | refine WL_nil ?_
      | refine tn ?_
      | refine bn ?_
      | refine te ?_
      | (refine idB ?_; refine bh rfl ?_)
      | refine W_skip ?_
      | refine W_block ?_
      | refine W_exit ?_
      | refine W_ret ?_
      | (refine idR ?_; refine ret1 rfl rfl rfl ?_)
      | (refine idA ?_; refine m_var rfl rfl rfl rfl rfl rfl rfl ?_)
      | (refine m_appG (d := 49) (els := []) rfl rfl rfl rfl (by simp) rfl (by simp) (by simp) rfl ?_)
      | (refine idW ?_; refine W_draw0 rfl ?_)
      | (apply d1 (hd := rfl); case hop => first | (apply D_move; rfl) | (apply D_load1; rfl) | (apply D_fld; rfl) | (apply D_pickF; rfl; rfl) | (apply D_int; rfl; rfl; rfl))
      | (refine idDg ?_; first | refine dg0t rfl rfl rfl ?_ | refine dgr rfl rfl ?_ | refine dgs rfl rfl (fun _ => ?_) (fun _ => ?_))
      | refine WD_nil (by first | decide +kernel | kernel_rfl | rfl) ?_
    · exfalso; rename_i k1; simp at k1
    · rename_i k1 k2
      refine ⟨rfl, i + 1, by omega, by omega, [0, 1, 3], ren3 (by decide) (by decide) rfl rfl ?_ ⟨⟨_, rfl, ?_⟩, ⟨_, rfl, .pur⟩, ⟨_, rfl, .pur⟩, ⟨_, rfl, by rw [wsucc i (by omega)]; exact .pur⟩, trivial⟩⟩
      · rw [hJ (by omega), jn_nil]; rfl
      · rw [hJ (by omega), jn_nil]; exact mvRow rfl rfl
    · rename_i k1
      rw [← hfin (by omega)]; exact Le.row0
  · have hlo : (o ++ [p]).length = o.length + 1 := by simp
    rw [hlo] at hlen ⊢
    repeat' first
      | (refine dL 2 (fun hp' hs => D_ixRowN rfl (hs.trans rfl) (by simp) rfl (by omega)) rfl ?_)
      | (refine dL 2 (fun hp' hs => D_loadG1 rfl (hs.trans rfl) flat_get) rfl ?_)
      | (refine dS (S_storeG (r := 2) ((o ++ [(⟨p.f, max p.t (ms[i]'(by omega)).t⟩ : Sp)]).map sC) rfl rfl rfl rfl rfl rfl (by rw [flat2_len]; simp; omega) (by simp) sC_row flat_st (by simp)) rfl ?_)
      | (have hE : ms.length ≤ i := (by omega); refine WL_rowM 3 2 rfl rfl (by simp) (by simp) ?_; intro sp2; refine WL_frz 3 2 2 (els := (o ++ [p]).map sC) (sp := sp2) rfl rfl (by simp) sC_row ?_)
      | (apply p1 (hd := rfl); case hop => first | (apply D_move; rfl) | (apply D_assign; rfl) | exact D_lenG rfl | (apply D_int; rfl; rfl; rfl) | (apply D_loadW; rfl; rfl) | (apply D_idxAn; rfl; rfl; (first | omega | (simp; done))) | (apply D_lit; rfl; rfl; rfl; rfl))
      | refine W_seq ?_
      | refine W_region ?_
      | (refine idC ?_; first | refine c0 rfl ?_ | refine cs rfl (fun _ => ?_) (fun _ => ?_))
      | refine WL_nil ?_
      | refine tn ?_
      | refine bn ?_
      | refine te ?_
      | (refine idB ?_; refine bh rfl ?_)
      | refine W_skip ?_
      | refine W_block ?_
      | refine W_exit ?_
      | refine W_ret ?_
      | (refine idR ?_; refine ret1 rfl rfl rfl ?_)
      | (refine idA ?_; refine m_var rfl rfl rfl rfl rfl rfl rfl ?_)
      | (refine m_appG (d := 49) (els := (o ++ [p]).map sC) rfl rfl rfl (by simp) (by simp) rfl (by simp; omega) (by simp; omega) rfl ?_)
      | (refine idW ?_; refine W_draw0 rfl ?_)
      | (apply d1 (hd := rfl); case hop => first | (apply D_move; rfl) | exact D_sub1 rfl rfl (by omega) | exact D_max rfl rfl | (apply D_load1; rfl) | (apply D_fld; rfl) | (apply D_pickT; rfl; rfl) | (apply D_pickF; rfl; rfl) | (apply D_int; rfl; rfl; rfl) | exact D_fldB rfl)
      | (refine idDg ?_; first | refine dg0t rfl rfl rfl ?_ | refine dgr rfl rfl ?_ | refine dgs rfl rfl (fun _ => ?_) (fun _ => ?_))
      | refine WD_nil (by first | decide +kernel | kernel_rfl | rfl) ?_
    · rename_i k1 k2 k3
      refine ⟨rfl, i + 1, by omega, by omega, [0, 1, 2], ren3 (by decide) (by decide) rfl rfl ?_ ⟨⟨_, rfl, ?_⟩, ⟨_, rfl, .pur⟩, ⟨_, rfl, .pur⟩, ⟨_, rfl, by rw [wsucc i (by omega)]; exact .pur⟩, trivial⟩⟩
      · rw [hJ (by omega), jn_snoc, if_pos k3]; rfl
      · rw [hJ (by omega), jn_snoc, if_pos k3]; exact mvRow rfl (by simp)
    · rename_i k1 k2 k3
      refine ⟨rfl, i + 1, by omega, by omega, [0, 1, 3], ren3 (by decide) (by decide) rfl rfl ?_ ⟨⟨_, rfl, ?_⟩, ⟨_, rfl, .pur⟩, ⟨_, rfl, .pur⟩, ⟨_, rfl, by rw [wsucc i (by omega)]; exact .pur⟩, trivial⟩⟩
      · rw [hJ (by omega), jn_snoc, if_neg (by omega), show ((o ++ [p]) ++ [ms[i]'(by omega)]).map sC = (o ++ [p]).map sC ++ [sC (ms[i]'(by omega))] by simp]; rfl
      · rw [hJ (by omega), jn_snoc, if_neg (by omega)]; exact mvRow rfl (by simp)
    · exfalso; rename_i k1 k2; omega
    · rename_i k1
      rw [← hfin (by omega), List.take_of_length_le (by simp)]
      exact Le.of_eq rfl
end Go.Proofs

namespace Go.AL
section
variable {P : Program} [GlobF P] {ty : TypeId} {pos : String} {af : Array Edge} {dst : Option Nat} {gd : Option (Nat × Bool)} {ρ : Operand → Option AV}
theorem D_appG0 {t e r n k k' by_ : Nat} {z : Value} {x y : Operand} {tok' : Option Nat} [hu : Und P t (.slice e)] [hi : Inf P e k by_ z] (hx : ρ x = some (rowA r n)) (hy : ρ y = some (.sl tok' k' [])) :
    PPOp P { dst := dst, op := .call { callee := .builtin .append, args := #[x, y], argTypes := #[t, t] }, type := ty, pos := pos, after := af, guard := gd } ρ (rowA r n) :=
  PPOp.val (by simp) (fun B G a w hR E => by
    have ex := E x (by first | exact List.Mem.head _ | exact List.Mem.tail _ (List.Mem.head _)) _ hx
    have ey := E y (by simp [Op.operands, Call.operands]) _ hy
    obtain ⟨i, i1, i2, i3, i4⟩ := hi.h
    have hy0 : (∃ a' c, a.eval y = .slice (some a') 0 c) ∨ a.eval y = .slice none 0 0 := by
      generalize a.eval y = v at ey
      cases ey with
      | @sl b o cap _ _ _ us hk hcap him hc ht => exact .inl ⟨_, cap, rfl⟩
      | slnil ht => exact .inr rfl
      | @slz a0 _ => exact .inl ⟨a0, 0, rfl⟩
    have hrun : (Builtin.append_ #[t, t] ty #[a.eval x, a.eval y]).run P w = .ok (a.eval x) w := by
      rcases (rowA_inv ex).2 with ⟨rfl, vx⟩ | ⟨b, o, cap, vx, hn⟩
      · rw [vx]; exact run_append_none hu.h i1 none 0 0 (Nat.le_refl _) _ hy0 w
      · rw [vx]; exact run_append_none hu.h i1 _ n cap hn _ hy0 w
    exact ⟨a.eval x, exec_append a hrun, ex⟩)
end
section
variable {P : Program} [GlobF P] {fr : Option Nat} {N : Nat} {Q : Exit → AS → Prop} {ops : Array Oper} {rest : List Oper} {rg : List (Nat × AV)} {h : List AObj} {mk : Mk} {ty : TypeId} {pos : String} {af : Array Edge} {s : AS}
theorem m_moveRow (d : Nat) {t r n k e : Nat} {els : List (List AV)} (ht : lookO rg t = some (rowA r n)) (ho : h[r]? = some (.row k e els)) (hn : n = els.length) (h0 : 0 < n) (hk : ∀ x, x ∈ els → x.length = k)
    (hw : WL P fr N ops ({ dst := some d, op := .move (.tmp t), type := ty, pos := pos, after := af, guard := none } :: rest) Q ⟨(t, .sl none k els) :: (t, .mr r 0 n) :: rg, h.set r .dead, mk⟩) :
    WL P fr N ops ({ dst := some d, op := .move (.tmp t), type := ty, pos := pos, after := af, guard := none } :: rest) Q ⟨rg, h, mk⟩ := by
  have hlt : r < h.length := (List.getElem?_eq_some_iff.1 ho).1
  refine WL_rowM t r ht ho hn h0 fun sp => ?_
  refine WL_frz t r k (n := n) (els := els) (sp := sp) (by rw [List.getElem?_set_self hlt]) (by simp [lookO]) (by omega) hk ?_
  rw [List.take_of_length_le (by omega), List.set_set]
  exact hw
theorem NoAbove.own {B : Base P} {G : Gh} {a : Act} {w : World} {st : AS} (hR : R B N G st a w) {n : Nat} (hn : st.marks.n0 ≤ n) : NoAbove B.g0 n := fun r hr => hR.own r (Nat.le_trans hn hr)
theorem R.cutN {B : Base P} {G : Gh} {a : Act} {w : World} {rg : List (Nat × AV)} {h ex : List AObj} {mk : Mk} (hR : R B N G ⟨rg, h ++ ex, mk⟩ a w) (hn : mk.n0 ≤ h.length) (hb : BdH h) (hg : ∀ t, BdA h.length (look rg t)) (hm : ∀ r, r ∈ mk.l → r < h.length) :
    R B N (cutN G h.length) ⟨rg, h, mk⟩ a w := by
  refine ⟨hR.heap.cutN hb (NoAbove.own hR hn), hR.size, fun t => (hR.regs t).cutN (hg t), ⟨hR.defers.1, fun i d r hd hr => ?_⟩, hR.own⟩
  obtain ⟨b, e1, e2⟩ := hR.defers.2 i d r hd hr
  exact ⟨b, (if_pos (hm r (List.mem_of_getElem? hr))).trans e1, e2⟩
theorem W_loopC {X : Type} {c : Code} (st : X → List (Nat × AV)) (hp : X → List AObj) (I : X → Prop) (μ : X → Nat) (x0 : X) (h0 : I x0) (hs : WkL (st x0) s) (hh : hp x0 = s.heap)
    (hn : ∀ x, s.marks.n0 ≤ (hp x).length) (hb : ∀ x, I x → BdH (hp x)) (hg : ∀ x, I x → ∀ t, BdA (hp x).length (look (st x) t)) (hm : ∀ x, ∀ r, r ∈ s.marks.l → r < (hp x).length)
    (h : ∀ x, I x → W P fr N c (thn (fun s' => s'.marks = s.marks ∧ ∃ x', I x' ∧ μ x' < μ x ∧ WkL (st x') s' ∧ ∃ ex, s'.heap = hp x' ++ ex) Q) ⟨st x, hp x, s.marks⟩) : W P fr N (.loop c) Q s := by
  refine W_weak (s' := ⟨st x0, hp x0, s.marks⟩) ⟨hs, hh, rfl⟩ ?_
  intro B G a w hr
  let p : Act → World → Nat → Prop := fun a w n => ∃ x G', I x ∧ R B N G' ⟨st x, hp x, s.marks⟩ a w ∧ μ x = n
  have hmin : ∀ a w, (∃ n, p a w n) → ∃ n, p a w n ∧ ∀ m, p a w m → n ≤ m := fun a w => least (p a w)
  refine wpIn_loop (fun a w => ∃ n, p a w n) (fun a w => Classical.epsilon fun n => p a w n ∧ ∀ m, p a w m → n ≤ m) ⟨μ x0, x0, G, h0, hr, rfl⟩ ?_
  intro a w hI
  have he := Classical.epsilon_spec (hmin a w hI)
  generalize (Classical.epsilon fun n => p a w n ∧ ∀ m, p a w m → n ≤ m) = k at he
  obtain ⟨⟨x, G1, hx, hr1, rfl⟩, -⟩ := he
  refine wpIn_mono (h x hx B G1 a w hr1) ?_
  rintro e a' w' ⟨G2, s', hr2, hq⟩
  cases e <;> simp only [thn, Exit.then] at hq ⊢
  case normal =>
    obtain ⟨hm', x', hx', hlt, hwk, ex, hex⟩ := hq
    obtain ⟨rg2, h2, mk2⟩ := s'
    dsimp only at hm' hex
    subst hm'
    subst hex
    have hr3 : R B N G2 ⟨st x', hp x' ++ ex, s.marks⟩ a' w' := (show Wk ⟨rg2, hp x' ++ ex, s.marks⟩ ⟨st x', hp x' ++ ex, s.marks⟩ from ⟨hwk, rfl, rfl⟩).R hr2
    have hp : p a' w' (μ x') := ⟨x', _, hx', hr3.cutN (hn x') (hb x' hx') (hg x' hx') (hm x'), rfl⟩
    exact ⟨⟨_, hp⟩, Nat.lt_of_le_of_lt ((Classical.epsilon_spec (hmin a' w' ⟨_, hp⟩)).2 _ hp) hlt⟩
  all_goals exact ⟨G2, s', hr2, hq⟩
theorem look_all {p : AV → Prop} (ha : p .any) : ∀ {l : List (Nat × AV)}, (∀ x, x ∈ l → p x.2) → ∀ t, p (look l t)
  | [], _, _ => ha
  | (u, v) :: l, h, t => by
    simp only [look]
    cases Nat.beq u t with
    | true => exact h (u, v) (by simp)
    | false => exact look_all ha (fun x hx => h x (List.mem_cons_of_mem _ hx)) t
end
end Go.AL

namespace Go.Proofs
open Go.AL
attribute [local irreducible] Go.AL.W Go.AL.WL Go.AL.WD Go.AL.POp Go.AL.PPOp Go.AL.POpS Go.AL.PC Go.AL.AC Go.AL.YW Go.AL.Ret Go.AL.Le Go.AL.thn Go.AL.inBlk Go.AL.scp
set_option maxHeartbeats 4000000 in
theorem make_pc [GlobF Tryz.prog] (l : List Sp) (hl : l.length < 8796093022208) : PC Tryz.prog 106 [sl2 l] (.tu [sl2 (if dP (neS l) then canS l else []), .sc (.int .i64 (if dP (neS l) then 0 else 30))]) := by
  by_cases h : neS l
  · have hc := conM_pc l (by omega)
    rw [← dP_F (fun e => e h)] at hc
    rw [← dP_T h]
    refine PC.of_body Tryz.func106 Tryz.ntmps106 rfl rfl rfl ?_
    repeat' first
      | (apply p1 (hd := rfl); case hop => first | (apply D_move; rfl) | (apply D_assign; rfl) | (apply D_pc hc; rfl; exact .same rfl (.same rfl .nil)) | (apply D_pc (joined_pc l h hl); rfl; exact .same rfl .nil))
      | refine W_seq ?_
      | refine W_region ?_
      | (refine idC ?_; refine c0 rfl ?_)
      | refine WL_nil ?_
      | refine tn ?_
      | refine W_skip ?_
      | refine W_ret ?_
      | (refine idR ?_; refine ret2 rfl rfl rfl rfl ?_ ?_)
      | refine Le.int ?_
    all_goals first | rfl | contradiction | exact Le.of_eq rfl | skip
    all_goals trace_state
  · have hc := conM_pc l (by omega)
    rw [← dP_T h] at hc
    rw [← dP_F h]
    refine PC.of_body Tryz.func106 Tryz.ntmps106 rfl rfl rfl ?_
    repeat' first
      | (apply p1 (hd := rfl); case hop => first | (apply D_move; rfl) | (apply D_assign; rfl) | (apply D_pc hc; rfl; exact .same rfl (.same rfl .nil)))
      | refine W_seq ?_
      | refine W_region ?_
      | (refine idC ?_; refine c1 rfl ?_)
      | refine WL_nil ?_
      | refine tn ?_
      | refine tr ?_
      | refine W_ret ?_
      | (refine idR ?_; refine ret2 rfl rfl rfl rfl ?_ ?_)
      | refine Le.int ?_
    all_goals first | rfl | contradiction | exact Le.nil rfl | skip
    all_goals trace_state
theorem growS_ac [GlobF Tryz.prog] (n : Nat) (hn : n < 8796093022208) (h : List AObj) : AC Tryz.prog 133 [.sc (.slice none 0 0), .sc (.int .i64 (n : Int))] h (fun v h' => v = rowA h.length 0 ∧ h' = h ++ [.row 2 69 []]) :=
  grow_ac (k := 2) (by_ := 16) (hi := (inferInstance : Inf Tryz.prog 69 2 16 _)) Tryz.laysGS (by decide) rfl n (by omega) (by omega) h
set_option maxHeartbeats 16000000 in
theorem concat_pc [GlobF Tryz.prog] (a b : List Sp) (ha : a.length + b.length < 8796093022208) (hb : b.length < 8796093022208) : PC Tryz.prog 108 [.sl none 1 [[sl2 a], [sl2 b]]] (sl2 (a ++ b)) := by
  have e1 : IntKind.i64.wrap (0 + (a.length : Int)) = (a.length : Int) := by rw [w64 _ (by omega) (by omega)]; omega
  have e2 : IntKind.i64.wrap ((a.length : Int) + (b.length : Int)) = ((a.length + b.length : Nat) : Int) := by rw [w64 _ (by omega) (by omega)]; omega
  have hgr := fun h => growS_ac (a.length + b.length) (by omega) h
  have l1 : Value.bool (iLt (a.length : Int) 0) = .bool false := by rw [(iLt_f _ _).mpr (by omega)]
  have l2 : Value.bool (iLt ((a.length + b.length : Nat) : Int) 0) = .bool false := by rw [(iLt_f _ _).mpr (by omega)]
  by_cases ha0 : a = [] <;> by_cases hb0 : b = []
  · subst ha0; subst hb0
    refine PC.of_body Tryz.func108 Tryz.ntmps108 rfl rfl rfl ?_
    repeat' first
      | (refine W_rounds 3 ?_)
      | (refine cs rfl ?_ (fun _ => ?_); focus (intro h; exfalso; revert h; decide))
      | (apply p1 (hd := rfl); case hop => first | (apply D_move; rfl) | (apply D_assign; rfl) | exact D_sc (D_int rfl rfl rfl) (congrArg _ e1) | exact D_sc (D_int rfl rfl rfl) l1 | exact D_ltD rfl rfl | (apply D_idxA0; rfl; rfl; all_goals exact of_decide_eq_true rfl) | exact D_appG0 rfl rfl | (apply D_load1; rfl) | (apply D_int; rfl; rfl; rfl) | (apply D_lenM; rfl) | (apply D_len_sl; rfl))
      | refine W_seq ?_
      | refine W_region ?_
      | (refine idC ?_; refine c1 rfl ?_)
      | refine WL_nil ?_
      | refine tn ?_
      | refine bn ?_
      | refine te ?_
      | (refine idB ?_; refine bh rfl ?_)
      | refine W_skip ?_
      | refine W_block ?_
      | refine W_exit ?_
      | refine W_ret ?_
      | (refine idR ?_; refine ret1 rfl rfl rfl ?_)
      | (refine m_call (d := 24) (hgr _) rfl rfl rfl ?_; rintro _ _ ⟨rfl, rfl⟩)
    all_goals first | exact Le.row0 | skip
    all_goals trace_state
  · subst ha0
    have hbn : b.map sC ≠ [] := fun e => hb0 (List.map_eq_nil_iff.1 e)
    have hbl : 0 < b.length := List.length_pos_iff.2 hb0
    refine PC.of_body Tryz.func108 Tryz.ntmps108 rfl rfl rfl ?_
    repeat' first
      | (refine W_rounds 3 ?_)
      | (refine cs rfl ?_ (fun _ => ?_); focus (intro h; exfalso; revert h; decide))
      | (refine m_moveRow 35 (els := ([] ++ b.map sC)) rfl rfl (by simp) (by simp; omega) (by simp) ?_)
      | (apply p1 (hd := rfl); case hop => first | (apply D_move; rfl) | (apply D_assign; rfl) | exact D_sc (D_int rfl rfl rfl) (congrArg _ e1) | exact D_sc (D_int rfl rfl rfl) (congrArg _ e2) | exact D_sc (D_int rfl rfl rfl) l1 | exact D_sc (D_int rfl rfl rfl) l2 | exact D_ltD rfl rfl | (apply D_idxA0; rfl; rfl; all_goals exact of_decide_eq_true rfl) | exact D_appG0 rfl rfl | (apply D_load1; rfl) | (apply D_int; rfl; rfl; rfl) | (apply D_lenM; rfl) | (apply D_len_sl; rfl))
      | refine W_seq ?_
      | refine W_region ?_
      | (refine idC ?_; first | refine c1 rfl ?_ | refine c0 rfl ?_)
      | refine WL_nil ?_
      | refine tn ?_
      | refine bn ?_
      | refine te ?_
      | (refine idB ?_; refine bh rfl ?_)
      | refine W_skip ?_
      | refine W_block ?_
      | refine W_exit ?_
      | refine W_ret ?_
      | (refine idR ?_; refine ret1 rfl rfl rfl ?_)
      | (refine m_call (d := 24) (hgr _) rfl rfl rfl ?_; rintro _ _ ⟨rfl, rfl⟩)
      | (refine m_appG (d := 33) (els := []) rfl rfl rfl rfl hbn rfl (by simp; omega) (by simp; omega) rfl ?_)
    all_goals first | exact Le.of_eq rfl | skip
    all_goals trace_state
  · subst hb0
    have han : a.map sC ≠ [] := fun e => ha0 (List.map_eq_nil_iff.1 e)
    have hal : 0 < a.length := List.length_pos_iff.2 ha0
    rw [List.append_nil]
    refine PC.of_body Tryz.func108 Tryz.ntmps108 rfl rfl rfl ?_
    repeat' first
      | (refine W_rounds 3 ?_)
      | (refine cs rfl ?_ (fun _ => ?_); focus (intro h; exfalso; revert h; decide))
      | (refine m_moveRow 35 (els := ([] ++ a.map sC)) rfl rfl (by simp) (by simp; omega) (by simp) ?_)
      | (apply p1 (hd := rfl); case hop => first | (apply D_move; rfl) | (apply D_assign; rfl) | exact D_sc (D_int rfl rfl rfl) (congrArg _ e1) | exact D_sc (D_int rfl rfl rfl) (congrArg _ e2) | exact D_sc (D_int rfl rfl rfl) l1 | exact D_ltD rfl rfl | (apply D_idxA0; rfl; rfl; all_goals exact of_decide_eq_true rfl) | exact D_appG0 rfl rfl | (apply D_load1; rfl) | (apply D_int; rfl; rfl; rfl) | (apply D_lenM; rfl) | (apply D_len_sl; rfl))
      | refine W_seq ?_
      | refine W_region ?_
      | (refine idC ?_; first | refine c1 rfl ?_ | refine c0 rfl ?_)
      | refine WL_nil ?_
      | refine tn ?_
      | refine bn ?_
      | refine te ?_
      | (refine idB ?_; refine bh rfl ?_)
      | refine W_skip ?_
      | refine W_block ?_
      | refine W_exit ?_
      | refine W_ret ?_
      | (refine idR ?_; refine ret1 rfl rfl rfl ?_)
      | (refine m_call (d := 24) (hgr _) rfl rfl rfl ?_; rintro _ _ ⟨rfl, rfl⟩)
      | (refine m_appG (d := 33) (els := []) rfl rfl rfl rfl han rfl (by simp; omega) (by simp; omega) rfl ?_)
    all_goals first | exact Le.of_eq rfl | skip
    all_goals trace_state
  · have han : a.map sC ≠ [] := fun e => ha0 (List.map_eq_nil_iff.1 e)
    have hal : 0 < a.length := List.length_pos_iff.2 ha0
    have hbn : b.map sC ≠ [] := fun e => hb0 (List.map_eq_nil_iff.1 e)
    have hbl : 0 < b.length := List.length_pos_iff.2 hb0
    refine PC.of_body Tryz.func108 Tryz.ntmps108 rfl rfl rfl ?_
    repeat' first
      | (refine W_rounds 3 ?_)
      | (refine cs rfl ?_ (fun _ => ?_); focus (intro h; exfalso; revert h; decide))
      | (refine m_moveRow 35 (els := (([] ++ a.map sC) ++ b.map sC)) rfl rfl (by simp) (by simp; omega) (fun x hx => sC_row (l := a ++ b) x (by simpa using hx)) ?_)
      | (apply p1 (hd := rfl); case hop => first | (apply D_move; rfl) | (apply D_assign; rfl) | exact D_sc (D_int rfl rfl rfl) (congrArg _ e1) | exact D_sc (D_int rfl rfl rfl) (congrArg _ e2) | exact D_sc (D_int rfl rfl rfl) l1 | exact D_sc (D_int rfl rfl rfl) l2 | exact D_ltD rfl rfl | (apply D_idxA0; rfl; rfl; all_goals exact of_decide_eq_true rfl) | (apply D_load1; rfl) | (apply D_int; rfl; rfl; rfl) | (apply D_lenM; rfl) | (apply D_len_sl; rfl))
      | refine W_seq ?_
      | refine W_region ?_
      | (refine idC ?_; first | refine c1 rfl ?_ | refine c0 rfl ?_)
      | refine WL_nil ?_
      | refine tn ?_
      | refine bn ?_
      | refine te ?_
      | (refine idB ?_; refine bh rfl ?_)
      | refine W_skip ?_
      | refine W_block ?_
      | refine W_exit ?_
      | refine W_ret ?_
      | (refine idR ?_; refine ret1 rfl rfl rfl ?_)
      | (refine m_call (d := 24) (hgr _) rfl rfl rfl ?_; rintro _ _ ⟨rfl, rfl⟩)
      | (refine m_appG (d := 33) (els := []) rfl rfl rfl rfl han rfl (by simp; omega) (by simp; omega) rfl ?_)
      | (refine m_appG (d := 33) (els := ([] ++ a.map sC)) rfl rfl rfl (by simp) hbn rfl (by simp; omega) (by simp; omega) rfl ?_)
    all_goals first | exact Le.of_eq rfl | exact Le.of_eq (congrArg (AV.sl none 2) (by simp)) | skip
    all_goals trace_state
set_option maxHeartbeats 4000000 in
theorem sor_pc [GlobF Tryz.prog] (a b : List Sp) (ha : SetP a) (hb : SetP b) (hla : a.length + b.length < 8796093022208) (hlb : b.length < 8796093022208) : PC Tryz.prog 86 [sl2 a, sl2 b] (.tu [sl2 (canS (a ++ b)), .sc (.int .i64 0)]) := by
  have s1 := set_pc a (by omega)
  have s2 := set_pc b (by omega)
  rw [← dP_T ha] at s1
  rw [← dP_T hb] at s2
  have hn : neS (a ++ b) := fun s hs => by
    rcases List.mem_append.1 hs with h | h
    · exact ha.1 s h
    · exact hb.1 s h
  refine PC.of_body Tryz.func86 Tryz.ntmps86 rfl rfl rfl ?_
  repeat' first
    | (apply p1 (hd := rfl); case hop => first | (apply D_move; rfl) | (apply D_assign; rfl) | (apply D_pc s1; rfl; exact .same rfl .nil) | (apply D_pc s2; rfl; exact .same rfl .nil) | (apply D_pc (concat_pc a b (by omega) (by omega)); rfl; exact .same rfl .nil) | (apply D_pc (joined_pc (a ++ b) hn (by rw [List.length_append]; omega)); rfl; exact .same rfl .nil) | (apply D_pickT; rfl; rfl) | (apply D_pickF; rfl; rfl) | (apply D_not; rfl) | (apply D_lit; rfl; rfl; rfl; rfl))
    | refine W_seq ?_
    | refine W_region ?_
    | (refine idC ?_; first | refine c1 rfl ?_ | refine cs rfl (fun _ => ?_) (fun _ => ?_))
    | refine WL_nil ?_
    | (refine idG ?_; first | refine g0f rfl rfl rfl ?_ | refine gr rfl rfl ?_ | refine gs rfl rfl (fun _ => ?_) (fun _ => ?_))
    | refine tn ?_
    | refine tr ?_
    | refine W_skip ?_
    | refine W_ret ?_
    | (refine idR ?_; refine ret2 rfl rfl rfl rfl ?_ ?_)
    | refine Le.int ?_
  all_goals first | rfl | contradiction | exact Le.of_eq rfl | skip
  all_goals trace_state
set_option maxHeartbeats 4000000 in
theorem meets_ac [GlobF Tryz.prog] (a b : List Sp) (h : List AObj) : AC Tryz.prog 93 [sl2 a, sl2 b] h (fun v h' => v = .fn (.func 111) [] [.bp h.length 0, .bp (h ++ [AObj.cells [sl2 a]]).length 0] ∧ h' = h ++ [.cells [sl2 a]] ++ [.cells [sl2 b]]) := by
  refine AC.of_body Tryz.func93 Tryz.ntmps93 rfl rfl rfl ?_
  repeat' first
    | (refine m_box rfl rfl rfl ?_)
    | (apply p1 (hd := rfl); case hop => first | (apply D_assign; rfl) | exact D_mkfn rfl)
    | refine W_seq ?_
    | refine W_region ?_
    | refine WL_nil ?_
    | refine tn ?_
    | refine W_ret ?_
  exact retK1 (.inl rfl) rfl rfl (ResO.tmp rfl) ⟨rfl, rfl⟩
abbrev HM (X1 X2 : AObj) (o a b : List Sp) : List AObj := [.cells [.sl (some 1) 2 (o.map sC)], .tail o.length 2 69, .cells [sl2 a], .cells [sl2 b], X1, X2]
theorem bdS {n : Nat} {tok : Option Nat} {k : Nat} {l : List Sp} (h : ∀ t, tok = some t → t < n) : BdA n (.sl tok k (l.map sC)) := .sl h fun e he x hx => by
  obtain ⟨s, _, rfl⟩ := List.mem_map.1 he
  simp only [List.mem_cons, List.not_mem_nil, or_false] at hx
  rcases hx with rfl | rfl <;> exact .sc _
theorem HM_bd {X1 X2 : AObj} {a b : List Sp} (h : BdH (HM X1 X2 [] a b)) (o a' b' : List Sp) : BdH (HM X1 X2 o a' b') := fun q hq => by
  have h1 : BdO 6 X1 := h X1 (by simp)
  have h2 : BdO 6 X2 := h X2 (by simp)
  simp only [List.mem_cons, List.not_mem_nil, or_false] at hq
  rcases hq with rfl | rfl | rfl | rfl | rfl | rfl
  · exact fun x hx => by rw [List.mem_singleton.1 hx]; exact bdS fun t e => by cases e; show 1 < 6; decide
  · trivial
  · exact fun x hx => by rw [List.mem_singleton.1 hx]; exact bdS fun t e => by cases e
  · exact fun x hx => by rw [List.mem_singleton.1 hx]; exact bdS fun t e => by cases e
  · exact h1
  · exact h2
set_option maxHeartbeats 16000000 in
theorem meets1_ac [GlobF Tryz.prog] (X1 X2 : AObj) (a b : List Sp) (l : Nat) (hla : a.length + b.length < 8796093022208) (hlb : b.length < 8796093022208)
    (hy : ∀ (o a' b' : List Sp) (s : Sp) (ex : List AObj), o.length < 8796093022208 → YW Tryz.prog l [eS s] (HM X1 X2 o a' b' ++ ex) (fun bo h' => bo = true ∧ ∃ ex', h' = HM X1 X2 (o ++ [s]) a' b' ++ ex')) :
    AC Tryz.prog 111 [.sc (.func (.yield l) #[] #[]), .bp 2 0, .bp 3 0] (HM X1 X2 [] a b) (fun _ h' => ∃ a' b' ex, h' = HM X1 X2 (meetL a b) a' b' ++ ex) := by
  refine AC.bd (enters_of Tryz.func111 (by kernel_rfl) rfl) fun hbd => ?_
  refine AC.of_body Tryz.func111 Tryz.ntmps111 rfl rfl rfl ?_
  repeat' first
    | refine W_seq ?_
    | refine tn ?_
    | refine W_block ?_
    | refine W_label ?_
    | refine W_scope ?_
  refine W_loopC (X := List Sp × List Sp × List Sp) (fun _ => [(0, .sc (.func (.yield l) #[] #[])), (1, .bp 2 0), (2, .bp 3 0)]) (fun x => HM X1 X2 x.1 x.2.1 x.2.2)
    (fun x => x.1 ++ meetL x.2.1 x.2.2 = meetL a b ∧ x.1.length + x.2.1.length + x.2.2.length ≤ a.length + b.length) (fun x => x.2.1.length + x.2.2.length) ([], a, b) ⟨rfl, by simp⟩ ⟨rfl, rfl, rfl, trivial⟩ rfl
    (fun _ => Nat.le_refl _) (fun x _ => HM_bd hbd _ _ _) (fun x _ => look_all .any (by simp; exact ⟨.sc _, .bp (by decide), .bp (by decide)⟩)) (fun x r hr => by cases hr) ?_
  rintro ⟨o, a', b'⟩ ⟨hI, hS⟩
  simp only at hI hS ⊢
  rcases a' with _ | ⟨s, a1⟩
  · rw [meetL_nil, List.append_nil] at hI
    subst hI
    repeat' first
      | (apply p1 (hd := rfl); case hop => first | (apply D_move; rfl) | (apply D_pickT; rfl; rfl) | (apply D_pickF; rfl; rfl) | (apply D_int; rfl; rfl; rfl) | (apply D_lenM; rfl))
      | refine W_seq ?_
      | refine W_region ?_
      | (refine idC ?_; first | refine c0 rfl ?_ | refine cs rfl (fun _ => ?_) (fun _ => ?_))
      | refine WL_nil ?_
      | (refine idG ?_; first | refine g0t rfl rfl rfl ?_ | refine gr rfl rfl ?_ | refine gs rfl rfl (fun _ => ?_) (fun _ => ?_))
      | refine tn ?_
      | refine te ?_
      | (refine idB ?_; refine bh rfl ?_)
      | refine W_skip ?_
      | refine W_block ?_
      | refine W_exit ?_
      | refine sn ?_
      | (refine idLd ?_; refine p1L (D_loadB1 rfl rfl rfl) rfl ?_)
      | (refine idW ?_; refine W_draw1 rfl ?_)
      | (apply d1 (hd := rfl); case hop => first | (apply D_load1; rfl) | (apply D_fld; rfl) | (apply D_idxA; rfl; rfl; omega; (first | omega | (simp; done) | (simp; omega))))
      | (refine idDn ?_; refine dL _ (fun hp' hs => D_loadB1 rfl (hs.trans rfl) rfl) rfl ?_)
    all_goals first
      | exact ret0 (.inr rfl) rfl rfl ⟨_, _, [], (List.append_nil _).symm⟩
      | (exfalso; simp only [List.length_cons, List.length_nil] at *; omega)
      | skip
  · rcases b' with _ | ⟨r, b1⟩
    · rw [meetL_nil2, List.append_nil] at hI
      subst hI
      repeat' first
        | (apply p1 (hd := rfl); case hop => first | (apply D_move; rfl) | (apply D_pickT; rfl; rfl) | (apply D_pickF; rfl; rfl) | (apply D_int; rfl; rfl; rfl) | (apply D_lenM; rfl))
        | refine W_seq ?_
        | refine W_region ?_
        | (refine idC ?_; first | refine c0 rfl ?_ | refine cs rfl (fun _ => ?_) (fun _ => ?_))
        | refine WL_nil ?_
        | (refine idG ?_; first | refine g0t rfl rfl rfl ?_ | refine gr rfl rfl ?_ | refine gs rfl rfl (fun _ => ?_) (fun _ => ?_))
        | refine tn ?_
        | refine te ?_
        | (refine idB ?_; refine bh rfl ?_)
        | refine W_skip ?_
        | refine W_block ?_
        | refine W_exit ?_
        | refine sn ?_
        | (refine idLd ?_; refine p1L (D_loadB1 rfl rfl rfl) rfl ?_)
        | (refine idW ?_; refine W_draw1 rfl ?_)
        | (apply d1 (hd := rfl); case hop => first | (apply D_load1; rfl) | (apply D_fld; rfl) | (apply D_idxAn; rfl; rfl; (first | omega | (simp; done))) | (apply D_idxA; rfl; rfl; omega; (first | omega | (simp; done) | (simp; omega))))
        | (refine idDn ?_; refine dL _ (fun hp' hs => D_loadB1 rfl (hs.trans rfl) rfl) rfl ?_)
      all_goals first
        | exact ret0 (.inr rfl) rfl rfl ⟨_, _, [], (List.append_nil _).symm⟩
        | (exfalso; simp only [List.length_cons, List.length_nil] at *; omega)
        | skip
    · have hyi := hy o (s :: a1) (r :: b1) ⟨max s.f r.f, min s.t r.t⟩ [.cells (sC ⟨max s.f r.f, min s.t r.t⟩)] (by omega)
      rw [meetL_cons] at hI
      have hnot : Value.bool (bNot true) = .bool false := by simp [bNot]
      simp only [List.length_cons] at hS
      repeat' first
        | (apply p1 (hd := rfl); case hop => first | (apply D_move; rfl) | exact D_sc (D_not rfl) hnot | (apply D_pickT; rfl; rfl) | (apply D_pickF; rfl; rfl) | (apply D_int; rfl; rfl; rfl) | (apply D_lenM; rfl) | (apply D_slVlM; rfl; rfl; all_goals first | omega | ((repeat rw [w64 _ (by omega) (by omega)]); omega) | decide) | exact D_fldB rfl)
        | refine W_seq ?_
        | refine W_region ?_
        | (refine idC ?_; first | refine c0 rfl ?_ | refine cs rfl (fun _ => ?_) (fun _ => ?_))
        | refine WL_nil ?_
        | (refine idG ?_; first | refine g0t rfl rfl rfl ?_ | refine gr rfl rfl ?_ | refine gs rfl rfl (fun _ => ?_) (fun _ => ?_))
        | refine tn ?_
        | refine bn ?_
        | refine te ?_
        | (refine idB ?_; refine bh rfl ?_)
        | refine W_skip ?_
        | refine W_block ?_
        | refine W_exit ?_
        | refine sn ?_
        | (refine idLd ?_; first | refine p1L (D_loadB1 rfl rfl rfl) rfl ?_ | refine p1L (D_loadBA rfl rfl rfl) rfl ?_)
        | (refine idS ?_; refine pS (S_store rfl rfl rfl rfl rfl rfl rfl) ?_)
        | (refine m_yield rfl rfl rfl hyi ?_; rintro bo _ ⟨rfl, ex, rfl⟩)
        | (refine idW ?_; first | refine W_draw0 rfl ?_ | refine W_draw1 rfl ?_)
        | (apply d1 (hd := rfl); case hop => first | exact D_max rfl rfl | exact D_min rfl rfl | (apply D_load1; rfl) | (apply D_fld; rfl) | (apply D_int; rfl; rfl; rfl) | (apply D_idxAn; rfl; rfl; (first | omega | (simp; done))) | exact D_build rfl)
        | (refine idDn ?_; first | refine dL _ (fun hp' hs => D_loadB1 rfl (hs.trans rfl) rfl) rfl ?_ | refine dS (S_store rfl rfl rfl rfl rfl rfl rfl) rfl ?_ | refine dV (S_alloc 6 rfl) rfl rfl ?_)
        | refine WD_nil (by first | decide +kernel | kernel_rfl | rfl) ?_
      all_goals first
        | (rw [if_pos (by assumption : max s.f r.f < min s.t r.t), if_pos (by assumption : s.t < r.t), ← List.append_assoc] at hI
           exact ⟨rfl, (_, a1, r :: b1), ⟨hI, by simp; omega⟩, by simp, ⟨rfl, rfl, rfl, trivial⟩, ex, rfl⟩)
        | (rw [if_pos (by assumption : max s.f r.f < min s.t r.t), if_neg (Int.not_lt.2 (by assumption : r.t ≤ s.t)), ← List.append_assoc] at hI
           exact ⟨rfl, (_, s :: a1, b1), ⟨hI, by simp; omega⟩, by simp, ⟨rfl, rfl, rfl, trivial⟩, ex, rfl⟩)
        | (rw [if_neg (Int.not_lt.2 (by assumption : min s.t r.t ≤ max s.f r.f)), if_pos (by assumption : s.t < r.t), List.nil_append] at hI
           exact ⟨rfl, (_, a1, r :: b1), ⟨hI, by simp; omega⟩, by simp, ⟨rfl, rfl, rfl, trivial⟩, _, rfl⟩)
        | (rw [if_neg (Int.not_lt.2 (by assumption : min s.t r.t ≤ max s.f r.f)), if_neg (Int.not_lt.2 (by assumption : r.t ≤ s.t)), List.nil_append] at hI
           exact ⟨rfl, (_, s :: a1, b1), ⟨hI, by simp; omega⟩, by simp, ⟨rfl, rfl, rfl, trivial⟩, _, rfl⟩)
        | (exfalso; simp only [List.length_cons, List.length_nil] at *; omega)
        | skip
      all_goals trace_state
end Go.Proofs
