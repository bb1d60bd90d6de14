/- The plain law of the values' order. -/
import Derived.Test.YtaphfieahcimcaaDoorQTV2
import Derived.Test.YtaphfieahcimcaaDoorQD6
namespace Go.Proofs
open Go.AL

/-- How two stand, soundly. -/
structure WC {α : Type} (c : α → α → Int) : Prop where
  anti : ∀ x y, c x y < 0 ↔ 0 < c y x
  le : ∀ x y z, c x y ≤ 0 → c y z ≤ 0 → c x z ≤ 0
theorem WC.refl {α : Type} {c : α → α → Int} (h : WC c) (x : α) : c x x = 0 := by have := h.anti x x; omega
theorem WC.sym {α : Type} {c : α → α → Int} (h : WC c) {x y : α} (e : c x y = 0) : c y x = 0 := by have h1 := h.anti x y; have h2 := h.anti y x; omega
theorem WC.lt {α : Type} {c : α → α → Int} (h : WC c) {x y z : α} (h1 : c x y ≤ 0) (h2 : c y z ≤ 0) (h3 : c x y < 0 ∨ c y z < 0) : c x z < 0 := by
  have h4 := h.le x y z h1 h2
  rcases Int.lt_or_eq_of_le h4 with h5 | h5
  · exact h5
  · exfalso
    have h6 := h.sym h5
    rcases h3 with h3 | h3
    · have := h.le y z x h2 (by omega)
      have := (h.anti x y).1 h3; omega
    · have := h.le z x y (by omega) h1
      have := (h.anti y z).1 h3; omega
theorem WC.comap {α β : Type} {c : α → α → Int} (h : WC c) (f : β → α) : WC (fun x y => c (f x) (f y)) := ⟨fun _ _ => h.anti _ _, fun _ _ _ => h.le _ _ _⟩
theorem WC.lex {α : Type} {c d : α → α → Int} (h : WC c) (h' : WC d) : WC (fun x y => if c x y = 0 then d x y else c x y) := by
  refine ⟨fun x y => ?_, fun x y z h1 h2 => ?_⟩
  · have a1 := h.anti x y
    have a2 := h.anti y x
    have b1 := h'.anti x y
    by_cases e : c x y = 0
    · rw [if_pos e, if_pos (h.sym e)]; exact b1
    · rw [if_neg e, if_neg (fun e' => e (h.sym e'))]; exact a1
  · by_cases e1 : c x y = 0
    · rw [if_pos e1] at h1
      by_cases e2 : c y z = 0
      · rw [if_pos e2] at h2
        have e3 : c x z = 0 := by
          have l1 := h.le x y z (by omega) (by omega)
          have l2 := h.le z y x (by have := h.sym e2; omega) (by have := h.sym e1; omega)
          have := h.anti x z
          omega
        rw [if_pos e3]; exact h'.le x y z h1 h2
      · rw [if_neg e2] at h2
        have := h.lt (x := x) (y := y) (z := z) (by omega) h2 (.inr (by omega))
        rw [if_neg (by omega)]; omega
    · rw [if_neg e1] at h1
      have h3 : c y z ≤ 0 := by
        by_cases e2 : c y z = 0
        · omega
        · rw [if_neg e2] at h2; exact h2
      have := h.lt (x := x) (y := y) (z := z) h1 h3 (.inl (by omega))
      rw [if_neg (by omega)]; omega
theorem cb_lt {x y : UInt8} {a b : List UInt8} (h : x.toNat < y.toNat) : Lib.compareBytes (x :: a) (y :: b) = -1 := by
  rw [Lib.compareBytes, if_pos (UInt8.lt_iff_toNat_lt.2 h)]
theorem cb_gt {x y : UInt8} {a b : List UInt8} (h : y.toNat < x.toNat) : Lib.compareBytes (x :: a) (y :: b) = 1 := by
  rw [Lib.compareBytes, if_neg (by rw [UInt8.lt_iff_toNat_lt]; omega), if_pos (UInt8.lt_iff_toNat_lt.2 h)]
theorem cb_eq (x : UInt8) (a b : List UInt8) : Lib.compareBytes (x :: a) (x :: b) = Lib.compareBytes a b := by
  rw [Lib.compareBytes, if_neg (by rw [UInt8.lt_iff_toNat_lt]; omega), if_neg (by rw [UInt8.lt_iff_toNat_lt]; omega)]
theorem wc_cmpI : WC cmpI := by
  constructor
  · intro x y; unfold cmpI; split <;> split <;> (try split) <;> (try split) <;> omega
  · intro x y z; unfold cmpI; intro h1 h2
    split at h1 <;> split at h2 <;> (try split at h1) <;> (try split at h2) <;> split <;> (try split) <;> omega
theorem cb_cases (x y : UInt8) (a b : List UInt8) : (x.toNat < y.toNat ∧ Lib.compareBytes (x :: a) (y :: b) = -1 ∧ Lib.compareBytes (y :: b) (x :: a) = 1) ∨ (y.toNat < x.toNat ∧ Lib.compareBytes (x :: a) (y :: b) = 1 ∧ Lib.compareBytes (y :: b) (x :: a) = -1) ∨
    (x = y ∧ Lib.compareBytes (x :: a) (y :: b) = Lib.compareBytes a b ∧ Lib.compareBytes (y :: b) (x :: a) = Lib.compareBytes b a) := by
  rcases Nat.lt_trichotomy x.toNat y.toNat with h | h | h
  · exact .inl ⟨h, cb_lt h, cb_gt h⟩
  · have e : x = y := UInt8.toNat.inj h
    subst e; exact .inr (.inr ⟨rfl, cb_eq _ _ _, cb_eq _ _ _⟩)
  · exact .inr (.inl ⟨h, cb_gt h, cb_lt h⟩)
theorem cb_anti : ∀ a b : List UInt8, Lib.compareBytes a b < 0 ↔ 0 < Lib.compareBytes b a
  | [], [] => by simp [Lib.compareBytes]
  | [], y :: b => by simp [Lib.compareBytes]
  | x :: a, [] => by simp [Lib.compareBytes]
  | x :: a, y :: b => by
    have ih := cb_anti a b
    rcases cb_cases x y a b with ⟨_, e1, e2⟩ | ⟨_, e1, e2⟩ | ⟨_, e1, e2⟩
    · rw [e1, e2]; omega
    · rw [e1, e2]; omega
    · rw [e1, e2]; exact ih
theorem cb_le : ∀ a b c : List UInt8, Lib.compareBytes a b ≤ 0 → Lib.compareBytes b c ≤ 0 → Lib.compareBytes a c ≤ 0
  | [], b, [], _, _ => by simp [Lib.compareBytes]
  | [], b, z :: c, _, _ => by simp [Lib.compareBytes]
  | x :: a, [], c, h, _ => by simp [Lib.compareBytes] at h
  | x :: a, y :: b, [], _, h => by simp [Lib.compareBytes] at h
  | x :: a, y :: b, z :: c, h1, h2 => by
    have ih := cb_le a b c
    rcases cb_cases x y a b with ⟨p, e1, _⟩ | ⟨p, e1, _⟩ | ⟨p, e1, _⟩
    · rcases cb_cases y z b c with ⟨q, e3, _⟩ | ⟨q, e3, _⟩ | ⟨q, e3, _⟩
      · rw [cb_lt (by omega)]; omega
      · rw [e3] at h2; omega
      · subst q; rw [cb_lt p]; omega
    · rw [e1] at h1; omega
    · subst p
      rcases cb_cases x z b c with ⟨q, e3, _⟩ | ⟨q, e3, _⟩ | ⟨q, e3, _⟩
      · rw [cb_lt q]; omega
      · rw [e3] at h2; omega
      · subst q; rw [cb_eq]; rw [e1] at h1; rw [e3] at h2; exact ih h1 h2
theorem wc_cb : WC Lib.compareBytes := ⟨cb_anti, cb_le⟩
theorem wc_cmpV : WC cmpV := by
  have e : cmpV = fun a b => if cmpI a.kind b.kind = 0 then (if cmpI a.n b.n = 0 then Lib.compareBytes a.s b.s else cmpI a.n b.n) else cmpI a.kind b.kind := by
    funext a b
    simp only [cmpV, orI]
    split
    · split
      · split
        · rename_i h; exact h.symm
        · rfl
      · rfl
    · rfl
  rw [e]
  exact (wc_cmpI.comap Val.kind).lex ((wc_cmpI.comap Val.n).lex (wc_cb.comap Val.s))

end Go.Proofs

/- Contracts of the statements: CalcOrder. -/
namespace Go.Proofs
open Go.AL
attribute [local irreducible] Go.AL.W Go.AL.WL Go.AL.WD Go.AL.POp Go.AL.PPOp Go.AL.POpS Go.AL.PC Go.AL.AC Go.AL.YW Go.AL.Ret Go.AL.Le Go.AL.thn Go.AL.inBlk Go.AL.scp

theorem say_of [GlobF Tryd.prog] (hg : MaxLenOK) {s : List UInt8} {x y : Val} (b : Bool) (h : s ∈ preds) (hx : MayP x) (hy : MayP y) (hb : b = true ↔ testP s x y) :
    PC Tryd.prog 13 [str s, .sl none 3 ([x, y].map vC)] (.sc (.bool b)) := by
  have g := says_pc hg s [x, y] (by show 2 < _; decide) (len2 (by have := may_len hx; omega) (by have := may_len hy; omega))
  rw [says_v h hx hy] at g
  rwa [show b = dP (testP s x y) from dP_eq hb]
theorem do_of [GlobF Tryd.prog] (hp : PowOK) (he : ErrsOK) {s : List UInt8} {x y w : Val} (h : s ∈ twos) (hx : MayP x) (hy : MayP y) (h1 : inR x.n) (h2 : inR y.n) (hd : doP s [x, y]) (hv : doV s [x, y] = w) :
    PC Tryd.prog 18 [str s, .sl none 3 ([x, y].map vC)] (.tu [eV w, .sc (.bool true), .sc (.int .i64 0)]) := by
  have g := do_pc hp he s [x, y] (by show 2 < _; decide) (inD2 (by have := may_len hx; omega) (by have := may_len hy; omega) h1 h2)
  rwa [← dP_T hd, right_two2 h hx hy, hv] at g
theorem vinj {a b : Val} (h : [Value.int IntKind.i64 a.kind, Value.int IntKind.i64 a.n, Value.string { data := a.s.toArray }] = [Value.int IntKind.i64 b.kind, Value.int IntKind.i64 b.n, Value.string { data := b.s.toArray }]) : a = b := by
  have := eqL (a := a) (b := b)
  rw [(lEq_t _ _).mpr h] at this
  exact (dP_t (p := a = b)).mp this.symm
theorem check_y [GlobF Tryd.prog] {v : Val} (h : MayP v) : PC Tryd.prog 22 [eV v] (.sc (.int .i64 0)) := by
  have := check_pc v (by have := may_len h; omega)
  rwa [tE_t h] at this
theorem tp (a b : Val) : (testP [60] a b ↔ cmpV a b < 0) ∧ (testP [61] a b ↔ cmpV a b = 0) ∧ (testP [62] a b ↔ 0 < cmpV a b) ∧ (testP [60, 61] a b ↔ cmpV a b ≤ 0) ∧ (testP [62, 61] a b ↔ 0 ≤ cmpV a b) ∧ (testP [33, 61] a b ↔ cmpV a b ≠ 0) := by
  refine ⟨?_, ?_, ?_, ?_, ?_, ?_⟩ <;> simp [testP]
set_option maxHeartbeats 32000000 in
set_option maxRecDepth 100000 in
theorem order_core [GlobF Tryd.prog] (hg : MaxLenOK) (hp : PowOK) (he : ErrsOK) (a b lo hi : Val) (bl be bm : Bool) (ma : MayP a) (mb : MayP b) (ra : inR a.n) (rb : inR b.n)
    (hl : bl = true ↔ cmpV a b < 0) (hE : be = true ↔ cmpV a b = 0) (hm : bm = true ↔ 0 < cmpV a b) (hlo : lo = if cmpV a b ≤ 0 then a else b) (hhi : hi = if cmpV a b ≤ 0 then b else a)
    (hc : (bl = true ∧ be = false ∧ bm = false ∧ lo = a ∧ hi = b ∧ a ≠ b) ∨ (bl = false ∧ be = true ∧ bm = false ∧ lo = a ∧ hi = b ∧ a = b) ∨ (bl = false ∧ be = false ∧ bm = true ∧ lo = b ∧ hi = a ∧ a ≠ b)) :
    PC Tryd.prog 8 [eV a, eV b] (.sc (.bool true)) := by
  have ha := alive_pc hg hp he
  have an := wc_cmpV.anti a b
  have an2 := wc_cmpV.anti b a
  have ca := check_y (v := a) ma
  have cb := check_y (v := b) mb
  obtain ⟨tt1, tt2, tt3, tt4, tt5, tt6⟩ := tp a b
  obtain ⟨uu1, uu2, uu3, uu4, uu5, uu6⟩ := tp b a
  have say1 := say_of hg bl (by decide) ma mb (hl.trans tt1.symm)
  have say2 := say_of hg be (by decide) ma mb (hE.trans tt2.symm)
  have say3 := say_of hg bm (by decide) ma mb (hm.trans tt3.symm)
  have say4 := say_of hg (!bm) (s := [60, 61]) (by decide) ma mb (by rw [tt4]; cases bm <;> simp at hm ⊢ <;> omega)
  have say5 := say_of hg (!bl) (s := [62, 61]) (by decide) ma mb (by rw [tt5]; cases bl <;> simp at hl ⊢ <;> omega)
  have say6 := say_of hg (!be) (s := [33, 61]) (by decide) ma mb (by rw [tt6]; cases be <;> simp at hE ⊢ <;> omega)
  have say7 := say_of hg bm (s := [60]) (by decide) mb ma (by rw [uu1, hm]; omega)
  have dod1 := do_of hp he (by decide) ma mb ra rb (do_mn ma mb).1 ((do_mn ma mb).2.trans hlo.symm)
  have dod2 := do_of hp he (by decide) ma mb ra rb (do_mx ma mb).1 ((do_mx ma mb).2.trans hhi.symm)
  have mlo : MayP lo := by rw [hlo]; split <;> assumption
  have mhi : MayP hi := by rw [hhi]; split <;> assumption
  have say8 := say_of hg false (s := [62]) (x := lo) (y := hi) (by decide) mlo mhi (by
    have := (tp lo hi).2.2.1
    rw [this, hlo, hhi]
    split <;> simp <;> omega)
  rcases hc with ⟨rfl, rfl, rfl, rfl, rfl, hne⟩ | ⟨rfl, rfl, rfl, rfl, rfl, rfl⟩ | ⟨rfl, rfl, rfl, rfl, rfl, hne⟩
  · refine PC.of_body Tryd.func8 Tryd.ntmps8 rfl rfl rfl ?_
    repeat' first
      | (apply p1 (hd := rfl); case hop => first | (apply D_move; rfl) | (apply D_assign; rfl) | (apply D_pc ha; rfl; exact .nil) | (apply D_pc ca; rfl; exact .same rfl .nil) | (apply D_pc cb; rfl; exact .same rfl .nil) | (apply D_pc say1; rfl; exact .same rfl (.same rfl .nil)) | (apply D_pc say2; rfl; exact .same rfl (.same rfl .nil)) | (apply D_pc say3; rfl; exact .same rfl (.same rfl .nil)) | (apply D_pc say4; rfl; exact .same rfl (.same rfl .nil)) | (apply D_pc say5; rfl; exact .same rfl (.same rfl .nil)) | (apply D_pc say6; rfl; exact .same rfl (.same rfl .nil)) | (apply D_pc say7; rfl; exact .same rfl (.same rfl .nil)) | (apply D_pc say8; rfl; exact .same rfl (.same rfl .nil)) | (apply D_pc dod1; rfl; exact .same rfl (.same rfl .nil)) | (apply D_pc dod2; rfl; exact .same rfl (.same rfl .nil)) | (apply D_load1; rfl) | (apply D_pickT; rfl; rfl) | (apply D_pickF; rfl; rfl) | (apply D_int; rfl; rfl; rfl) | (apply D_lenM; rfl) | (apply D_len_sl; rfl) | (apply D_ext; rfl; rfl) | (apply D_not; rfl) | (apply D_loadW; rfl; rfl) | (apply D_loadA; rfl; rfl) | (apply D_box; rfl; rfl) | (apply D_len_nil; rfl) | (apply D_beq; rfl; rfl) | (apply D_bne; rfl; rfl) | (apply D_idxAn; rfl; rfl; (first | omega | (simp; done))) | (apply D_idxA; rfl; rfl; omega; (first | omega | (simp; done) | (simp; omega))) | (apply D_idxA0; rfl; rfl; omega; (first | omega | (simp; done) | (simp; omega))) | (apply D_lit; rfl; rfl; rfl; rfl) | (apply D_lenR; rfl) | (apply D_ixRn; rfl; rfl; (first | omega | (simp; done))) | (apply D_ixR; rfl; rfl; all_goals first | omega | ((repeat rw [w64 _ (by omega) (by omega)]); omega) | decide) | exact D_eqA rfl rfl rfl rfl rfl rfl rfl | exact D_neA rfl rfl rfl rfl rfl rfl rfl)
      | refine W_seq ?_
      | refine W_region ?_
      | (refine idC ?_; first | refine c1 rfl ?_ | refine c0 rfl ?_ | refine cs rfl (fun _ => ?_) (fun _ => ?_))
      | refine WL_nil ?_
      | (refine idG ?_; first | refine g0t rfl rfl rfl ?_ | refine g0f rfl rfl rfl ?_ | refine g0u rfl rfl rfl ?_ | refine gr rfl rfl ?_ | refine gs rfl rfl (fun _ => ?_) (fun _ => ?_) | refine grn rfl rfl ?_)
      | refine tn ?_
      | refine tr ?_
      | refine br ?_
      | refine bn ?_
      | refine te ?_
      | (refine idB ?_; first | refine bh rfl ?_ | refine bm rfl ?_)
      | refine W_skip ?_
      | refine W_block ?_
      | refine W_exit ?_
      | refine W_ret ?_
      | refine W_label ?_
      | refine W_scope ?_
      | refine sn ?_
      | refine sr ?_
      | refine se ?_
      | (refine idR ?_; first | refine ret1 rfl rfl rfl ?_ | refine rL1 rfl (by first | exact trivial | exact ⟨rfl, trivial⟩) (by first | exact ResO.tmp rfl | exact ResO.cellBA rfl rfl rfl | exact ResO.cellB1 rfl rfl rfl | exact ResO.cellEA rfl rfl | exact ResO.cellE1 rfl) ?_)
      | (refine idLd ?_; first | refine p1L (D_loadB1 rfl rfl rfl) rfl ?_ | refine p1L (D_loadBA rfl rfl rfl) rfl ?_ | refine p1L (D_loadB1 rfl (by (repeat first | assumption | exact get_last | (refine get_last2 ?_; focus (simp; done)) | apply get_set | apply get_app | (apply get_ne; focus omega) | (apply get_ne; focus (simp only [List.length_set, List.length_append, List.length_cons, List.length_nil]; omega))); done) (by rfl)) rfl ?_ | refine p1L (D_loadBA rfl (by (repeat first | assumption | exact get_last | (refine get_last2 ?_; focus (simp; done)) | apply get_set | apply get_app | (apply get_ne; focus omega) | (apply get_ne; focus (simp only [List.length_set, List.length_append, List.length_cons, List.length_nil]; omega))); done) (by rfl)) rfl ?_)
      | (refine idA ?_; first | refine m_alloc rfl ?_)
      | (refine idS ?_; first | refine pS (S_store rfl rfl rfl rfl rfl rfl rfl) ?_ | refine pS (S_store rfl rfl rfl (by (repeat first | assumption | exact get_last | (refine get_last2 ?_; focus (simp; done)) | apply get_set | apply get_app | (apply get_ne; focus omega) | (apply get_ne; focus (simp only [List.length_set, List.length_append, List.length_cons, List.length_nil]; omega))); done) (by rfl) (by rfl) (by rfl)) ?_)
      | refine Le.bool ?_
      | refine Le.int ?_
      | refine Le.str ?_
      | (refine idW ?_; first | refine W_draw0 rfl ?_ | refine W_draw1 rfl ?_ | refine W_draw2 rfl ?_ | refine W_draw3 rfl ?_)
      | (apply d1 (hd := rfl); case hop => first | (apply D_move; rfl) | (apply D_assign; rfl) | (apply D_pc ha; rfl; exact .nil) | (apply D_pc ca; rfl; exact .same rfl .nil) | (apply D_pc cb; rfl; exact .same rfl .nil) | (apply D_pc say1; rfl; exact .same rfl (.same rfl .nil)) | (apply D_pc say2; rfl; exact .same rfl (.same rfl .nil)) | (apply D_pc say3; rfl; exact .same rfl (.same rfl .nil)) | (apply D_pc say4; rfl; exact .same rfl (.same rfl .nil)) | (apply D_pc say5; rfl; exact .same rfl (.same rfl .nil)) | (apply D_pc say6; rfl; exact .same rfl (.same rfl .nil)) | (apply D_pc say7; rfl; exact .same rfl (.same rfl .nil)) | (apply D_pc say8; rfl; exact .same rfl (.same rfl .nil)) | (apply D_pc dod1; rfl; exact .same rfl (.same rfl .nil)) | (apply D_pc dod2; rfl; exact .same rfl (.same rfl .nil)) | (apply D_load1; rfl) | (apply D_pickT; rfl; rfl) | (apply D_pickF; rfl; rfl) | (apply D_int; rfl; rfl; rfl) | (apply D_lenM; rfl) | (apply D_len_sl; rfl) | (apply D_ext; rfl; rfl) | (apply D_not; rfl) | (apply D_loadW; rfl; rfl) | (apply D_loadA; rfl; rfl) | (apply D_box; rfl; rfl) | (apply D_len_nil; rfl) | (apply D_beq; rfl; rfl) | (apply D_bne; rfl; rfl) | (apply D_idxAn; rfl; rfl; (first | omega | (simp; done))) | (apply D_idxA; rfl; rfl; omega; (first | omega | (simp; done) | (simp; omega))) | (apply D_idxA0; rfl; rfl; omega; (first | omega | (simp; done) | (simp; omega))) | (apply D_lit; rfl; rfl; rfl; rfl) | (apply D_lenR; rfl) | (apply D_ixRn; rfl; rfl; (first | omega | (simp; done))) | (apply D_ixR; rfl; rfl; all_goals first | omega | ((repeat rw [w64 _ (by omega) (by omega)]); omega) | decide) | exact D_eqA rfl rfl rfl rfl rfl rfl rfl | exact D_neA rfl rfl rfl rfl rfl rfl rfl)
      | (refine idDg ?_; first | refine dg0t rfl rfl rfl ?_ | refine dg0f rfl rfl rfl ?_ | refine dg0u rfl rfl rfl ?_ | refine dgr rfl rfl ?_ | refine dgs rfl rfl (fun _ => ?_) (fun _ => ?_))
      | (refine idDn ?_; first | refine dL _ (fun hp' hs => D_loadB1 rfl (hs.trans rfl) rfl) rfl ?_ | refine dL _ (fun hp' hs => D_loadBA rfl (hs.trans rfl) rfl) rfl ?_ | refine dS (S_store rfl rfl rfl rfl rfl rfl rfl) rfl ?_ | refine dV (S_alloc 0 rfl) rfl rfl ?_ | refine dV (S_alloc 1 rfl) rfl rfl ?_ | refine dV (S_alloc 2 rfl) rfl rfl ?_ | refine dV (S_alloc 3 rfl) rfl rfl ?_ | refine dV (S_alloc 4 rfl) rfl rfl ?_ | refine dV (S_alloc 5 rfl) rfl rfl ?_ | refine dV (S_alloc 6 rfl) rfl rfl ?_ | refine dV (S_alloc 7 rfl) rfl rfl ?_)
      | refine WD_nil (by first | decide +kernel | kernel_rfl | rfl) ?_
    all_goals first | rfl | contradiction | skip
    refine W_rounds 4 ?_
    repeat' first
      | (refine cs rfl ?_ (fun _ => ?_); focus (intro h; exfalso; revert h; decide))
      | (refine cs rfl (fun _ => ?_) ?_; focus (intro h; exfalso; revert h; decide))
      | (apply p1 (hd := rfl); case hop => first | (apply D_move; rfl) | (apply D_assign; rfl) | exact D_eqD rfl rfl | exact D_ltD rfl rfl | (apply D_idxA; rfl; rfl; all_goals exact of_decide_eq_true rfl) | (apply D_idxA0; rfl; rfl; all_goals exact of_decide_eq_true rfl) | (apply D_pc ha; rfl; exact .nil) | (apply D_pc ca; rfl; exact .same rfl .nil) | (apply D_pc cb; rfl; exact .same rfl .nil) | (apply D_pc say1; rfl; exact .same rfl (.same rfl .nil)) | (apply D_pc say2; rfl; exact .same rfl (.same rfl .nil)) | (apply D_pc say3; rfl; exact .same rfl (.same rfl .nil)) | (apply D_pc say4; rfl; exact .same rfl (.same rfl .nil)) | (apply D_pc say5; rfl; exact .same rfl (.same rfl .nil)) | (apply D_pc say6; rfl; exact .same rfl (.same rfl .nil)) | (apply D_pc say7; rfl; exact .same rfl (.same rfl .nil)) | (apply D_pc say8; rfl; exact .same rfl (.same rfl .nil)) | (apply D_pc dod1; rfl; exact .same rfl (.same rfl .nil)) | (apply D_pc dod2; rfl; exact .same rfl (.same rfl .nil)) | (apply D_load1; rfl) | (apply D_pickT; rfl; rfl) | (apply D_pickF; rfl; rfl) | (apply D_int; rfl; rfl; rfl) | (apply D_lenM; rfl) | (apply D_len_sl; rfl) | (apply D_ext; rfl; rfl) | (apply D_not; rfl) | (apply D_loadW; rfl; rfl) | (apply D_loadA; rfl; rfl) | (apply D_box; rfl; rfl) | (apply D_len_nil; rfl) | (apply D_beq; rfl; rfl) | (apply D_bne; rfl; rfl) | (apply D_idxAn; rfl; rfl; (first | omega | (simp; done))) | (apply D_idxA; rfl; rfl; omega; (first | omega | (simp; done) | (simp; omega))) | (apply D_idxA0; rfl; rfl; omega; (first | omega | (simp; done) | (simp; omega))) | (apply D_lit; rfl; rfl; rfl; rfl) | (apply D_lenR; rfl) | (apply D_ixRn; rfl; rfl; (first | omega | (simp; done))) | (apply D_ixR; rfl; rfl; all_goals first | omega | ((repeat rw [w64 _ (by omega) (by omega)]); omega) | decide) | exact D_eqA rfl rfl rfl rfl rfl rfl rfl | exact D_neA rfl rfl rfl rfl rfl rfl rfl)
      | refine W_seq ?_
      | refine W_region ?_
      | (refine idC ?_; first | refine c1 rfl ?_ | refine c0 rfl ?_ | refine cs rfl (fun _ => ?_) (fun _ => ?_))
      | refine WL_nil ?_
      | (refine idG ?_; first | refine g0t rfl rfl rfl ?_ | refine g0f rfl rfl rfl ?_ | refine g0u rfl rfl rfl ?_ | refine gr rfl rfl ?_ | refine gs rfl rfl (fun _ => ?_) (fun _ => ?_) | refine grn rfl rfl ?_)
      | refine tn ?_
      | refine tr ?_
      | refine br ?_
      | refine bn ?_
      | refine te ?_
      | (refine idB ?_; first | refine bh rfl ?_ | refine bm rfl ?_)
      | refine W_skip ?_
      | refine W_block ?_
      | refine W_exit ?_
      | refine W_ret ?_
      | refine W_label ?_
      | refine W_scope ?_
      | refine sn ?_
      | refine sr ?_
      | refine se ?_
      | (refine idR ?_; first | refine ret1 rfl rfl rfl ?_ | refine rL1 rfl (by first | exact trivial | exact ⟨rfl, trivial⟩) (by first | exact ResO.tmp rfl | exact ResO.cellBA rfl rfl rfl | exact ResO.cellB1 rfl rfl rfl | exact ResO.cellEA rfl rfl | exact ResO.cellE1 rfl) ?_)
      | (refine idLd ?_; first | refine p1L (D_loadB1 rfl rfl rfl) rfl ?_ | refine p1L (D_loadBA rfl rfl rfl) rfl ?_ | refine p1L (D_loadB1 rfl (by (repeat first | assumption | exact get_last | (refine get_last2 ?_; focus (simp; done)) | apply get_set | apply get_app | (apply get_ne; focus omega) | (apply get_ne; focus (simp only [List.length_set, List.length_append, List.length_cons, List.length_nil]; omega))); done) (by rfl)) rfl ?_ | refine p1L (D_loadBA rfl (by (repeat first | assumption | exact get_last | (refine get_last2 ?_; focus (simp; done)) | apply get_set | apply get_app | (apply get_ne; focus omega) | (apply get_ne; focus (simp only [List.length_set, List.length_append, List.length_cons, List.length_nil]; omega))); done) (by rfl)) rfl ?_)
      | (refine idA ?_; first | refine m_alloc rfl ?_)
      | (refine idS ?_; first | refine pS (S_store rfl rfl rfl rfl rfl rfl rfl) ?_ | refine pS (S_store rfl rfl rfl (by (repeat first | assumption | exact get_last | (refine get_last2 ?_; focus (simp; done)) | apply get_set | apply get_app | (apply get_ne; focus omega) | (apply get_ne; focus (simp only [List.length_set, List.length_append, List.length_cons, List.length_nil]; omega))); done) (by rfl) (by rfl) (by rfl)) ?_)
      | refine Le.bool ?_
      | refine Le.int ?_
      | refine Le.str ?_
      | refine wr_succ ?_
      | (refine idW ?_; first | refine W_draw0 rfl ?_ | refine W_draw1 rfl ?_ | refine W_draw2 rfl ?_ | refine W_draw3 rfl ?_)
      | (apply d1 (hd := rfl); case hop => first | (apply D_move; rfl) | (apply D_assign; rfl) | exact D_eqD rfl rfl | exact D_ltD rfl rfl | (apply D_idxA; rfl; rfl; all_goals exact of_decide_eq_true rfl) | (apply D_idxA0; rfl; rfl; all_goals exact of_decide_eq_true rfl) | (apply D_pc ha; rfl; exact .nil) | (apply D_pc ca; rfl; exact .same rfl .nil) | (apply D_pc cb; rfl; exact .same rfl .nil) | (apply D_pc say1; rfl; exact .same rfl (.same rfl .nil)) | (apply D_pc say2; rfl; exact .same rfl (.same rfl .nil)) | (apply D_pc say3; rfl; exact .same rfl (.same rfl .nil)) | (apply D_pc say4; rfl; exact .same rfl (.same rfl .nil)) | (apply D_pc say5; rfl; exact .same rfl (.same rfl .nil)) | (apply D_pc say6; rfl; exact .same rfl (.same rfl .nil)) | (apply D_pc say7; rfl; exact .same rfl (.same rfl .nil)) | (apply D_pc say8; rfl; exact .same rfl (.same rfl .nil)) | (apply D_pc dod1; rfl; exact .same rfl (.same rfl .nil)) | (apply D_pc dod2; rfl; exact .same rfl (.same rfl .nil)) | (apply D_load1; rfl) | (apply D_pickT; rfl; rfl) | (apply D_pickF; rfl; rfl) | (apply D_int; rfl; rfl; rfl) | (apply D_lenM; rfl) | (apply D_len_sl; rfl) | (apply D_ext; rfl; rfl) | (apply D_not; rfl) | (apply D_loadW; rfl; rfl) | (apply D_loadA; rfl; rfl) | (apply D_box; rfl; rfl) | (apply D_len_nil; rfl) | (apply D_beq; rfl; rfl) | (apply D_bne; rfl; rfl) | (apply D_idxAn; rfl; rfl; (first | omega | (simp; done))) | (apply D_idxA; rfl; rfl; omega; (first | omega | (simp; done) | (simp; omega))) | (apply D_idxA0; rfl; rfl; omega; (first | omega | (simp; done) | (simp; omega))) | (apply D_lit; rfl; rfl; rfl; rfl) | (apply D_lenR; rfl) | (apply D_ixRn; rfl; rfl; (first | omega | (simp; done))) | (apply D_ixR; rfl; rfl; all_goals first | omega | ((repeat rw [w64 _ (by omega) (by omega)]); omega) | decide) | exact D_eqA rfl rfl rfl rfl rfl rfl rfl | exact D_neA rfl rfl rfl rfl rfl rfl rfl)
      | (refine idDg ?_; first | refine dg0t rfl rfl rfl ?_ | refine dg0f rfl rfl rfl ?_ | refine dg0u rfl rfl rfl ?_ | refine dgr rfl rfl ?_ | refine dgs rfl rfl (fun _ => ?_) (fun _ => ?_))
      | (refine idDn ?_; first | refine dL _ (fun hp' hs => D_loadB1 rfl (hs.trans rfl) rfl) rfl ?_ | refine dL _ (fun hp' hs => D_loadBA rfl (hs.trans rfl) rfl) rfl ?_ | refine dS (S_store rfl rfl rfl rfl rfl rfl rfl) rfl ?_ | refine dV (S_alloc 0 rfl) rfl rfl ?_ | refine dV (S_alloc 1 rfl) rfl rfl ?_ | refine dV (S_alloc 2 rfl) rfl rfl ?_ | refine dV (S_alloc 3 rfl) rfl rfl ?_ | refine dV (S_alloc 4 rfl) rfl rfl ?_ | refine dV (S_alloc 5 rfl) rfl rfl ?_ | refine dV (S_alloc 6 rfl) rfl rfl ?_ | refine dV (S_alloc 7 rfl) rfl rfl ?_)
      | refine WD_nil (by first | decide +kernel | kernel_rfl | rfl) ?_
    all_goals first
      | rfl
      | contradiction
      | (rw [bEq_t]; done)
      | (rw [bEq_t]; unfold bNot; rfl)
      | (exfalso; rename_i h; exact h (by unfold bNot; rfl))
      | (exfalso; rename_i h; rw [eqL, ← dP_F hne] at h; exact h rfl)
      | (exfalso; rename_i h; rw [eqL, ← dP_F (Ne.symm hne)] at h; exact h rfl)
      | (exfalso; rename_i h; exact hne (vinj h))
      | (exfalso; rename_i h; exact hne (vinj h).symm)
      | skip
    all_goals trace_state
  · refine PC.of_body Tryd.func8 Tryd.ntmps8 rfl rfl rfl ?_
    repeat' first
      | (apply p1 (hd := rfl); case hop => first | (apply D_move; rfl) | (apply D_assign; rfl) | (apply D_pc ha; rfl; exact .nil) | (apply D_pc ca; rfl; exact .same rfl .nil) | (apply D_pc cb; rfl; exact .same rfl .nil) | (apply D_pc say1; rfl; exact .same rfl (.same rfl .nil)) | (apply D_pc say2; rfl; exact .same rfl (.same rfl .nil)) | (apply D_pc say3; rfl; exact .same rfl (.same rfl .nil)) | (apply D_pc say4; rfl; exact .same rfl (.same rfl .nil)) | (apply D_pc say5; rfl; exact .same rfl (.same rfl .nil)) | (apply D_pc say6; rfl; exact .same rfl (.same rfl .nil)) | (apply D_pc say7; rfl; exact .same rfl (.same rfl .nil)) | (apply D_pc say8; rfl; exact .same rfl (.same rfl .nil)) | (apply D_pc dod1; rfl; exact .same rfl (.same rfl .nil)) | (apply D_pc dod2; rfl; exact .same rfl (.same rfl .nil)) | (apply D_load1; rfl) | (apply D_pickT; rfl; rfl) | (apply D_pickF; rfl; rfl) | (apply D_int; rfl; rfl; rfl) | (apply D_lenM; rfl) | (apply D_len_sl; rfl) | (apply D_ext; rfl; rfl) | (apply D_not; rfl) | (apply D_loadW; rfl; rfl) | (apply D_loadA; rfl; rfl) | (apply D_box; rfl; rfl) | (apply D_len_nil; rfl) | (apply D_beq; rfl; rfl) | (apply D_bne; rfl; rfl) | (apply D_idxAn; rfl; rfl; (first | omega | (simp; done))) | (apply D_idxA; rfl; rfl; omega; (first | omega | (simp; done) | (simp; omega))) | (apply D_idxA0; rfl; rfl; omega; (first | omega | (simp; done) | (simp; omega))) | (apply D_lit; rfl; rfl; rfl; rfl) | (apply D_lenR; rfl) | (apply D_ixRn; rfl; rfl; (first | omega | (simp; done))) | (apply D_ixR; rfl; rfl; all_goals first | omega | ((repeat rw [w64 _ (by omega) (by omega)]); omega) | decide) | exact D_eqA rfl rfl rfl rfl rfl rfl rfl | exact D_neA rfl rfl rfl rfl rfl rfl rfl)
      | refine W_seq ?_
      | refine W_region ?_
      | (refine idC ?_; first | refine c1 rfl ?_ | refine c0 rfl ?_ | refine cs rfl (fun _ => ?_) (fun _ => ?_))
      | refine WL_nil ?_
      | (refine idG ?_; first | refine g0t rfl rfl rfl ?_ | refine g0f rfl rfl rfl ?_ | refine g0u rfl rfl rfl ?_ | refine gr rfl rfl ?_ | refine gs rfl rfl (fun _ => ?_) (fun _ => ?_) | refine grn rfl rfl ?_)
      | refine tn ?_
      | refine tr ?_
      | refine br ?_
      | refine bn ?_
      | refine te ?_
      | (refine idB ?_; first | refine bh rfl ?_ | refine bm rfl ?_)
      | refine W_skip ?_
      | refine W_block ?_
      | refine W_exit ?_
      | refine W_ret ?_
      | refine W_label ?_
      | refine W_scope ?_
      | refine sn ?_
      | refine sr ?_
      | refine se ?_
      | (refine idR ?_; first | refine ret1 rfl rfl rfl ?_ | refine rL1 rfl (by first | exact trivial | exact ⟨rfl, trivial⟩) (by first | exact ResO.tmp rfl | exact ResO.cellBA rfl rfl rfl | exact ResO.cellB1 rfl rfl rfl | exact ResO.cellEA rfl rfl | exact ResO.cellE1 rfl) ?_)
      | (refine idLd ?_; first | refine p1L (D_loadB1 rfl rfl rfl) rfl ?_ | refine p1L (D_loadBA rfl rfl rfl) rfl ?_ | refine p1L (D_loadB1 rfl (by (repeat first | assumption | exact get_last | (refine get_last2 ?_; focus (simp; done)) | apply get_set | apply get_app | (apply get_ne; focus omega) | (apply get_ne; focus (simp only [List.length_set, List.length_append, List.length_cons, List.length_nil]; omega))); done) (by rfl)) rfl ?_ | refine p1L (D_loadBA rfl (by (repeat first | assumption | exact get_last | (refine get_last2 ?_; focus (simp; done)) | apply get_set | apply get_app | (apply get_ne; focus omega) | (apply get_ne; focus (simp only [List.length_set, List.length_append, List.length_cons, List.length_nil]; omega))); done) (by rfl)) rfl ?_)
      | (refine idA ?_; first | refine m_alloc rfl ?_)
      | (refine idS ?_; first | refine pS (S_store rfl rfl rfl rfl rfl rfl rfl) ?_ | refine pS (S_store rfl rfl rfl (by (repeat first | assumption | exact get_last | (refine get_last2 ?_; focus (simp; done)) | apply get_set | apply get_app | (apply get_ne; focus omega) | (apply get_ne; focus (simp only [List.length_set, List.length_append, List.length_cons, List.length_nil]; omega))); done) (by rfl) (by rfl) (by rfl)) ?_)
      | refine Le.bool ?_
      | refine Le.int ?_
      | refine Le.str ?_
      | (refine idW ?_; first | refine W_draw0 rfl ?_ | refine W_draw1 rfl ?_ | refine W_draw2 rfl ?_ | refine W_draw3 rfl ?_)
      | (apply d1 (hd := rfl); case hop => first | (apply D_move; rfl) | (apply D_assign; rfl) | (apply D_pc ha; rfl; exact .nil) | (apply D_pc ca; rfl; exact .same rfl .nil) | (apply D_pc cb; rfl; exact .same rfl .nil) | (apply D_pc say1; rfl; exact .same rfl (.same rfl .nil)) | (apply D_pc say2; rfl; exact .same rfl (.same rfl .nil)) | (apply D_pc say3; rfl; exact .same rfl (.same rfl .nil)) | (apply D_pc say4; rfl; exact .same rfl (.same rfl .nil)) | (apply D_pc say5; rfl; exact .same rfl (.same rfl .nil)) | (apply D_pc say6; rfl; exact .same rfl (.same rfl .nil)) | (apply D_pc say7; rfl; exact .same rfl (.same rfl .nil)) | (apply D_pc say8; rfl; exact .same rfl (.same rfl .nil)) | (apply D_pc dod1; rfl; exact .same rfl (.same rfl .nil)) | (apply D_pc dod2; rfl; exact .same rfl (.same rfl .nil)) | (apply D_load1; rfl) | (apply D_pickT; rfl; rfl) | (apply D_pickF; rfl; rfl) | (apply D_int; rfl; rfl; rfl) | (apply D_lenM; rfl) | (apply D_len_sl; rfl) | (apply D_ext; rfl; rfl) | (apply D_not; rfl) | (apply D_loadW; rfl; rfl) | (apply D_loadA; rfl; rfl) | (apply D_box; rfl; rfl) | (apply D_len_nil; rfl) | (apply D_beq; rfl; rfl) | (apply D_bne; rfl; rfl) | (apply D_idxAn; rfl; rfl; (first | omega | (simp; done))) | (apply D_idxA; rfl; rfl; omega; (first | omega | (simp; done) | (simp; omega))) | (apply D_idxA0; rfl; rfl; omega; (first | omega | (simp; done) | (simp; omega))) | (apply D_lit; rfl; rfl; rfl; rfl) | (apply D_lenR; rfl) | (apply D_ixRn; rfl; rfl; (first | omega | (simp; done))) | (apply D_ixR; rfl; rfl; all_goals first | omega | ((repeat rw [w64 _ (by omega) (by omega)]); omega) | decide) | exact D_eqA rfl rfl rfl rfl rfl rfl rfl | exact D_neA rfl rfl rfl rfl rfl rfl rfl)
      | (refine idDg ?_; first | refine dg0t rfl rfl rfl ?_ | refine dg0f rfl rfl rfl ?_ | refine dg0u rfl rfl rfl ?_ | refine dgr rfl rfl ?_ | refine dgs rfl rfl (fun _ => ?_) (fun _ => ?_))
      | (refine idDn ?_; first | refine dL _ (fun hp' hs => D_loadB1 rfl (hs.trans rfl) rfl) rfl ?_ | refine dL _ (fun hp' hs => D_loadBA rfl (hs.trans rfl) rfl) rfl ?_ | refine dS (S_store rfl rfl rfl rfl rfl rfl rfl) rfl ?_ | refine dV (S_alloc 0 rfl) rfl rfl ?_ | refine dV (S_alloc 1 rfl) rfl rfl ?_ | refine dV (S_alloc 2 rfl) rfl rfl ?_ | refine dV (S_alloc 3 rfl) rfl rfl ?_ | refine dV (S_alloc 4 rfl) rfl rfl ?_ | refine dV (S_alloc 5 rfl) rfl rfl ?_ | refine dV (S_alloc 6 rfl) rfl rfl ?_ | refine dV (S_alloc 7 rfl) rfl rfl ?_)
      | refine WD_nil (by first | decide +kernel | kernel_rfl | rfl) ?_
    all_goals first | rfl | contradiction | skip
    refine W_rounds 4 ?_
    repeat' first
      | (refine cs rfl ?_ (fun _ => ?_); focus (intro h; exfalso; revert h; decide))
      | (refine cs rfl (fun _ => ?_) ?_; focus (intro h; exfalso; revert h; decide))
      | (apply p1 (hd := rfl); case hop => first | (apply D_move; rfl) | (apply D_assign; rfl) | exact D_eqD rfl rfl | exact D_ltD rfl rfl | (apply D_idxA; rfl; rfl; all_goals exact of_decide_eq_true rfl) | (apply D_idxA0; rfl; rfl; all_goals exact of_decide_eq_true rfl) | (apply D_pc ha; rfl; exact .nil) | (apply D_pc ca; rfl; exact .same rfl .nil) | (apply D_pc cb; rfl; exact .same rfl .nil) | (apply D_pc say1; rfl; exact .same rfl (.same rfl .nil)) | (apply D_pc say2; rfl; exact .same rfl (.same rfl .nil)) | (apply D_pc say3; rfl; exact .same rfl (.same rfl .nil)) | (apply D_pc say4; rfl; exact .same rfl (.same rfl .nil)) | (apply D_pc say5; rfl; exact .same rfl (.same rfl .nil)) | (apply D_pc say6; rfl; exact .same rfl (.same rfl .nil)) | (apply D_pc say7; rfl; exact .same rfl (.same rfl .nil)) | (apply D_pc say8; rfl; exact .same rfl (.same rfl .nil)) | (apply D_pc dod1; rfl; exact .same rfl (.same rfl .nil)) | (apply D_pc dod2; rfl; exact .same rfl (.same rfl .nil)) | (apply D_load1; rfl) | (apply D_pickT; rfl; rfl) | (apply D_pickF; rfl; rfl) | (apply D_int; rfl; rfl; rfl) | (apply D_lenM; rfl) | (apply D_len_sl; rfl) | (apply D_ext; rfl; rfl) | (apply D_not; rfl) | (apply D_loadW; rfl; rfl) | (apply D_loadA; rfl; rfl) | (apply D_box; rfl; rfl) | (apply D_len_nil; rfl) | (apply D_beq; rfl; rfl) | (apply D_bne; rfl; rfl) | (apply D_idxAn; rfl; rfl; (first | omega | (simp; done))) | (apply D_idxA; rfl; rfl; omega; (first | omega | (simp; done) | (simp; omega))) | (apply D_idxA0; rfl; rfl; omega; (first | omega | (simp; done) | (simp; omega))) | (apply D_lit; rfl; rfl; rfl; rfl) | (apply D_lenR; rfl) | (apply D_ixRn; rfl; rfl; (first | omega | (simp; done))) | (apply D_ixR; rfl; rfl; all_goals first | omega | ((repeat rw [w64 _ (by omega) (by omega)]); omega) | decide) | exact D_eqA rfl rfl rfl rfl rfl rfl rfl | exact D_neA rfl rfl rfl rfl rfl rfl rfl)
      | refine W_seq ?_
      | refine W_region ?_
      | (refine idC ?_; first | refine c1 rfl ?_ | refine c0 rfl ?_ | refine cs rfl (fun _ => ?_) (fun _ => ?_))
      | refine WL_nil ?_
      | (refine idG ?_; first | refine g0t rfl rfl rfl ?_ | refine g0f rfl rfl rfl ?_ | refine g0u rfl rfl rfl ?_ | refine gr rfl rfl ?_ | refine gs rfl rfl (fun _ => ?_) (fun _ => ?_) | refine grn rfl rfl ?_)
      | refine tn ?_
      | refine tr ?_
      | refine br ?_
      | refine bn ?_
      | refine te ?_
      | (refine idB ?_; first | refine bh rfl ?_ | refine bm rfl ?_)
      | refine W_skip ?_
      | refine W_block ?_
      | refine W_exit ?_
      | refine W_ret ?_
      | refine W_label ?_
      | refine W_scope ?_
      | refine sn ?_
      | refine sr ?_
      | refine se ?_
      | (refine idR ?_; first | refine ret1 rfl rfl rfl ?_ | refine rL1 rfl (by first | exact trivial | exact ⟨rfl, trivial⟩) (by first | exact ResO.tmp rfl | exact ResO.cellBA rfl rfl rfl | exact ResO.cellB1 rfl rfl rfl | exact ResO.cellEA rfl rfl | exact ResO.cellE1 rfl) ?_)
      | (refine idLd ?_; first | refine p1L (D_loadB1 rfl rfl rfl) rfl ?_ | refine p1L (D_loadBA rfl rfl rfl) rfl ?_ | refine p1L (D_loadB1 rfl (by (repeat first | assumption | exact get_last | (refine get_last2 ?_; focus (simp; done)) | apply get_set | apply get_app | (apply get_ne; focus omega) | (apply get_ne; focus (simp only [List.length_set, List.length_append, List.length_cons, List.length_nil]; omega))); done) (by rfl)) rfl ?_ | refine p1L (D_loadBA rfl (by (repeat first | assumption | exact get_last | (refine get_last2 ?_; focus (simp; done)) | apply get_set | apply get_app | (apply get_ne; focus omega) | (apply get_ne; focus (simp only [List.length_set, List.length_append, List.length_cons, List.length_nil]; omega))); done) (by rfl)) rfl ?_)
      | (refine idA ?_; first | refine m_alloc rfl ?_)
      | (refine idS ?_; first | refine pS (S_store rfl rfl rfl rfl rfl rfl rfl) ?_ | refine pS (S_store rfl rfl rfl (by (repeat first | assumption | exact get_last | (refine get_last2 ?_; focus (simp; done)) | apply get_set | apply get_app | (apply get_ne; focus omega) | (apply get_ne; focus (simp only [List.length_set, List.length_append, List.length_cons, List.length_nil]; omega))); done) (by rfl) (by rfl) (by rfl)) ?_)
      | refine Le.bool ?_
      | refine Le.int ?_
      | refine Le.str ?_
      | refine wr_succ ?_
      | (refine idW ?_; first | refine W_draw0 rfl ?_ | refine W_draw1 rfl ?_ | refine W_draw2 rfl ?_ | refine W_draw3 rfl ?_)
      | (apply d1 (hd := rfl); case hop => first | (apply D_move; rfl) | (apply D_assign; rfl) | exact D_eqD rfl rfl | exact D_ltD rfl rfl | (apply D_idxA; rfl; rfl; all_goals exact of_decide_eq_true rfl) | (apply D_idxA0; rfl; rfl; all_goals exact of_decide_eq_true rfl) | (apply D_pc ha; rfl; exact .nil) | (apply D_pc ca; rfl; exact .same rfl .nil) | (apply D_pc cb; rfl; exact .same rfl .nil) | (apply D_pc say1; rfl; exact .same rfl (.same rfl .nil)) | (apply D_pc say2; rfl; exact .same rfl (.same rfl .nil)) | (apply D_pc say3; rfl; exact .same rfl (.same rfl .nil)) | (apply D_pc say4; rfl; exact .same rfl (.same rfl .nil)) | (apply D_pc say5; rfl; exact .same rfl (.same rfl .nil)) | (apply D_pc say6; rfl; exact .same rfl (.same rfl .nil)) | (apply D_pc say7; rfl; exact .same rfl (.same rfl .nil)) | (apply D_pc say8; rfl; exact .same rfl (.same rfl .nil)) | (apply D_pc dod1; rfl; exact .same rfl (.same rfl .nil)) | (apply D_pc dod2; rfl; exact .same rfl (.same rfl .nil)) | (apply D_load1; rfl) | (apply D_pickT; rfl; rfl) | (apply D_pickF; rfl; rfl) | (apply D_int; rfl; rfl; rfl) | (apply D_lenM; rfl) | (apply D_len_sl; rfl) | (apply D_ext; rfl; rfl) | (apply D_not; rfl) | (apply D_loadW; rfl; rfl) | (apply D_loadA; rfl; rfl) | (apply D_box; rfl; rfl) | (apply D_len_nil; rfl) | (apply D_beq; rfl; rfl) | (apply D_bne; rfl; rfl) | (apply D_idxAn; rfl; rfl; (first | omega | (simp; done))) | (apply D_idxA; rfl; rfl; omega; (first | omega | (simp; done) | (simp; omega))) | (apply D_idxA0; rfl; rfl; omega; (first | omega | (simp; done) | (simp; omega))) | (apply D_lit; rfl; rfl; rfl; rfl) | (apply D_lenR; rfl) | (apply D_ixRn; rfl; rfl; (first | omega | (simp; done))) | (apply D_ixR; rfl; rfl; all_goals first | omega | ((repeat rw [w64 _ (by omega) (by omega)]); omega) | decide) | exact D_eqA rfl rfl rfl rfl rfl rfl rfl | exact D_neA rfl rfl rfl rfl rfl rfl rfl)
      | (refine idDg ?_; first | refine dg0t rfl rfl rfl ?_ | refine dg0f rfl rfl rfl ?_ | refine dg0u rfl rfl rfl ?_ | refine dgr rfl rfl ?_ | refine dgs rfl rfl (fun _ => ?_) (fun _ => ?_))
      | (refine idDn ?_; first | refine dL _ (fun hp' hs => D_loadB1 rfl (hs.trans rfl) rfl) rfl ?_ | refine dL _ (fun hp' hs => D_loadBA rfl (hs.trans rfl) rfl) rfl ?_ | refine dS (S_store rfl rfl rfl rfl rfl rfl rfl) rfl ?_ | refine dV (S_alloc 0 rfl) rfl rfl ?_ | refine dV (S_alloc 1 rfl) rfl rfl ?_ | refine dV (S_alloc 2 rfl) rfl rfl ?_ | refine dV (S_alloc 3 rfl) rfl rfl ?_ | refine dV (S_alloc 4 rfl) rfl rfl ?_ | refine dV (S_alloc 5 rfl) rfl rfl ?_ | refine dV (S_alloc 6 rfl) rfl rfl ?_ | refine dV (S_alloc 7 rfl) rfl rfl ?_)
      | refine WD_nil (by first | decide +kernel | kernel_rfl | rfl) ?_
    all_goals first
      | rfl
      | contradiction
      | (rw [bEq_t]; done)
      | (rw [bEq_t]; unfold bNot; rfl)
      | (exfalso; rename_i h; exact h (by unfold bNot; rfl))
      | (exfalso; rename_i h; rw [eqL, ← dP_T rfl] at h; exact h rfl)
      | skip
    all_goals trace_state
  · refine PC.of_body Tryd.func8 Tryd.ntmps8 rfl rfl rfl ?_
    repeat' first
      | (apply p1 (hd := rfl); case hop => first | (apply D_move; rfl) | (apply D_assign; rfl) | (apply D_pc ha; rfl; exact .nil) | (apply D_pc ca; rfl; exact .same rfl .nil) | (apply D_pc cb; rfl; exact .same rfl .nil) | (apply D_pc say1; rfl; exact .same rfl (.same rfl .nil)) | (apply D_pc say2; rfl; exact .same rfl (.same rfl .nil)) | (apply D_pc say3; rfl; exact .same rfl (.same rfl .nil)) | (apply D_pc say4; rfl; exact .same rfl (.same rfl .nil)) | (apply D_pc say5; rfl; exact .same rfl (.same rfl .nil)) | (apply D_pc say6; rfl; exact .same rfl (.same rfl .nil)) | (apply D_pc say7; rfl; exact .same rfl (.same rfl .nil)) | (apply D_pc say8; rfl; exact .same rfl (.same rfl .nil)) | (apply D_pc dod1; rfl; exact .same rfl (.same rfl .nil)) | (apply D_pc dod2; rfl; exact .same rfl (.same rfl .nil)) | (apply D_load1; rfl) | (apply D_pickT; rfl; rfl) | (apply D_pickF; rfl; rfl) | (apply D_int; rfl; rfl; rfl) | (apply D_lenM; rfl) | (apply D_len_sl; rfl) | (apply D_ext; rfl; rfl) | (apply D_not; rfl) | (apply D_loadW; rfl; rfl) | (apply D_loadA; rfl; rfl) | (apply D_box; rfl; rfl) | (apply D_len_nil; rfl) | (apply D_beq; rfl; rfl) | (apply D_bne; rfl; rfl) | (apply D_idxAn; rfl; rfl; (first | omega | (simp; done))) | (apply D_idxA; rfl; rfl; omega; (first | omega | (simp; done) | (simp; omega))) | (apply D_idxA0; rfl; rfl; omega; (first | omega | (simp; done) | (simp; omega))) | (apply D_lit; rfl; rfl; rfl; rfl) | (apply D_lenR; rfl) | (apply D_ixRn; rfl; rfl; (first | omega | (simp; done))) | (apply D_ixR; rfl; rfl; all_goals first | omega | ((repeat rw [w64 _ (by omega) (by omega)]); omega) | decide) | exact D_eqA rfl rfl rfl rfl rfl rfl rfl | exact D_neA rfl rfl rfl rfl rfl rfl rfl)
      | refine W_seq ?_
      | refine W_region ?_
      | (refine idC ?_; first | refine c1 rfl ?_ | refine c0 rfl ?_ | refine cs rfl (fun _ => ?_) (fun _ => ?_))
      | refine WL_nil ?_
      | (refine idG ?_; first | refine g0t rfl rfl rfl ?_ | refine g0f rfl rfl rfl ?_ | refine g0u rfl rfl rfl ?_ | refine gr rfl rfl ?_ | refine gs rfl rfl (fun _ => ?_) (fun _ => ?_) | refine grn rfl rfl ?_)
      | refine tn ?_
      | refine tr ?_
      | refine br ?_
      | refine bn ?_
      | refine te ?_
      | (refine idB ?_; first | refine bh rfl ?_ | refine bm rfl ?_)
      | refine W_skip ?_
      | refine W_block ?_
      | refine W_exit ?_
      | refine W_ret ?_
      | refine W_label ?_
      | refine W_scope ?_
      | refine sn ?_
      | refine sr ?_
      | refine se ?_
      | (refine idR ?_; first | refine ret1 rfl rfl rfl ?_ | refine rL1 rfl (by first | exact trivial | exact ⟨rfl, trivial⟩) (by first | exact ResO.tmp rfl | exact ResO.cellBA rfl rfl rfl | exact ResO.cellB1 rfl rfl rfl | exact ResO.cellEA rfl rfl | exact ResO.cellE1 rfl) ?_)
      | (refine idLd ?_; first | refine p1L (D_loadB1 rfl rfl rfl) rfl ?_ | refine p1L (D_loadBA rfl rfl rfl) rfl ?_ | refine p1L (D_loadB1 rfl (by (repeat first | assumption | exact get_last | (refine get_last2 ?_; focus (simp; done)) | apply get_set | apply get_app | (apply get_ne; focus omega) | (apply get_ne; focus (simp only [List.length_set, List.length_append, List.length_cons, List.length_nil]; omega))); done) (by rfl)) rfl ?_ | refine p1L (D_loadBA rfl (by (repeat first | assumption | exact get_last | (refine get_last2 ?_; focus (simp; done)) | apply get_set | apply get_app | (apply get_ne; focus omega) | (apply get_ne; focus (simp only [List.length_set, List.length_append, List.length_cons, List.length_nil]; omega))); done) (by rfl)) rfl ?_)
      | (refine idA ?_; first | refine m_alloc rfl ?_)
      | (refine idS ?_; first | refine pS (S_store rfl rfl rfl rfl rfl rfl rfl) ?_ | refine pS (S_store rfl rfl rfl (by (repeat first | assumption | exact get_last | (refine get_last2 ?_; focus (simp; done)) | apply get_set | apply get_app | (apply get_ne; focus omega) | (apply get_ne; focus (simp only [List.length_set, List.length_append, List.length_cons, List.length_nil]; omega))); done) (by rfl) (by rfl) (by rfl)) ?_)
      | refine Le.bool ?_
      | refine Le.int ?_
      | refine Le.str ?_
      | (refine idW ?_; first | refine W_draw0 rfl ?_ | refine W_draw1 rfl ?_ | refine W_draw2 rfl ?_ | refine W_draw3 rfl ?_)
      | (apply d1 (hd := rfl); case hop => first | (apply D_move; rfl) | (apply D_assign; rfl) | (apply D_pc ha; rfl; exact .nil) | (apply D_pc ca; rfl; exact .same rfl .nil) | (apply D_pc cb; rfl; exact .same rfl .nil) | (apply D_pc say1; rfl; exact .same rfl (.same rfl .nil)) | (apply D_pc say2; rfl; exact .same rfl (.same rfl .nil)) | (apply D_pc say3; rfl; exact .same rfl (.same rfl .nil)) | (apply D_pc say4; rfl; exact .same rfl (.same rfl .nil)) | (apply D_pc say5; rfl; exact .same rfl (.same rfl .nil)) | (apply D_pc say6; rfl; exact .same rfl (.same rfl .nil)) | (apply D_pc say7; rfl; exact .same rfl (.same rfl .nil)) | (apply D_pc say8; rfl; exact .same rfl (.same rfl .nil)) | (apply D_pc dod1; rfl; exact .same rfl (.same rfl .nil)) | (apply D_pc dod2; rfl; exact .same rfl (.same rfl .nil)) | (apply D_load1; rfl) | (apply D_pickT; rfl; rfl) | (apply D_pickF; rfl; rfl) | (apply D_int; rfl; rfl; rfl) | (apply D_lenM; rfl) | (apply D_len_sl; rfl) | (apply D_ext; rfl; rfl) | (apply D_not; rfl) | (apply D_loadW; rfl; rfl) | (apply D_loadA; rfl; rfl) | (apply D_box; rfl; rfl) | (apply D_len_nil; rfl) | (apply D_beq; rfl; rfl) | (apply D_bne; rfl; rfl) | (apply D_idxAn; rfl; rfl; (first | omega | (simp; done))) | (apply D_idxA; rfl; rfl; omega; (first | omega | (simp; done) | (simp; omega))) | (apply D_idxA0; rfl; rfl; omega; (first | omega | (simp; done) | (simp; omega))) | (apply D_lit; rfl; rfl; rfl; rfl) | (apply D_lenR; rfl) | (apply D_ixRn; rfl; rfl; (first | omega | (simp; done))) | (apply D_ixR; rfl; rfl; all_goals first | omega | ((repeat rw [w64 _ (by omega) (by omega)]); omega) | decide) | exact D_eqA rfl rfl rfl rfl rfl rfl rfl | exact D_neA rfl rfl rfl rfl rfl rfl rfl)
      | (refine idDg ?_; first | refine dg0t rfl rfl rfl ?_ | refine dg0f rfl rfl rfl ?_ | refine dg0u rfl rfl rfl ?_ | refine dgr rfl rfl ?_ | refine dgs rfl rfl (fun _ => ?_) (fun _ => ?_))
      | (refine idDn ?_; first | refine dL _ (fun hp' hs => D_loadB1 rfl (hs.trans rfl) rfl) rfl ?_ | refine dL _ (fun hp' hs => D_loadBA rfl (hs.trans rfl) rfl) rfl ?_ | refine dS (S_store rfl rfl rfl rfl rfl rfl rfl) rfl ?_ | refine dV (S_alloc 0 rfl) rfl rfl ?_ | refine dV (S_alloc 1 rfl) rfl rfl ?_ | refine dV (S_alloc 2 rfl) rfl rfl ?_ | refine dV (S_alloc 3 rfl) rfl rfl ?_ | refine dV (S_alloc 4 rfl) rfl rfl ?_ | refine dV (S_alloc 5 rfl) rfl rfl ?_ | refine dV (S_alloc 6 rfl) rfl rfl ?_ | refine dV (S_alloc 7 rfl) rfl rfl ?_)
      | refine WD_nil (by first | decide +kernel | kernel_rfl | rfl) ?_
    all_goals first | rfl | contradiction | skip
    refine W_rounds 4 ?_
    repeat' first
      | (refine cs rfl ?_ (fun _ => ?_); focus (intro h; exfalso; revert h; decide))
      | (refine cs rfl (fun _ => ?_) ?_; focus (intro h; exfalso; revert h; decide))
      | (apply p1 (hd := rfl); case hop => first | (apply D_move; rfl) | (apply D_assign; rfl) | exact D_eqD rfl rfl | exact D_ltD rfl rfl | (apply D_idxA; rfl; rfl; all_goals exact of_decide_eq_true rfl) | (apply D_idxA0; rfl; rfl; all_goals exact of_decide_eq_true rfl) | (apply D_pc ha; rfl; exact .nil) | (apply D_pc ca; rfl; exact .same rfl .nil) | (apply D_pc cb; rfl; exact .same rfl .nil) | (apply D_pc say1; rfl; exact .same rfl (.same rfl .nil)) | (apply D_pc say2; rfl; exact .same rfl (.same rfl .nil)) | (apply D_pc say3; rfl; exact .same rfl (.same rfl .nil)) | (apply D_pc say4; rfl; exact .same rfl (.same rfl .nil)) | (apply D_pc say5; rfl; exact .same rfl (.same rfl .nil)) | (apply D_pc say6; rfl; exact .same rfl (.same rfl .nil)) | (apply D_pc say7; rfl; exact .same rfl (.same rfl .nil)) | (apply D_pc say8; rfl; exact .same rfl (.same rfl .nil)) | (apply D_pc dod1; rfl; exact .same rfl (.same rfl .nil)) | (apply D_pc dod2; rfl; exact .same rfl (.same rfl .nil)) | (apply D_load1; rfl) | (apply D_pickT; rfl; rfl) | (apply D_pickF; rfl; rfl) | (apply D_int; rfl; rfl; rfl) | (apply D_lenM; rfl) | (apply D_len_sl; rfl) | (apply D_ext; rfl; rfl) | (apply D_not; rfl) | (apply D_loadW; rfl; rfl) | (apply D_loadA; rfl; rfl) | (apply D_box; rfl; rfl) | (apply D_len_nil; rfl) | (apply D_beq; rfl; rfl) | (apply D_bne; rfl; rfl) | (apply D_idxAn; rfl; rfl; (first | omega | (simp; done))) | (apply D_idxA; rfl; rfl; omega; (first | omega | (simp; done) | (simp; omega))) | (apply D_idxA0; rfl; rfl; omega; (first | omega | (simp; done) | (simp; omega))) | (apply D_lit; rfl; rfl; rfl; rfl) | (apply D_lenR; rfl) | (apply D_ixRn; rfl; rfl; (first | omega | (simp; done))) | (apply D_ixR; rfl; rfl; all_goals first | omega | ((repeat rw [w64 _ (by omega) (by omega)]); omega) | decide) | exact D_eqA rfl rfl rfl rfl rfl rfl rfl | exact D_neA rfl rfl rfl rfl rfl rfl rfl)
      | refine W_seq ?_
      | refine W_region ?_
      | (refine idC ?_; first | refine c1 rfl ?_ | refine c0 rfl ?_ | refine cs rfl (fun _ => ?_) (fun _ => ?_))
      | refine WL_nil ?_
      | (refine idG ?_; first | refine g0t rfl rfl rfl ?_ | refine g0f rfl rfl rfl ?_ | refine g0u rfl rfl rfl ?_ | refine gr rfl rfl ?_ | refine gs rfl rfl (fun _ => ?_) (fun _ => ?_) | refine grn rfl rfl ?_)
      | refine tn ?_
      | refine tr ?_
      | refine br ?_
      | refine bn ?_
      | refine te ?_
      | (refine idB ?_; first | refine bh rfl ?_ | refine bm rfl ?_)
      | refine W_skip ?_
      | refine W_block ?_
      | refine W_exit ?_
      | refine W_ret ?_
      | refine W_label ?_
      | refine W_scope ?_
      | refine sn ?_
      | refine sr ?_
      | refine se ?_
      | (refine idR ?_; first | refine ret1 rfl rfl rfl ?_ | refine rL1 rfl (by first | exact trivial | exact ⟨rfl, trivial⟩) (by first | exact ResO.tmp rfl | exact ResO.cellBA rfl rfl rfl | exact ResO.cellB1 rfl rfl rfl | exact ResO.cellEA rfl rfl | exact ResO.cellE1 rfl) ?_)
      | (refine idLd ?_; first | refine p1L (D_loadB1 rfl rfl rfl) rfl ?_ | refine p1L (D_loadBA rfl rfl rfl) rfl ?_ | refine p1L (D_loadB1 rfl (by (repeat first | assumption | exact get_last | (refine get_last2 ?_; focus (simp; done)) | apply get_set | apply get_app | (apply get_ne; focus omega) | (apply get_ne; focus (simp only [List.length_set, List.length_append, List.length_cons, List.length_nil]; omega))); done) (by rfl)) rfl ?_ | refine p1L (D_loadBA rfl (by (repeat first | assumption | exact get_last | (refine get_last2 ?_; focus (simp; done)) | apply get_set | apply get_app | (apply get_ne; focus omega) | (apply get_ne; focus (simp only [List.length_set, List.length_append, List.length_cons, List.length_nil]; omega))); done) (by rfl)) rfl ?_)
      | (refine idA ?_; first | refine m_alloc rfl ?_)
      | (refine idS ?_; first | refine pS (S_store rfl rfl rfl rfl rfl rfl rfl) ?_ | refine pS (S_store rfl rfl rfl (by (repeat first | assumption | exact get_last | (refine get_last2 ?_; focus (simp; done)) | apply get_set | apply get_app | (apply get_ne; focus omega) | (apply get_ne; focus (simp only [List.length_set, List.length_append, List.length_cons, List.length_nil]; omega))); done) (by rfl) (by rfl) (by rfl)) ?_)
      | refine Le.bool ?_
      | refine Le.int ?_
      | refine Le.str ?_
      | refine wr_succ ?_
      | (refine idW ?_; first | refine W_draw0 rfl ?_ | refine W_draw1 rfl ?_ | refine W_draw2 rfl ?_ | refine W_draw3 rfl ?_)
      | (apply d1 (hd := rfl); case hop => first | (apply D_move; rfl) | (apply D_assign; rfl) | exact D_eqD rfl rfl | exact D_ltD rfl rfl | (apply D_idxA; rfl; rfl; all_goals exact of_decide_eq_true rfl) | (apply D_idxA0; rfl; rfl; all_goals exact of_decide_eq_true rfl) | (apply D_pc ha; rfl; exact .nil) | (apply D_pc ca; rfl; exact .same rfl .nil) | (apply D_pc cb; rfl; exact .same rfl .nil) | (apply D_pc say1; rfl; exact .same rfl (.same rfl .nil)) | (apply D_pc say2; rfl; exact .same rfl (.same rfl .nil)) | (apply D_pc say3; rfl; exact .same rfl (.same rfl .nil)) | (apply D_pc say4; rfl; exact .same rfl (.same rfl .nil)) | (apply D_pc say5; rfl; exact .same rfl (.same rfl .nil)) | (apply D_pc say6; rfl; exact .same rfl (.same rfl .nil)) | (apply D_pc say7; rfl; exact .same rfl (.same rfl .nil)) | (apply D_pc say8; rfl; exact .same rfl (.same rfl .nil)) | (apply D_pc dod1; rfl; exact .same rfl (.same rfl .nil)) | (apply D_pc dod2; rfl; exact .same rfl (.same rfl .nil)) | (apply D_load1; rfl) | (apply D_pickT; rfl; rfl) | (apply D_pickF; rfl; rfl) | (apply D_int; rfl; rfl; rfl) | (apply D_lenM; rfl) | (apply D_len_sl; rfl) | (apply D_ext; rfl; rfl) | (apply D_not; rfl) | (apply D_loadW; rfl; rfl) | (apply D_loadA; rfl; rfl) | (apply D_box; rfl; rfl) | (apply D_len_nil; rfl) | (apply D_beq; rfl; rfl) | (apply D_bne; rfl; rfl) | (apply D_idxAn; rfl; rfl; (first | omega | (simp; done))) | (apply D_idxA; rfl; rfl; omega; (first | omega | (simp; done) | (simp; omega))) | (apply D_idxA0; rfl; rfl; omega; (first | omega | (simp; done) | (simp; omega))) | (apply D_lit; rfl; rfl; rfl; rfl) | (apply D_lenR; rfl) | (apply D_ixRn; rfl; rfl; (first | omega | (simp; done))) | (apply D_ixR; rfl; rfl; all_goals first | omega | ((repeat rw [w64 _ (by omega) (by omega)]); omega) | decide) | exact D_eqA rfl rfl rfl rfl rfl rfl rfl | exact D_neA rfl rfl rfl rfl rfl rfl rfl)
      | (refine idDg ?_; first | refine dg0t rfl rfl rfl ?_ | refine dg0f rfl rfl rfl ?_ | refine dg0u rfl rfl rfl ?_ | refine dgr rfl rfl ?_ | refine dgs rfl rfl (fun _ => ?_) (fun _ => ?_))
      | (refine idDn ?_; first | refine dL _ (fun hp' hs => D_loadB1 rfl (hs.trans rfl) rfl) rfl ?_ | refine dL _ (fun hp' hs => D_loadBA rfl (hs.trans rfl) rfl) rfl ?_ | refine dS (S_store rfl rfl rfl rfl rfl rfl rfl) rfl ?_ | refine dV (S_alloc 0 rfl) rfl rfl ?_ | refine dV (S_alloc 1 rfl) rfl rfl ?_ | refine dV (S_alloc 2 rfl) rfl rfl ?_ | refine dV (S_alloc 3 rfl) rfl rfl ?_ | refine dV (S_alloc 4 rfl) rfl rfl ?_ | refine dV (S_alloc 5 rfl) rfl rfl ?_ | refine dV (S_alloc 6 rfl) rfl rfl ?_ | refine dV (S_alloc 7 rfl) rfl rfl ?_)
      | refine WD_nil (by first | decide +kernel | kernel_rfl | rfl) ?_
    all_goals first
      | rfl
      | contradiction
      | (rw [bEq_t]; done)
      | (rw [bEq_t]; unfold bNot; rfl)
      | (exfalso; rename_i h; exact h (by unfold bNot; rfl))
      | (exfalso; rename_i h; rw [eqL, ← dP_F hne] at h; exact h rfl)
      | (exfalso; rename_i h; rw [eqL, ← dP_F (Ne.symm hne)] at h; exact h rfl)
      | (exfalso; rename_i h; exact hne (vinj h))
      | (exfalso; rename_i h; exact hne (vinj h).symm)
      | skip
    all_goals trace_state
end Go.Proofs
