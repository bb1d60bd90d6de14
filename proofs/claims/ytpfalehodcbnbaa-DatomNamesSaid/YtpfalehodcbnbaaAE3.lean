/- Contracts of keys' reader: values. -/
import Derived.Test.YtpfalehodcbnbaaAE1
namespace Go.Proofs
open Go.AL
attribute [local irreducible] Go.AL.W Go.AL.WL Go.AL.WD Go.AL.POp Go.AL.PPOp Go.AL.POpS Go.AL.PC Go.AL.AC Go.AL.YW Go.AL.Ret Go.AL.Le Go.AL.thn Go.AL.inBlk Go.AL.scp

theorem rdT_len : ∀ (b : List UInt8), (rdT b).1.length ≤ b.length ∧ (rdT b).2.1.length ≤ b.length
  | [] => by simp [rdT]
  | [c] => by simp only [rdT]; split <;> simp
  | c :: x :: b => by
    have h1 := rdT_len b
    have h2 := rdT_len (x :: b)
    simp only [rdT, List.length_cons] at *
    split
    · split
      · simp; omega
      · split <;> simp <;> omega
    · simp; omega
theorem rdTx_len (b : List UInt8) (bad : Bool) : (rdTx b bad).1.length ≤ b.length ∧ (rdTx b bad).2.1.length ≤ b.length := by
  unfold rdTx; split
  · simp
  · exact rdT_len b
theorem takeB_len (b : List UInt8) (bad : Bool) (n : Nat) : (takeB b bad n).length ≤ b.length := by
  unfold takeB; split <;> simp

/-- A heap with more behind it. -/
def Ext (h h' : List AObj) : Prop := ∃ ex, h' = h ++ ex
theorem Ext.refl (h : List AObj) : Ext h h := ⟨[], by simp⟩
theorem Ext.app {h h' l : List AObj} (e : Ext h h') : Ext h (h' ++ l) := by obtain ⟨ex, rfl⟩ := e; exact ⟨ex ++ l, by simp⟩
theorem Ext.len {h h' : List AObj} (e : Ext h h') : h.length ≤ h'.length := by obtain ⟨ex, rfl⟩ := e; simp
theorem Ext.setIn {h h' : List AObj} {r : Nat} {a b : AObj} (hr : r < h.length) (hab : a = b) (e : Ext h h') : Ext (h.set r b) (h'.set r a) := by
  subst hab; obtain ⟨ex, rfl⟩ := e; exact ⟨ex, by simp [List.set_append, hr]⟩
theorem Ext.setIn2 {h h' : List AObj} {r : Nat} {a b c : AObj} (hr : r < h.length) (hab : a = b) (e : Ext (h.set r c) h') : Ext (h.set r b) (h'.set r a) := by
  have := Ext.setIn (r := r) (by simpa using hr) hab e
  simpa using this
theorem Ext.setOut {h h' : List AObj} {i : Nat} {a : AObj} (hi : h.length ≤ i) (e : Ext h h') : Ext h (h'.set i a) := by
  obtain ⟨ex, rfl⟩ := e; exact ⟨ex.set (i - h.length) a, by rw [List.set_append_right _ _ hi]⟩
theorem Ext.get {h h' : List AObj} {r : Nat} {o : AObj} (e : Ext h h') (hr : h[r]? = some o) : h'[r]? = some o := by
  obtain ⟨ex, rfl⟩ := e; exact get_app hr

/-- .. but for one object. -/
def ExtX (r : Nat) (h h' : List AObj) : Prop := h.length ≤ h'.length ∧ ∀ i, i < h.length → i ≠ r → h'[i]? = h[i]?
theorem ExtX.refl (r : Nat) (h : List AObj) : ExtX r h h := ⟨Nat.le_refl _, fun _ _ _ => rfl⟩
theorem ExtX.app {r : Nat} {h h' l : List AObj} (e : ExtX r h h') : ExtX r h (h' ++ l) := ⟨by have := e.1; simp; omega, fun i hi hne => by rw [List.getElem?_append_left (by have := e.1; omega)]; exact e.2 i hi hne⟩
theorem ExtX.set {r : Nat} {h h' : List AObj} {o : AObj} (e : ExtX r h h') : ExtX r h (h'.set r o) := ⟨by simpa using e.1, fun i hi hne => by rw [List.getElem?_set_ne (Ne.symm hne)]; exact e.2 i hi hne⟩
theorem ExtX.setOut {r j : Nat} {h h' : List AObj} {o : AObj} (hj : h.length ≤ j) (e : ExtX r h h') : ExtX r h (h'.set j o) := ⟨by simpa using e.1, fun i hi hne => by rw [List.getElem?_set_ne (by omega)]; exact e.2 i hi hne⟩
theorem ExtX.fin {r : Nat} {h h' : List AObj} {a b : AObj} (hr : r < h.length) (hab : a = b) (e : ExtX r h h') : Ext (h.set r b) (h'.set r a) := by
  subst hab
  refine ⟨h'.drop h.length, List.ext_getElem? fun i => ?_⟩
  have hl := e.1
  rcases Nat.lt_or_ge i h.length with hi | hi
  · rw [List.getElem?_append_left (by simpa using hi)]
    by_cases hne : i = r
    · subst hne; rw [List.getElem?_set_self (by omega), List.getElem?_set_self hi]
    · rw [List.getElem?_set_ne (Ne.symm hne), List.getElem?_set_ne (Ne.symm hne)]; exact e.2 i hi hne
  · rw [List.getElem?_append_right (by simpa using hi), List.getElem?_set_ne (by omega), List.getElem?_drop]
    congr 1; simp; omega

def hd1 (b : List UInt8) (bad : Bool) : UInt8 := if takeX b bad 1 then 0 else b.headD 0
theorem takeV1 (b : List UInt8) (bad : Bool) : takeV b bad 1 = [hd1 b bad] := by
  unfold takeV hd1
  by_cases h : takeX b bad 1 = true
  · rw [if_pos h, if_pos h]; rfl
  · rw [if_neg h, if_neg h]
    cases b with
    | nil => simp [takeX] at h
    | cons c b => rfl
theorem take1_ac [GlobF Try.prog] {h : List AObj} {r : Nat} {b : List UInt8} {bad : Bool} (hr : h[r]? = some (rdC b bad)) :
    AC Try.prog 119 [.bp r 0, .sc (.int .i64 1)] h (fun v h' => v = .sl none 1 [byteC (hd1 b bad)] ∧ h' = h.set r (rdC (takeB b bad 1) (takeX b bad 1))) := by
  have := take_ac (n := 1) hr (by decide)
  rw [takeV1] at this
  exact this

/-- A value read. -/
noncomputable def rdVal (b : List UInt8) (bad : Bool) : Val × List UInt8 × Bool :=
  let k : Int := (hd1 b bad).toNat
  let b1 := takeB b bad 1
  let x1 := takeX b bad 1
  if k = 2 then
    let v : Val := ⟨k, (hd1 b1 x1).toNat, []⟩
    (v, takeB b1 x1 1, takeX b1 x1 1 || !mayB v)
  else if k = 3 ∨ k = 4 ∨ k = 7 then
    let v : Val := ⟨k, 0, (rdTx b1 x1).1⟩
    (v, (rdTx b1 x1).2.1, (rdTx b1 x1).2.2 || !mayB v)
  else
    let v : Val := ⟨k, numV (takeV b1 x1 8), []⟩
    (v, takeB b1 x1 8, takeX b1 x1 8 || !mayB v)
theorem hd1w (b : List UInt8) (bad : Bool) : IntKind.i64.wrap ((hd1 b bad).toNat : Int) = (hd1 b bad).toNat := w64 _ (by omega) (by have := UInt8.toNat_lt (hd1 b bad); omega)
theorem rdVal_2 {b : List UInt8} {bad : Bool} (h : IntKind.i64.wrap ((hd1 b bad).toNat : Int) = 2) : rdVal b bad =
    (⟨IntKind.i64.wrap ((hd1 b bad).toNat : Int), IntKind.i64.wrap ((hd1 (takeB b bad 1) (takeX b bad 1)).toNat : Int), []⟩, takeB (takeB b bad 1) (takeX b bad 1) 1, takeX (takeB b bad 1) (takeX b bad 1) 1 || !mayB ⟨IntKind.i64.wrap ((hd1 b bad).toNat : Int), IntKind.i64.wrap ((hd1 (takeB b bad 1) (takeX b bad 1)).toNat : Int), []⟩) := by
  simp only [hd1w] at *
  simp only [rdVal]; rw [if_pos h]
theorem rdVal_t {b : List UInt8} {bad : Bool} (h0 : IntKind.i64.wrap ((hd1 b bad).toNat : Int) ≠ 2) (h : IntKind.i64.wrap ((hd1 b bad).toNat : Int) = 3 ∨ IntKind.i64.wrap ((hd1 b bad).toNat : Int) = 4 ∨ IntKind.i64.wrap ((hd1 b bad).toNat : Int) = 7) : rdVal b bad =
    (⟨IntKind.i64.wrap ((hd1 b bad).toNat : Int), 0, (rdTx (takeB b bad 1) (takeX b bad 1)).1⟩, (rdTx (takeB b bad 1) (takeX b bad 1)).2.1, (rdTx (takeB b bad 1) (takeX b bad 1)).2.2 || !mayB ⟨IntKind.i64.wrap ((hd1 b bad).toNat : Int), 0, (rdTx (takeB b bad 1) (takeX b bad 1)).1⟩) := by
  simp only [hd1w] at *
  simp only [rdVal]; rw [if_neg h0, if_pos h]
theorem rdVal_n {b : List UInt8} {bad : Bool} (h0 : IntKind.i64.wrap ((hd1 b bad).toNat : Int) ≠ 2) (h : ¬ (IntKind.i64.wrap ((hd1 b bad).toNat : Int) = 3 ∨ IntKind.i64.wrap ((hd1 b bad).toNat : Int) = 4 ∨ IntKind.i64.wrap ((hd1 b bad).toNat : Int) = 7)) : rdVal b bad =
    (⟨IntKind.i64.wrap ((hd1 b bad).toNat : Int), numV (takeV (takeB b bad 1) (takeX b bad 1) 8), []⟩, takeB (takeB b bad 1) (takeX b bad 1) 8, takeX (takeB b bad 1) (takeX b bad 1) 8 || !mayB ⟨IntKind.i64.wrap ((hd1 b bad).toNat : Int), numV (takeV (takeB b bad 1) (takeX b bad 1) 8), []⟩) := by
  simp only [hd1w] at *
  simp only [rdVal]; rw [if_neg h0, if_neg h]
theorem rdVal_len (b : List UInt8) (bad : Bool) : (rdVal b bad).2.1.length ≤ b.length := by
  have h1 := takeB_len b bad 1
  have h2 := takeB_len (takeB b bad 1) (takeX b bad 1) 1
  have h3 := takeB_len (takeB b bad 1) (takeX b bad 1) 8
  have h4 := (rdTx_len (takeB b bad 1) (takeX b bad 1)).2
  simp only [rdVal]
  split
  · simp only; omega
  · split <;> simp only <;> omega
theorem u8eq {c : UInt8} {n : Nat} (hn : n < 256) (h : (c.toNat : Int) = n) : c = UInt8.ofNat n := by
  apply UInt8.toNat.inj; rw [UInt8.toNat_ofNat']; omega
theorem u8ne {c : UInt8} {n : Nat} (h : (c.toNat : Int) ≠ n) (hn : n < 256) : c ≠ UInt8.ofNat n := fun e => h (by rw [e, UInt8.toNat_ofNat']; omega)

theorem flagT (x m : Bool) (hx : x = true) : true = (x || !m) := by rw [hx]; rfl
theorem flagF (x m : Bool) (hx : x = false) : bNot (iEq (if m = true then 0 else 10) 0) = (x || !m) := by rw [hx]; cases m <;> simp [iEq, bNot]
attribute [local irreducible] rdT rdTx takeB takeX hd1 takeV numV in
set_option maxHeartbeats 8000000 in
theorem rvalue_ac0 [GlobF Try.prog] {h : List AObj} {r : Nat} {b : List UInt8} {bad : Bool} (hr : h[r]? = some (rdC b bad)) (hb : b.length < 549755813888) :
    AC Try.prog 104 [.bp r 0] h (fun v h' => v = eV (rdVal b bad).1 ∧ Ext (h.set r (rdC (rdVal b bad).2.1 (rdVal b bad).2.2)) h') := by
  have hlt := get_lt hr
  have hb1 := takeB_len b bad 1
  have hlen := rdTx_len (takeB b bad 1) (takeX b bad 1)
  refine AC.of_body Try.func104 Try.ntmps104 rfl rfl rfl ?_
  repeat' first
    | (apply p1 (hd := rfl); case hop => first | (apply D_move; rfl) | (apply D_assign; rfl) | (apply D_pc (check_pc ⟨_, _, []⟩ (by show (0 : Nat) < 9223372036854775808; decide)); rfl; exact .same rfl .nil) | (apply D_pc (check_pc ⟨_, _, (rdTx (takeB b bad 1) (takeX b bad 1)).1⟩ (by simp only; omega)); rfl; exact .same rfl .nil) | (apply D_load1; rfl) | (apply D_fld; rfl) | (apply D_pickT; rfl; rfl) | (apply D_pickF; rfl; rfl) | (apply D_int; rfl; rfl; rfl) | (apply D_loadW; rfl; rfl) | (apply D_loadA; rfl; rfl) | (apply D_conv_int; rfl) | (apply D_idxAn; rfl; rfl; (first | omega | (simp; done))) | (apply D_idxA; rfl; rfl; omega; (first | omega | (simp; done) | (simp; omega))) | (apply D_idxA0; rfl; rfl; omega; (first | omega | (simp; done) | (simp; omega))) | exact D_build rfl | exact D_buildA rfl | exact D_fldB rfl | (apply D_nilB; rfl) | (apply D_nilE; rfl))
    | refine W_seq ?_
    | refine W_region ?_
    | (refine idC ?_; first | refine c1 rfl ?_ | refine c0 rfl ?_ | refine cs rfl (fun _ => ?_) (fun _ => ?_))
    | refine WL_nil ?_
    | (refine idG ?_; first | refine g0t rfl rfl rfl ?_ | refine g0f rfl rfl rfl ?_ | refine g0u rfl rfl rfl ?_ | refine gr rfl rfl ?_ | refine gs rfl rfl (fun _ => ?_) (fun _ => ?_) | refine grn rfl rfl ?_)
    | refine tn ?_
    | refine tr ?_
    | refine br ?_
    | refine bn ?_
    | refine te ?_
    | (refine idB ?_; first | refine bh rfl ?_ | refine bm rfl ?_)
    | refine W_skip ?_
    | refine W_block ?_
    | refine W_exit ?_
    | refine W_ret ?_
    | refine W_label ?_
    | refine W_scope ?_
    | refine sn ?_
    | refine sr ?_
    | refine se ?_
    | (refine idLd ?_; first | refine p1L (D_loadB1 rfl rfl rfl) rfl ?_ | refine p1L (D_loadBA rfl rfl rfl) rfl ?_ | refine p1L (D_loadB1 rfl (by (repeat first | assumption | exact get_last | (refine get_last2 ?_; focus (simp; done)) | apply get_set | apply get_app | (apply get_ne; focus omega) | (apply get_ne; focus (simp only [List.length_set, List.length_append, List.length_cons, List.length_nil]; omega))); done) (by rfl)) rfl ?_ | refine p1L (D_loadBA rfl (by (repeat first | assumption | exact get_last | (refine get_last2 ?_; focus (simp; done)) | apply get_set | apply get_app | (apply get_ne; focus omega) | (apply get_ne; focus (simp only [List.length_set, List.length_append, List.length_cons, List.length_nil]; omega))); done) (by rfl)) rfl ?_)
    | (refine idA ?_; first | refine m_alloc rfl ?_)
    | (refine idS ?_; first | refine pS (S_store rfl rfl rfl rfl rfl rfl rfl) ?_ | refine pS (S_store rfl rfl rfl (by (repeat first | assumption | exact get_last | (refine get_last2 ?_; focus (simp; done)) | apply get_set | apply get_app | (apply get_ne; focus omega) | (apply get_ne; focus (simp only [List.length_set, List.length_append, List.length_cons, List.length_nil]; omega))); done) (by rfl) (by rfl) (by rfl)) ?_)
    | refine Le.bool ?_
    | refine Le.int ?_
    | refine Le.str ?_
    | (refine m_call (d := 5) (take1_ac (by (repeat first | assumption | exact get_last | (refine get_last2 ?_; focus (simp; done)) | apply get_set | apply get_app | (apply get_ne; focus omega) | (apply get_ne; focus (simp only [List.length_set, List.length_append, List.length_cons, List.length_nil]; omega))); done)) rfl rfl rfl ?_; rintro _ _ ⟨rfl, rfl⟩)
    | (refine m_call (d := 18) (take1_ac (by (repeat first | assumption | exact get_last | (refine get_last2 ?_; focus (simp; done)) | apply get_set | apply get_app | (apply get_ne; focus omega) | (apply get_ne; focus (simp only [List.length_set, List.length_append, List.length_cons, List.length_nil]; omega))); done)) rfl rfl rfl ?_; rintro _ _ ⟨rfl, rfl⟩)
    | (refine m_call (d := 28) (rtext_ac (by (repeat first | assumption | exact get_last | (refine get_last2 ?_; focus (simp; done)) | apply get_set | apply get_app | (apply get_ne; focus omega) | (apply get_ne; focus (simp only [List.length_set, List.length_append, List.length_cons, List.length_nil]; omega))); done) (by omega)) rfl rfl rfl ?_; rintro _ _ ⟨rfl, rfl⟩)
    | (refine m_call (d := 13) (rnum_ac (by (repeat first | assumption | exact get_last | (refine get_last2 ?_; focus (simp; done)) | apply get_set | apply get_app | (apply get_ne; focus omega) | (apply get_ne; focus (simp only [List.length_set, List.length_append, List.length_cons, List.length_nil]; omega))); done)) rfl rfl rfl ?_; rintro _ _ ⟨rfl, rfl⟩)
  all_goals
    first
      | have e := rdVal_2 (b := b) (bad := bad) (by assumption)
      | have e := rdVal_t (b := b) (bad := bad) (by assumption) (.inl (by assumption))
      | have e := rdVal_t (b := b) (bad := bad) (by assumption) (.inr (.inl (by assumption)))
      | have e := rdVal_t (b := b) (bad := bad) (by assumption) (.inr (.inr (by assumption)))
      | have e := rdVal_n (b := b) (bad := bad) (by assumption) (fun h => by rcases h with h | h | h <;> contradiction)
    refine retK1 (.inl rfl) rfl rfl (ResO.cellBA rfl (by (repeat first | assumption | exact get_last | (refine get_last2 ?_; focus (simp; done)) | apply get_set | apply get_app | (apply get_ne; focus omega) | (apply get_ne; focus (simp only [List.length_set, List.length_append, List.length_cons, List.length_nil]; omega))); done) (by rfl)) ⟨?_, ?_⟩
    · rw [e]; rfl
    · rw [e]
      repeat first
        | exact ExtX.refl _ _
        | (refine ExtX.fin hlt (congrArg (rdC _) (by first | exact flagT _ _ (by assumption) | exact flagF _ _ (by assumption))) ?_)
        | (refine ExtX.set ?_)
        | (refine ExtX.setOut (by simp only [List.length_set, List.length_append, List.length_cons, List.length_nil]; omega) ?_)
        | (refine Ext.setOut (by simp only [List.length_set, List.length_append, List.length_cons, List.length_nil]; omega) ?_)
        | refine ExtX.app ?_
        | refine Ext.app ?_

theorem rvalue_ac [GlobF Try.prog] {h : List AObj} {r : Nat} {b : List UInt8} {bad : Bool} (hr : h[r]? = some (rdC b bad)) (hb : b.length < 549755813888) :
    AC Try.prog 104 [.bp r 0] h (fun v h' => v = eV (rdVal b bad).1 ∧ h' = h.set r (rdC (rdVal b bad).2.1 (rdVal b bad).2.2)) := by
  refine AC.cut (rvalue_ac0 hr hb) ?_
  rintro hbd v h' ⟨rfl, ex, rfl⟩
  refine ⟨_, ex, rfl, by simp, BdH.set hbd (bd_rdC _ _ _), .ag fun x hx => ?_, rfl, rfl⟩
  simp only [List.mem_cons, List.not_mem_nil, or_false] at hx
  rcases hx with rfl | rfl | rfl <;> exact .sc _
end Go.Proofs
