/- Contracts of keys' reader: parts, told one by one. -/
import Derived.Test.YtpfalehodcbnbaaAE3
namespace Go.Proofs
open Go.AL
attribute [local irreducible] Go.AL.W Go.AL.WL Go.AL.WD Go.AL.POp Go.AL.PPOp Go.AL.POpS Go.AL.PC Go.AL.AC Go.AL.YW Go.AL.Ret Go.AL.Le Go.AL.thn Go.AL.inBlk Go.AL.scp

/-- A part read. -/
noncomputable def rdPart (is : Bool) (s : List UInt8 × Bool) : Prt × List UInt8 × Bool :=
  if is then (prtV (rdVal s.1 s.2).1, (rdVal s.1 s.2).2) else (prtN (numV (takeV s.1 s.2 8)), takeB s.1 s.2 8, takeX s.1 s.2 8)
theorem rdPart_len (is : Bool) (s : List UInt8 × Bool) : (rdPart is s).2.1.length ≤ s.1.length := by
  have h1 := rdVal_len s.1 s.2
  have h2 := takeB_len s.1 s.2 8
  unfold rdPart; split <;> simp only <;> omega
abbrev rdS (s : List UInt8 × Bool) : AObj := rdC s.1 s.2
abbrev boC (b : Bool) : List AV := [.sc (.bool b)]

theorem W_cutS {P : Program} [GlobF P] {fr : Option Nat} {N : Nat} {Q : Exit → AS → Prop} {c : Code} {s : AS} {b b' : List AObj} (e : b = b') (hs : s.heap = b) (hk : W P fr N c Q ⟨s.regs, b', s.marks⟩) : W P fr N c Q s := by
  subst e; subst hs; exact hk

attribute [local irreducible] rdVal takeV takeB takeX numV in
set_option maxHeartbeats 8000000 in
theorem rparts1_ac [GlobF Try.prog] (ks : List Bool) (r l : Nat) (I : Nat → List UInt8 × Bool → List AObj → Prop) (Stop : List AObj → Prop) {h0 : List AObj} {s0 : List UInt8 × Bool} (hI0 : I 0 s0 h0) (hks : ks.length < 1048576)
    (hI : ∀ (i : Nat) (s : List UInt8 × Bool) (h : List AObj), I i s h → h[r]? = some (rdS s) ∧ s.1.length < 549755813888)
    (hbad : ∀ (i : Nat) (hi : i < ks.length) (s : List UInt8 × Bool) (h h' : List AObj), I i s h → Ext (h.set r (rdS (rdPart (ks[i]'hi) s).2)) h' → (rdPart (ks[i]'hi) s).2.2 = true → Stop h')
    (hy : ∀ (i : Nat) (hi : i < ks.length) (s : List UInt8 × Bool) (h h' : List AObj), I i s h → Ext (h.set r (rdS (rdPart (ks[i]'hi) s).2)) h' → (rdPart (ks[i]'hi) s).2.2 = false →
      YW Try.prog l [eP (rdPart (ks[i]'hi) s).1] h' (fun b h' => (b = true ∧ I (i + 1) (rdPart (ks[i]'hi) s).2 h') ∨ (b = false ∧ Stop h'))) :
    AC Try.prog 103 [.sc (.func (.yield l) #[] #[]), .ep [.sl none 1 (ks.map boC)], .ep [.bp r 0]] h0 (fun _ h' => (∃ s, I ks.length s h') ∨ Stop h') := by
  refine AC.of_body Try.func103 Try.ntmps103 rfl rfl rfl ?_
  repeat' first
    | (apply p1 (hd := rfl); case hop => first | (apply D_move; rfl) | (apply D_assign; rfl) | (apply D_load1; rfl) | (apply D_fld; rfl) | (apply D_pickT; rfl; rfl) | (apply D_pickF; rfl; rfl) | (apply D_int; rfl; rfl; rfl) | (apply D_lenM; rfl) | (apply D_len_sl; rfl) | (apply D_not; rfl) | (apply D_loadW; rfl; rfl) | (apply D_loadA; rfl; rfl) | (apply D_len_nil; rfl) | (apply D_idxAn; rfl; rfl; (first | omega | (simp; done))) | (apply D_idxA; rfl; rfl; omega; (first | omega | (simp; done) | (simp; omega))) | (apply D_idxA0; rfl; rfl; omega; (first | omega | (simp; done) | (simp; omega))) | exact D_xcmp rfl rfl rfl | exact D_xidx rfl rfl rfl | exact D_build rfl | exact D_buildA rfl | exact D_fldB rfl | (apply D_nilB; rfl) | (apply D_nilE; rfl))
    | refine W_seq ?_
    | refine W_region ?_
    | (refine idC ?_; first | refine c1 rfl ?_ | refine c0 rfl ?_ | refine cs rfl (fun _ => ?_) (fun _ => ?_))
    | refine WL_nil ?_
    | (refine idG ?_; first | refine g0t rfl rfl rfl ?_ | refine g0f rfl rfl rfl ?_ | refine g0u rfl rfl rfl ?_ | refine gr rfl rfl ?_ | refine gs rfl rfl (fun _ => ?_) (fun _ => ?_) | refine grn rfl rfl ?_)
    | refine tn ?_
    | refine tr ?_
    | refine br ?_
    | refine bn ?_
    | refine te ?_
    | (refine idB ?_; first | refine bh rfl ?_ | refine bm rfl ?_)
    | refine W_skip ?_
    | refine W_block ?_
    | refine W_exit ?_
    | refine W_ret ?_
    | refine W_label ?_
    | refine W_scope ?_
    | refine sn ?_
    | refine sr ?_
    | refine se ?_
    | (refine idLd ?_; first | refine p1L (D_loadB1 rfl rfl rfl) rfl ?_ | refine p1L (D_loadBA rfl rfl rfl) rfl ?_ | refine p1L (D_loadB1 rfl (by (repeat first | assumption | exact get_last | (refine get_last2 ?_; focus (simp; done)) | apply get_set | apply get_app | (apply get_ne; focus omega) | (apply get_ne; focus (simp only [List.length_set, List.length_append, List.length_cons, List.length_nil]; omega))); done) (by rfl)) rfl ?_ | refine p1L (D_loadBA rfl (by (repeat first | assumption | exact get_last | (refine get_last2 ?_; focus (simp; done)) | apply get_set | apply get_app | (apply get_ne; focus omega) | (apply get_ne; focus (simp only [List.length_set, List.length_append, List.length_cons, List.length_nil]; omega))); done) (by rfl)) rfl ?_)
    | (refine idA ?_; first | refine m_var rfl rfl rfl rfl rfl rfl rfl ?_ | refine m_alloc rfl ?_)
    | (refine idS ?_; first | refine pS (S_store rfl rfl rfl rfl rfl rfl rfl) ?_ | refine pS (S_store rfl rfl rfl (by (repeat first | assumption | exact get_last | (refine get_last2 ?_; focus (simp; done)) | apply get_set | apply get_app | (apply get_ne; focus omega) | (apply get_ne; focus (simp only [List.length_set, List.length_append, List.length_cons, List.length_nil]; omega))); done) (by rfl) (by rfl) (by rfl)) ?_)
    | refine Le.bool ?_
    | refine Le.int ?_
    | refine Le.str ?_
  refine W_loopL (X := Nat × (List UInt8 × Bool) × List AObj) (fun x => [(0, .sc (.func (.yield l) #[] #[])), (2, .ep [.bp r 0]), (7, .sl none 1 (ks.map boC)), (8, .sc (.int .i64 (ks.length : Int))), (9, .sc (.int .i64 (x.1 : Int)))]) (fun x => x.2.2)
    (fun x => x.1 ≤ ks.length ∧ I x.1 x.2.1 x.2.2) (fun x => ks.length - x.1) (0, s0, h0) ⟨by show 0 ≤ _; omega, hI0⟩ ⟨rfl, rfl, rfl, rfl, rfl, trivial⟩ rfl ?_
  rintro ⟨i, s, h⟩ ⟨hi, hIi⟩
  simp only at hi hIi
  obtain ⟨hr, hl⟩ := hI i s h hIi
  have hlt := get_lt hr
  have hb := fun hlt => hbad i hlt s h
  have hyi := fun hlt => hy i hlt s h
  have e1 : ∀ hlt : i < ks.length, ks[i] = true → rdPart (ks[i]'hlt) s = (prtV (rdVal s.1 s.2).1, (rdVal s.1 s.2).2) := fun _ h => by rw [rdPart, if_pos h]
  have e2 : ∀ hlt : i < ks.length, ks[i] = false → rdPart (ks[i]'hlt) s = (prtN (numV (takeV s.1 s.2 8)), takeB s.1 s.2 8, takeX s.1 s.2 8) := fun _ h => by rw [rdPart, if_neg (by rw [h]; exact Bool.false_ne_true)]
  have hyT : ∀ (hlt : i < ks.length), ks[i] = true → ∀ h', Ext (h.set r (rdS (rdVal s.1 s.2).2)) h' → (rdVal s.1 s.2).2.2 = false → YW Try.prog l [eP (prtV (rdVal s.1 s.2).1)] h' (fun b h' => (b = true ∧ I (i + 1) (rdVal s.1 s.2).2 h') ∨ (b = false ∧ Stop h')) := fun hlt hk h' => by
    have := hyi hlt h' hIi
    rw [e1 hlt hk] at this; exact this
  have hyF : ∀ (hlt : i < ks.length), ks[i] = false → ∀ h', Ext (h.set r (rdS (takeB s.1 s.2 8, takeX s.1 s.2 8))) h' → takeX s.1 s.2 8 = false → YW Try.prog l [eP (prtN (numV (takeV s.1 s.2 8)))] h' (fun b h' => (b = true ∧ I (i + 1) (takeB s.1 s.2 8, takeX s.1 s.2 8) h') ∨ (b = false ∧ Stop h')) := fun hlt hk h' => by
    have := hyi hlt h' hIi
    rw [e2 hlt hk] at this; exact this
  have hbT : ∀ (hlt : i < ks.length), ks[i] = true → ∀ h', Ext (h.set r (rdS (rdVal s.1 s.2).2)) h' → (rdVal s.1 s.2).2.2 = true → Stop h' := fun hlt hk h' => by
    have := hb hlt h' hIi
    rw [e1 hlt hk] at this; exact this
  have hbF : ∀ (hlt : i < ks.length), ks[i] = false → ∀ h', Ext (h.set r (rdS (takeB s.1 s.2 8, takeX s.1 s.2 8))) h' → takeX s.1 s.2 8 = true → Stop h' := fun hlt hk h' => by
    have := hb hlt h' hIi
    rw [e2 hlt hk] at this; exact this
  clear hb hyi e1 e2
  repeat' first
    | (apply p1 (hd := rfl); case hop => first | (apply D_move; rfl) | (apply D_assign; rfl) | (apply D_load1; rfl) | (apply D_fld; rfl) | (apply D_pickT; rfl; rfl) | (apply D_pickF; rfl; rfl) | (apply D_int; rfl; rfl; rfl) | (apply D_lenM; rfl) | (apply D_len_sl; rfl) | (apply D_not; rfl) | (apply D_loadW; rfl; rfl) | (apply D_loadA; rfl; rfl) | (apply D_len_nil; rfl) | (apply D_idxAn; rfl; rfl; (first | omega | (simp; done))) | (apply D_idxA; rfl; rfl; omega; (first | omega | (simp; done) | (simp; omega))) | (apply D_idxA0; rfl; rfl; omega; (first | omega | (simp; done) | (simp; omega))) | exact D_xcmp rfl rfl rfl | exact D_xidx rfl rfl rfl | exact D_build rfl | exact D_buildA rfl | exact D_fldB rfl | (apply D_nilB; rfl) | (apply D_nilE; rfl))
    | refine W_seq ?_
    | refine W_region ?_
    | (refine idC ?_; first | refine c1 rfl ?_ | refine c0 rfl ?_ | refine cs rfl (fun _ => ?_) (fun _ => ?_))
    | refine WL_nil ?_
    | (refine idG ?_; first | refine g0t rfl rfl rfl ?_ | refine g0f rfl rfl rfl ?_ | refine g0u rfl rfl rfl ?_ | refine gr rfl rfl ?_ | refine gs rfl rfl (fun _ => ?_) (fun _ => ?_) | refine grn rfl rfl ?_)
    | refine tn ?_
    | refine tr ?_
    | refine br ?_
    | refine bn ?_
    | refine te ?_
    | (refine idB ?_; first | refine bh rfl ?_ | refine bm rfl ?_)
    | refine W_skip ?_
    | refine W_block ?_
    | refine W_exit ?_
    | refine W_ret ?_
    | refine W_label ?_
    | refine W_scope ?_
    | refine sn ?_
    | refine sr ?_
    | refine se ?_
    | (refine idLd ?_; first | refine p1L (D_loadB1 rfl rfl rfl) rfl ?_ | refine p1L (D_loadBA rfl rfl rfl) rfl ?_ | refine p1L (D_loadB1 rfl (by (repeat first | assumption | exact get_last | (refine get_last2 ?_; focus (simp; done)) | apply get_set | apply get_app | (apply get_ne; focus omega) | (apply get_ne; focus (simp only [List.length_set, List.length_append, List.length_cons, List.length_nil]; omega))); done) (by rfl)) rfl ?_ | refine p1L (D_loadBA rfl (by (repeat first | assumption | exact get_last | (refine get_last2 ?_; focus (simp; done)) | apply get_set | apply get_app | (apply get_ne; focus omega) | (apply get_ne; focus (simp only [List.length_set, List.length_append, List.length_cons, List.length_nil]; omega))); done) (by rfl)) rfl ?_)
    | (refine idA ?_; first | refine m_alloc rfl ?_)
    | (refine idS ?_; first | refine pS (S_store rfl rfl rfl rfl rfl rfl rfl) ?_ | refine pS (S_store rfl rfl rfl (by (repeat first | assumption | exact get_last | (refine get_last2 ?_; focus (simp; done)) | apply get_set | apply get_app | (apply get_ne; focus omega) | (apply get_ne; focus (simp only [List.length_set, List.length_append, List.length_cons, List.length_nil]; omega))); done) (by rfl) (by rfl) (by rfl)) ?_)
    | refine Le.bool ?_
    | refine Le.int ?_
    | refine Le.str ?_
    | (refine m_call (d := 15) (rvalue_ac (by (repeat first | assumption | exact get_last | (refine get_last2 ?_; focus (simp; done)) | apply get_set | apply get_app | (apply get_ne; focus omega) | (apply get_ne; focus (simp only [List.length_set, List.length_append, List.length_cons, List.length_nil]; omega))); done) hl) rfl rfl rfl ?_; rintro _ _ ⟨rfl, rfl⟩)
    | (refine m_call (d := 18) (rnum_ac (by (repeat first | assumption | exact get_last | (refine get_last2 ?_; focus (simp; done)) | apply get_set | apply get_app | (apply get_ne; focus omega) | (apply get_ne; focus (simp only [List.length_set, List.length_append, List.length_cons, List.length_nil]; omega))); done)) rfl rfl rfl ?_; rintro _ _ ⟨rfl, rfl⟩)
    | (refine m_yield (d := 27) rfl rfl rfl (hyT (by simp only at *; omega) (by assumption) _ ?_ (by assumption)) ?_; rotate_left 1; rintro b h' (⟨rfl, hnx⟩ | ⟨rfl, hst⟩))
    | (refine m_yield (d := 27) rfl rfl rfl (hyF (by simp only at *; omega) (by assumption) _ ?_ (by assumption)) ?_; rotate_left 1; rintro b h' (⟨rfl, hnx⟩ | ⟨rfl, hst⟩))
  all_goals try contradiction
  all_goals first
    | exact ret0 (.inl rfl) rfl rfl (.inr (by assumption))
    | (refine ret0 (.inl rfl) rfl rfl (.inr (hbT (by simp only at *; omega) (by assumption) _ ?_ (by assumption))); simp only; refine Ext.setOut (Nat.le_of_eq (by simp only [List.length_set])) ?_)
    | (refine ret0 (.inl rfl) rfl rfl (.inr (hbF (by simp only at *; omega) (by assumption) _ ?_ (by assumption))); simp only; refine Ext.setOut (Nat.le_of_eq (by simp only [List.length_set])) ?_)
    | (refine ret0 (.inr rfl) rfl rfl (.inl ⟨s, ?_⟩)
       have : i = ks.length := by simp only at *; omega
       subst this; exact hIi)
    | (refine ⟨rfl, (i + 1, _, _), ⟨?_, hnx⟩, ?_, ⟨rfl, rfl, rfl, rfl, ieq (wsucc _ (by simp only at *; omega)), trivial⟩, rfl⟩ <;> (simp only at *; omega))
    | (simp only; refine Ext.setOut (Nat.le_of_eq (by simp only [List.length_set])) ?_)
  all_goals
    exact ExtX.fin hlt rfl (ExtX.app (ExtX.refl _ _))
end Go.Proofs

/- Contracts of keys' reader: all parts. -/
namespace Go.Proofs
open Go.AL
attribute [local irreducible] Go.AL.W Go.AL.WL Go.AL.WD Go.AL.POp Go.AL.PPOp Go.AL.POpS Go.AL.PC Go.AL.AC Go.AL.YW Go.AL.Ret Go.AL.Le Go.AL.thn Go.AL.inBlk Go.AL.scp

/-- All parts read, till bytes say nothing. -/
noncomputable def rdAll : List Bool → List UInt8 × Bool → List Prt × List UInt8 × Bool
  | [], s => ([], s)
  | k :: ks, s => if (rdPart k s).2.2 then ([], (rdPart k s).2) else ((rdPart k s).1 :: (rdAll ks (rdPart k s).2).1, (rdAll ks (rdPart k s).2).2)
theorem rdAll_len : ∀ (ks : List Bool) (s : List UInt8 × Bool), (rdAll ks s).1.length ≤ ks.length
  | [], s => by simp [rdAll]
  | k :: ks, s => by
    have := rdAll_len ks (rdPart k s).2
    simp only [rdAll]; split <;> simp <;> omega

theorem rparts1_acX [GlobF Try.prog] (ks : List Bool) (r l : Nat) (Hs : List Prt → List UInt8 × Bool → List AObj) {h0 : List AObj} {s0 : List UInt8 × Bool} (hH : Hs [] s0 = h0) (hl : s0.1.length < 549755813888) (hks : ks.length < 1048576)
    (hr : ∀ out s, (Hs out s)[r]? = some (rdS s)) (hs : ∀ out s s', (Hs out s).set r (rdS s') = Hs out s')
    (hy : ∀ out p s ex, out.length < ks.length → YW Try.prog l [eP p] (Hs out s ++ ex) (fun b h' => b = true ∧ ∃ ex', h' = Hs (out ++ [p]) s ++ ex')) :
    AC Try.prog 103 [.sc (.func (.yield l) #[] #[]), .ep [.sl none 1 (ks.map boC)], .ep [.bp r 0]] h0 (fun _ h' => ∃ ex, h' = Hs (rdAll ks s0).1 (rdAll ks s0).2 ++ ex) := by
  refine AC.mono (rparts1_ac ks r l (fun i s h => s.1.length < 549755813888 ∧ ∃ out ex, out.length = i ∧ h = Hs out s ++ ex ∧ rdAll ks s0 = (out ++ (rdAll (ks.drop i) s).1, (rdAll (ks.drop i) s).2)) (fun h => ∃ ex, h = Hs (rdAll ks s0).1 (rdAll ks s0).2 ++ ex)
    (s0 := s0) ⟨hl, [], [], rfl, by rw [List.append_nil]; exact hH.symm, by simp⟩ hks ?_ ?_ ?_) ?_
  · rintro i s h ⟨h1, out, ex, h2, rfl, h4⟩
    exact ⟨get_app (hr out s), h1⟩
  · rintro i hi s h h' ⟨h1, out, ex, h2, rfl, h4⟩ ⟨ex2, rfl⟩ hb
    rw [List.drop_eq_getElem_cons hi, rdAll, if_pos hb] at h4
    rw [h4, set_app (hr out s), hs]
    exact ⟨ex ++ ex2, by simp⟩
  · rintro i hi s h h' ⟨h1, out, ex, h2, rfl, h4⟩ ⟨ex2, rfl⟩ hb
    rw [List.drop_eq_getElem_cons hi, rdAll, if_neg (by rw [hb]; exact Bool.false_ne_true)] at h4
    rw [set_app (hr out s), hs, List.append_assoc]
    refine (hy out _ _ _ (by omega)).mono ?_
    rintro b h' ⟨rfl, ex', rfl⟩
    refine .inl ⟨rfl, Nat.lt_of_le_of_lt (rdPart_len _ _) h1, out ++ [(rdPart ks[i] s).1], ex', by simp [h2], rfl, ?_⟩
    rw [h4]; simp
  · rintro _ h' (⟨s, h1, out, ex, h2, rfl, h4⟩ | h1)
    · refine ⟨ex, ?_⟩
      rw [List.drop_eq_nil_of_le (Nat.le_refl _)] at h4
      rw [h4]; simp [rdAll]
    · exact h1

set_option maxHeartbeats 4000000 in
theorem rparts_pc [GlobF Try.prog] {h : List AObj} (r : Nat) (ks : List Bool) : AC Try.prog 84 [.bp r 0, .sl none 1 (ks.map boC)] h (fun v h' => v = .fn (.func 103) [] [.ep [.sl none 1 (ks.map boC)], .ep [.bp r 0]] ∧ h' = h) := by
  refine AC.of_body Try.func84 Try.ntmps84 rfl rfl rfl ?_
  repeat' first
    | (apply p1 (hd := rfl); case hop => first | (apply D_assign; rfl) | (apply D_box; rfl; rfl) | exact D_mkfn rfl)
    | refine W_seq ?_
    | refine W_region ?_
    | refine WL_nil ?_
    | refine tn ?_
    | refine tr ?_
    | refine br ?_
    | refine bn ?_
    | refine te ?_
    | (refine idB ?_; first | refine bh rfl ?_ | refine bm rfl ?_)
    | refine W_skip ?_
    | refine W_block ?_
    | refine W_exit ?_
    | refine W_ret ?_
    | refine W_label ?_
    | refine W_scope ?_
    | refine sn ?_
    | refine sr ?_
    | refine se ?_
    | refine Le.bool ?_
    | refine Le.int ?_
    | refine Le.str ?_
  all_goals exact retK1 (.inl rfl) rfl rfl (ResO.tmp rfl) ⟨rfl, rfl⟩

/-- Bytes that are parts of some kinds, whole. -/
noncomputable def rdOK (ks : List Bool) (b : List UInt8) : Prop := (rdAll ks (b, false)).2.2 = false ∧ (rdAll ks (b, false)).2.1.length = 0
open Classical in
noncomputable def rdL (ks : List Bool) (b : List UInt8) : List Prt := if rdOK ks b then (rdAll ks (b, false)).1 else []
open Classical in
noncomputable def rdE (ks : List Bool) (b : List UInt8) : Int := if rdOK ks b then 0 else 20

theorem congr5 {α : Type} {a b b' c c' d e : α} {ex : List α} (h1 : b = b') (h2 : c = c') : a :: b :: c :: d :: e :: ex = [a, b', c', d, e] ++ ex := by subst h1; subst h2; rfl

attribute [local irreducible] rdAll in
set_option maxHeartbeats 8000000 in
theorem oread_pc [GlobF Try.prog] (b : List UInt8) (ks : List Bool) (hl : b.length < 549755813888) (hks : ks.length < 1048576) :
    PC Try.prog 59 [.sl none 1 (b.map byteC), .sl none 1 (ks.map boC)] (.tu [.sl none 5 ((rdL ks b).map pC), .sc (.int .i64 (rdE ks b))]) := by
  have hlen := rdAll_len ks (b, false)
  refine PC.of_body Try.func59 Try.ntmps59 rfl rfl rfl ?_
  repeat' first
    | (refine m_box rfl rfl rfl ?_)
    | (apply p1 (hd := rfl); case hop => first | (apply D_move; rfl) | (apply D_assign; rfl) | (apply D_load1; rfl) | (apply D_fld; rfl) | (apply D_pickT; rfl; rfl) | (apply D_pickF; rfl; rfl) | (apply D_int; rfl; rfl; rfl) | (apply D_lenM; rfl) | (apply D_len_sl; rfl) | (apply D_loadW; rfl; rfl) | (apply D_loadA; rfl; rfl) | (apply D_box; rfl; rfl) | (apply D_len_nil; rfl) | (apply D_lit; rfl; rfl; rfl; rfl) | exact D_build rfl | exact D_buildA rfl | exact D_fldB rfl | (apply D_nilB; rfl) | (apply D_nilE; rfl))
    | refine W_seq ?_
    | refine W_region ?_
    | (refine idC ?_; first | refine c1 rfl ?_ | refine c0 rfl ?_ | refine cs rfl (fun _ => ?_) (fun _ => ?_))
    | refine WL_nil ?_
    | (refine idG ?_; first | refine g0t rfl rfl rfl ?_ | refine g0f rfl rfl rfl ?_ | refine g0u rfl rfl rfl ?_ | refine gr rfl rfl ?_ | refine gs rfl rfl (fun _ => ?_) (fun _ => ?_) | refine grn rfl rfl ?_)
    | refine tn ?_
    | refine tr ?_
    | refine br ?_
    | refine bn ?_
    | refine te ?_
    | (refine idB ?_; first | refine bh rfl ?_ | refine bm rfl ?_)
    | refine W_skip ?_
    | refine W_block ?_
    | refine W_exit ?_
    | refine W_ret ?_
    | refine W_label ?_
    | refine W_scope ?_
    | refine sn ?_
    | refine sr ?_
    | refine se ?_
    | (refine idR ?_; first | refine ret2 rfl rfl rfl rfl ?_ ?_ | refine rL2 rfl (by first | exact trivial | exact ⟨rfl, trivial⟩) (by first | exact ResO.tmp rfl | exact ResO.cellBA rfl rfl rfl | exact ResO.cellB1 rfl rfl rfl | exact ResO.cellEA rfl rfl | exact ResO.cellE1 rfl) (by first | exact ResO.tmp rfl | exact ResO.cellBA rfl rfl rfl | exact ResO.cellB1 rfl rfl rfl | exact ResO.cellEA rfl rfl | exact ResO.cellE1 rfl) ?_ ?_)
    | (refine idLd ?_; first | refine p1L (D_loadB1 rfl rfl rfl) rfl ?_ | refine p1L (D_loadBA rfl rfl rfl) rfl ?_ | refine p1L (D_loadB1 rfl (by (repeat first | assumption | exact get_last | (refine get_last2 ?_; focus (simp; done)) | apply get_set | apply get_app | (apply get_ne; focus omega) | (apply get_ne; focus (simp only [List.length_set, List.length_append, List.length_cons, List.length_nil]; omega))); done) (by rfl)) rfl ?_ | refine p1L (D_loadBA rfl (by (repeat first | assumption | exact get_last | (refine get_last2 ?_; focus (simp; done)) | apply get_set | apply get_app | (apply get_ne; focus omega) | (apply get_ne; focus (simp only [List.length_set, List.length_append, List.length_cons, List.length_nil]; omega))); done) (by rfl)) rfl ?_)
    | (refine idA ?_; first | refine m_var rfl rfl rfl rfl rfl rfl rfl ?_ | refine m_alloc rfl ?_)
    | (refine idS ?_; first | refine pS (S_store rfl rfl rfl rfl rfl rfl rfl) ?_ | refine pS (S_store rfl rfl rfl (by (repeat first | assumption | exact get_last | (refine get_last2 ?_; focus (simp; done)) | apply get_set | apply get_app | (apply get_ne; focus omega) | (apply get_ne; focus (simp only [List.length_set, List.length_append, List.length_cons, List.length_nil]; omega))); done) (by rfl) (by rfl) (by rfl)) ?_)
    | refine Le.bool ?_
    | refine Le.int ?_
    | refine Le.str ?_
    | (refine idAp ?_; refine m_app rfl rfl (by first | rfl | assumption | exact get_set (by assumption) | exact get_set (get_set (by assumption)) | exact get_set (get_set (get_set (by assumption))) | ((repeat first | assumption | exact get_last | (refine get_last2 ?_; focus (simp; done)) | apply get_set | apply get_app | (apply get_ne; focus omega)); done)) ?_ rfl rfl ?_ ?_ rfl ?_; (first | rfl | focus (simp only [List.length_map, List.length_append, List.length_cons, List.length_nil]; omega) | focus (simp; done) | focus (simp; omega)); (first | focus (simp only [List.length_map, List.length_append, List.length_cons, List.length_nil]; omega) | focus (simp; done) | focus (simp; omega)); (first | focus (simp only [List.length_map, List.length_append, List.length_cons, List.length_nil]; omega) | focus (simp; done) | focus (simp; omega)))
    | (refine idAp ?_; refine m_appB rfl rfl rfl (by first | rfl | assumption | exact get_set (by assumption) | exact get_set (get_set (by assumption)) | exact get_set (get_set (get_set (by assumption))) | ((repeat first | assumption | exact get_last | (refine get_last2 ?_; focus (simp; done)) | apply get_set | apply get_app | (apply get_ne; focus omega)); done)) ?_ rfl rfl ?_ ?_ rfl ?_; (first | rfl | focus (simp only [List.length_map, List.length_append, List.length_cons, List.length_nil]; omega) | focus (simp; done) | focus (simp; omega)); (first | focus (simp only [List.length_map, List.length_append, List.length_cons, List.length_nil]; omega) | focus (simp; done) | focus (simp; omega)); (first | focus (simp only [List.length_map, List.length_append, List.length_cons, List.length_nil]; omega) | focus (simp; done) | focus (simp; omega)))
    | (refine m_call (d := 14) (rparts_pc 0 ks) rfl rfl rfl ?_; rintro _ _ ⟨rfl, rfl⟩)
  refine W_adoptC 1 0 5 37 rfl rfl ?_
  refine W_range (.inl rfl) fun r => ?_
  refine AC.mono (rparts1_acX ks 0 r (fun out s => [rdS s, .cells [.sl (some 2) 5 (out.map pC)], .tail out.length 5 37, _, _]) (s0 := (b, false)) rfl hl hks (fun _ _ => rfl) (fun _ _ _ => rfl) ?_) ?_
  · intro out p s ex hlt
    refine YW.round (r := 4) rfl rfl rfl ?_
    repeat' first
      | (apply p1 (hd := rfl); case hop => first | (apply D_move; rfl) | (apply D_assign; rfl) | (apply D_load1; rfl) | (apply D_fld; rfl) | (apply D_pickT; rfl; rfl) | (apply D_pickF; rfl; rfl) | (apply D_int; rfl; rfl; rfl) | (apply D_lenM; rfl) | (apply D_len_sl; rfl) | (apply D_loadW; rfl; rfl) | (apply D_loadA; rfl; rfl) | (apply D_box; rfl; rfl) | (apply D_len_nil; rfl) | (apply D_lit; rfl; rfl; rfl; rfl) | exact D_build rfl | exact D_buildA rfl | exact D_fldB rfl | (apply D_nilB; rfl) | (apply D_nilE; rfl))
      | refine W_seq ?_
      | refine W_region ?_
      | (refine idC ?_; first | refine c1 rfl ?_ | refine c0 rfl ?_ | refine cs rfl (fun _ => ?_) (fun _ => ?_))
      | refine WL_nil ?_
      | (refine idG ?_; first | refine g0t rfl rfl rfl ?_ | refine g0f rfl rfl rfl ?_ | refine g0u rfl rfl rfl ?_ | refine gr rfl rfl ?_ | refine gs rfl rfl (fun _ => ?_) (fun _ => ?_) | refine grn rfl rfl ?_)
      | refine tn ?_
      | refine tr ?_
      | refine br ?_
      | refine bn ?_
      | refine te ?_
      | (refine idB ?_; first | refine bh rfl ?_ | refine bm rfl ?_)
      | refine W_skip ?_
      | refine W_block ?_
      | refine W_exit ?_
      | refine W_ret ?_
      | refine W_label ?_
      | refine W_scope ?_
      | refine sn ?_
      | refine sr ?_
      | refine se ?_
      | (refine idR ?_; first | refine ret2 rfl rfl rfl rfl ?_ ?_ | refine rL2 rfl (by first | exact trivial | exact ⟨rfl, trivial⟩) (by first | exact ResO.tmp rfl | exact ResO.cellBA rfl rfl rfl | exact ResO.cellB1 rfl rfl rfl | exact ResO.cellEA rfl rfl | exact ResO.cellE1 rfl) (by first | exact ResO.tmp rfl | exact ResO.cellBA rfl rfl rfl | exact ResO.cellB1 rfl rfl rfl | exact ResO.cellEA rfl rfl | exact ResO.cellE1 rfl) ?_ ?_)
      | (refine idLd ?_; first | refine p1L (D_loadB1 rfl rfl rfl) rfl ?_ | refine p1L (D_loadBA rfl rfl rfl) rfl ?_ | refine p1L (D_loadB1 rfl (by (repeat first | assumption | exact get_last | (refine get_last2 ?_; focus (simp; done)) | apply get_set | apply get_app | (apply get_ne; focus omega) | (apply get_ne; focus (simp only [List.length_set, List.length_append, List.length_cons, List.length_nil]; omega))); done) (by rfl)) rfl ?_ | refine p1L (D_loadBA rfl (by (repeat first | assumption | exact get_last | (refine get_last2 ?_; focus (simp; done)) | apply get_set | apply get_app | (apply get_ne; focus omega) | (apply get_ne; focus (simp only [List.length_set, List.length_append, List.length_cons, List.length_nil]; omega))); done) (by rfl)) rfl ?_)
      | (refine idA ?_; first | refine m_var rfl rfl rfl rfl rfl rfl rfl ?_ | refine m_alloc rfl ?_)
      | (refine idS ?_; first | refine pS (S_store rfl rfl rfl rfl rfl rfl rfl) ?_ | refine pS (S_store rfl rfl rfl (by (repeat first | assumption | exact get_last | (refine get_last2 ?_; focus (simp; done)) | apply get_set | apply get_app | (apply get_ne; focus omega) | (apply get_ne; focus (simp only [List.length_set, List.length_append, List.length_cons, List.length_nil]; omega))); done) (by rfl) (by rfl) (by rfl)) ?_)
      | refine Le.bool ?_
      | refine Le.int ?_
      | refine Le.str ?_
      | (refine idAp ?_; refine m_app rfl rfl (by first | rfl | assumption | exact get_set (by assumption) | exact get_set (get_set (by assumption)) | exact get_set (get_set (get_set (by assumption))) | ((repeat first | assumption | exact get_last | (refine get_last2 ?_; focus (simp; done)) | apply get_set | apply get_app | (apply get_ne; focus omega)); done)) ?_ rfl rfl ?_ ?_ rfl ?_; (first | rfl | focus (simp only [List.length_map, List.length_append, List.length_cons, List.length_nil]; omega) | focus (simp; done) | focus (simp; omega)); (first | focus (simp only [List.length_map, List.length_append, List.length_cons, List.length_nil]; omega) | focus (simp; done) | focus (simp; omega)); (first | focus (simp only [List.length_map, List.length_append, List.length_cons, List.length_nil]; omega) | focus (simp; done) | focus (simp; omega)))
      | (refine idAp ?_; refine m_appB rfl rfl rfl (by first | rfl | assumption | exact get_set (by assumption) | exact get_set (get_set (by assumption)) | exact get_set (get_set (get_set (by assumption))) | ((repeat first | assumption | exact get_last | (refine get_last2 ?_; focus (simp; done)) | apply get_set | apply get_app | (apply get_ne; focus omega)); done)) ?_ rfl rfl ?_ ?_ rfl ?_; (first | rfl | focus (simp only [List.length_map, List.length_append, List.length_cons, List.length_nil]; omega) | focus (simp; done) | focus (simp; omega)); (first | focus (simp only [List.length_map, List.length_append, List.length_cons, List.length_nil]; omega) | focus (simp; done) | focus (simp; omega)); (first | focus (simp only [List.length_map, List.length_append, List.length_cons, List.length_nil]; omega) | focus (simp; done) | focus (simp; omega)))
    refine ⟨rfl, rfl, ?_⟩
    repeat' first
      | (apply p1 (hd := rfl); case hop => first | (apply D_move; rfl) | (apply D_assign; rfl) | (apply D_load1; rfl) | (apply D_fld; rfl) | (apply D_pickT; rfl; rfl) | (apply D_pickF; rfl; rfl) | (apply D_int; rfl; rfl; rfl) | (apply D_lenM; rfl) | (apply D_len_sl; rfl) | (apply D_loadW; rfl; rfl) | (apply D_loadA; rfl; rfl) | (apply D_box; rfl; rfl) | (apply D_len_nil; rfl) | (apply D_lit; rfl; rfl; rfl; rfl) | exact D_build rfl | exact D_buildA rfl | exact D_fldB rfl | (apply D_nilB; rfl) | (apply D_nilE; rfl))
      | refine W_seq ?_
      | refine W_region ?_
      | (refine idC ?_; first | refine c1 rfl ?_ | refine c0 rfl ?_ | refine cs rfl (fun _ => ?_) (fun _ => ?_))
      | refine WL_nil ?_
      | (refine idG ?_; first | refine g0t rfl rfl rfl ?_ | refine g0f rfl rfl rfl ?_ | refine g0u rfl rfl rfl ?_ | refine gr rfl rfl ?_ | refine gs rfl rfl (fun _ => ?_) (fun _ => ?_) | refine grn rfl rfl ?_)
      | refine tn ?_
      | refine tr ?_
      | refine br ?_
      | refine bn ?_
      | refine te ?_
      | (refine idB ?_; first | refine bh rfl ?_ | refine bm rfl ?_)
      | refine W_skip ?_
      | refine W_block ?_
      | refine W_exit ?_
      | refine W_ret ?_
      | refine W_label ?_
      | refine W_scope ?_
      | refine sn ?_
      | refine sr ?_
      | refine se ?_
      | (refine idR ?_; first | refine ret2 rfl rfl rfl rfl ?_ ?_ | refine rL2 rfl (by first | exact trivial | exact ⟨rfl, trivial⟩) (by first | exact ResO.tmp rfl | exact ResO.cellBA rfl rfl rfl | exact ResO.cellB1 rfl rfl rfl | exact ResO.cellEA rfl rfl | exact ResO.cellE1 rfl) (by first | exact ResO.tmp rfl | exact ResO.cellBA rfl rfl rfl | exact ResO.cellB1 rfl rfl rfl | exact ResO.cellEA rfl rfl | exact ResO.cellE1 rfl) ?_ ?_)
      | (refine idLd ?_; first | refine p1L (D_loadB1 rfl rfl rfl) rfl ?_ | refine p1L (D_loadBA rfl rfl rfl) rfl ?_ | refine p1L (D_loadB1 rfl (by (repeat first | assumption | exact get_last | (refine get_last2 ?_; focus (simp; done)) | apply get_set | apply get_app | (apply get_ne; focus omega) | (apply get_ne; focus (simp only [List.length_set, List.length_append, List.length_cons, List.length_nil]; omega))); done) (by rfl)) rfl ?_ | refine p1L (D_loadBA rfl (by (repeat first | assumption | exact get_last | (refine get_last2 ?_; focus (simp; done)) | apply get_set | apply get_app | (apply get_ne; focus omega) | (apply get_ne; focus (simp only [List.length_set, List.length_append, List.length_cons, List.length_nil]; omega))); done) (by rfl)) rfl ?_)
      | (refine idA ?_; first | refine m_var rfl rfl rfl rfl rfl rfl rfl ?_ | refine m_alloc rfl ?_)
      | (refine idS ?_; first | refine pS (S_store rfl rfl rfl rfl rfl rfl rfl) ?_ | refine pS (S_store rfl rfl rfl (by (repeat first | assumption | exact get_last | (refine get_last2 ?_; focus (simp; done)) | apply get_set | apply get_app | (apply get_ne; focus omega) | (apply get_ne; focus (simp only [List.length_set, List.length_append, List.length_cons, List.length_nil]; omega))); done) (by rfl) (by rfl) (by rfl)) ?_)
      | refine Le.bool ?_
      | refine Le.int ?_
      | refine Le.str ?_
      | (refine idAp ?_; refine m_app rfl rfl (by first | rfl | assumption | exact get_set (by assumption) | exact get_set (get_set (by assumption)) | exact get_set (get_set (get_set (by assumption))) | ((repeat first | assumption | exact get_last | (refine get_last2 ?_; focus (simp; done)) | apply get_set | apply get_app | (apply get_ne; focus omega)); done)) ?_ rfl rfl ?_ ?_ rfl ?_; (first | rfl | focus (simp only [List.length_map, List.length_append, List.length_cons, List.length_nil]; omega) | focus (simp; done) | focus (simp; omega)); (first | focus (simp only [List.length_map, List.length_append, List.length_cons, List.length_nil]; omega) | focus (simp; done) | focus (simp; omega)); (first | focus (simp only [List.length_map, List.length_append, List.length_cons, List.length_nil]; omega) | focus (simp; done) | focus (simp; omega)))
      | (refine idAp ?_; refine m_appB rfl rfl rfl (by first | rfl | assumption | exact get_set (by assumption) | exact get_set (get_set (by assumption)) | exact get_set (get_set (get_set (by assumption))) | ((repeat first | assumption | exact get_last | (refine get_last2 ?_; focus (simp; done)) | apply get_set | apply get_app | (apply get_ne; focus omega)); done)) ?_ rfl rfl ?_ ?_ rfl ?_; (first | rfl | focus (simp only [List.length_map, List.length_append, List.length_cons, List.length_nil]; omega) | focus (simp; done) | focus (simp; omega)); (first | focus (simp only [List.length_map, List.length_append, List.length_cons, List.length_nil]; omega) | focus (simp; done) | focus (simp; omega)); (first | focus (simp only [List.length_map, List.length_append, List.length_cons, List.length_nil]; omega) | focus (simp; done) | focus (simp; omega)))
    refine ⟨rfl, ⟨_, _, rfl⟩, ⟨rfl, ex, congr5 ?_ ?_⟩⟩
    · simp
    · simp
  · rintro _ h' ⟨ex, rfl⟩
    generalize hR : rdAll ks (b, false) = R at *
    obtain ⟨out, b', bad'⟩ := R
    refine ⟨_, _, rfl, by decide, ?_⟩
    repeat' first
      | (apply p1 (hd := rfl); case hop => first | (apply D_move; rfl) | (apply D_assign; rfl) | (apply D_load1; rfl) | (apply D_fld; rfl) | (apply D_pickT; rfl; rfl) | (apply D_pickF; rfl; rfl) | (apply D_int; rfl; rfl; rfl) | (apply D_lenM; rfl) | (apply D_len_sl; rfl) | (apply D_loadW; rfl; rfl) | (apply D_loadA; rfl; rfl) | (apply D_box; rfl; rfl) | (apply D_len_nil; rfl) | (apply D_lit; rfl; rfl; rfl; rfl) | exact D_build rfl | exact D_buildA rfl | exact D_fldB rfl | (apply D_nilB; rfl) | (apply D_nilE; rfl))
      | refine W_seq ?_
      | refine W_region ?_
      | (refine idC ?_; first | refine c1 rfl ?_ | refine c0 rfl ?_ | refine cs rfl (fun _ => ?_) (fun _ => ?_))
      | refine WL_nil ?_
      | (refine idG ?_; first | refine g0t rfl rfl rfl ?_ | refine g0f rfl rfl rfl ?_ | refine g0u rfl rfl rfl ?_ | refine gr rfl rfl ?_ | refine gs rfl rfl (fun _ => ?_) (fun _ => ?_) | refine grn rfl rfl ?_)
      | refine tn ?_
      | refine tr ?_
      | refine br ?_
      | refine bn ?_
      | refine te ?_
      | (refine idB ?_; first | refine bh rfl ?_ | refine bm rfl ?_)
      | refine W_skip ?_
      | refine W_block ?_
      | refine W_exit ?_
      | refine W_ret ?_
      | refine W_label ?_
      | refine W_scope ?_
      | refine sn ?_
      | refine sr ?_
      | refine se ?_
      | (refine idR ?_; first | refine ret2 rfl rfl rfl rfl ?_ ?_ | refine rL2 rfl (by first | exact trivial | exact ⟨rfl, trivial⟩) (by first | exact ResO.tmp rfl | exact ResO.cellBA rfl rfl rfl | exact ResO.cellB1 rfl rfl rfl | exact ResO.cellEA rfl rfl | exact ResO.cellE1 rfl) (by first | exact ResO.tmp rfl | exact ResO.cellBA rfl rfl rfl | exact ResO.cellB1 rfl rfl rfl | exact ResO.cellEA rfl rfl | exact ResO.cellE1 rfl) ?_ ?_)
      | (refine idLd ?_; first | refine p1L (D_loadB1 rfl rfl rfl) rfl ?_ | refine p1L (D_loadBA rfl rfl rfl) rfl ?_ | refine p1L (D_loadB1 rfl (by (repeat first | assumption | exact get_last | (refine get_last2 ?_; focus (simp; done)) | apply get_set | apply get_app | (apply get_ne; focus omega) | (apply get_ne; focus (simp only [List.length_set, List.length_append, List.length_cons, List.length_nil]; omega))); done) (by rfl)) rfl ?_ | refine p1L (D_loadBA rfl (by (repeat first | assumption | exact get_last | (refine get_last2 ?_; focus (simp; done)) | apply get_set | apply get_app | (apply get_ne; focus omega) | (apply get_ne; focus (simp only [List.length_set, List.length_append, List.length_cons, List.length_nil]; omega))); done) (by rfl)) rfl ?_)
      | (refine idA ?_; first | refine m_var rfl rfl rfl rfl rfl rfl rfl ?_ | refine m_alloc rfl ?_)
      | (refine idS ?_; first | refine pS (S_store rfl rfl rfl rfl rfl rfl rfl) ?_ | refine pS (S_store rfl rfl rfl (by (repeat first | assumption | exact get_last | (refine get_last2 ?_; focus (simp; done)) | apply get_set | apply get_app | (apply get_ne; focus omega) | (apply get_ne; focus (simp only [List.length_set, List.length_append, List.length_cons, List.length_nil]; omega))); done) (by rfl) (by rfl) (by rfl)) ?_)
      | refine Le.bool ?_
      | refine Le.int ?_
      | refine Le.str ?_
      | (refine idAp ?_; refine m_app rfl rfl (by first | rfl | assumption | exact get_set (by assumption) | exact get_set (get_set (by assumption)) | exact get_set (get_set (get_set (by assumption))) | ((repeat first | assumption | exact get_last | (refine get_last2 ?_; focus (simp; done)) | apply get_set | apply get_app | (apply get_ne; focus omega)); done)) ?_ rfl rfl ?_ ?_ rfl ?_; (first | rfl | focus (simp only [List.length_map, List.length_append, List.length_cons, List.length_nil]; omega) | focus (simp; done) | focus (simp; omega)); (first | focus (simp only [List.length_map, List.length_append, List.length_cons, List.length_nil]; omega) | focus (simp; done) | focus (simp; omega)); (first | focus (simp only [List.length_map, List.length_append, List.length_cons, List.length_nil]; omega) | focus (simp; done) | focus (simp; omega)))
      | (refine idAp ?_; refine m_appB rfl rfl rfl (by first | rfl | assumption | exact get_set (by assumption) | exact get_set (get_set (by assumption)) | exact get_set (get_set (get_set (by assumption))) | ((repeat first | assumption | exact get_last | (refine get_last2 ?_; focus (simp; done)) | apply get_set | apply get_app | (apply get_ne; focus omega)); done)) ?_ rfl rfl ?_ ?_ rfl ?_; (first | rfl | focus (simp only [List.length_map, List.length_append, List.length_cons, List.length_nil]; omega) | focus (simp; done) | focus (simp; omega)); (first | focus (simp only [List.length_map, List.length_append, List.length_cons, List.length_nil]; omega) | focus (simp; done) | focus (simp; omega)); (first | focus (simp only [List.length_map, List.length_append, List.length_cons, List.length_nil]; omega) | focus (simp; done) | focus (simp; omega)))
    all_goals simp only at *
    · have hn : ¬ rdOK ks b := fun h => by have := h.1; rw [hR] at this; simp_all
      rw [rdL, if_neg hn]; exact Le.nil rfl
    · have hn : ¬ rdOK ks b := fun h => by have := h.1; rw [hR] at this; simp_all
      rw [rdE, if_neg hn]
    · have hn : ¬ rdOK ks b := fun h => by have := h.2; rw [hR] at this; simp only at this; omega
      rw [rdL, if_neg hn]; exact Le.nil rfl
    · have hn : ¬ rdOK ks b := fun h => by have := h.2; rw [hR] at this; simp only at this; omega
      rw [rdE, if_neg hn]
    · have hn : rdOK ks b := by rw [rdOK, hR]; simp only; exact ⟨by assumption, by omega⟩
      rw [rdL, if_pos hn, hR]; exact Le.tokq rfl
    · have hn : rdOK ks b := by rw [rdOK, hR]; simp only; exact ⟨by assumption, by omega⟩
      rw [rdE, if_pos hn]
end Go.Proofs
