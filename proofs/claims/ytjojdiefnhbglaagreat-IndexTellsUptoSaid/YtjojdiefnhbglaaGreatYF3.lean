/- Contracts of the document's facts: folded, at an instant. -/
import Derived.Test.YtjojdiefnhbglaaGreatYF2
set_option linter.all false
namespace Go.Proofs
open Go.AL Go.Sort
attribute [local irreducible] Go.AL.W Go.AL.WL Go.AL.WD Go.AL.POp Go.AL.PPOp Go.AL.POpS Go.AL.PC Go.AL.AC Go.AL.YW Go.AL.Ret Go.AL.Le Go.AL.thn Go.AL.inBlk Go.AL.scp
instance (p : Prop) : BP (dP p) p (¬ p):=⟨fun h=>by rwa [dP_t] at h,fun h=>by rwa [dP_f] at h⟩
instance (s : List UInt8) : BP (wordB s) (WordP s) (¬ WordP s):=⟨fun h=>by unfold wordB at h;simpa using h,fun h=>by unfold wordB at h;simpa using h⟩
instance (v : Val) : BP (mayB v) (MayP v) (¬ MayP v):=⟨fun h=>by unfold mayB at h;rwa [dP_t] at h,fun h=>by unfold mayB at h;rwa [dP_f] at h⟩
instance : Xt Tryz.prog 252 Extern.BytealgCompare.compare:=⟨run_callFunc_extern Tryz.func252 (by kernel_rfl) (by kernel_rfl) (by kernel_rfl) (by kernel_rfl)⟩
instance : Inhabited Sp:=⟨⟨0,0⟩⟩
theorem pts_mem : ∀ (l : List Sp) (s : Sp),s ∈ l → s.f ∈ ptsL l ∧ s.t ∈ ptsL l
  | r :: l,s,h=>by
    rcases List.mem_cons.1 h with rfl|h
    · simp [ptsL]
    · have:=pts_mem l s h;simp [ptsL,this]
theorem ends_mem (l : List Sp) (n : Int) : n ∈ endsL l ↔ n ∈ ptsL l:=by
  unfold endsL insL
  rw [fold_sortC wc_int cmpI_zz,sortC_mem]
theorem ends_rise (l : List Sp) : (endsL l).Pairwise (· < ·):=by
  have h : Rise cmpI (endsL l):=by
    unfold endsL insL
    rw [fold_sortC wc_int cmpI_zz];exact sortC_rise wc_int cmpI_zz _
  exact h.imp fun {a b} h=>by unfold cmpI at h;split at h <;> (try split at h) <;> omega
theorem ofL_gen (w : Int) (a b : List Sp) {C : Prop → Prop → Prop} (hsel : ∀ v,selB w a b v = true ↔ C (inS a v) (inS b v)) (h0 : ∀ p q,C p q → p ∨ q) (hC : ∀ p q p' q',(p ↔ p') → (q ↔ q') → C p q → C p' q') :
    SetP (ofL w a b) ∧ ∀ x,inS (ofL w a b) x ↔ C (inS a x) (inS b x):=by
  refine of_ok (g:=gE (a ++ b)) (n:=(endsL (a ++ b)).length) (fun i j hij hj=>?_) (fun s hs=>?_) hsel h0 hC
  · rw [gE_at hj,gE_at (by omega)]
    exact List.pairwise_iff_getElem.1 (ends_rise (a ++ b)) i j (by omega) hj hij
  · obtain ⟨h1,h2⟩:=pts_mem (a ++ b) s hs
    obtain ⟨k,hk,e⟩:=List.getElem_of_mem ((ends_mem _ _).2 h1)
    obtain ⟨m,hm,e2⟩:=List.getElem_of_mem ((ends_mem _ _).2 h2)
    exact ⟨⟨k,hk,by rw [gE_at hk,e]⟩,m,hm,by rw [gE_at hm,e2]⟩
theorem ofL_ok0 (a b : List Sp) : SetP (ofL 0 a b) ∧ ∀ x,inS (ofL 0 a b) x ↔ (inS a x ∨ inS b x) :=
  ofL_gen 0 a b (C:=fun p q=>p ∨ q) (fun v=>by simp [selB,dP_t]) (fun _ _ h=>h) (fun p q p' q' h1 h2 h=>by rwa [← h1,← h2])
theorem ofL_ok2 (a b : List Sp) : SetP (ofL 2 a b) ∧ ∀ x,inS (ofL 2 a b) x ↔ (inS a x ∧ ¬ inS b x) :=
  ofL_gen 2 a b (C:=fun p q=>p ∧ ¬ q) (fun v=>by simp [selB,dP_t,dP_f]) (fun _ _ h=>.inl h.1) (fun p q p' q' h1 h2 h=>by rwa [← h1,← h2])
noncomputable instance : DecidableEq Val:=fun _ _=>Classical.propDecidable _
instance : Inhabited Dat:=⟨dat0⟩
instance : Inhabited Val:=⟨val0⟩
instance : Inhabited Dat:=⟨dat0⟩
noncomputable instance : DecidableEq Dat:=fun _ _=>Classical.propDecidable _
noncomputable instance : DecidableEq Val:=fun _ _=>Classical.propDecidable _
instance : Inhabited Val:=⟨val0⟩
instance : Inhabited Dat:=⟨dat0⟩
noncomputable instance : DecidableEq Dat:=fun _ _=>Classical.propDecidable _
theorem insC_sub {α : Type} {c : α → α → Int} (x : α) : ∀ (l : List α) (z : α),z ∈ insC c x l → z = x ∨ z ∈ l
  | [],z,h=>.inl (by simpa [insC] using h)
  | y :: t,z,h=>by
    simp only [insC] at h
    split at h
    · rcases List.mem_cons.1 h with h|h
      · exact .inr (by simp [h])
      · exact (insC_sub x t z h).imp id fun h=>List.mem_cons_of_mem _ h
    · split at h
      · exact .inr h
      · exact List.mem_cons.1 h
theorem insC_sup {α : Type} {c : α → α → Int} (x : α) : ∀ (l : List α) (z : α),z ∈ l → z ∈ insC c x l
  | [],z,h=>by simp at h
  | y :: t,z,h=>by
    simp only [insC]
    split
    · rcases List.mem_cons.1 h with h|h
      · exact List.mem_cons.2 (.inl h)
      · exact List.mem_cons_of_mem _ (insC_sup x t z h)
    · split
      · exact h
      · exact List.mem_cons_of_mem _ h
theorem insC_has {α : Type} {c : α → α → Int} (hw : WC c) (x : α) : ∀ (l : List α),∃ z,z ∈ insC c x l ∧ c z x = 0
  | []=>⟨x,by simp [insC],hw.refl x⟩
  | y :: t=>by
    simp only [insC]
    split
    · obtain ⟨z,h1,h2⟩:=insC_has hw x t
      exact ⟨z,List.mem_cons_of_mem _ h1,h2⟩
    · split
      · rename_i h;exact ⟨y,List.mem_cons_self,h⟩
      · exact ⟨x,List.mem_cons_self,hw.refl x⟩
theorem insC_riseW {α : Type} {c : α → α → Int} (h : WC c) (x : α) : ∀ {l : List α},Rise c l → Rise c (insC c x l)
  | [],_=>List.pairwise_singleton _ _
  | y :: t,hr=>by
    unfold Rise at *
    have hr':=List.pairwise_cons.1 hr
    simp only [insC]
    split
    · rename_i hlt
      refine List.pairwise_cons.2 ⟨fun z hzm=>?_,insC_riseW h x hr'.2⟩
      rcases insC_sub x t z hzm with e|e
      · subst e;exact hlt
      · exact hr'.1 z e
    · rename_i h1
      split
      · exact hr
      · rename_i h2
        have hxy : c x y < 0:=(h.anti x y).2 (by omega)
        refine List.pairwise_cons.2 ⟨fun z hzm=>?_,hr⟩
        simp only [List.mem_cons] at hzm
        rcases hzm with e|e
        · subst e;exact hxy
        · have:=hr'.1 z e
          exact h.lt (by omega) (by omega) (.inl hxy)
theorem count2 {α : Type} {p q r : α → Bool} : ∀ (l : List α),(∀ x,x ∈ l → p x = true → r x = true ∧ q x = false) → (∀ x,x ∈ l → q x = true → r x = true) → (l.filter p).length + (l.filter q).length ≤ (l.filter r).length
  | [],_,_=>by simp
  | a :: l,h1,h2=>by
    have ih:=count2 l (fun x hx=>h1 x (List.mem_cons_of_mem _ hx)) (fun x hx=>h2 x (List.mem_cons_of_mem _ hx))
    have k1:=h1 a List.mem_cons_self
    have k2:=h2 a List.mem_cons_self
    simp only [List.filter_cons]
    cases hp : p a <;> cases hq : q a <;> cases hr : r a <;> simp_all <;> omega
theorem filter_full {α : Type} {p : α → Bool} : ∀ (l : List α),l.length ≤ (l.filter p).length → ∀ x,x ∈ l → p x = true
  | [],_,x,hx=>by simp at hx
  | a :: l,h,x,hx=>by
    have hle:=List.length_filter_le p l
    simp only [List.filter_cons] at h
    cases hp : p a with
    | false=>simp [hp] at h;omega
    | true =>
      simp [hp] at h
      rcases List.mem_cons.1 hx with e|e
      · subst e;exact hp
      · exact filter_full l h x e
open Classical in
noncomputable def likeT (l : List Dat) (d : Dat) (t : Int) : List Dat:=l.filter fun e=>decide (alP e d ∧ e.t = t)
open Classical in
noncomputable def cntT (l : List Dat) (d : Dat) (t : Int) : Nat:=(l.filter fun e=>decide (alP e d → e.t ≤ t)).length
open Classical in
theorem likeT_mem {l : List Dat} {d : Dat} {t : Int} {e : Dat} : e ∈ likeT l d t ↔ e ∈ l ∧ alP e d ∧ e.t = t:=by
  unfold likeT;rw [List.mem_filter,decide_eq_true_eq]
open Classical in
noncomputable def nextS (d : Dat) (t out : Int) (e : Dat) : Int:=if alP e d ∧ t < e.t ∧ (out = 0 ∨ e.t < out) then e.t else out
noncomputable def nextT (l : List Dat) (d : Dat) (t : Int) : Int:=l.foldl (nextS d t) 0
theorem nextL_take (l : List Dat) (d : Dat) (t : Int) (i : Nat) (h : i < l.length) : nextT (l.take (i + 1)) d t = nextS d t (nextT (l.take i) d t) l[i]:=by
  unfold nextT
  rw [List.take_succ_eq_append_getElem h,List.foldl_append];rfl
def nextP (l : List Dat) (d : Dat) (t o : Int) : Prop:=(o = 0 ∧ ∀ e,e ∈ l → alP e d → e.t ≤ t) ∨ (t < o ∧ (∃ e,e ∈ l ∧ alP e d ∧ e.t = o) ∧ ∀ e,e ∈ l → alP e d → t < e.t → o ≤ e.t)
theorem nextL_ok {l : List Dat} (d : Dat) {t : Int} (ht : 0 ≤ t) : nextP l d t (nextT l d t):=by
  have key : ∀ (m n : List Dat),nextP n d t (n.foldl (nextS d t) 0) → nextP (n ++ m) d t ((n ++ m).foldl (nextS d t) 0):=by
    intro m
    induction m with
    | nil=>intro n h;rwa [List.append_nil]
    | cons e m ih =>
      intro n h
      have := ih (n ++ [e]) (by
        rw [List.foldl_append]
        show nextP (n ++ [e]) d t (nextS d t (n.foldl (nextS d t) 0) e)
        generalize n.foldl (nextS d t) 0 = o at *
        unfold nextS
        split
        · rename_i hc
          refine .inr ⟨hc.2.1,⟨e,by simp,hc.1,rfl⟩,fun e' he' ha ht'=>?_⟩
          rcases List.mem_append.1 he' with k|k
          · rcases h with ⟨h1,h2⟩ | ⟨h1,h2,h3⟩
            · have:=h2 e' k ha;omega
            · have:=h3 e' k ha ht'
              rcases hc.2.2 with h|h <;> omega
          · rw [List.mem_singleton.1 k];exact Int.le_refl _
        · rename_i hc
          rcases h with ⟨h1,h2⟩ | ⟨h1,⟨e0,h2,h2'⟩,h3⟩
          · refine .inl ⟨h1,fun e' he' ha=>?_⟩
            rcases List.mem_append.1 he' with k|k
            · exact h2 e' k ha
            · rw [List.mem_singleton.1 k] at ha ⊢
              exact Int.not_lt.1 fun hlt=>hc ⟨ha,hlt,.inl h1⟩
          · refine .inr ⟨h1,⟨e0,List.mem_append_left _ h2,h2'⟩,fun e' he' ha ht'=>?_⟩
            rcases List.mem_append.1 he' with k|k
            · exact h3 e' k ha ht'
            · rw [List.mem_singleton.1 k] at ha ht' ⊢
              exact Int.not_lt.1 fun hlt=>hc ⟨ha,ht',.inr hlt⟩)
      rwa [List.append_assoc] at this
  have:=key l [] (.inl ⟨rfl,fun e he=>by simp at he⟩)
  rwa [List.nil_append] at this
noncomputable def refI (l : List Dat) (d : Dat) : Nat → Int → List Sp → List Sp
  | 0,_,S=>S
  | n + 1,t,S=>if 0 < t then refI l d n (nextT l d t) (tnL S (likeT l d t)) else S
noncomputable def refSp (l : List Dat) (d : Dat) : List Sp:=refI l d l.length (nextT l d 0) []
noncomputable def refStep (l : List Dat) (out : List Fac) (d : Dat) : List Fac:=if 0 < (refSp l d).length then insC cmpF ⟨d.e,d.a,d.v,refSp l d⟩ out else out
noncomputable def refF (l m : List Dat) : List Fac:=m.foldl (refStep l) []
theorem refF_take (l m : List Dat) (i : Nat) (h : i < m.length) : refF l (m.take (i + 1)) = refStep l (refF l (m.take i)) m[i]:=by
  unfold refF
  rw [List.take_succ_eq_append_getElem h,List.foldl_append];rfl
theorem refF_len (l m : List Dat) : (refF l m).length ≤ m.length:=by
  have key : ∀ (m : List Dat) (o : List Fac),(m.foldl (refStep l) o).length ≤ o.length + m.length:=by
    intro m
    induction m with
    | nil=>intro o;simp
    | cons d m ih =>
      intro o
      have h1:=ih (refStep l o d)
      have h2 : (refStep l o d).length ≤ o.length + 1:=by
        unfold refStep
        split
        · exact insC_len _ _ _
        · omega
      simp only [List.foldl_cons,List.length_cons];omega
  have:=key m []
  simpa [refF] using this
theorem likeT_ok {l : List Dat} (h : okD l) (d : Dat) (t : Int) : okD (likeT l d t):=fun e he=>h e (likeT_mem.1 he).1
theorem likeT_rg {l : List Dat} (h : rgD l) (d : Dat) (t : Int) : rgD (likeT l d t):=fun e he=>h e (likeT_mem.1 he).1
open Classical in
theorem cnt_step (l : List Dat) (d : Dat) {tp t : Int} (h : tp < t) : cntT l d tp + (likeT l d t).length ≤ cntT l d t:=by
  unfold cntT likeT
  refine count2 l (fun x _ hx=>?_) fun x _ hx=>?_
  · simp only [decide_eq_true_eq,decide_eq_false_iff_not] at hx ⊢
    exact ⟨fun ha=>by have:=hx ha;omega,fun hq=>by have:=hx hq.1;omega⟩
  · simp only [decide_eq_true_eq] at hx ⊢
    exact fun _=>by omega
open Classical in
theorem cnt_full {l : List Dat} {d : Dat} {t : Int} (h : l.length ≤ cntT l d t) : ∀ e,e ∈ l → alP e d → e.t ≤ t:=fun e he=>by
  exact of_decide_eq_true (filter_full l h e he)
theorem cnt_le (l : List Dat) (d : Dat) (t : Int) : cntT l d t ≤ l.length:=List.length_filter_le _ _
def holdT (l : List Dat) (d : Dat) (tp y : Int) : Prop:=∃ e,e ∈ l ∧ alP e d ∧ e.t ≤ tp ∧ e.add = true ∧ covD e y ∧ ∀ e',e' ∈ l → alP e' d → e'.t ≤ tp → covD e' y → e'.t ≤ e.t
theorem holdT_full {l : List Dat} {d : Dat} {tp : Int} (h : ∀ e,e ∈ l → alP e d → e.t ≤ tp) (y : Int) : holdT l d tp y ↔ holdK l (keyF d) y:=by
  unfold holdT holdK
  constructor
  · rintro ⟨e,h1,h2,_,h4,h5,h6⟩
    exact ⟨e,h1,alP_iff.1 h2,h4,h5,fun e' k1 k2 k3=>h6 e' k1 (alP_iff.2 k2) (h e' k1 (alP_iff.2 k2)) k3⟩
  · rintro ⟨e,h1,h2,h4,h5,h6⟩
    exact ⟨e,h1,alP_iff.2 h2,h e h1 (alP_iff.2 h2),h4,h5,fun e' k1 k2 _ k3=>h6 e' k1 (alP_iff.1 k2) k3⟩
theorem hold_step {l : List Dat} (hc : ¬ confK l) (d : Dat) {tp t : Int} (h1 : tp < t) (h3 : ∀ e,e ∈ l → alP e d → tp < e.t → t ≤ e.t) (y : Int) :
    ((holdT l d tp y ∨ inS (saidL (likeT l d t) true) y) ∧ ¬ inS (saidL (likeT l d t) false) y) ↔ holdT l d t y:=by
  rw [inSaid,inSaid]
  constructor
  · rintro ⟨hh,hno⟩
    by_cases hin : ∃ e,e ∈ likeT l d t ∧ e.add = true ∧ covD e y
    · obtain ⟨e,he,k1,k2⟩:=hin
      obtain ⟨m1,m2,m3⟩:=likeT_mem.1 he
      exact ⟨e,m1,m2,by omega,k1,k2,fun e' _ _ h _=>by omega⟩
    · obtain ⟨e,m1,m2,m3,k1,k2,k3⟩:=hh.resolve_right hin
      refine ⟨e,m1,m2,by omega,k1,k2,fun e' n1 n2 n3 n4=>?_⟩
      rcases Int.lt_or_le tp e'.t with h|h
      · have ht : e'.t = t:=by have:=h3 e' n1 n2 h;omega
        have hm:=likeT_mem.2 ⟨n1,n2,ht⟩
        cases ha : e'.add with
        | true=>exact absurd ⟨e',hm,ha,n4⟩ hin
        | false=>exact absurd ⟨e',hm,ha,n4⟩ hno
      · exact k3 e' n1 n2 h n4
  · rintro ⟨e,m1,m2,m3,k1,k2,k3⟩
    rcases Int.lt_or_le tp e.t with h|h
    · have ht : e.t = t:=by have:=h3 e m1 m2 h;omega
      refine ⟨.inr ⟨e,likeT_mem.2 ⟨m1,m2,ht⟩,k1,k2⟩,?_⟩
      rintro ⟨e',he',a1,a2⟩
      obtain ⟨n1,n2,n3⟩:=likeT_mem.1 he'
      exact hc ⟨e,m1,e',n1,m2.trans n2.sym,by omega,k1,a1,y,k2,a2⟩
    · refine ⟨.inl ⟨e,m1,m2,h,k1,k2,fun e' n1 n2 n3 n4=>k3 e' n1 n2 (by omega) n4⟩,?_⟩
      rintro ⟨e',he',a1,a2⟩
      obtain ⟨n1,n2,n3⟩:=likeT_mem.1 he'
      have:=k3 e' n1 n2 (by omega) a2
      omega
theorem tn_len2 (S : List Sp) (x : List Dat) (hx : 0 < x.length) : (tnL S x).length ≤ S.length + 2 * x.length:=by
  have:=tn_len S x;omega
theorem refI_ok {l : List Dat} (hm : okD l) (hr : rgD l) (hc : ¬ confK l) (d : Dat) : ∀ (n : Nat) (tp t : Int) (S : List Sp),0 ≤ tp → nextP l d tp t → SetP S → rngS S → (∀ y,inS S y ↔ holdT l d tp y) → l.length ≤ n + cntT l d tp → S.length ≤ 2 * cntT l d tp →
    SetP (refI l d n t S) ∧ rngS (refI l d n t S) ∧ (refI l d n t S).length ≤ 2 * l.length ∧ ∀ y,inS (refI l d n t S) y ↔ holdK l (keyF d) y
  | 0,tp,t,S,_,_,h1,h2,h3,h4,h5=>⟨h1,h2,by have:=cnt_le l d tp;show S.length ≤ _;omega,fun y=>(h3 y).trans (holdT_full (cnt_full (by omega)) y)⟩
  | n + 1,tp,t,S,h0,hn,h1,h2,h3,h4,h5=>by
    show SetP (if 0 < t then _ else S) ∧ rngS (if 0 < t then _ else S) ∧ (if 0 < t then _ else S).length ≤ _ ∧ ∀ y,inS (if 0 < t then _ else S) y ↔ _
    rcases hn with ⟨e0,hall⟩ | ⟨hlt,⟨e,e1,e2,e3⟩,hleast⟩
    · subst e0
      rw [if_neg (by decide)]
      exact ⟨h1,h2,by have:=cnt_le l d tp;omega,fun y=>(h3 y).trans (holdT_full hall y)⟩
    · rw [if_pos (by omega)]
      obtain ⟨t1,t2,t3⟩:=tn_ok h1 h2 (likeT_ok hm d t) (likeT_rg hr d t)
      have hpos : 0 < (likeT l d t).length:=List.length_pos_of_mem (likeT_mem.2 ⟨e1,e2,e3⟩)
      have hcs:=cnt_step l d hlt
      have hl:=tn_len2 S _ hpos
      exact refI_ok hm hr hc d n t (nextT l d t) _ (by omega) (nextL_ok d (by omega)) t1 t2 (fun y=>by rw [t3,h3];exact hold_step hc d hlt hleast y) (by omega) (by omega)
theorem refSp_ok {l : List Dat} (hm : ∀ d,d ∈ l → dmayP d) (hr : rgD l) (hc : ¬ confK l) (d : Dat) : SetP (refSp l d) ∧ rngS (refSp l d) ∧ (refSp l d).length ≤ 2 * l.length ∧ ∀ y,inS (refSp l d) y ↔ holdK l (keyF d) y:=by
  have hok : okD l:=fun e he=>by have:=hm e he;unfold dmayP at this;exact this.2.2.2.2.2.2.2
  have hge : ∀ e,e ∈ l → 1 ≤ e.t:=fun e he=>by have:=hm e he;unfold dmayP at this;exact this.2.2.2.2.2.1
  refine refI_ok hok hr hc d l.length 0 (nextT l d 0) [] (by decide) (nextL_ok d (by decide)) .nil (fun s hs=>by simp at hs) (fun y=>⟨fun h=>absurd h (inS_nil y),?_⟩) (by omega) (Nat.zero_le _)
  rintro ⟨e,e1,_,e3,_⟩
  have:=hge e e1
  omega
theorem holdK_key {l : List Dat} {k k' : Fac} (h : cmpF k k' = 0) (y : Int) : holdK l k y ↔ holdK l k' y:=by
  unfold holdK
  have e : ∀ d : Dat,cmpF (keyF d) k = 0 ↔ cmpF (keyF d) k' = 0:=fun d=>⟨fun h1=>cmpF_eq0 h1 h,fun h1=>cmpF_eq0 h1 (cmpF_sym h)⟩
  simp only [e]
theorem refF_ok {l : List Dat} {F : List Fac} (hr : rgD l) (hF : foldR l = some F) : refF l l = F:=by
  have h0:=foldR_ok l hr
  rw [hF] at h0
  obtain ⟨hm,ha,rF,hc,hk⟩:=h0
  have hsp:=refSp_ok hm hr hc
  have key : ∀ (m : List Dat) (o : List Fac),(∀ d,d ∈ m → d ∈ l) → (riseF o ∧ ∀ f,f ∈ o → ∃ d,d ∈ l ∧ cmpF f (keyF d) = 0 ∧ f.sp = refSp l d ∧ 0 < f.sp.length) →
      (riseF (m.foldl (refStep l) o) ∧ ∀ f,f ∈ m.foldl (refStep l) o → ∃ d,d ∈ l ∧ cmpF f (keyF d) = 0 ∧ f.sp = refSp l d ∧ 0 < f.sp.length) ∧ (∀ f,f ∈ o → f ∈ m.foldl (refStep l) o) ∧
      ∀ d,d ∈ m → 0 < (refSp l d).length → ∃ f,f ∈ m.foldl (refStep l) o ∧ cmpF f (keyF d) = 0:=by
    intro m
    induction m with
    | nil=>intro o _ h;exact ⟨h,fun f hf=>hf,fun d hd=>by simp at hd⟩
    | cons d m ih =>
      intro o hml h
      have hst : riseF (refStep l o d) ∧ ∀ f,f ∈ refStep l o d → ∃ d,d ∈ l ∧ cmpF f (keyF d) = 0 ∧ f.sp = refSp l d ∧ 0 < f.sp.length:=by
        unfold refStep
        split
        · rename_i hp
          refine ⟨insC_riseW wc_cmpF _ h.1,fun f hf=>?_⟩
          rcases insC_sub _ _ _ hf with e|e
          · subst e;exact ⟨d,hml d List.mem_cons_self,(cmpF_z _ _).2 ⟨rfl,rfl,rfl⟩,rfl,hp⟩
          · exact h.2 f e
        · exact h
      obtain ⟨i1,i2,i3⟩:=ih (refStep l o d) (fun e he=>hml e (List.mem_cons_of_mem _ he)) hst
      refine ⟨i1,fun f hf=>i2 f ?_,fun e he hp=>?_⟩
      · unfold refStep
        split
        · exact insC_sup _ _ _ hf
        · exact hf
      · rcases List.mem_cons.1 he with q|q
        · subst q
          obtain ⟨z,z1,z2⟩:=insC_has wc_cmpF ⟨e.e,e.a,e.v,refSp l e⟩ o
          refine ⟨z,i2 z ?_,?_⟩
          · unfold refStep;rw [if_pos hp];exact z1
          · exact cmpF_eq0 z2 ((cmpF_z _ _).2 ⟨rfl,rfl,rfl⟩)
        · exact i3 e q hp
  obtain ⟨⟨k1,k2⟩,_,k3⟩:=key l [] (fun _ h=>h) ⟨List.Pairwise.nil,fun f hf=>by simp at hf⟩
  have k1 : riseF (refF l l):=k1
  have k2 : ∀ f,f ∈ refF l l → _:=k2
  have haR : allF (refF l l):=fun i hi _=>by
    obtain ⟨d,d1,d2,d3,d4⟩:=k2 _ (List.getElem_mem hi)
    refine ⟨⟨may_key d2 (hm d d1),d4,by rw [d3];exact (hsp d).1⟩,fun h0=>?_⟩
    exact List.pairwise_iff_getElem.1 k1 (i - 1) i (by omega) hi (by omega)
  refine facts_ext haR ha fun k y=>?_
  rw [hk,find_rise k1]
  constructor
  · rintro ⟨f,hf,f1,f2⟩
    obtain ⟨d,d1,d2,d3,d4⟩:=k2 f hf
    rw [d3] at f2
    exact (holdK_key (cmpF_eq0 (cmpF_sym d2) f1) y).1 (((hsp d).2.2.2 y).1 f2)
  · intro hh
    obtain ⟨e,e1,e2,_⟩:=id hh
    have hy : inS (refSp l e) y:=((hsp e).2.2.2 y).2 ((holdK_key e2 y).2 hh)
    have hpos : 0 < (refSp l e).length:=by
      obtain ⟨s,hs,_⟩:=hy
      exact List.length_pos_of_mem hs
    obtain ⟨f,f1,f2⟩:=k3 e e1 hpos
    obtain ⟨d,d1,d2,d3,d4⟩:=k2 f f1
    refine ⟨f,f1,cmpF_eq0 f2 e2,?_⟩
    rw [d3,(hsp d).2.2.2]
    exact (holdK_key (cmpF_eq0 (cmpF_eq0 (cmpF_sym e2) (cmpF_sym f2)) d2) y).1 hh
set_option maxHeartbeats 4000000 in
theorem ralike_pc [GlobF Tryz.prog] (a b : Dat) : PC Tryz.prog 165 [eD a,eD b] (.sc (.bool (dP (alP a b)))):=by
  refine PC.of_body Tryz.func165 Tryz.ntmps165 rfl rfl rfl ?_
  repeat' first
 | (apply p1 (hd:=rfl);case hop=>first|(apply D_move;rfl)|(apply D_assign;rfl)|(apply D_load1;rfl)|(apply D_fld;rfl)|(apply D_pickT;rfl;rfl)|(apply D_pickF;rfl;rfl)|(apply D_int;rfl;rfl;rfl)|(apply D_loadA;rfl;rfl)|(apply D_box;rfl;rfl)|exact D_eqA rfl rfl rfl rfl rfl rfl rfl)
 | refine W_seq ?_
 | refine W_region ?_
 | refine WL_nil ?_
 | (refine idG ?_;first|refine g0t rfl rfl rfl ?_|refine gr rfl rfl ?_|refine gs rfl rfl (fun _=>?_) (fun _=>?_))
 | refine tn ?_
 | refine W_ret ?_
 | (refine idR ?_;refine ret1 rfl rfl rfl ?_)
 | (refine Le.bool ?_)
  all_goals first
    | (refine dP_F ?_;rintro ⟨h1,h2,h3⟩;contradiction)
    | (refine dP_eq ?_;rw [lEq_t];exact ⟨fun h=>⟨by assumption,by assumption,encV_eq.1 h⟩,fun h=>encV_eq.2 h.2.2⟩)
    | skip
open Classical in
theorem likeT_take (l : List Dat) (d : Dat) (T : Int) {i : Nat} (h : i < l.length) : likeT (l.take (i + 1)) d T = likeT (l.take i) d T ++ (if alP l[i] d ∧ l[i].t = T then [l[i]] else []):=by
  unfold likeT
  rw [List.take_succ_eq_append_getElem h,List.filter_append]
  congr 1
  by_cases hb : alP l[i] d ∧ l[i].t = T <;> simp [List.filter_cons,hb]
theorem saidL_app (x y : List Dat) (b : Bool) : saidL (x ++ y) b = saidL x b ++ saidL y b:=by
  unfold saidL;rw [List.filter_append,List.map_append]
theorem said_yes (l : List Dat) (d : Dat) (T : Int) (b : Bool) {i : Nat} (h : i < l.length) (h1 : alP l[i] d) (h2 : l[i].t = T) (h3 : l[i].add = b) : saidL (likeT (l.take (i + 1)) d T) b = saidL (likeT (l.take i) d T) b ++ [⟨l[i].fr,l[i].to⟩]:=by
  rw [likeT_take l d T h,saidL_app,if_pos ⟨h1,h2⟩]
  congr 1
  unfold saidL;rw [List.filter_cons,if_pos (by rw [h3];exact beq_self_eq_true b)];rfl
theorem said_no (l : List Dat) (d : Dat) (T : Int) (b : Bool) {i : Nat} (h : i < l.length) (h1 : ¬ (alP l[i] d ∧ l[i].t = T ∧ l[i].add = b)) : saidL (likeT (l.take (i + 1)) d T) b = saidL (likeT (l.take i) d T) b:=by
  rw [likeT_take l d T h,saidL_app]
  split
  · rename_i hh
    unfold saidL;rw [List.filter_cons,if_neg (fun e=>h1 ⟨hh.1,hh.2,eq_of_beq e⟩)];simp
  · unfold saidL;simp
theorem likeT_len (l : List Dat) (d : Dat) (T : Int) : (likeT l d T).length ≤ l.length:=List.length_filter_le _ _
set_option maxHeartbeats 8000000 in
theorem rsaid_pc [GlobF Tryz.prog] (l : List Dat) (d : Dat) (T : Int) (b : Bool) (hl : l.length < 1759218604500) : PC Tryz.prog 109 [sl9 l,eD d,.sc (.int .i64 T),.sc (.bool b)] (sl2 (saidL (likeT l d T) b)):=by
  refine PC.of_body Tryz.func109 Tryz.ntmps109 rfl rfl rfl ?_
  repeat' first
 | (apply p1 (hd:=rfl);case hop=>first|(apply D_assign;rfl)|(apply D_box;rfl;rfl))
 | refine W_seq ?_
 | refine W_region ?_
 | refine WL_nil ?_
 | refine tn ?_
 | (refine W_block ?_)
  refine W_adopt 9 2 62 rfl ?_
  refine W_loopL (X:=Nat) (fun i=>[(0,sl9 l),(2,.sc (.int .i64 T)),(3,.sc (.bool b)),(5,.ep (dC d)),(9,.sl (some 0) 2 ((saidL (likeT (l.take i) d T) b).map sC)),(10,.sc (.int .i64 (i : Int)))]) (fun i=>[.tail (saidL (likeT (l.take i) d T) b).length 2 62])
    (fun i=>i ≤ l.length) (fun i=>l.length - i) 0 (Nat.zero_le _) ⟨rfl,rfl,rfl,rfl,rfl,rfl,trivial⟩ rfl ?_
  intro i hi
  have hlen : (saidL (likeT (l.take i) d T) b).length ≤ i:=by
    have h1:=saidL_len (likeT (l.take i) d T) b
    have h2:=likeT_len (l.take i) d T
    rw [List.length_take] at h2;omega
  by_cases hil : i < l.length
  · have ha:=ralike_pc (l[i]'hil) d
    have sy:=said_yes l d T b hil
    have sn:=said_no l d T b hil
    generalize saidL (likeT (l.take i) d T) b = O at *
    by_cases h1 : alP (l[i]'hil) d ∧ (l[i]'hil).t = T ∧ (l[i]'hil).add = b
    · obtain ⟨k1,k2,k3⟩:=h1
      have hsn:=sy k1 k2 k3
      rw [← dP_T k1] at ha
      have e1 : Value.bool (iEq (l[i]'hil).t T) = .bool true:=by rw [(iEq_t _ _).mpr k2]
      have e2 : Value.bool (bEq (l[i]'hil).add b) = .bool true:=by rw [(bEq_t _ _).mpr k3]
      repeat' first
 | (refine idW ?_;refine W_dS0 (id:=6) 13 rfl rfl (by decide +kernel) ?_;simp only [List.take_succ_cons,List.take_zero,List.drop_succ_cons,List.drop_zero])
 | (apply p1 (hd:=rfl);case hop=>first|(apply D_move;rfl)|(apply D_assign;rfl)|(apply D_int;rfl;rfl;rfl)|(apply D_lenM;rfl))
 | refine W_seq ?_
 | refine W_region ?_
 | (refine idC ?_;first|refine c1 rfl ?_|refine cs rfl (fun _=>?_) (fun _=>?_))
 | refine WL_nil ?_
 | refine tn ?_
 | refine bn ?_
 | refine te ?_
 | (refine idB ?_;refine bh rfl ?_)
 | refine W_skip ?_
 | refine W_block ?_
 | refine W_exit ?_
 | refine W_ret ?_
 | (refine idR ?_;refine ret1 rfl rfl rfl ?_)
 | (refine idAp ?_;refine m_appB rfl rfl rfl (by rfl) ?_ rfl rfl ?_ ?_ rfl ?_;(focus (simp;done));(focus (simp only [List.length_map,List.length_append,List.length_cons,List.length_nil];omega));(focus (simp only [List.length_map,List.length_append,List.length_cons,List.length_nil];omega)))
 | (refine idW ?_;refine W_draw0 rfl ?_)
 | (apply d1 (hd:=rfl);case hop=>first|(apply D_move;rfl)|(apply D_pc ha;rfl;exact .same rfl (.same rfl .nil))|exact D_sc (D_int rfl rfl rfl) e1|exact D_sc (D_beq rfl rfl) e2|(apply D_load1;rfl)|(apply D_fld;rfl)|(apply D_pickT;rfl;rfl)|(apply D_loadW;rfl;rfl)|(apply D_idxAn;rfl;rfl;(first|omega|(simp;done)))|(apply D_lit;rfl;rfl;rfl;rfl)|exact D_build rfl)
 | (refine idDg ?_;refine dgr rfl rfl ?_)
 | (refine WD_nil (by first|decide +kernel|kernel_rfl|rfl) ?_)
      all_goals first
        | (exfalso;omega)
        | (refine ⟨rfl,i + 1,by omega,by omega,⟨rfl,rfl,rfl,rfl,?_,ieq (wsucc i (by omega)),trivial⟩,?_⟩
           · rw [hsn,List.map_append];rfl
           · rw [hsn,List.length_append,← List.length_map (f:=sC)];rfl)
        | contradiction
        | skip
    · have hsn:=sn h1
      repeat' first
 | (apply p1 (hd:=rfl);case hop=>first|(apply D_move;rfl)|(apply D_assign;rfl)|(apply D_int;rfl;rfl;rfl)|(apply D_lenM;rfl))
 | refine W_seq ?_
 | refine W_region ?_
 | (refine idC ?_;first|refine c0 rfl ?_|refine cs rfl (fun _=>?_) (fun _=>?_))
 | refine WL_nil ?_
 | refine tn ?_
 | refine bn ?_
 | refine te ?_
 | (refine idB ?_;refine bh rfl ?_)
 | refine W_skip ?_
 | refine W_block ?_
 | refine W_exit ?_
 | refine W_ret ?_
 | (refine idR ?_;refine ret1 rfl rfl rfl ?_)
 | (refine idW ?_;refine W_draw0 rfl ?_)
 | (apply d1 (hd:=rfl);case hop=>first|(apply D_move;rfl)|(apply D_pc ha;rfl;exact .same rfl (.same rfl .nil))|(apply D_load1;rfl)|(apply D_fld;rfl)|(apply D_pickT;rfl;rfl)|(apply D_pickF;rfl;rfl)|(apply D_int;rfl;rfl;rfl)|(apply D_loadW;rfl;rfl)|(apply D_beq;rfl;rfl)|(apply D_idxAn;rfl;rfl;(first|omega|(simp;done)))|(apply D_lit;rfl;rfl;rfl;rfl)|exact D_build rfl)
 | (refine idDg ?_;first|refine dg0t rfl rfl rfl ?_|refine dgr rfl rfl ?_|refine dgs rfl rfl (fun _=>?_) (fun _=>?_))
 | (refine WD_nil (by first|decide +kernel|kernel_rfl|rfl) ?_)
      all_goals first
        | (exfalso;omega)
        | (refine ⟨rfl,i + 1,by omega,by omega,⟨rfl,rfl,rfl,rfl,?_,ieq (wsucc i (by omega)),trivial⟩,?_⟩
           · rw [hsn];rfl
           · rw [hsn])
        | (exfalso;exact h1 ⟨by assumption,by assumption,by assumption⟩)
        | skip
  · have e : i = l.length:=by omega
    subst e
    rw [List.take_length] at hlen ⊢
    repeat' first
 | (apply p1 (hd:=rfl);case hop=>first|(apply D_move;rfl)|(apply D_assign;rfl)|(apply D_int;rfl;rfl;rfl)|(apply D_lenM;rfl))
 | refine W_seq ?_
 | refine W_region ?_
 | (refine idC ?_;refine cs rfl (fun _=>?_) (fun _=>?_))
 | refine WL_nil ?_
 | refine tn ?_
 | refine te ?_
 | (refine idB ?_;refine bh rfl ?_)
 | refine W_skip ?_
 | refine W_block ?_
 | refine W_exit ?_
 | refine W_ret ?_
 | (refine idR ?_;refine ret1 rfl rfl rfl ?_)
 | (refine idW ?_;refine W_draw0 rfl ?_)
 | (apply d1 (hd:=rfl);case hop=>first|(apply D_move;rfl)|(apply D_loadW;rfl;rfl)|(apply D_idxAn;rfl;rfl;(first|omega|(simp;done))))
 | (fail)
    all_goals first
      | (exfalso;omega)
      | exact Le.tokq rfl
      | skip
set_option maxHeartbeats 8000000 in
theorem rnextT_pc [GlobF Tryz.prog] (l : List Dat) (d : Dat) (T : Int) (hl : l.length < 1759218604500) : PC Tryz.prog 107 [sl9 l,eD d,.sc (.int .i64 T)] (.sc (.int .i64 (nextT l d T))):=by
  refine PC.of_body Tryz.func107 Tryz.ntmps107 rfl rfl rfl ?_
  repeat' first
 | (apply p1 (hd:=rfl);case hop=>first|(apply D_assign;rfl)|(apply D_box;rfl;rfl))
 | refine W_seq ?_
 | refine W_region ?_
 | refine WL_nil ?_
 | refine tn ?_
 | (refine W_block ?_)
  refine W_loopL (X:=Nat) (fun i=>[(0,sl9 l),(2,.sc (.int .i64 T)),(4,.ep (dC d)),(7,.sc (.int .i64 (nextT (l.take i) d T))),(8,.sc (.int .i64 (i : Int)))]) (fun _=>[])
    (fun i=>i ≤ l.length) (fun i=>l.length - i) 0 (Nat.zero_le _) ⟨rfl,rfl,rfl,rfl,rfl,trivial⟩ rfl ?_
  intro i hi
  by_cases hil : i < l.length
  · have ha:=ralike_pc (l[i]'hil) d
    have hsn:=nextL_take l d T i hil
    generalize nextT (l.take i) d T = o at *
    unfold nextS at hsn
    repeat' first
 | (apply p1 (hd:=rfl);case hop=>first|(apply D_move;rfl)|(apply D_assign;rfl)|(apply D_load1;rfl)|(apply D_fld;rfl)|(apply D_int;rfl;rfl;rfl)|(apply D_lenM;rfl)|(apply D_idxAn;rfl;rfl;(first|omega|(simp;done))))
 | refine W_seq ?_
 | refine W_region ?_
 | (refine idC ?_;first|refine c1 rfl ?_|refine c0 rfl ?_|refine cs rfl (fun _=>?_) (fun _=>?_))
 | refine WL_nil ?_
 | refine tn ?_
 | refine bn ?_
 | refine te ?_
 | (refine idB ?_;refine bh rfl ?_)
 | refine W_skip ?_
 | refine W_block ?_
 | refine W_exit ?_
 | refine W_ret ?_
 | (refine idR ?_;refine ret1 rfl rfl rfl ?_)
 | refine Le.int ?_
 | (refine idW ?_;refine W_draw0 rfl ?_)
 | (apply d1 (hd:=rfl);case hop=>first|(apply D_move;rfl)|(apply D_pc ha;rfl;exact .same rfl (.same rfl .nil))|(apply D_load1;rfl)|(apply D_fld;rfl)|(apply D_pickT;rfl;rfl)|(apply D_pickF;rfl;rfl)|(apply D_int;rfl;rfl;rfl)|(apply D_loadW;rfl;rfl)|(apply D_idxAn;rfl;rfl;(first|omega|(simp;done))))
 | (refine idDg ?_;first|refine dg0t rfl rfl rfl ?_|refine dg0f rfl rfl rfl ?_|refine dg0u rfl rfl rfl ?_|refine dgr rfl rfl ?_|refine dgs rfl rfl (fun _=>?_) (fun _=>?_))
 | (refine WD_nil (by first|decide +kernel|kernel_rfl|rfl) ?_)
    all_goals first
      | (exfalso;omega)
      | (refine ⟨rfl,i + 1,by omega,by omega,⟨rfl,rfl,rfl,?_,ieq (wsucc i (by omega)),trivial⟩,rfl⟩
         rw [hsn,if_pos ⟨by assumption,by omega,by omega⟩];rfl)
      | (refine ⟨rfl,i + 1,by omega,by omega,⟨rfl,rfl,rfl,?_,ieq (wsucc i (by omega)),trivial⟩,rfl⟩
         rw [hsn,if_neg (fun h=>by omega)];rfl)
      | (refine ⟨rfl,i + 1,by omega,by omega,⟨rfl,rfl,rfl,?_,ieq (wsucc i (by omega)),trivial⟩,rfl⟩
         rw [hsn,if_neg (fun h=>absurd h.1 (by assumption))];rfl)
      | skip
  · have e : i = l.length:=by omega
    subst e
    rw [List.take_length]
    repeat' first
 | (apply p1 (hd:=rfl);case hop=>first|(apply D_move;rfl)|(apply D_assign;rfl)|(apply D_int;rfl;rfl;rfl)|(apply D_lenM;rfl))
 | refine W_seq ?_
 | refine W_region ?_
 | (refine idC ?_;refine cs rfl (fun _=>?_) (fun _=>?_))
 | refine WL_nil ?_
 | refine tn ?_
 | refine te ?_
 | (refine idB ?_;refine bh rfl ?_)
 | refine W_skip ?_
 | refine W_block ?_
 | refine W_exit ?_
 | refine W_ret ?_
 | (refine idR ?_;refine ret1 rfl rfl rfl ?_)
 | refine Le.int ?_
 | (refine idW ?_;refine W_draw0 rfl ?_)
 | (apply d1 (hd:=rfl);case hop=>first|(apply D_move;rfl)|(apply D_loadW;rfl;rfl)|(apply D_idxAn;rfl;rfl;(first|omega|(simp;done))))
 | (fail)
    all_goals first
      | (exfalso;omega)
      | rfl
      | skip
def clash (a b : Dat) : Prop:=alP a b ∧ a.t = b.t ∧ a.add ≠ b.add ∧ a.fr < b.to ∧ b.fr < a.to
theorem clash_conf {l : List Dat} (hm : ∀ d,d ∈ l → dmayP d) {a b : Dat} (ha : a ∈ l) (hb : b ∈ l) (h : clash a b) : confK l:=by
  obtain ⟨h1,h2,h3,h4,h5⟩:=h
  have na : a.fr < a.to:=by have:=hm a ha;unfold dmayP at this;exact this.2.2.2.2.2.2.2
  have nb : b.fr < b.to:=by have:=hm b hb;unfold dmayP at this;exact this.2.2.2.2.2.2.2
  have hx : covD a (max a.fr b.fr) ∧ covD b (max a.fr b.fr):=by unfold covD;omega
  cases ka : a.add with
  | true=>exact ⟨a,ha,b,hb,h1,h2,ka,by cases kb : b.add <;> simp_all,_,hx.1,hx.2⟩
  | false=>exact ⟨b,hb,a,ha,h1.sym,h2.symm,by cases kb : b.add <;> simp_all,ka,_,hx.2,hx.1⟩
theorem no_clash {l : List Dat} (h : ∀ (j k : Nat) (hj : j < l.length) (hk : k < j),¬ clash l[j] (l[k]'(by omega))) : ¬ confK l:=by
  rintro ⟨d,hd,d',hd',h1,h2,h3,h4,x,⟨x1,x2⟩,y1,y2⟩
  obtain ⟨i,hi,rfl⟩:=List.getElem_of_mem hd
  obtain ⟨j,hj,rfl⟩:=List.getElem_of_mem hd'
  rcases Nat.lt_trichotomy i j with q|q|q
  · exact h j i hj q ⟨h1.sym,h2.symm,by rw [h3,h4];decide,by omega,by omega⟩
  · subst q;rw [h3] at h4;cases h4
  · exact h i j hi q ⟨h1,h2,by rw [h3,h4];decide,by omega,by omega⟩
set_option maxHeartbeats 16000000 in
theorem rtog_pc [GlobF Tryz.prog] (l : List Dat) (hl : l.length < 1759218604500) (hsl : ∀ d,d ∈ l → d.v.s.length < 9223372036854775808) : PC Tryz.prog 106 [sl9 l] (.sc (.bool (dP ((∀ d,d ∈ l → dmayP d) ∧ ¬ confK l)))):=by
  refine PC.of_body Tryz.func106 Tryz.ntmps106 rfl rfl rfl ?_
  repeat' first
 | (apply p1 (hd:=rfl);case hop=>first|(apply D_assign;rfl))
 | refine W_seq ?_
 | refine W_region ?_
 | refine WL_nil ?_
 | refine tn ?_
 | (refine W_block ?_)
  refine W_loopL (X:=Nat) (fun i=>[(0,sl9 l),(3,.sc (.int .i64 (i : Int)))]) (fun _=>[])
    (fun i=>i ≤ l.length ∧ ∀ (j : Nat) (h : j < l.length),j < i → dmayP l[j]) (fun i=>l.length - i) 0 ⟨Nat.zero_le _,fun j h hj=>absurd hj (Nat.not_lt_zero j)⟩ ⟨rfl,rfl,trivial⟩ rfl ?_
  rintro i ⟨hi,hz⟩
  by_cases hil : i < l.length
  · have hm:=dmay1_pc (l[i]'hil) (hsl _ (List.getElem_mem _))
    by_cases h1 : dmayP (l[i]'hil)
    · rw [← dP_T h1] at hm
      repeat' first
 | (apply p1 (hd:=rfl);case hop=>first|(apply D_move;rfl)|(apply D_assign;rfl)|(apply D_pc hm;rfl;exact .same rfl .nil)|(apply D_int;rfl;rfl;rfl)|(apply D_lenM;rfl)|(apply D_not;rfl)|(apply D_loadW;rfl;rfl)|(apply D_idxAn;rfl;rfl;(first|omega|(simp;done))))
 | refine W_seq ?_
 | refine W_region ?_
 | (refine idC ?_;refine cs rfl (fun _=>?_) (fun _=>?_))
 | refine WL_nil ?_
 | refine tn ?_
 | refine tr ?_
 | refine br ?_
 | refine bn ?_
 | refine te ?_
 | (refine idB ?_;refine bh rfl ?_)
 | refine W_skip ?_
 | refine W_block ?_
 | refine W_exit ?_
 | refine W_ret ?_
 | (refine idR ?_;refine ret1 rfl rfl rfl ?_)
 | (refine Le.bool ?_)
      all_goals first
        | (exfalso;omega)
        | contradiction
        | (refine ⟨rfl,i + 1,⟨by omega,fun j h hj=>?_⟩,by omega,⟨rfl,ieq (wsucc i (by omega)),trivial⟩,rfl⟩
           by_cases e : j = i
           · subst e;exact h1
           · exact hz j h (by omega))
        | skip
    · rw [← dP_F h1] at hm
      repeat' first
 | (apply p1 (hd:=rfl);case hop=>first|(apply D_move;rfl)|(apply D_assign;rfl)|(apply D_pc hm;rfl;exact .same rfl .nil)|(apply D_int;rfl;rfl;rfl)|(apply D_lenM;rfl)|(apply D_not;rfl)|(apply D_loadW;rfl;rfl)|(apply D_idxAn;rfl;rfl;(first|omega|(simp;done))))
 | refine W_seq ?_
 | refine W_region ?_
 | (refine idC ?_;refine cs rfl (fun _=>?_) (fun _=>?_))
 | refine WL_nil ?_
 | refine tn ?_
 | refine tr ?_
 | refine br ?_
 | refine bn ?_
 | refine te ?_
 | (refine idB ?_;refine bh rfl ?_)
 | refine W_skip ?_
 | refine W_block ?_
 | refine W_exit ?_
 | refine W_ret ?_
 | (refine idR ?_;refine ret1 rfl rfl rfl ?_)
 | (refine Le.bool ?_)
      all_goals first
        | (exfalso;omega)
        | contradiction
        | exact dP_F fun h=>h1 (h.1 _ (List.getElem_mem _))
        | skip
  have hmay : ∀ d,d ∈ l → dmayP d:=fun d hd=>by
    obtain ⟨j,hj,rfl⟩:=List.getElem_of_mem hd
    exact hz j hj (by omega)
  repeat' first
 | (apply p1 (hd:=rfl);case hop=>first|(apply D_move;rfl)|(apply D_assign;rfl)|(apply D_int;rfl;rfl;rfl)|(apply D_lenM;rfl)|(apply D_loadW;rfl;rfl)|(apply D_idxAn;rfl;rfl;(first|omega|(simp;done))))
 | refine W_seq ?_
 | refine W_region ?_
 | (refine idC ?_;refine cs rfl (fun _=>?_) (fun _=>?_))
 | refine WL_nil ?_
 | refine tn ?_
 | refine te ?_
 | (refine idB ?_;refine bh rfl ?_)
 | refine W_skip ?_
 | refine W_block ?_
 | (refine W_exit ?_)
  all_goals first
    | (exfalso;omega)
    | skip
  refine W_loopL (X:=Nat) (fun i=>[(0,sl9 l),(5,.sc (.int .i64 (i : Int)))]) (fun _=>[])
    (fun i=>i ≤ l.length ∧ ∀ (j k : Nat) (hj : j < l.length) (hk : k < j),j < i → ¬ clash l[j] (l[k]'(by omega))) (fun i=>l.length - i) 0 ⟨Nat.zero_le _,fun j k h hk hj=>absurd hj (Nat.not_lt_zero j)⟩ ⟨rfl,rfl,trivial⟩ rfl ?_
  rintro i ⟨hi,hz2⟩
  by_cases hil : i < l.length
  · repeat' first
 | (apply p1 (hd:=rfl);case hop=>first|(apply D_move;rfl)|(apply D_assign;rfl)|(apply D_int;rfl;rfl;rfl)|(apply D_lenM;rfl))
 | refine W_seq ?_
 | refine W_region ?_
 | (refine idC ?_;refine cs rfl (fun _=>?_) (fun _=>?_))
 | refine WL_nil ?_
 | refine tn ?_
 | refine te ?_
 | (refine idB ?_;refine bh rfl ?_)
 | refine W_skip ?_
 | refine W_block ?_
 | refine W_exit ?_
 | refine W_ret ?_
 | (refine idR ?_;refine ret1 rfl rfl rfl ?_)
 | (refine Le.bool ?_)
    all_goals first
      | (exfalso;omega)
      | skip
    refine W_loopL (X:=Nat) (fun k=>[(0,sl9 l),(5,.sc (.int .i64 (i : Int))),(6,.sc (.int .i64 (k : Int)))]) (fun _=>[])
      (fun k=>k ≤ i ∧ ∀ (k' : Nat) (hk : k' < i),k' < k → ¬ clash (l[i]'hil) (l[k']'(by omega))) (fun k=>i - k) 0 ⟨Nat.zero_le _,fun k' h hj=>absurd hj (Nat.not_lt_zero k')⟩ ⟨rfl,rfl,rfl,trivial⟩ rfl ?_
    rintro k ⟨hk,hz3⟩
    by_cases hki : k < i
    · have ha:=ralike_pc (l[i]'hil) (l[k]'(by omega))
      have hno : clash (l[i]'hil) (l[k]'(by omega)) → false = dP ((∀ d,d ∈ l → dmayP d) ∧ ¬ confK l):=fun h=>dP_F fun e=>e.2 (clash_conf hmay (List.getElem_mem _) (List.getElem_mem _) h)
      have hnext : ¬ clash (l[i]'hil) (l[k]'(by omega)) → ∀ (k' : Nat) (hk : k' < i),k' < k + 1 → ¬ clash (l[i]'hil) (l[k']'(by omega)):=fun h k' hk' hkk=>by
        by_cases e : k' = k
        · subst e;exact h
        · exact hz3 k' hk' (by omega)
      repeat' first
 | (apply p1 (hd:=rfl);case hop=>first|(apply D_move;rfl)|(apply D_assign;rfl)|(apply D_int;rfl;rfl;rfl))
 | refine W_seq ?_
 | refine W_region ?_
 | (refine idC ?_;first|refine c0 rfl ?_|refine cs rfl (fun _=>?_) (fun _=>?_))
 | refine WL_nil ?_
 | refine tn ?_
 | refine tr ?_
 | refine br ?_
 | refine bn ?_
 | refine te ?_
 | (refine idB ?_;refine bh rfl ?_)
 | refine W_skip ?_
 | refine W_block ?_
 | refine W_exit ?_
 | refine W_ret ?_
 | (refine idR ?_;refine ret1 rfl rfl rfl ?_)
 | refine Le.bool ?_
 | (refine idW ?_;refine W_draw0 rfl ?_)
 | (apply d1 (hd:=rfl);case hop=>first|(apply D_move;rfl)|(apply D_pc ha;rfl;exact .same rfl (.same rfl .nil))|(apply D_load1;rfl)|(apply D_fld;rfl)|(apply D_pickT;rfl;rfl)|(apply D_pickF;rfl;rfl)|(apply D_int;rfl;rfl;rfl)|(apply D_loadW;rfl;rfl)|(apply D_bne;rfl;rfl)|(apply D_idxAn;rfl;rfl;(first|omega|(simp;done))))
 | (refine idDg ?_;first|refine dg0t rfl rfl rfl ?_|refine dgr rfl rfl ?_|refine dgs rfl rfl (fun _=>?_) (fun _=>?_))
 | (refine WD_nil (by first|decide +kernel|kernel_rfl|rfl) ?_)
      all_goals first
        | (exfalso;omega)
        | exact hno ⟨by assumption,by assumption,by assumption,by assumption,by assumption⟩
        | exact ⟨rfl,k + 1,⟨by omega,hnext fun h=>absurd h.1 (by assumption)⟩,by omega,⟨rfl,rfl,ieq (wsucc k (by omega)),trivial⟩,rfl⟩
        | exact ⟨rfl,k + 1,⟨by omega,hnext fun h=>absurd h.2.1 (by assumption)⟩,by omega,⟨rfl,rfl,ieq (wsucc k (by omega)),trivial⟩,rfl⟩
        | exact ⟨rfl,k + 1,⟨by omega,hnext fun h=>absurd (by assumption) h.2.2.1⟩,by omega,⟨rfl,rfl,ieq (wsucc k (by omega)),trivial⟩,rfl⟩
        | exact ⟨rfl,k + 1,⟨by omega,hnext fun h=>by have:=h.2.2.2;omega⟩,by omega,⟨rfl,rfl,ieq (wsucc k (by omega)),trivial⟩,rfl⟩
        | skip
    · repeat' first
 | (apply p1 (hd:=rfl);case hop=>first|(apply D_move;rfl)|(apply D_assign;rfl)|(apply D_int;rfl;rfl;rfl))
 | refine W_seq ?_
 | refine W_region ?_
 | (refine idC ?_;refine cs rfl (fun _=>?_) (fun _=>?_))
 | refine WL_nil ?_
 | refine tn ?_
 | refine bn ?_
 | refine te ?_
 | (refine idB ?_;refine bh rfl ?_)
 | refine W_skip ?_
 | refine W_block ?_
 | refine W_exit ?_
 | (refine idW ?_;refine W_draw0 rfl ?_)
 | (apply d1 (hd:=rfl);case hop=>first|(apply D_move;rfl)|(apply D_loadW;rfl;rfl)|(apply D_idxAn;rfl;rfl;(first|omega|(simp;done))))
 | (fail)
      all_goals first
        | (exfalso;omega)
        | (refine ⟨rfl,i + 1,⟨by omega,fun j k' hj hk' hji=>?_⟩,by omega,⟨rfl,ieq (wsucc i (by omega)),trivial⟩,rfl⟩
           by_cases e : j = i
           · subst e;exact hz3 k' hk' (by omega)
           · exact hz2 j k' hj hk' (by omega))
        | skip
  · repeat' first
 | (apply p1 (hd:=rfl);case hop=>first|(apply D_move;rfl)|(apply D_assign;rfl)|(apply D_int;rfl;rfl;rfl)|(apply D_lenM;rfl))
 | refine W_seq ?_
 | refine W_region ?_
 | (refine idC ?_;refine cs rfl (fun _=>?_) (fun _=>?_))
 | refine WL_nil ?_
 | refine tn ?_
 | refine te ?_
 | (refine idB ?_;refine bh rfl ?_)
 | refine W_skip ?_
 | refine W_block ?_
 | refine W_exit ?_
 | refine W_ret ?_
 | (refine idR ?_;refine ret1 rfl rfl rfl ?_)
 | (refine Le.bool ?_)
    all_goals first
      | (exfalso;omega)
      | exact dP_T ⟨hmay,no_clash fun j k hj hk=>hz2 j k hj hk (by omega)⟩
      | skip
set_option maxHeartbeats 16000000 in
theorem rput_pc [GlobF Tryz.prog] (l : List Fac) (f : Fac) (hl : l.length < 1759218604500) (hb : bndF l) : PC Tryz.prog 110 [sl6 l,eF f] (sl6 (insC cmpF f l)):=by
  refine PC.of_body Tryz.func110 Tryz.ntmps110 rfl rfl rfl ?_
  repeat' first
 | (apply p1 (hd:=rfl);case hop=>first|(apply D_assign;rfl)|(apply D_box;rfl;rfl))
 | refine W_seq ?_
 | refine W_region ?_
 | refine WL_nil ?_
 | refine tn ?_
 | (refine W_block ?_)
  refine W_loopL (X:=Nat) (fun n=>[(0,sl6 l),(3,.ep (fC f)),(5,.sc (.int .i64 (n : Int)))]) (fun _=>[])
    (fun n=>n ≤ l.length ∧ ∀ (j : Nat) (h : j < l.length),j < n → cmpF l[j] f < 0) (fun n=>l.length - n) 0 ⟨Nat.zero_le _,fun j h hj=>absurd hj (Nat.not_lt_zero j)⟩ ⟨rfl,rfl,rfl,trivial⟩ rfl ?_
  rintro n ⟨hn,hz⟩
  have hat:=insC_at (c:=cmpF) f n l hn hz
  by_cases hnl : n < l.length
  · have hc:=rcompare_pc (l[n]'hnl) f (hb _ (List.getElem_mem _)).1
    repeat' first
 | (refine W_adopt 6 6 54 rfl ?_)
 | (apply p1 (hd:=rfl);case hop=>first|(apply D_move;rfl)|(apply D_assign;rfl)|(apply D_int;rfl;rfl;rfl)|(apply D_loadW;rfl;rfl)|(apply D_lit;rfl;rfl;rfl;rfl)|(apply D_slVhM;rfl;rfl;all_goals first|omega|((repeat rw [w64 _ (by omega) (by omega)]);omega)|decide)|(apply D_slVlM;rfl;rfl;all_goals first|omega|((repeat rw [w64 _ (by omega) (by omega)]);omega)|decide))
 | refine W_seq ?_
 | refine W_region ?_
 | (refine idC ?_;first|refine c0 rfl ?_|refine cs rfl (fun _=>?_) (fun _=>?_))
 | refine WL_nil ?_
 | refine tn ?_
 | refine tr ?_
 | refine bn ?_
 | refine te ?_
 | (refine idB ?_;refine bh rfl ?_)
 | refine W_skip ?_
 | refine W_block ?_
 | refine W_exit ?_
 | refine W_ret ?_
 | (refine idR ?_;refine ret1 rfl rfl rfl ?_)
 | (refine idAp ?_;refine m_app rfl rfl (by rfl) ?_ rfl rfl ?_ ?_ rfl ?_;(first|rfl|focus (simp;done));(focus (simp only [List.length_map,List.length_append,List.length_cons,List.length_nil,List.length_take,List.length_drop];omega));(focus (simp only [List.length_map,List.length_append,List.length_cons,List.length_nil,List.length_take,List.length_drop];omega)))
 | (refine idW ?_;refine W_draw0 rfl ?_)
 | (apply d1 (hd:=rfl);case hop=>first|(apply D_move;rfl)|(apply D_pc hc;rfl;exact .same rfl (.same rfl .nil))|(apply D_pickT;rfl;rfl)|(apply D_pickF;rfl;rfl)|(apply D_int;rfl;rfl;rfl)|(apply D_lenM;rfl)|(apply D_loadW;rfl;rfl)|(apply D_idxAn;rfl;rfl;(first|omega|(simp;done))))
 | (refine idDg ?_;first|refine dg0t rfl rfl rfl ?_|refine dgr rfl rfl ?_|refine dgs rfl rfl (fun _=>?_) (fun _=>?_))
 | (refine WD_nil (by first|decide +kernel|kernel_rfl|rfl) ?_)
    all_goals first
      | (exfalso;omega)
      | (have hx : cmpF l[n] f < 0:=by assumption
         refine ⟨rfl,n + 1,⟨by omega,fun j h hj=>?_⟩,by omega,⟨rfl,rfl,ieq (wsucc n (by omega)),trivial⟩,rfl⟩
         by_cases e : j = n
         · subst e;exact hx
         · exact hz j h (by omega))
      | (have hx : cmpF l[n] f = 0:=by assumption
         rw [(hat.1 hnl (by omega)).1 hx];exact Le.of_eq rfl)
      | (have hx : cmpF l[n] f ≠ 0:=by assumption
         have e2 : (insC cmpF f l).map fC = [] ++ (l.take (n : Int).toNat).map fC ++ [fC f] ++ (l.drop (n : Int).toNat).map fC:=by rw [(hat.1 hnl (by omega)).2 hx];simp
         show Le _ (.sl none 6 ((insC cmpF f l).map fC))
         rw [e2];exact Le.tokq rfl)
      | skip
  · have e : n = l.length:=by omega
    repeat' first
 | (refine W_adopt 6 6 54 rfl ?_)
 | (apply p1 (hd:=rfl);case hop=>first|(apply D_move;rfl)|(apply D_assign;rfl)|(apply D_loadW;rfl;rfl)|(apply D_lit;rfl;rfl;rfl;rfl)|(apply D_slVhM;rfl;rfl;all_goals first|omega|((repeat rw [w64 _ (by omega) (by omega)]);omega)|decide)|(apply D_slVlM;rfl;rfl;all_goals first|omega|((repeat rw [w64 _ (by omega) (by omega)]);omega)|decide))
 | refine W_seq ?_
 | refine W_region ?_
 | (refine idC ?_;refine c0 rfl ?_)
 | refine WL_nil ?_
 | refine tn ?_
 | refine te ?_
 | (refine idB ?_;refine bh rfl ?_)
 | refine W_skip ?_
 | refine W_exit ?_
 | refine W_ret ?_
 | (refine idR ?_;refine ret1 rfl rfl rfl ?_)
 | (refine idAp ?_;refine m_app rfl rfl (by rfl) ?_ rfl rfl ?_ ?_ rfl ?_;(first|rfl|focus (simp;done));(focus (simp only [List.length_map,List.length_append,List.length_cons,List.length_nil,List.length_take,List.length_drop];omega));(focus (simp only [List.length_map,List.length_append,List.length_cons,List.length_nil,List.length_take,List.length_drop];omega)))
 | (refine idW ?_;refine W_draw0 rfl ?_)
 | (apply d1 (hd:=rfl);case hop=>first|(apply D_move;rfl)|(apply D_pickF;rfl;rfl)|(apply D_int;rfl;rfl;rfl)|(apply D_lenM;rfl)|(apply D_loadW;rfl;rfl)|(apply D_idxAn;rfl;rfl;(first|omega|(simp;done))))
 | (refine idDg ?_;first|refine dg0t rfl rfl rfl ?_|refine dgr rfl rfl ?_|refine dgs rfl rfl (fun _=>?_) (fun _=>?_))
 | (refine WD_nil (by first|decide +kernel|kernel_rfl|rfl) ?_)
    all_goals first
      | (exfalso;omega)
      | (have e2 : (insC cmpF f l).map fC = [] ++ (l.take (n : Int).toNat).map fC ++ [fC f] ++ (l.drop (n : Int).toNat).map fC:=by rw [hat.2 e];simp [e]
         show Le _ (.sl none 6 ((insC cmpF f l).map fC))
         rw [e2];exact Le.tokq rfl)
      | skip
theorem refF_mem (l : List Dat) : ∀ (m : List Dat) (o : List Fac) (f : Fac),f ∈ m.foldl (refStep l) o → f ∈ o ∨ ∃ d,d ∈ m ∧ f = ⟨d.e,d.a,d.v,refSp l d⟩
  | [],o,f,h=>.inl h
  | d :: m,o,f,h=>by
    rcases refF_mem l m (refStep l o d) f h with h | ⟨e,he,h⟩
    · unfold refStep at h
      split at h
      · rcases insC_sub _ _ _ h with h|h
        · exact .inr ⟨d,List.mem_cons_self,h⟩
        · exact .inl h
      · exact .inl h
    · exact .inr ⟨e,List.mem_cons_of_mem _ he,h⟩
theorem of_tn {S : List Sp} {x : List Dat} (hS : SetP S) (hr : rngS S) (ho : okD x) (hx : rgD x) : ofL 2 (ofL 0 S (saidL x true)) (saidL x false) = tnL S x:=by
  obtain ⟨t1,t2,t3⟩:=tn_ok hS hr ho hx
  obtain ⟨k1,k2⟩:=ofL_ok2 (ofL 0 S (saidL x true)) (saidL x false)
  refine set_ext k1 t1 fun y=>?_
  rw [k2,t3,(ofL_ok0 _ _).2]
theorem of0_len {S : List Sp} {x : List Dat} (hS : SetP S) (ho : okD x) : (ofL 0 S (saidL x true)).length ≤ S.length + (saidL x true).length:=by
  obtain ⟨a1,a2⟩:=canS_ok (saidL_ne ho true)
  obtain ⟨c1,c2⟩:=or_ok hS a1
  obtain ⟨k1,k2⟩:=ofL_ok0 S (saidL x true)
  have e : ofL 0 S (saidL x true) = canS (S ++ canS (saidL x true)):=set_ext k1 c1 fun y=>by rw [k2,c2,a2]
  have h1:=canS_len (S ++ canS (saidL x true))
  have h2:=canS_len (saidL x true)
  rw [List.length_append] at h1
  rw [e];omega
theorem refI_end {l : List Dat} {d : Dat} {t : Int} {S : List Sp} : ∀ (n : Nat),(n = 0 ∨ ¬ 0 < t) → refI l d n t S = S
  | 0,_=>rfl
  | n + 1,h=>by
    have : ¬ 0 < t:=h.resolve_left (by omega)
    show (if 0 < t then _ else S) = S
    rw [if_neg this]
def refQ (l : List Dat) (d : Dat) (n : Nat) (t : Int) (S : List Sp) : Prop:=n ≤ l.length ∧ SetP S ∧ rngS S ∧ refI l d (l.length - n) t S = refSp l d ∧ ∃ tp,0 ≤ tp ∧ nextP l d tp t ∧ S.length ≤ 2 * cntT l d tp
theorem refQ_0 (l : List Dat) (d : Dat) : refQ l d 0 (nextT l d 0) []:=⟨Nat.zero_le _,.nil,fun s hs=>by simp at hs,rfl,0,by decide,nextL_ok d (by decide),Nat.zero_le _⟩
theorem refQ_len {l : List Dat} {d : Dat} {n : Nat} {t : Int} {S : List Sp} (h : refQ l d n t S) (ht : 0 < t) : S.length + 2 * (likeT l d t).length ≤ 2 * l.length ∧ 0 < (likeT l d t).length ∧ S.length ≤ 2 * l.length:=by
  obtain ⟨h1,h2,h3,h4,tp,h5,h6,h7⟩:=h
  rcases h6 with ⟨e0,_⟩ | ⟨hlt,⟨e,e1,e2,e3⟩,_⟩
  · omega
  · have hcs:=cnt_step l d hlt
    have hcl:=cnt_le l d t
    exact ⟨by omega,List.length_pos_of_mem (likeT_mem.2 ⟨e1,e2,e3⟩),by omega⟩
theorem refQ_step {l : List Dat} (hm : okD l) (hr : rgD l) {d : Dat} {n : Nat} {t : Int} {S : List Sp} (h : refQ l d n t S) (ht : 0 < t) (hn : n < l.length) : refQ l d (n + 1) (nextT l d t) (tnL S (likeT l d t)):=by
  have hpos:=(refQ_len h ht).2.1
  obtain ⟨h1,h2,h3,h4,tp,h5,h6,h7⟩:=h
  obtain ⟨t1,t2,t3⟩:=tn_ok h2 h3 (likeT_ok hm d t) (likeT_rg hr d t)
  rcases h6 with ⟨e0,_⟩ | ⟨hlt,_,_⟩
  · omega
  · have hcs:=cnt_step l d hlt
    have hl:=tn_len2 S _ hpos
    refine ⟨by omega,t1,t2,?_,t,by omega,nextL_ok d (by omega),by omega⟩
    rw [← h4,show l.length - n = (l.length - (n + 1)) + 1 by omega]
    show _ = if 0 < t then _ else _
    rw [if_pos ht]
theorem refQ_end {l : List Dat} {d : Dat} {n : Nat} {t : Int} {S : List Sp} (h : refQ l d n t S) (he : l.length ≤ n ∨ ¬ 0 < t) : S = refSp l d:=by
  obtain ⟨h1,_,_,h4,_⟩:=h
  rw [← h4,refI_end _ (he.imp (fun h=>by omega) id)]
set_option maxHeartbeats 32000000 in
theorem rfold_pc [GlobF Tryz.prog] (l : List Dat) (hl : l.length < 1759218604500) (hsl : ∀ d,d ∈ l → d.v.s.length < 9223372036854775808) (hrg : rgD l) : PC Tryz.prog 51 [sl9 l] (.tu [sl6 ((foldR l).getD []),.sc (.int .i64 (if (foldR l).isSome then 0 else 60))]):=by
  have htg:=rtog_pc l hl hsl
  have hfo:=foldR_ok l hrg
  cases hF : foldR l with
  | none =>
    rw [hF] at hfo
    have hno : ¬ ((∀ d,d ∈ l → dmayP d) ∧ ¬ confK l):=fun h=>hfo.elim (fun k=>k h.1) h.2
    rw [← dP_F hno] at htg
    refine PC.of_body Tryz.func51 Tryz.ntmps51 rfl rfl rfl ?_
    repeat' first
 | (apply p1 (hd:=rfl);case hop=>first|(apply D_move;rfl)|(apply D_assign;rfl)|(apply D_pc htg;rfl;exact .same rfl .nil)|(apply D_not;rfl))
 | refine W_seq ?_
 | refine W_region ?_
 | (refine idC ?_;refine cs rfl (fun _=>?_) (fun _=>?_))
 | refine WL_nil ?_
 | refine tn ?_
 | refine tr ?_
 | refine W_skip ?_
 | refine W_block ?_
 | refine W_ret ?_
 | (refine idR ?_;refine ret2 rfl rfl rfl rfl ?_ ?_)
 | (refine Le.int ?_)
    all_goals first|exact Le.nil rfl|rfl|contradiction|(exfalso;omega)|skip
  | some F =>
  have hRF:=refF_ok hrg hF
  rw [hF] at hfo
  obtain ⟨hmay,haF,hrF,hcf,hfk⟩:=hfo
  rw [← dP_T ⟨hmay,hcf⟩] at htg
  have hok : okD l:=fun e he=>by have:=hmay e he;unfold dmayP at this;exact this.2.2.2.2.2.2.2
  show PC _ _ _ (.tu [sl6 F,.sc (.int .i64 0)])
  rw [← hRF]
  refine PC.of_body Tryz.func51 Tryz.ntmps51 rfl rfl rfl ?_
  repeat' first
 | (apply p1 (hd:=rfl);case hop=>first|(apply D_move;rfl)|(apply D_assign;rfl)|(apply D_pc htg;rfl;exact .same rfl .nil)|(apply D_not;rfl))
 | refine W_seq ?_
 | refine W_region ?_
 | (refine idC ?_;refine cs rfl (fun _=>?_) (fun _=>?_))
 | refine WL_nil ?_
 | refine tn ?_
 | refine tr ?_
 | refine W_skip ?_
 | refine W_block ?_
 | refine W_ret ?_
 | (refine idR ?_;refine ret2 rfl rfl rfl rfl ?_ ?_)
 | (refine Le.int ?_)
  all_goals first|contradiction|(exfalso;omega)|skip
  refine W_adopt 5 6 54 rfl ?_
  refine W_ren (rg':=[(0,sl9 l),(5,.sl none 6 (([] : List Fac).map fC)),(6,.sc (.int .i64 0))]) (h':=[]) [] ⟨by decide,fun r hr=>absurd hr (Nat.not_lt_zero r),fun r hr=>(by cases hr),⟨⟨_,rfl,.pur⟩,⟨_,rfl,.slN⟩,⟨_,rfl,.pur⟩,trivial⟩,trivial⟩ ?_
  refine W_loopR (X:=Nat) (fun i=>[(0,sl9 l),(5,sl6 (refF l (l.take i))),(6,.sc (.int .i64 (i : Int)))]) (fun _=>[])
    (fun i=>i ≤ l.length) (fun i=>l.length - i) 0 (Nat.zero_le _) ⟨rfl,rfl,rfl,trivial⟩ rfl ?_
  intro i hi
  by_cases hil : i < l.length
  rotate_left 1
  · have e : i = l.length:=by omega
    subst e
    rw [List.take_length]
    generalize refF l l = O at *
    repeat' first
 | (apply p1 (hd:=rfl);case hop=>first|(apply D_move;rfl)|(apply D_assign;rfl)|(apply D_int;rfl;rfl;rfl)|(apply D_lenM;rfl)|(apply D_loadW;rfl;rfl)|(apply D_idxAn;rfl;rfl;(first|omega|(simp;done))))
 | refine W_seq ?_
 | refine W_region ?_
 | (refine idC ?_;refine cs rfl (fun _=>?_) (fun _=>?_))
 | refine WL_nil ?_
 | refine tn ?_
 | refine te ?_
 | (refine idB ?_;refine bh rfl ?_)
 | refine W_skip ?_
 | refine W_block ?_
 | refine W_exit ?_
 | refine W_ret ?_
 | (refine idR ?_;refine ret2 rfl rfl rfl rfl ?_ ?_)
 | refine Le.int ?_
 | (refine idW ?_;refine W_draw1 rfl ?_)
 | (apply d1 (hd:=rfl);case hop=>first|(apply D_move;rfl)|(apply D_load1;rfl)|(apply D_fld;rfl)|(apply D_loadA;rfl;rfl)|(apply D_idxAn;rfl;rfl;(first|omega|(simp;done)))|exact D_build rfl)
 | (refine idDn ?_;first|refine dS (S_store rfl rfl rfl rfl rfl rfl rfl) rfl ?_|refine dV (S_alloc 0 rfl) rfl rfl ?_)
 | (refine WD_nil (by first|decide +kernel|kernel_rfl|rfl) ?_)
    all_goals first
      | (exfalso;omega)
      | exact Le.of_eq rfl
      | rfl
      | skip
  have hlen : (refF l (l.take i)).length ≤ i:=by have:=refF_len l (l.take i);rw [List.length_take] at this;omega
  have hbO : bndF (refF l (l.take i)):=fun f hf=>by
    rcases refF_mem l (l.take i) [] f hf with h | ⟨d,hd,rfl⟩
    · simp at h
    · have h1:=hsl d (List.mem_of_mem_take hd)
      have h2:=(refSp_ok hmay hrg hcf d).2.2.1
      exact ⟨h1,by show (refSp l d).length < _;omega⟩
  have hsn:=refF_take l l i hil
  unfold refStep at hsn
  have hn0:=rnextT_pc l (l[i]'hil) 0 hl
  have hq0:=refQ_0 l (l[i]'hil)
  generalize refF l (l.take i) = O at *
  generalize hd : l[i]'hil = d at *
  generalize nextT l d 0 = t0 at *
  repeat' first
 | (apply p1 (hd:=rfl);case hop=>first|(apply D_move;rfl)|(apply D_assign;rfl)|(apply D_pc hn0;rfl;exact .same rfl (.cons rfl (Le.of_eq (by rw [← hd])) (.same rfl .nil)))|(apply D_int;rfl;rfl;rfl)|(apply D_lenM;rfl)|(apply D_loadW;rfl;rfl)|(apply D_idxAn;rfl;rfl;(first|omega|(simp;done))))
 | refine W_seq ?_
 | refine W_region ?_
 | (refine idC ?_;refine cs rfl (fun _=>?_) (fun _=>?_))
 | refine WL_nil ?_
 | refine tn ?_
 | refine te ?_
 | (refine idB ?_;refine bh rfl ?_)
 | refine W_skip ?_
 | refine W_block ?_
 | refine W_exit ?_
 | refine W_ret ?_
 | (refine idR ?_;refine ret2 rfl rfl rfl rfl ?_ ?_)
 | refine Le.int ?_
 | (refine idW ?_;refine W_draw1 rfl ?_)
 | (apply d1 (hd:=rfl);case hop=>first|(apply D_move;rfl)|(apply D_load1;rfl)|(apply D_fld;rfl)|(apply D_loadA;rfl;rfl)|(apply D_idxAn;rfl;rfl;(first|omega|(simp;done)))|exact D_build rfl)
 | (refine idDn ?_;first|refine dS (S_store rfl rfl rfl rfl rfl rfl rfl) rfl ?_|refine dV (S_alloc 0 rfl) rfl rfl ?_)
 | (refine WD_nil (by first|decide +kernel|kernel_rfl|rfl) ?_)
  all_goals first|contradiction|(exfalso;omega)|skip
  refine W_loopL (X:=Nat × Int × List Sp × AV) (fun x=>[(0,sl9 l),(5,sl6 O),(6,.sc (.int .i64 (i : Int))),(7,.bp 0 0),(8,.sc (.int .i64 x.2.1)),(9,.sc (.int .i64 (x.1 : Int)))]) (fun x=>[.cells (fce d x.2.2.2)])
    (fun x=>refQ l d x.1 x.2.1 x.2.2.1 ∧ ((x.2.2.2 = .sc (.slice none 0 0) ∧ x.2.2.1 = []) ∨ x.2.2.2 = sl2 x.2.2.1)) (fun x=>l.length - x.1) (0,t0,[],.sc (.slice none 0 0)) ⟨hq0,.inl ⟨rfl,rfl⟩⟩ ⟨rfl,rfl,rfl,rfl,rfl,rfl,trivial⟩ (by rw [← hd];rfl) ?_
  rintro ⟨n,t,S,c⟩ ⟨hq,hc⟩
  dsimp only at hq hc
  dsimp only
  by_cases hcond : n < l.length ∧ 0 < t
  · obtain ⟨hnl,ht⟩:=hcond
    obtain ⟨q1,q2,q3⟩:=refQ_len hq ht
    have hst:=refQ_step hok hrg hq ht hnl
    have hS : SetP S:=hq.2.1
    have hr : rngS S:=hq.2.2.1
    have hs1:=rsaid_pc l d t true hl
    have hs2:=rsaid_pc l d t false hl
    have slI:=saidL_len (likeT l d t) true
    have sl2_:=saidL_len (likeT l d t) false
    have ho1:=of_pc 0 (.inl rfl) S (saidL (likeT l d t) true) (by omega)
    have hol:=of0_len (x:=likeT l d t) hS (likeT_ok hok d t)
    have ho2:=of_pc 2 (.inr (.inr rfl)) (ofL 0 S (saidL (likeT l d t) true)) (saidL (likeT l d t) false) (by omega)
    rw [of_tn hS hr (likeT_ok hok d t) (likeT_rg hrg d t)] at ho2
    have hnx:=rnextT_pc l d t hl
    generalize ofL 0 S (saidL (likeT l d t) true) = M at *
    generalize tnL S (likeT l d t) = S2 at *
    generalize nextT l d t = t2 at *
    generalize saidL (likeT l d t) true = Y at *
    generalize saidL (likeT l d t) false = Z at *
    rcases hc with ⟨rfl,rfl⟩|rfl
    all_goals
      repeat' first
 | (apply p1 (hd:=rfl);case hop=>first|(apply D_move;rfl)|(apply D_assign;rfl)|(apply D_pc hnx;rfl;exact .same rfl (.cons rfl (Le.of_eq (by rw [← hd])) (.same rfl .nil)))|(apply D_pickT;rfl;rfl)|(apply D_pickF;rfl;rfl)|(apply D_int;rfl;rfl;rfl)|(apply D_lenM;rfl)|(apply D_loadW;rfl;rfl)|(apply D_len_nil;rfl)|(apply D_idxAn;rfl;rfl;(first|omega|(simp;done)))|exact D_fldB rfl)
 | refine W_seq ?_
 | refine W_region ?_
 | (refine idC ?_;first|refine c0 rfl ?_|refine cs rfl (fun _=>?_) (fun _=>?_))
 | refine WL_nil ?_
 | (refine idG ?_;first|refine g0t rfl rfl rfl ?_|refine gr rfl rfl ?_|refine gs rfl rfl (fun _=>?_) (fun _=>?_))
 | refine tn ?_
 | refine bn ?_
 | refine te ?_
 | (refine idB ?_;refine bh rfl ?_)
 | refine W_skip ?_
 | refine W_block ?_
 | refine W_exit ?_
 | (refine idLd ?_;first|refine p1L (D_loadB1 rfl rfl rfl) rfl ?_|refine p1L (D_loadBA rfl rfl rfl) rfl ?_)
 | (refine idW ?_;refine W_draw0 rfl ?_)
 | (apply d1 (hd:=rfl);case hop=>first|(apply D_move;rfl)|(apply D_pc hs1;rfl;exact .same rfl (.cons rfl (Le.of_eq (by rw [← hd])) (.same rfl (.same rfl .nil))))|(apply D_pc hs2;rfl;exact .same rfl (.cons rfl (Le.of_eq (by rw [← hd])) (.same rfl (.same rfl .nil))))|(apply D_pc ho1;rfl;exact .niln rfl (.same rfl (.same rfl .nil)))|(apply D_pc ho1;rfl;exact .same rfl (.same rfl (.same rfl .nil)))|(apply D_pc ho2;rfl;exact .same rfl (.same rfl (.same rfl .nil)))|(apply D_loadW;rfl;rfl)|(apply D_idxAn;rfl;rfl;(first|omega|(simp;done)))|exact D_fldB rfl)
 | (refine idDn ?_;first|refine dL _ (fun hp' hs=>D_loadB1 rfl (hs.trans rfl) rfl) rfl ?_|refine dS (S_store rfl rfl rfl rfl rfl rfl rfl) rfl ?_)
 | (refine WD_nil (by first|decide +kernel|kernel_rfl|rfl) ?_)
    all_goals first
      | contradiction
      | (exfalso;omega)
      | exact ⟨rfl,(n + 1,t2,S2,sl2 S2),⟨hst,.inr rfl⟩,by show l.length - (n + 1) < l.length - n;omega,⟨rfl,rfl,rfl,rfl,rfl,ieq (wsucc n (by omega)),trivial⟩,rfl⟩
      | skip
  · have hSe:=refQ_end hq (by omega)
    have hnl:=hq.1
    rw [← hSe] at hsn
    clear hSe
    rcases hc with ⟨rfl,rfl⟩|rfl
    · rw [if_neg (by decide)] at hsn
      repeat' first
 | (apply p1 (hd:=rfl);case hop=>first|(apply D_move;rfl)|(apply D_assign;rfl)|(apply D_pickT;rfl;rfl)|(apply D_pickF;rfl;rfl)|(apply D_int;rfl;rfl;rfl)|(apply D_lenM;rfl)|(apply D_len_nil;rfl)|exact D_fldB rfl)
 | refine W_seq ?_
 | refine W_region ?_
 | (refine idC ?_;first|refine c0 rfl ?_|refine cs rfl (fun _=>?_) (fun _=>?_))
 | refine WL_nil ?_
 | (refine idG ?_;first|refine g0t rfl rfl rfl ?_|refine gr rfl rfl ?_|refine gs rfl rfl (fun _=>?_) (fun _=>?_))
 | refine tn ?_
 | refine bn ?_
 | refine te ?_
 | (refine idB ?_;refine bh rfl ?_)
 | refine W_skip ?_
 | refine W_block ?_
 | refine W_exit ?_
 | (refine idLd ?_;first|refine p1L (D_loadB1 rfl rfl rfl) rfl ?_|refine p1L (D_loadBA rfl rfl rfl) rfl ?_)
 | (refine idW ?_;refine W_draw0 rfl ?_)
 | (apply d1 (hd:=rfl);case hop=>first|(apply D_move;rfl)|(apply D_loadW;rfl;rfl)|(apply D_idxAn;rfl;rfl;(first|omega|(simp;done)))|exact D_fldB rfl)
 | (refine idDn ?_;refine dL _ (fun hp' hs=>D_loadB1 rfl (hs.trans rfl) rfl) rfl ?_)
      all_goals first
        | contradiction
        | (exfalso;omega)
        | exact ⟨rfl,i + 1,by omega,by omega,[],renN ⟨⟨_,rfl,.pur⟩,⟨_,rfl,by rw [hsn];exact .pur⟩,⟨_,rfl,by rw [wsucc i (by omega)];exact .pur⟩,trivial⟩⟩
        | skip
    · have hp:=rput_pc O ⟨d.e,d.a,d.v,S⟩ (by omega) hbO
      repeat' first
 | (apply p1 (hd:=rfl);case hop=>first|(apply D_move;rfl)|(apply D_assign;rfl)|(apply D_pc hp;rfl;exact .same rfl (.same rfl .nil))|(apply D_pickT;rfl;rfl)|(apply D_pickF;rfl;rfl)|(apply D_int;rfl;rfl;rfl)|(apply D_lenM;rfl)|exact D_fldB rfl)
 | refine W_seq ?_
 | refine W_region ?_
 | (refine idC ?_;first|refine c0 rfl ?_|refine cs rfl (fun _=>?_) (fun _=>?_))
 | refine WL_nil ?_
 | (refine idG ?_;first|refine g0t rfl rfl rfl ?_|refine gr rfl rfl ?_|refine gs rfl rfl (fun _=>?_) (fun _=>?_))
 | refine tn ?_
 | refine bn ?_
 | refine te ?_
 | (refine idB ?_;refine bh rfl ?_)
 | refine W_skip ?_
 | refine W_block ?_
 | refine W_exit ?_
 | (refine idLd ?_;first|refine p1L (D_loadB1 rfl rfl rfl) rfl ?_|refine p1L (D_loadBA rfl rfl rfl) rfl ?_)
 | (refine idW ?_;refine W_draw0 rfl ?_)
 | (apply d1 (hd:=rfl);case hop=>first|(apply D_move;rfl)|(apply D_loadW;rfl;rfl)|(apply D_idxAn;rfl;rfl;(first|omega|(simp;done)))|exact D_fldB rfl)
 | (refine idDn ?_;refine dL _ (fun hp' hs=>D_loadB1 rfl (hs.trans rfl) rfl) rfl ?_)
      all_goals first
        | contradiction
        | (exfalso;omega)
        | (rw [if_pos (by omega)] at hsn
           exact ⟨rfl,i + 1,by omega,by omega,[],renN ⟨⟨_,rfl,.pur⟩,⟨_,rfl,by rw [hsn];exact .pur⟩,⟨_,rfl,by rw [wsucc i (by omega)];exact .pur⟩,trivial⟩⟩)
        | (rw [if_neg (by omega)] at hsn
           exact ⟨rfl,i + 1,by omega,by omega,[],renN ⟨⟨_,rfl,.pur⟩,⟨_,rfl,by rw [hsn];exact .pur⟩,⟨_,rfl,by rw [wsucc i (by omega)];exact .pur⟩,trivial⟩⟩)
        | skip
theorem atL_eq {l : List Fac} (h : allF l) (at_ : Int) : atL l at_ = l.filter fun f=>dP (inS f.sp at_):=by
  unfold atL
  refine List.filter_congr fun f hf=>?_
  have hs:=(may_of h hf).2.2
  by_cases hi : inS f.sp at_
  · rw [← dP_T hi,← dP_T ⟨hs,hi⟩]
  · rw [← dP_F hi,← dP_F fun k=>hi k.2]
set_option maxHeartbeats 8000000 in
theorem rat_pc [GlobF Tryz.prog] (l : List Fac) (at_ : Int) (hl : l.length < 1759218604500) (hb : bndF l) : PC Tryz.prog 52 [sl6 l,.sc (.int .i64 at_)] (.tu [sl6 (if dP (allF l) then atL l at_ else []),.sc (.int .i64 (if dP (allF l) then 0 else 60))]):=by
  have hm:=rmay_pc l (by omega) hb
  by_cases ha : allF l
  rotate_left 1
  · rw [← dP_F ha] at hm
    rw [← dP_F ha]
    refine PC.of_body Tryz.func52 Tryz.ntmps52 rfl rfl rfl ?_
    repeat' first
 | (apply p1 (hd:=rfl);case hop=>first|(apply D_move;rfl)|(apply D_assign;rfl)|(apply D_pc hm;rfl;exact .same rfl .nil)|(apply D_not;rfl))
 | refine W_seq ?_
 | refine W_region ?_
 | (refine idC ?_;refine cs rfl (fun _=>?_) (fun _=>?_))
 | refine WL_nil ?_
 | refine tn ?_
 | refine tr ?_
 | refine W_skip ?_
 | refine W_block ?_
 | refine W_ret ?_
 | (refine idR ?_;refine ret2 rfl rfl rfl rfl ?_ ?_)
 | (refine Le.int ?_)
    all_goals first|contradiction|exact Le.nil rfl|rfl|skip
  rw [← dP_T ha] at hm
  rw [← dP_T ha,if_pos rfl,if_pos rfl,atL_eq ha]
  refine PC.of_body Tryz.func52 Tryz.ntmps52 rfl rfl rfl ?_
  repeat' first
 | (apply p1 (hd:=rfl);case hop=>first|(apply D_move;rfl)|(apply D_assign;rfl)|(apply D_pc hm;rfl;exact .same rfl .nil)|(apply D_not;rfl))
 | refine W_seq ?_
 | refine W_region ?_
 | (refine idC ?_;refine cs rfl (fun _=>?_) (fun _=>?_))
 | refine WL_nil ?_
 | refine tn ?_
 | refine tr ?_
 | refine W_skip ?_
 | refine W_block ?_
 | refine W_ret ?_
 | (refine idR ?_;refine ret2 rfl rfl rfl rfl ?_ ?_)
 | (refine Le.int ?_)
  all_goals first|contradiction|skip
  refine W_adopt 7 6 54 rfl ?_
  refine W_loopL (X:=Nat) (fun i=>[(0,sl6 l),(1,.sc (.int .i64 at_)),(7,.sl (some 0) 6 (((l.take i).filter fun f=>dP (inS f.sp at_)).map fC)),(8,.sc (.int .i64 (i : Int)))]) (fun i=>[.tail ((l.take i).filter fun f=>dP (inS f.sp at_)).length 6 54])
    (fun i=>i ≤ l.length) (fun i=>l.length - i) 0 (Nat.zero_le _) ⟨rfl,rfl,rfl,rfl,trivial⟩ rfl ?_
  intro i hi
  have hlen : ((l.take i).filter fun f=>dP (inS f.sp at_)).length ≤ i:=Nat.le_trans (List.length_filter_le _ _) (by simp;omega)
  by_cases hil : i < l.length
  · have hs:=rin_pc' (l[i]'hil).sp at_ (by have:=(hb _ (List.getElem_mem hil)).2;omega)
    have hsn : ((l.take (i + 1)).filter fun f=>dP (inS f.sp at_)) = ((l.take i).filter fun f=>dP (inS f.sp at_)) ++ (if dP (inS (l[i]'hil).sp at_) = true then [l[i]'hil] else []):=by
      rw [List.take_succ_eq_append_getElem hil,List.filter_append]
      congr 1
      by_cases hb : dP (inS (l[i]'hil).sp at_) = true <;> simp [List.filter_cons,hb]
    generalize ((l.take i).filter fun f=>dP (inS f.sp at_)) = O at *
    generalize dP (inS (l[i]'hil).sp at_) = b at *
    cases b
    · rw [if_neg (by decide),List.append_nil] at hsn
      repeat' first
 | (apply p1 (hd:=rfl);case hop=>first|(apply D_move;rfl)|(apply D_assign;rfl)|(apply D_pc hs;rfl;exact .same rfl (.same rfl .nil))|(apply D_load1;rfl)|(apply D_fld;rfl)|(apply D_int;rfl;rfl;rfl)|(apply D_lenM;rfl)|(apply D_idxAn;rfl;rfl;(first|omega|(simp;done))))
 | refine W_seq ?_
 | refine W_region ?_
 | (refine idC ?_;first|refine c0 rfl ?_|refine cs rfl (fun _=>?_) (fun _=>?_))
 | refine WL_nil ?_
 | refine tn ?_
 | refine bn ?_
 | refine te ?_
 | (refine idB ?_;refine bh rfl ?_)
 | refine W_skip ?_
 | refine W_block ?_
 | refine W_exit ?_
 | refine W_ret ?_
 | (refine idR ?_;refine ret2 rfl rfl rfl rfl ?_ ?_)
 | (refine Le.int ?_)
      all_goals first
        | (exfalso;omega)
        | contradiction
        | (refine ⟨rfl,i + 1,by omega,by omega,⟨rfl,rfl,?_,ieq (wsucc i (by omega)),trivial⟩,?_⟩
           · rw [hsn];rfl
           · rw [hsn])
        | skip
    · rw [if_pos rfl] at hsn
      repeat' first
 | (apply p1 (hd:=rfl);case hop=>first|(apply D_move;rfl)|(apply D_assign;rfl)|(apply D_pc hs;rfl;exact .same rfl (.same rfl .nil))|(apply D_load1;rfl)|(apply D_fld;rfl)|(apply D_int;rfl;rfl;rfl)|(apply D_lenM;rfl)|(apply D_loadW;rfl;rfl)|(apply D_idxAn;rfl;rfl;(first|omega|(simp;done)))|(apply D_lit;rfl;rfl;rfl;rfl))
 | refine W_seq ?_
 | refine W_region ?_
 | (refine idC ?_;first|refine c1 rfl ?_|refine cs rfl (fun _=>?_) (fun _=>?_))
 | refine WL_nil ?_
 | refine tn ?_
 | refine bn ?_
 | refine te ?_
 | (refine idB ?_;refine bh rfl ?_)
 | refine W_skip ?_
 | refine W_block ?_
 | refine W_exit ?_
 | refine W_ret ?_
 | (refine idR ?_;refine ret2 rfl rfl rfl rfl ?_ ?_)
 | refine Le.int ?_
 | (refine idAp ?_;refine m_app rfl rfl (by rfl) ?_ rfl rfl ?_ ?_ rfl ?_;(focus (simp;done));(focus (simp only [List.length_map,List.length_append,List.length_cons,List.length_nil];omega));(focus (simp only [List.length_map,List.length_append,List.length_cons,List.length_nil];omega)))
      all_goals first
        | (exfalso;omega)
        | contradiction
        | (refine ⟨rfl,i + 1,by omega,by omega,⟨rfl,rfl,?_,ieq (wsucc i (by omega)),trivial⟩,?_⟩
           · rw [hsn,List.map_append];rfl
           · rw [hsn,List.length_append,← List.length_map (f:=fC)];rfl)
        | skip
  · have e : i = l.length:=by omega
    subst e
    rw [List.take_length] at hlen ⊢
    repeat' first
 | (apply p1 (hd:=rfl);case hop=>first|(apply D_move;rfl)|(apply D_assign;rfl)|(apply D_load1;rfl)|(apply D_fld;rfl)|(apply D_int;rfl;rfl;rfl)|(apply D_lenM;rfl)|(apply D_idxAn;rfl;rfl;(first|omega|(simp;done))))
 | refine W_seq ?_
 | refine W_region ?_
 | (refine idC ?_;refine cs rfl (fun _=>?_) (fun _=>?_))
 | refine WL_nil ?_
 | refine tn ?_
 | refine te ?_
 | (refine idB ?_;refine bh rfl ?_)
 | refine W_skip ?_
 | refine W_block ?_
 | refine W_exit ?_
 | refine W_ret ?_
 | (refine idR ?_;refine ret2 rfl rfl rfl rfl ?_ ?_)
 | (refine Le.int ?_)
    all_goals first
      | (exfalso;omega)
      | exact Le.of_eq rfl
      | exact Le.tokq rfl
      | rfl
      | skip
end Go.Proofs
