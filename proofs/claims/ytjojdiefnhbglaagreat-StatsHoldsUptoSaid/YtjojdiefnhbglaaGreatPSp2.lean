/- The plain law of spans: the document's way, by the instants at which something may turn. No condition. -/
import Derived.Test.YtjojdiefnhbglaaGreatYInst
import Derived.Test.YtjojdiefnhbglaaGreatOps12
set_option linter.all false
namespace Go.Proofs
def jo (o : List Sp) (x y : Int) : List Sp :=
  match o.getLast? with
  | none=>o ++ [⟨x,y⟩]
  | some p=>if p.t = x then o.dropLast ++ [⟨p.f,y⟩] else o ++ [⟨x,y⟩]
theorem jo_nil (x y : Int) : jo [] x y = [⟨x,y⟩]:=rfl
theorem jo_snoc (o : List Sp) (p : Sp) (x y : Int) : jo (o ++ [p]) x y = if p.t = x then o ++ [⟨p.f,y⟩] else o ++ [p] ++ [⟨x,y⟩]:=by
  unfold jo;rw [List.getLast?_concat];simp only [List.dropLast_concat]
theorem jo_len (o : List Sp) (x y : Int) : (jo o x y).length ≤ o.length + 1:=by
  rcases snoc_cases o with rfl | ⟨o,p,rfl⟩
  · simp [jo_nil]
  · rw [jo_snoc];split <;> simp
def ofI (g : Nat → Int) (sel : Int → Bool) : Nat → List Sp
  | 0=>[]
  | j + 1=>if sel (g j) then jo (ofI g sel j) (g j) (g (j + 1)) else ofI g sel j
theorem ofI_len (g : Nat → Int) (sel : Int → Bool) : ∀ j,(ofI g sel j).length ≤ j
  | 0=>by simp [ofI]
  | j + 1=>by
    have:=ofI_len g sel j
    have h2:=jo_len (ofI g sel j) (g j) (g (j + 1))
    unfold ofI;split <;> omega
theorem ofI_ok {g : Nat → Int} {n : Nat} (sel : Int → Bool) (hm : ∀ i j,i < j → j < n → g i < g j) : ∀ j,j < n →
    SetP (ofI g sel j) ∧ (∀ x,inS (ofI g sel j) x ↔ ∃ i,i < j ∧ g i ≤ x ∧ x < g (i + 1) ∧ sel (g i) = true) ∧ ∀ p,p ∈ ofI g sel j → p.t ≤ g j
  | 0,_=>⟨.nil,fun x=>⟨fun h=>absurd h (inS_nil x),fun ⟨i,h,_⟩=>by omega⟩,fun p h=>by simp [ofI] at h⟩
  | j + 1, hj => by
    obtain ⟨h1,h2,h3⟩:=ofI_ok sel hm j (by omega)
    have hlt:=hm j (j + 1) (by omega) hj
    have hstep : ∀ x,(∃ i,i < j + 1 ∧ g i ≤ x ∧ x < g (i + 1) ∧ sel (g i) = true) ↔ (inS (ofI g sel j) x ∨ (g j ≤ x ∧ x < g (j + 1) ∧ sel (g j) = true)):=fun x=>by
      rw [h2]
      constructor
      · rintro ⟨i,hi,h⟩
        by_cases e : i = j
        · subst e;exact .inr h
        · exact .inl ⟨i,by omega,h⟩
      · rintro (⟨i,hi,h⟩|h)
        · exact ⟨i,by omega,h⟩
        · exact ⟨j,by omega,h⟩
    by_cases hs : sel (g j) = true
    · have e : ofI g sel (j + 1) = jo (ofI g sel j) (g j) (g (j + 1)):=by rw [ofI,if_pos hs]
      rw [e]
      simp only [hstep,hs,and_true]
      rcases snoc_cases (ofI g sel j) with e0 | ⟨o,p,e0⟩
      · rw [e0,jo_nil]
        exact ⟨setP_one hlt,fun x=>by rw [inS_one];exact ⟨.inr,fun h=>h.elim (fun h=>absurd h (inS_nil x)) id⟩,fun q hq=>by rw [List.mem_singleton.1 hq];exact Int.le_refl _⟩
      · rw [e0] at h1 h3 ⊢
        obtain ⟨k1,k2,k3⟩:=setP_snoc.1 h1
        have hp:=h3 p (by simp)
        rw [jo_snoc]
        by_cases hc : p.t = g j
        · rw [if_pos hc]
          refine ⟨setP_snoc.2 ⟨k1,by show p.f < g (j + 1);omega,k3⟩,fun x=>?_,fun q hq=>?_⟩
          · rw [inS_append,inS_one,inS_append,inS_one]
            constructor
            · rintro (h|h)
              · exact .inl (.inl h)
              · by_cases hx : x < p.t
                · exact .inl (.inr ⟨h.1,hx⟩)
                · exact .inr ⟨by omega,h.2⟩
            · rintro ((h|h)|h)
              · exact .inl h
              · exact .inr ⟨h.1,by have:=h.2;show x < g (j + 1);omega⟩
              · exact .inr ⟨by show p.f ≤ x;omega,h.2⟩
          · rcases List.mem_append.1 hq with hq|hq
            · have:=k3 q hq;omega
            · rw [List.mem_singleton.1 hq];exact Int.le_refl _
        · rw [if_neg hc]
          refine ⟨setP_snoc.2 ⟨h1,hlt,fun q hq=>?_⟩,fun x=>?_,fun q hq=>?_⟩
          · rcases List.mem_append.1 hq with hq|hq
            · have:=k3 q hq;show q.t < g j;omega
            · rw [List.mem_singleton.1 hq];show p.t < g j;omega
          · rw [inS_append,inS_one]
          · rcases List.mem_append.1 hq with hq|hq
            · have:=h3 q hq;omega
            · rw [List.mem_singleton.1 hq];exact Int.le_refl _
    · have e : ofI g sel (j + 1) = ofI g sel j:=by rw [ofI,if_neg hs]
      rw [e]
      simp only [hstep]
      exact ⟨h1,fun x=>⟨.inl,fun h=>h.elim id (fun h=>absurd h.2.2 hs)⟩,fun p hp=>by have:=h3 p hp;omega⟩
theorem seg_of {g : Nat → Int} {x : Int} : ∀ (d k m : Nat),m = k + d → g k ≤ x → x < g m → ∃ i,k ≤ i ∧ i < m ∧ g i ≤ x ∧ x < g (i + 1)
  | 0,k,m,h,h1,h2=>by rw [Nat.add_zero] at h;subst h;omega
  | d + 1,k,m,h,h1,h2=>by
    by_cases hc : x < g (k + 1)
    · exact ⟨k,Nat.le_refl _,by omega,h1,hc⟩
    · obtain ⟨i,a,b,c⟩:=seg_of d (k + 1) m (by omega) (by omega) h2
      exact ⟨i,by omega,b,c⟩
theorem inS_const {g : Nat → Int} {n i : Nat} {x : Int} {l : List Sp} (hm : ∀ i j,i < j → j < n → g i < g j) (hp : ∀ s,s ∈ l → (∃ k,k < n ∧ g k = s.f) ∧ ∃ m,m < n ∧ g m = s.t) (hi : i + 1 < n) (h1 : g i ≤ x) (h2 : x < g (i + 1)) : inS l x ↔ inS l (g i):=by
  have mono : ∀ k,k < n → (g k ≤ g i ↔ k ≤ i):=fun k hk=>by
    rcases Nat.lt_trichotomy k i with h|h|h
    · have:=hm k i h (by omega);omega
    · subst h;simp
    · have:=hm i k h hk;omega
  have mono2 : ∀ k,k < n → (g (i + 1) ≤ g k ↔ i < k):=fun k hk=>by
    rcases Nat.lt_trichotomy k (i + 1) with h|h|h
    · have:=hm k (i + 1) h hi;omega
    · subst h;simp
    · have:=hm (i + 1) k h hk;omega
  constructor
  · rintro ⟨s,hs,a,b⟩
    obtain ⟨⟨k,hk,ek⟩,m,hm',em⟩:=hp s hs
    refine ⟨s,hs,?_,by omega⟩
    rcases Nat.lt_or_ge i k with h|h
    · have:=(mono2 k hk).2 h;omega
    · have:=(mono k hk).2 h;omega
  · rintro ⟨s,hs,a,b⟩
    obtain ⟨⟨k,hk,ek⟩,m,hm',em⟩:=hp s hs
    refine ⟨s,hs,by omega,?_⟩
    rcases Nat.lt_or_ge i m with h|h
    · have:=(mono2 m hm').2 h;omega
    · have:=(mono m hm').2 h;omega
theorem of_ok {g : Nat → Int} {n : Nat} {a b : List Sp} {sel : Int → Bool} {C : Prop → Prop → Prop} (hm : ∀ i j,i < j → j < n → g i < g j)
    (hp : ∀ s,s ∈ a ++ b → (∃ k,k < n ∧ g k = s.f) ∧ ∃ m,m < n ∧ g m = s.t) (hsel : ∀ v,sel v = true ↔ C (inS a v) (inS b v)) (h0 : ∀ p q,C p q → p ∨ q) (hC : ∀ p q p' q',(p ↔ p') → (q ↔ q') → C p q → C p' q') :
    SetP (ofI g sel (n - 1)) ∧ ∀ x,inS (ofI g sel (n - 1)) x ↔ C (inS a x) (inS b x):=by
  have hpa : ∀ s,s ∈ a → (∃ k,k < n ∧ g k = s.f) ∧ ∃ m,m < n ∧ g m = s.t:=fun s hs=>hp s (List.mem_append_left _ hs)
  have hpb : ∀ s,s ∈ b → (∃ k,k < n ∧ g k = s.f) ∧ ∃ m,m < n ∧ g m = s.t:=fun s hs=>hp s (List.mem_append_right _ hs)
  rcases Nat.eq_zero_or_pos n with rfl|hn
  · refine ⟨.nil,fun x=>⟨fun h=>absurd h (inS_nil x),fun h=>?_⟩⟩
    rcases h0 _ _ h with ⟨s,hs,_⟩ | ⟨s,hs,_⟩
    · obtain ⟨⟨k,hk,_⟩,_⟩:=hpa s hs;omega
    · obtain ⟨⟨k,hk,_⟩,_⟩:=hpb s hs;omega
  · obtain ⟨k1,k2,_⟩:=ofI_ok sel hm (n - 1) (by omega)
    refine ⟨k1,fun x=>(k2 x).trans ⟨?_,fun h=>?_⟩⟩
    · rintro ⟨i,hi,h1,h2,h3⟩
      exact hC _ _ _ _ (inS_const hm hpa (by omega) h1 h2).symm (inS_const hm hpb (by omega) h1 h2).symm ((hsel _).1 h3)
    · have hex : ∃ k m,k < n ∧ m < n ∧ g k ≤ x ∧ x < g m:=by
        rcases h0 _ _ h with ⟨s,hs,e1,e2⟩ | ⟨s,hs,e1,e2⟩
        · obtain ⟨⟨k,hk,ek⟩,m,hm',em⟩:=hpa s hs;exact ⟨k,m,hk,hm',by omega,by omega⟩
        · obtain ⟨⟨k,hk,ek⟩,m,hm',em⟩:=hpb s hs;exact ⟨k,m,hk,hm',by omega,by omega⟩
      obtain ⟨k,m,hk,hm',e1,e2⟩:=hex
      have hkm : k < m:=by
        rcases Nat.lt_trichotomy k m with h|h|h
        · exact h
        · subst h;omega
        · have:=hm m k h hk;omega
      obtain ⟨i,q1,q2,q3,q4⟩:=seg_of (m - k) k m (by omega) e1 e2
      exact ⟨i,by omega,q3,q4,(hsel _).2 (hC _ _ _ _ (inS_const hm hpa (by omega) q3 q4) (inS_const hm hpb (by omega) q3 q4) h)⟩
end Go.Proofs

namespace Go.Proofs
open Go.AL Go.Sort
structure WC {α : Type} (c : α → α → Int) : Prop where
  anti : ∀ x y,c x y < 0 ↔ 0 < c y x
  le : ∀ x y z,c x y ≤ 0 → c y z ≤ 0 → c x z ≤ 0
theorem WC.refl {α : Type} {c : α → α → Int} (h : WC c) (x : α) : c x x = 0:=by have:=h.anti x x;omega
theorem WC.sym {α : Type} {c : α → α → Int} (h : WC c) {x y : α} (e : c x y = 0) : c y x = 0:=by have h1:=h.anti x y;have h2:=h.anti y x;omega
theorem WC.lt {α : Type} {c : α → α → Int} (h : WC c) {x y z : α} (h1 : c x y ≤ 0) (h2 : c y z ≤ 0) (h3 : c x y < 0 ∨ c y z < 0) : c x z < 0:=by
  have h4:=h.le x y z h1 h2
  rcases Int.lt_or_eq_of_le h4 with h5|h5
  · exact h5
  · exfalso
    have h6:=h.sym h5
    rcases h3 with h3|h3
    · have:=h.le y z x h2 (by omega)
      have:=(h.anti x y).1 h3;omega
    · have:=h.le z x y (by omega) h1
      have:=(h.anti y z).1 h3;omega
theorem WC.comap {α β : Type} {c : α → α → Int} (h : WC c) (f : β → α) : WC (fun x y=>c (f x) (f y)):=⟨fun _ _=>h.anti _ _,fun _ _ _=>h.le _ _ _⟩
theorem WC.lex {α : Type} {c d : α → α → Int} (h : WC c) (h' : WC d) : WC (fun x y=>if c x y = 0 then d x y else c x y):=by
  refine ⟨fun x y=>?_,fun x y z h1 h2=>?_⟩
  · have a1:=h.anti x y
    have a2:=h.anti y x
    have b1:=h'.anti x y
    by_cases e : c x y = 0
    · rw [if_pos e,if_pos (h.sym e)];exact b1
    · rw [if_neg e,if_neg (fun e'=>e (h.sym e'))];exact a1
  · by_cases e1 : c x y = 0
    · rw [if_pos e1] at h1
      by_cases e2 : c y z = 0
      · rw [if_pos e2] at h2
        have e3 : c x z = 0:=by
          have l1:=h.le x y z (by omega) (by omega)
          have l2:=h.le z y x (by have:=h.sym e2;omega) (by have:=h.sym e1;omega)
          have:=h.anti x z
          omega
        rw [if_pos e3];exact h'.le x y z h1 h2
      · rw [if_neg e2] at h2
        have:=h.lt (x:=x) (y:=y) (z:=z) (by omega) h2 (.inr (by omega))
        rw [if_neg (by omega)];omega
    · rw [if_neg e1] at h1
      have h3 : c y z ≤ 0:=by
        by_cases e2 : c y z = 0
        · omega
        · rw [if_neg e2] at h2;exact h2
      have:=h.lt (x:=x) (y:=y) (z:=z) h1 h3 (.inl (by omega))
      rw [if_neg (by omega)];omega
theorem WC.swo {α : Type} {c : α → α → Int} (h : WC c) : SWO (ltOf c):=by
  have e : ∀ x y,ltOf c x y = true ↔ c x y < 0:=fun x y=>by simp [ltOf]
  have e' : ∀ x y,ltOf c x y = false ↔ ¬ c x y < 0:=fun x y=>by simp [ltOf]
  refine ⟨fun x=>?_,fun x y z h1 h2=>?_,fun x y z h1 h2=>?_⟩
  · rw [e',h.refl];omega
  · rw [e] at *
    exact h.lt (by omega) (by omega) (.inl h1)
  · rw [e'] at *
    have a1:=h.anti x y
    have a2:=h.anti y x
    have a3:=h.anti y z
    have a4:=h.anti z y
    have a5:=h.anti x z
    have:=h.le z y x (by omega) (by omega)
    omega
theorem ltOf_tot {α : Type} {c : α → α → Int} (h : WC c) (hz : ∀ x y,c x y = 0 → x = y) : ∀ x y,ltOf c x y = false → ltOf c y x = false → x = y:=fun x y h1 h2=>by
  have e' : ∀ x y,ltOf c x y = false ↔ ¬ c x y < 0:=fun x y=>by simp [ltOf]
  rw [e'] at h1 h2
  have:=h.anti y x
  exact hz x y (by omega)
def Rise {α : Type} (c : α → α → Int) (l : List α) : Prop:=l.Pairwise fun x y=>c x y < 0
theorem rise_eq {α : Type} {c : α → α → Int} (h : WC c) : ∀ {a b : List α},Rise c a → Rise c b → (∀ x,x ∈ a ↔ x ∈ b) → a = b
  | [],[],_,_,_=>rfl
  | [],y :: b,_,_,hm=>by have:=(hm y).2 (.head _);cases this
  | x :: a,[],_,_,hm=>by have:=(hm x).1 (.head _);cases this
  | x :: a,y :: b,ha,hb,hm=>by
    unfold Rise at ha hb
    rw [List.pairwise_cons] at ha hb
    have e : x = y:=by
      have h1:=(hm x).1 (.head _)
      have h2:=(hm y).2 (.head _)
      simp only [List.mem_cons] at h1 h2
      rcases h1 with h1|h1
      · exact h1
      · rcases h2 with h2|h2
        · exact h2.symm
        · have l1:=ha.1 y h2
          have l2:=hb.1 x h1
          have:=(h.anti x y).1 l1
          omega
    subst e
    congr 1
    refine rise_eq h ha.2 hb.2 fun z=>?_
    have hz:=hm z
    simp only [List.mem_cons] at hz
    constructor
    · intro hz'
      rcases hz.1 (.inr hz') with e|e
      · subst e;have:=ha.1 z hz';rw [h.refl] at this;omega
      · exact e
    · intro hz'
      rcases hz.2 (.inr hz') with e|e
      · subst e;have:=hb.1 z hz';rw [h.refl] at this;omega
      · exact e
open Classical in
noncomputable def compL {α : Type} : List α → List α
  | []=>[]
  | [x]=>[x]
  | x :: y :: t=>if x = y then compL (y :: t) else x :: compL (y :: t)
open Classical in
theorem compL_snoc {α : Type} : ∀ (t : List α) (y x : α),compL (t ++ [y] ++ [x]) = compL (t ++ [y]) ++ (if y = x then [] else [x])
  | [],y,x=>by
    simp only [List.nil_append,List.cons_append,compL]
    by_cases h : y = x
    · simp [h]
    · simp [h]
  | [z],y,x=>by
    simp only [List.nil_append,List.cons_append,compL]
    by_cases h : y = x <;> by_cases h' : z = y <;> simp [h,h']
  | z :: w :: t,y,x=>by
    have ih:=compL_snoc (w :: t) y x
    simp only [List.cons_append] at ih ⊢
    simp only [compL]
    rw [ih]
    split <;> simp
theorem compL_mem {α : Type} : ∀ (l : List α) (x : α),x ∈ compL l ↔ x ∈ l
  | [],x=>by simp [compL]
  | [y],x=>by simp [compL]
  | y :: z :: t,x=>by
    have ih:=compL_mem (z :: t) x
    simp only [compL]
    split
    · rename_i h;subst h;rw [ih];simp
    · rw [List.mem_cons,ih,List.mem_cons (a:=x) (b:=y)]
theorem compL_rise {α : Type} {c : α → α → Int} (h : WC c) (hz : ∀ x y,c x y = 0 → x = y) : ∀ {l : List α},l.Pairwise (fun x y=>c x y ≤ 0) → Rise c (compL l)
  | [],_=>List.Pairwise.nil
  | [x],_=>List.pairwise_singleton _ _
  | x :: y :: t,hp=>by
    rw [List.pairwise_cons] at hp
    have ih:=compL_rise h hz hp.2
    simp only [compL]
    split
    · exact ih
    · rename_i hne
      refine List.pairwise_cons.2 ⟨fun z hzm=>?_,ih⟩
      have hzm':=(compL_mem (y :: t) z).1 hzm
      have hxy : c x y < 0:=by
        have:=hp.1 y (.head _)
        rcases Int.lt_or_eq_of_le this with h5|h5
        · exact h5
        · exact absurd (hz x y h5) hne
      simp only [List.mem_cons] at hzm'
      rcases hzm' with e|e
      · subst e;exact hxy
      · exact h.lt (by omega) ((List.pairwise_cons.1 hp.2).1 z e) (.inl hxy)
open Classical in
theorem compL_take {α : Type} (l : List α) (m : Nat) (h : m + 1 < l.length) : compL (l.take (m + 2)) = compL (l.take (m + 1)) ++ (if l[m] = l[m + 1] then [] else [l[m + 1]]):=by
  have e1 : l.take (m + 1) = l.take m ++ [l[m]]:=List.take_succ_eq_append_getElem (by omega)
  have e2 : l.take (m + 2) = l.take m ++ [l[m]] ++ [l[m + 1]]:=by rw [List.take_succ_eq_append_getElem h,e1]
  rw [e2,e1,compL_snoc]
noncomputable def sortC {α : Type} (c : α → α → Int) (l : List α) : List α:=compL (l.mergeSort fun x y=>!(ltOf c y x))
theorem sortC_mem {α : Type} (c : α → α → Int) (l : List α) (x : α) : x ∈ sortC c l ↔ x ∈ l:=by
  unfold sortC;rw [compL_mem,List.mem_mergeSort]
theorem sortC_rise {α : Type} {c : α → α → Int} (h : WC c) (hz : ∀ x y,c x y = 0 → x = y) (l : List α) : Rise c (sortC c l):=by
  refine compL_rise h hz ?_
  have e : ∀ x y,(!(ltOf c y x)) = true ↔ c x y ≤ 0:=fun x y=>by
    have:=h.anti y x
    have:=h.anti x y
    simp [ltOf];omega
  have:=List.pairwise_mergeSort (le:=fun x y=>!(ltOf c y x)) (fun a b d h1 h2=>by rw [e] at *;exact h.le _ _ _ h1 h2) (fun a b=>by
    have:=h.anti a b
    have:=h.anti b a
    rw [Bool.or_eq_true,e,e];omega) l
  exact this.imp fun {a b} hab=>(e a b).1 hab
theorem compL_len {α : Type} : ∀ (l : List α),(compL l).length ≤ l.length
  | []=>by simp [compL]
  | [x]=>by simp [compL]
  | x :: y :: t=>by
    have:=compL_len (y :: t)
    simp only [compL];split <;> simp at * <;> omega
theorem sortC_len {α : Type} (c : α → α → Int) (l : List α) : (sortC c l).length ≤ l.length:=by
  have:=compL_len (l.mergeSort fun x y=>!(ltOf c y x))
  rw [List.length_mergeSort] at this;exact this
theorem sortC_eq {α : Type} {c : α → α → Int} (h : WC c) (hz : ∀ x y,c x y = 0 → x = y) {l m : List α} (hr : Rise c m) (hm : ∀ x,x ∈ m ↔ x ∈ l) : m = sortC c l :=
  rise_eq h hr (sortC_rise h hz l) fun x=>by rw [hm,sortC_mem]
def insC {α : Type} (c : α → α → Int) (x : α) : List α → List α
  | []=>[x]
  | y :: t=>if c y x < 0 then y :: insC c x t else if c y x = 0 then y :: t else x :: y :: t
theorem insC_mem {α : Type} {c : α → α → Int} (hz : ∀ x y,c x y = 0 → x = y) (x : α) : ∀ (l : List α) (z : α),z ∈ insC c x l ↔ z = x ∨ z ∈ l
  | [],z=>by simp [insC]
  | y :: t,z=>by
    have ih:=insC_mem hz x t z
    simp only [insC]
    split
    · rw [List.mem_cons,ih,List.mem_cons]
      constructor
      · rintro (h|h|h)
        · exact .inr (.inl h)
        · exact .inl h
        · exact .inr (.inr h)
      · rintro (h|h|h)
        · exact .inr (.inl h)
        · exact .inl h
        · exact .inr (.inr h)
    · split
      · rename_i h;have:=hz y x h;subst this;simp
      · simp
theorem insC_rise {α : Type} {c : α → α → Int} (h : WC c) (hz : ∀ x y,c x y = 0 → x = y) (x : α) : ∀ {l : List α},Rise c l → Rise c (insC c x l)
  | [],_=>List.pairwise_singleton _ _
  | y :: t,hr=>by
    unfold Rise at *
    have hr':=List.pairwise_cons.1 hr
    simp only [insC]
    split
    · rename_i hlt
      refine List.pairwise_cons.2 ⟨fun z hzm=>?_,insC_rise h hz x hr'.2⟩
      rcases (insC_mem hz x t z).1 hzm with e|e
      · subst e;exact hlt
      · exact hr'.1 z e
    · rename_i h1
      split
      · exact hr
      · rename_i h2
        have hxy : c x y < 0:=(h.anti x y).2 (by omega)
        refine List.pairwise_cons.2 ⟨fun z hzm=>?_,hr⟩
        simp only [List.mem_cons] at hzm
        rcases hzm with e|e
        · subst e;exact hxy
        · have:=hr'.1 z e
          exact h.lt (by omega) (by omega) (.inl hxy)
theorem insC_at {α : Type} {c : α → α → Int} (x : α) : ∀ (n : Nat) (l : List α),n ≤ l.length → (∀ (j : Nat) (h : j < l.length),j < n → c l[j] x < 0) →
    (∀ h : n < l.length,¬ c l[n] x < 0 → (c l[n] x = 0 → insC c x l = l) ∧ (c l[n] x ≠ 0 → insC c x l = l.take n ++ [x] ++ l.drop n)) ∧ (n = l.length → insC c x l = l ++ [x])
  | 0,[],_,_=>⟨fun h=>by simp at h,fun _=>rfl⟩
  | 0,y :: t,_,_=>by
    refine ⟨fun _ h1=>⟨fun h2=>?_,fun h2=>?_⟩,fun h=>by simp at h⟩
    · simp only [List.getElem_cons_zero] at h1 h2
      simp only [insC];rw [if_neg h1,if_pos h2]
    · simp only [List.getElem_cons_zero] at h1 h2
      simp only [insC];rw [if_neg h1,if_neg h2];rfl
  | n + 1,[],h,_=>by simp at h
  | n + 1,y :: t,h,hj=>by
    have h0 : c y x < 0:=hj 0 (by simp) (by omega)
    obtain ⟨g1,g2⟩:=insC_at (c:=c) x n t (by simpa using h) fun j hj1 hj2=>by
      have:=hj (j + 1) (by simpa using hj1) (by omega)
      simpa using this
    have e : insC c x (y :: t) = y :: insC c x t:=by simp only [insC];rw [if_pos h0]
    rw [e]
    refine ⟨fun hn h1=>?_,fun hn=>?_⟩
    · simp only [List.getElem_cons_succ] at h1 ⊢
      obtain ⟨k1,k2⟩:=g1 (by simpa using hn) h1
      exact ⟨fun h2=>by rw [k1 h2],fun h2=>by rw [k2 h2];rfl⟩
    · rw [g2 (by simpa using hn)];rfl
theorem insC_len {α : Type} (c : α → α → Int) (x : α) : ∀ l : List α,(insC c x l).length ≤ l.length + 1
  | []=>by simp [insC]
  | y :: t=>by
    have:=insC_len c x t
    simp only [insC];split
    · simp;omega
    · split <;> simp
def insL {α : Type} (c : α → α → Int) (l : List α) : List α:=l.foldl (fun out x=>insC c x out) []
theorem insL_snoc {α : Type} (c : α → α → Int) (l : List α) (i : Nat) (h : i < l.length) : insL c (l.take (i + 1)) = insC c l[i] (insL c (l.take i)):=by
  unfold insL
  rw [List.take_succ_eq_append_getElem h,List.foldl_append];rfl
theorem insL_len {α : Type} (c : α → α → Int) (l : List α) (i : Nat) (h : i ≤ l.length) : (insL c (l.take i)).length ≤ i:=by
  induction i with
  | zero=>simp [insL]
  | succ i ih =>
    rw [insL_snoc c l i (by omega)]
    have:=insC_len c l[i] (insL c (l.take i))
    have:=ih (by omega)
    omega
theorem fold_sortC {α : Type} {c : α → α → Int} (h : WC c) (hz : ∀ x y,c x y = 0 → x = y) (l : List α) : l.foldl (fun out x=>insC c x out) [] = sortC c l:=by
  have key : ∀ (l out : List α),Rise c out → Rise c (l.foldl (fun out x=>insC c x out) out) ∧ ∀ z,z ∈ l.foldl (fun out x=>insC c x out) out ↔ z ∈ out ∨ z ∈ l:=by
    intro l
    induction l with
    | nil=>exact fun out hr=>⟨hr,fun z=>by simp⟩
    | cons x l ih =>
      intro out hr
      obtain ⟨h1,h2⟩:=ih (insC c x out) (insC_rise h hz x hr)
      refine ⟨h1,fun z=>?_⟩
      rw [List.foldl_cons,h2,insC_mem hz,List.mem_cons]
      constructor
      · rintro ((e|e)|e)
        · exact .inr (.inl e)
        · exact .inl e
        · exact .inr (.inr e)
      · rintro (e|e|e)
        · exact .inl (.inr e)
        · exact .inl (.inl e)
        · exact .inr e
  obtain ⟨h1,h2⟩:=key l [] List.Pairwise.nil
  exact sortC_eq h hz h1 fun z=>by rw [h2];simp
end Go.Proofs
