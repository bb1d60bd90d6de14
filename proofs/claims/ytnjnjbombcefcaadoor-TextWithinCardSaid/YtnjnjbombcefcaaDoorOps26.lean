/- A region whose order is open, and whose last operations stand behind all others: these are walked one by one. No condition. -/
import Derived.Test.YtnjnjbombcefcaaDoorDraw
import Derived.Test.YtnjnjbombcefcaaDoorApp4
import Derived.Test.YtnjnjbombcefcaaDoorOps21
import Derived.Test.YtnjnjbombcefcaaDoorOps19
import Derived.Test.YtnjnjbombcefcaaDoorOps5
set_option linter.all false
namespace Go.AL
def lastOK (l : List Oper) (m : Nat) : Bool :=
  (List.range l.length).all fun i=>match l[i]? with
    | some o=>(o.after.all fun e=>!(Region.binds .any e) || Nat.blt e.on i) && (Nat.blt i m || (List.range i).all fun j=>((masks l []).getD i 0).testBit j)
    | none=>true
theorem wpAny_last {P : Program} {L : List Oper} {m : Nat} (hlast : lastOK L m = true) {F : Fence} {Q : Exit → Act → World → Prop} : ∀ (fuel k : Nat) (listed : Array Bool) (a : Act) (w : World),m ≤ k → L.length - k ≤ fuel → k ≤ L.length → listed.size = L.length →
    (∀ j,j < L.length → listed.getD j false = decide (j < k)) → wpListIn F 0 P L.toArray Q (L.drop k) a w → wpAnyIn F 0 P .any L.toArray Q fuel listed a w:=by
  have hedge : ∀ i o,L[i]? = some o → ∀ e,e ∈ o.after.toList → Region.binds .any e = true → e.on < i:=by
    intro i o hi e he hb
    have hlt : i < L.length:=(List.getElem?_eq_some_iff.1 hi).1
    have:=List.all_eq_true.1 hlast i (List.mem_range.2 hlt)
    simp only [hi,Bool.and_eq_true] at this
    have h1:=Array.all_eq_true_iff_forall_mem.1 this.1 e (Array.mem_toList_iff.1 he)
    simpa [hb,Nat.blt_eq] using h1
  have hmask : ∀ i j,m ≤ i → i < L.length → j < i → ((masks L []).getD i 0).testBit j = true:=by
    intro i j hmi hi hji
    have:=List.all_eq_true.1 hlast i (List.mem_range.2 hi)
    simp only [List.getElem?_eq_getElem hi,Bool.and_eq_true,Bool.or_eq_true,Nat.blt_eq] at this
    rcases this.2 with h|h
    · omega
    · exact List.all_eq_true.1 h j (List.mem_range.2 hji)
  intro fuel
  induction fuel with
  | zero =>
    intro k listed a w hmk hf hk hsz hl h
    have e : k = L.length:=by omega
    subst e
    rw [List.drop_length] at h
    refine ⟨?_,h⟩
    apply List.eq_nil_iff_forall_not_mem.2
    intro j hj
    obtain ⟨h1,o,h2,_⟩:=mem_ready.1 hj
    have hj' : j < L.length:=by simpa using (Array.getElem?_eq_some_iff.1 h2).1
    have:=hl j hj'
    rw [Array.getD_eq_getD_getElem?,Array.getElem?_eq_getElem (by omega)] at h1 this
    simp at h1 this;rw [h1] at this;simp at this;omega
  | succ fuel ih =>
    intro k listed a w hmk hf hk hsz hl h
    have honly : ∀ i,i ∈ Region.ready .any L.toArray listed → i = k:=fun i hi=>by
      obtain ⟨h1,o,h2,hed⟩:=mem_ready.1 hi
      have hio : L[i]? = some o:=by simpa using h2
      have hil : i < L.length:=(List.getElem?_eq_some_iff.1 hio).1
      have hki : ¬ i < k:=fun hlt=>by
        have:=hl i hil
        rw [Array.getD_eq_getD_getElem?,Array.getElem?_eq_getElem (by omega)] at h1 this
        simp at h1 this;rw [h1] at this;simp at this;omega
      rcases Nat.eq_or_lt_of_le (Nat.le_of_not_lt hki) with e|e
      · exact e.symm
      · exfalso
        have hcl : Closed L (fun j=>j = i ∨ listed.getD j false = true):=fun j p hj hs e2 he hb=>by
          rcases hs with rfl|hs
          · rw [hio] at hj;cases hj;exact .inr (hed e2 (Array.mem_toList_iff.1 he) hb)
          · have hjl : j < L.length:=(List.getElem?_eq_some_iff.1 hj).1
            have hjk : j < k:=by have:=hl j hjl;rw [hs] at this;simpa using this.symm
            have:=hedge j p hj e2 he hb
            right;rw [hl _ (by omega)];simp;omega
        rcases reach hcl (hmask i k (by omega) hil e) (.inl rfl) with r|r
        · omega
        · rw [hl k (by omega)] at r;simp at r
    refine ⟨fun hnil=>?_,fun i hi=>?_⟩
    · rcases Nat.eq_or_lt_of_le hk with e|e
      · subst e;rw [List.drop_length] at h;exact h
      · exfalso
        have : k ∈ Region.ready .any L.toArray listed:=mem_ready.2 ⟨by
          have:=hl k e
          rw [Array.getD_eq_getD_getElem?,Array.getElem?_eq_getElem (by omega)] at this ⊢;simpa using this,L[k],by simp [e],fun e' he hbd=>by
          have hlt:=hedge k L[k] (List.getElem?_eq_getElem e) e' (Array.mem_toList_iff.2 he) hbd
          rw [hl _ (by omega)];simpa using hlt⟩
        rw [hnil] at this;cases this
    · have e:=honly i hi
      subst e
      obtain ⟨h1,o,h2,hed⟩:=mem_ready.1 hi
      have hio : L[i]? = some o:=by simpa using h2
      have hil : i < L.length:=(List.getElem?_eq_some_iff.1 hio).1
      rw [List.drop_eq_getElem_cons hil] at h
      have ho : L[i] = o:=by rw [List.getElem?_eq_getElem hil] at hio;exact Option.some.inj hio
      rw [ho] at h
      simp only [wpOpIn,h2]
      have hnx : ∀ a w,wpListIn F 0 P L.toArray Q (L.drop (i + 1)) a w → wpAnyIn F 0 P .any L.toArray Q fuel (listed.setIfInBounds i true) a w:=fun a w hh =>
        ih (i + 1) _ a w (by omega) (by omega) (by omega) (by simpa using hsz) (fun j hj=>by
          simp only [Array.getD_eq_getD_getElem?,Array.getElem?_setIfInBounds]
          by_cases e : i = j
          · subst e;have : i < listed.size:=by omega
            simp [this]
          · rw [if_neg e]
            have:=hl j hj
            rw [Array.getD_eq_getD_getElem?] at this
            rw [this];simp;omega) hh
      simp only [wpListIn] at h
      split at h
      · rename_i hw;rw [if_pos hw];exact Oper.wpIn_mono hnx h
      · rename_i hw;rw [if_neg hw];exact ⟨h.1,hnx _ _ h.2⟩
theorem gdst_app {l l2 : List Oper} {j t : Nat} (h : gdst l.toArray j = some t) : gdst (l ++ l2).toArray j = some t:=by
  unfold gdst at h ⊢
  have hj : j < l.length:=by
    rcases Nat.lt_or_ge j l.length with h1|h1
    · exact h1
    · simp [List.getElem?_eq_none h1] at h
  simpa [List.getElem?_append_left hj] using h
section
variable {P : Program} [GlobF P] {fr : Option Nat} {N : Nat}
theorem W_drawS {Q : Exit → AS → Prop} {rg : List (Nat × AV)} {hp0 : List AObj} {mk : Mk} [hm : Mix P] {id : Nat} {L l l2 : List Oper} (hL : L = l ++ l2) (hlast : lastOK L l.length = true) (h : WD P N l.toArray l [] (fun s'=>WL P fr N L.toArray l2 Q s') ⟨rg,resv (laysN l) hp0,mk⟩) : W P fr N (.region id L.toArray true) Q ⟨rg,hp0,mk⟩:=by
  intro B G00 a w hr00
  have hr0:=hr00.resv (laysN l)
  generalize hsdef : (⟨rg,resv (laysN l) hp0,mk⟩ : AS) = s at h hr0
  obtain ⟨ds,rs,vs,us,hf,hok,sn,hsn,hk⟩:=WD_facts h
  simp only [List.reverse_nil,List.nil_append] at hok
  have hsl : ∀ i,i < l.length → ((List.range l.length).map fun i=>(rs i,(us i).map (·.1)))[i]? = some (rs i,(us i).map (·.1)):=fun i hi=>by simp [hi]
  have hnone : ∀ i,l.length ≤ i → l[i]? = none:=fun i h=>List.getElem?_eq_none h
  have hok2:=(Bool.and_eq_true _ _ ▸ hok : _ = true ∧ _ = true).2
  have hedge : ∀ i o,l[i]? = some o → ∀ e,e ∈ o.after.toList → Region.binds .any e = true → e.on < i:=by
    intro i o hi e he hb
    have hlt : i < l.length:=(List.getElem?_eq_some_iff.1 hi).1
    have:=List.all_eq_true.1 hok2 i (List.mem_range.2 hlt)
    simp only [hi,Bool.and_eq_true] at this
    have h1:=Array.all_eq_true_iff_forall_mem.1 this.1 e (Array.mem_toList_iff.1 he)
    simpa [hb,Nat.blt_eq] using h1
  have hord : ∀ i o j p,l[i]? = some o → l[j]? = some p → i ≠ j → ((∃ d,ds j = some d ∧ (d ∈ looks l.toArray o ∨ ds i = some d)) ∨ (∃ r,(us j).map (·.1) = some r ∧ r ∈ rs i)) → ((masks l []).getD i 0).testBit j = true ∨ ((masks l []).getD j 0).testBit i = true:=by
    intro i o j p hi hj hne hd
    have hlt : i < l.length:=(List.getElem?_eq_some_iff.1 hi).1
    have hltj : j < l.length:=(List.getElem?_eq_some_iff.1 hj).1
    have h0:=List.all_eq_true.1 hok2 i (List.mem_range.2 hlt)
    simp only [hi,Bool.and_eq_true] at h0
    have h1:=List.all_eq_true.1 h0.2 j (List.mem_range.2 hltj)
    have hb : (i == j) = false:=by simpa using hne
    simp only [hb,Bool.false_or] at h1
    have hc : confl l ((List.range l.length).map fun i=>(rs i,(us i).map (·.1))) i j = true:=by
      simp only [confl,hi,hj,hsl i hlt,hsl j hltj,(hf j p hj).1,(hf i o hi).1]
      rcases hd with ⟨d,e1,e2⟩ | ⟨r,e1,e2⟩
      · rw [e1]
        rcases e2 with e2|e2
        · simp [e2]
        · simp [e2]
      · rw [e1];simp [e2]
    rw [if_pos hc] at h1
    simpa using h1
  have hle : ∀ k,Closed l (fun j=>j ≤ k):=fun k i o hi hik e he hb=>by have:=hedge i o hi e he hb;omega
  subst hL
  have hLl : (l ++ l2).length = l.length + l2.length:=List.length_append
  refine wpIn_region_any hm.h ?_
  have hfin : ∀ (listed : Array Bool),(∀ j,j < l.length → listed.getD j false = true) → Eqv (stS ds vs us (fun j=>listed.getD j false) s l.length) sn:=fun listed hall=>by
    refine Eqv.trans ⟨fun t=>?_,?_,?_⟩ hsn
    · rw [look_stS,look_stS,lastW_congr fun j hj _=>by rw [hall j hj]]
    · refine heap_ext (by rw [(stS_len ds vs us _ s _).1,(stS_len ds vs us _ s _).1]) fun r hrl=>?_
      rw [(stS_len ds vs us _ s _).1] at hrl
      rw [slot_stS _ _ _ _ _ _ hrl,slot_stS _ _ _ _ _ _ hrl,lastW_congr fun j hj _=>by rw [hall j hj]]
    · rw [(stS_len ds vs us _ s _).2,(stS_len ds vs us _ s _).2]
  have key : ∀ (fuel : Nat) (listed : Array Bool) (G : Gh) (a : Act) (w : World),listed.size = (l ++ l2).length → Closed l (fun j=>listed.getD j false = true) → (∀ j,l.length ≤ j → listed.getD j false = false) → R B N G (stS ds vs us (fun j=>listed.getD j false) s l.length) a w →
      ((listed.toList.filter (fun b=>!b)).length ≤ fuel) → wpAnyIn (fence fr) 0 P .any (l ++ l2).toArray (Post B N Q) fuel listed a w:=by
    intro fuel
    induction fuel with
    | zero =>
      intro listed G a w hsz hcl hout hr hfu
      have hall : ∀ j,j < (l ++ l2).length → listed.getD j false = true:=fun j hj=>by
        have hz : listed.toList.filter (fun b=>!b) = []:=List.length_eq_zero_iff.1 (Nat.le_zero.1 hfu)
        have:=List.filter_eq_nil_iff.1 hz (listed.getD j false) (by rw [Array.getD_eq_getD_getElem?,Array.getElem?_eq_getElem (by omega)];simp)
        simpa using this
      have hl2 : l2.length = 0:=by
        rcases Nat.eq_zero_or_pos l2.length with h0|h0
        · exact h0
        · have:=hall l.length (by omega);rw [hout _ (Nat.le_refl _)] at this;cases this
      refine wpAny_last hlast 0 l.length listed a w (Nat.le_refl _) (by omega) (by omega) hsz (fun j hj=>by rw [hall j hj];symm;simp;omega) ?_
      rw [List.drop_left]
      exact hk B G a w ((hfin listed fun j hj=>hall j (by omega)).R hr)
    | succ fuel ih =>
      intro listed G a w hsz hcl hout hr hfu
      by_cases hall : ∀ j,j < l.length → listed.getD j false = true
      · refine wpAny_last hlast (fuel + 1) l.length listed a w (Nat.le_refl _) ?_ (by omega) hsz (fun j hj=>?_) ?_
        · have hcnt : ∀ (xs : List Bool) (n : Nat),(∀ j,n ≤ j → j < xs.length → xs[j]? = some false) → xs.length - n ≤ (xs.filter (fun b=>!b)).length:=fun xs=>by
            induction xs with
            | nil=>intro n h;simp
            | cons b xs ihx =>
              intro n h
              cases n with
              | zero =>
                have h0:=h 0 (Nat.le_refl _) (by simp)
                simp at h0;subst h0
                have:=ihx 0 fun j hj hjl=>by have:=h (j + 1) (by omega) (by simpa using hjl);simpa using this
                simp at this ⊢;omega
              | succ n =>
                have:=ihx n fun j hj hjl=>by have:=h (j + 1) (by omega) (by simpa using hjl);simpa using this
                cases b <;> simp at this ⊢ <;> omega
          have:=hcnt listed.toList l.length fun j hj hjl=>by
            have h1:=hout j hj
            rw [Array.length_toList] at hjl
            rw [Array.getD_eq_getD_getElem?,Array.getElem?_eq_getElem hjl] at h1
            rw [Array.getElem?_toList,Array.getElem?_eq_getElem hjl]
            simp at h1;rw [h1]
          rw [Array.length_toList] at this
          omega
        · rcases Nat.lt_or_ge j l.length with h1|h1
          · rw [hall j h1];symm;simpa using h1
          · rw [hout j h1];symm;simp;omega
        · rw [List.drop_left]
          exact hk B G a w ((hfin listed hall).R hr)
      refine ⟨fun hnil=>?_,fun i hi=>?_⟩
      · -- nothing is ready: all are listed
        refine absurd (fun j=>?_) hall
        induction j using Nat.strongRecOn with
        | _ j ihj =>
          intro hj
          cases hb : listed.getD j false with
          | true=>rfl
          | false =>
            exfalso
            have : j ∈ Region.ready .any (l ++ l2).toArray listed:=mem_ready.2 ⟨by
              rw [Array.getD_eq_getD_getElem?,Array.getElem?_eq_getElem (by omega)] at hb ⊢;simpa using hb,l[j],(by rw [List.getElem?_toArray,List.getElem?_append_left hj,List.getElem?_eq_getElem hj]),fun e he hbd=>by
              have hlt:=hedge j l[j] (List.getElem?_eq_getElem hj) e (Array.mem_toList_iff.2 he) hbd
              exact ihj e.on hlt (by omega)⟩
            rw [hnil] at this;cases this
      · obtain ⟨h1,o,h2,hed⟩:=mem_ready.1 hi
        have hiL : (l ++ l2)[i]? = some o:=by simpa using h2
        have hiLl : i < (l ++ l2).length:=(List.getElem?_eq_some_iff.1 hiL).1
        have hilt : i < l.length:=by
          rcases Nat.lt_or_ge i l.length with h3|h3
          · exact h3
          · exfalso
            have hedge2 : ∀ i o,(l ++ l2)[i]? = some o → ∀ e,e ∈ o.after.toList → Region.binds .any e = true → e.on < i:=by
              intro i o hi e he hb
              have hlt : i < (l ++ l2).length:=(List.getElem?_eq_some_iff.1 hi).1
              have:=List.all_eq_true.1 hlast i (List.mem_range.2 hlt)
              simp only [hi,Bool.and_eq_true] at this
              have h1:=Array.all_eq_true_iff_forall_mem.1 this.1 e (Array.mem_toList_iff.1 he)
              simpa [hb,Nat.blt_eq] using h1
            have hcl2 : Closed (l ++ l2) (fun j=>j = i ∨ listed.getD j false = true):=fun j p hj hs e2 he hb=>by
              rcases hs with rfl|hs
              · rw [hiL] at hj;cases hj;exact .inr (hed e2 (Array.mem_toList_iff.1 he) hb)
              · have hjl : j < l.length:=by
                  rcases Nat.lt_or_ge j l.length with h4|h4
                  · exact h4
                  · rw [hout j h4] at hs;cases hs
                rw [List.getElem?_append_left hjl] at hj
                exact .inr (hcl j p hj hs e2 he hb)
            refine hall fun j hj=>?_
            have hm:=List.all_eq_true.1 hlast i (List.mem_range.2 hiLl)
            simp only [hiL,Bool.and_eq_true,Bool.or_eq_true,Nat.blt_eq] at hm
            rcases hm.2 with h5|h5
            · omega
            · rcases reach hcl2 (List.all_eq_true.1 h5 j (List.mem_range.2 (by omega))) (.inl rfl) with r|r
              · omega
              · exact r
        have hio : l[i]? = some o:=by rwa [List.getElem?_append_left hilt] at hiL
        have hi0 : listed.getD i false = false:=by
          rw [Array.getD_eq_getD_getElem?,Array.getElem?_eq_getElem (by omega)] at h1 ⊢;simpa using h1
        obtain ⟨hdst,hdN,hso,hop⟩:=hf i o hio
        have hcl' : Closed l (fun j=>j = i ∨ listed.getD j false = true):=fun j p hj hs e he hb=>by
          rcases hs with rfl|hs
          · rw [hio] at hj;cases hj;exact .inr (hed e (Array.mem_toList_iff.1 he) hb)
          · exact .inr (hcl j p hj hs e he hb)
        have hwr : ∀ j,j < l.length → j ≠ i → ((∃ d,ds j = some d ∧ (d ∈ looks l.toArray o ∨ ds i = some d)) ∨ (∃ r,(us j).map (·.1) = some r ∧ r ∈ rs i)) → listed.getD j false = decide (j < i):=fun j hj hne hd=>by
          rcases hord i o j l[j] hio (List.getElem?_eq_getElem hj) (Ne.symm hne) hd with hb|hb
          · have r1:=reach hcl' hb (.inl rfl)
            have r2 : j ≤ i:=reach (hle i) hb (Nat.le_refl i)
            rcases r1 with r1|r1
            · exact absurd r1 hne
            · rw [r1];symm;simp;omega
          · have r2 : i ≤ j:=reach (hle j) hb (Nat.le_refl j)
            have : listed.getD j false = false:=by
              cases hbj : listed.getD j false with
              | false=>rfl
              | true=>have:=reach hcl hb hbj;rw [hi0] at this;cases this
            rw [this];symm;simp;omega
        have hlook : ∀ t,t ∈ looks l.toArray o → look (stS ds vs us (fun j=>listed.getD j false) s l.length).regs t = look (stS ds vs us (fun _=>true) s i).regs t:=fun t ht=>by
          rw [look_stS,look_stS]
          have e1 : lastW ds (fun j=>listed.getD j false) t l.length = lastW ds (fun j=>decide (j < i)) t l.length:=lastW_congr fun j hj hdj=>by
            by_cases e : j = i
            · subst e;rw [hi0];symm;simp
            · exact hwr j hj e (.inl ⟨t,hdj,.inl ht⟩)
          rw [e1,lastW_lt (n:=i) (by omega) fun j hj _=>.inl (by simp;omega),lastW_congr (S':=fun _=>true) fun j hj _=>by simp;omega]
        have hslot : ∀ r,r ∈ rs i → (stS ds vs us (fun j=>listed.getD j false) s l.length).heap[r]? = (stS ds vs us (fun _=>true) s i).heap[r]?:=fun r hr=>by
          rcases Nat.lt_or_ge r s.heap.length with hrl|hrl
          · rw [slot_stS _ _ _ _ _ _ hrl,slot_stS _ _ _ _ _ _ hrl]
            have e1 : lastW (fun i=>(us i).map (·.1)) (fun j=>listed.getD j false) r l.length = lastW (fun i=>(us i).map (·.1)) (fun j=>decide (j < i)) r l.length:=lastW_congr fun j hj hdj=>by
              by_cases e : j = i
              · subst e;rw [hi0];symm;simp
              · exact hwr j hj e (.inr ⟨r,hdj,hr⟩)
            rw [e1,lastW_lt (n:=i) (by omega) fun j hj _=>.inl (by simp;omega),lastW_congr (S':=fun _=>true) fun j hj _=>by simp;omega]
          · rw [List.getElem?_eq_none (by rw [(stS_len ds vs us _ s _).1];exact hrl),List.getElem?_eq_none (by rw [(stS_len ds vs us _ s _).1];exact hrl)]
        have hop' : OpOK P l.toArray o (stS ds vs us (fun j=>listed.getD j false) s l.length) (rs i) (vs i) (us i):=hop.looks hlook (by rw [(stS_len ds vs us _ s _).1,(stS_len ds vs us _ s _).1]) hslot
        have hset : ∀ j,(listed.setIfInBounds i true).getD j false = if j = i then true else listed.getD j false:=fun j=>by
          simp only [Array.getD_eq_getD_getElem?,Array.getElem?_setIfInBounds]
          by_cases e : j = i
          · subst e;have : j < listed.size:=by omega
            simp [this]
          · rw [if_neg e,if_neg (Ne.symm e)]
        have heqv : Eqv ((stS ds vs us (fun j=>listed.getD j false) s l.length).eff (ds i) (vs i) (us i)) (stS ds vs us (fun j=>(listed.setIfInBounds i true).getD j false) s l.length):=by
          refine ⟨fun t=>?_,?_,?_⟩
          · rw [look_eff]
            by_cases e : ds i = some t
            · rw [if_pos (by simp [e]),look_stS,lastW_hit (i:=i) hilt (by rw [hset];simp) e fun j h1 h2=>?_]
              by_cases e2 : ds j = some t
              · left
                rw [hset,if_neg (by omega),hwr j h2 (by omega) (.inl ⟨t,e2,.inr e⟩)];simp;omega
              · exact .inr e2
            · rw [if_neg (by simpa using e),look_stS,look_stS,lastW_congr (S':=fun j=>(listed.setIfInBounds i true).getD j false) fun j hj hdj=>by
                have hji : j ≠ i:=fun e'=>by subst e';exact e hdj
                show listed.getD j false = (listed.setIfInBounds i true).getD j false
                rw [hset,if_neg hji]]
          · rw [(heap_eff _ _ _ _).1]
            refine heap_ext (by rw [appU_length,(stS_len ds vs us _ s _).1,(stS_len ds vs us _ s _).1]) fun r hrl=>?_
            rw [appU_length,(stS_len ds vs us _ s _).1] at hrl
            rw [slot_appU _ _ _ (by rw [(stS_len ds vs us _ s _).1];exact hrl),slot_stS _ _ _ _ _ _ hrl]
            by_cases e : (us i).map (·.1) = some r
            · have hri : r ∈ rs i:=by
                revert hso;unfold SlOK
                cases hu : us i with
                | none=>rw [hu] at e;cases e
                | some p=>rw [hu] at e;simp at e;subst e;exact fun h=>h.1
              rw [if_pos (by simp [e]),slot_stS _ _ _ _ _ _ hrl,lastW_hit (i:=i) hilt (by rw [hset];simp) e fun j h1 h2=>?_]
              · rfl
              by_cases e2 : (us j).map (·.1) = some r
              · left
                rw [hset,if_neg (by omega),hwr j h2 (by omega) (.inr ⟨r,e2,hri⟩)];simp;omega
              · exact .inr e2
            · rw [if_neg (by simpa using e),slot_stS _ _ _ _ _ _ hrl,lastW_congr (S':=fun j=>(listed.setIfInBounds i true).getD j false) fun j hj hdj=>by
                have hji : j ≠ i:=fun e'=>by subst e';exact e hdj
                show listed.getD j false = (listed.setIfInBounds i true).getD j false
                rw [hset,if_neg hji]]
          · rw [(heap_eff _ _ _ _).2,(stS_len ds vs us _ s _).2,(stS_len ds vs us _ s _).2]
        have hnext : ∀ (G' : Gh) (a' : Act) (w' : World),R B N G' ((stS ds vs us (fun j=>listed.getD j false) s l.length).eff (ds i) (vs i) (us i)) a' w' →
            wpAnyIn (fence fr) 0 P .any (l ++ l2).toArray (Post B N Q) fuel (listed.setIfInBounds i true) a' w':=fun G' a' w' hr'=>by
          refine ih (listed.setIfInBounds i true) G' a' w' (by simpa using hsz) (fun j p hj hs e he hb=>?_) (fun j hj=>?_) (heqv.R hr') ?_
          · have:=hcl' j p hj (by
              dsimp only at hs;rw [hset] at hs
              by_cases e' : j = i
              · exact .inl e'
              · rw [if_neg e'] at hs;exact .inr hs) e he hb
            dsimp only;rw [hset]
            rcases this with h|h
            · simp [h]
            · split
              · rfl
              · exact h
          · rw [hset,if_neg (by omega)];exact hout j hj
          · have hlen : (listed.setIfInBounds i true).toList = listed.toList.set i true:=by simp
            rw [hlen]
            have : ∀ (xs : List Bool) (k : Nat),xs[k]? = some false → ((xs.set k true).filter (fun b=>!b)).length + 1 = (xs.filter (fun b=>!b)).length:=fun xs=>by
              induction xs with
              | nil=>intro k h;simp at h
              | cons b xs ih =>
                intro k h
                cases k with
                | zero=>simp at h;subst h;simp
                | succ k=>simp at h;have:=ih k h;cases b <;> simp at this ⊢ <;> omega
            have:=this listed.toList i (by
              rw [Array.getD_eq_getD_getElem?,Array.getElem?_eq_getElem (by omega)] at hi0
              simp at hi0
              rw [Array.getElem?_toList,Array.getElem?_eq_getElem (by omega),hi0])
            omega
        have hput : ∀ (G' : Gh) (h' : List AObj) (a : Act) (w' : World) (r : Value) (st : AS) (v : AV) (u : Option (Nat × AObj)),R B N G' { st with heap:=appU u st.heap } a w' → Conc G' r v → R B N G' (st.eff (ds i) v u) (a.put (ds i) r) w':=fun G' h' a w' r st v u hR hv=>by
          cases hd : ds i with
          | none=>exact hR
          | some d=>exact hR.put (hdN d hd) hv
        simp only [wpOpIn,h2]
        have run : POpS P o (stS ds vs us (fun j=>listed.getD j false) s l.length).evO (stS ds vs us (fun j=>listed.getD j false) s l.length).heap (rs i) (vs i) (us i) →
            o.wpIn (fence fr) 0 P a w (wpAnyIn (fence fr) 0 P .any (l ++ l2).toArray (Post B N Q) fuel (listed.setIfInBounds i true)) (Post B N Q):=fun hp=>by
          refine wpIn_false ?_ (hp fr B G a w _ rfl (fun _ _=>rfl) hr.heap fun x _ u hu=>by rw [evO_some] at hu;cases hu;exact hr.ev x)
          rintro a' w' ⟨r,G',rfl,hg',hh,hv⟩
          rw [hdst]
          exact hnext G' _ w' (hput G' [] a w' r _ (vs i) (us i) (hr.step hg' hh) hv)
        rcases hop' with ⟨g1,g2⟩ | ⟨j,want,t,b,g1,g2,g3,g4⟩ | ⟨j,want,t,g1,g2,g3,g4⟩
        · rw [if_pos (by simp [Region.wanted,g1])];exact run g2
        · have hy:=yielded_of (gdst_app (l2:=l2) g2) hr g3
          rcases g4 with ⟨rfl,g4⟩ | ⟨hne,g4,g5⟩
          · rw [if_pos (by simp [Region.wanted,g1,hy])];exact run g4
          · rw [if_neg (by simp [Region.wanted,g1,hy,hne])]
            refine ⟨fun f _=>fence_fn fr f,?_⟩
            rw [hdst]
            refine hnext G _ w (hput G [] a w undef _ (vs i) (us i) ?_ (by rw [g4];exact .sc _))
            rw [g5];exact hr
        · have hy:=yielded_undef (gdst_app (l2:=l2) g2) hr g3
          rw [if_neg (by simp [Region.wanted,g1,hy])]
          refine ⟨fun f _=>fence_fn fr f,?_⟩
          rw [hdst]
          refine hnext G _ w (hput G [] a w undef _ (vs i) (us i) ?_ (by rw [g4.1];exact .sc _))
          rw [g4.2];exact hr
  refine key _ _ G00 a _ (by simp) (fun j p hj hs=>?_) (fun j hj=>?_) ?_ ?_
  · dsimp only at hs
    rw [Array.getD_eq_getD_getElem?,Array.getElem?_replicate] at hs
    split at hs <;> simp at hs
  · rw [Array.getD_eq_getD_getElem?,Array.getElem?_replicate];split <;> simp
  · have e : Eqv s (stS ds vs us (fun j=>(Array.replicate (l ++ l2).toArray.size false).getD j false) s l.length):=by
      have : ∀ n,stS ds vs us (fun j=>(Array.replicate (l ++ l2).toArray.size false).getD j false) s n = s:=fun n=>by
        induction n with
        | zero=>rfl
        | succ n ih =>
          simp only [stS,ih]
          rw [if_neg]
          rw [Array.getD_eq_getD_getElem?,Array.getElem?_replicate];split <;> simp
      rw [this];exact .refl s
    refine e.R ⟨?_,hr0.size,hr0.regs,hr0.defers,hr0.own⟩
    have:=hr0.heap
    exact ⟨this.base,this.tape,this.os,this.output,Nat.le_succ_of_le this.drawn,this.size,this.out,this.imm,this.low,this.obj,this.inj,this.fresh⟩
  · have:=List.length_filter_le (fun b : Bool=>!b) (Array.replicate (l ++ l2).toArray.size false).toList
    refine Nat.le_trans this ?_
    simp
end
section
variable {P : Program} [GlobF P] {fr : Option Nat} {N : Nat} {Q : Exit → AS → Prop} {rg : List (Nat × AV)} {hp : List AObj} {mk : Mk}
theorem W_dS0 [Mix P] {id : Nat} {L : List Oper} (m : Nat) (hm : Nat.ble m L.length = true) (h0 : Nat.beq (laysN (L.take m)) 0 = true) (hl : lastOK L m = true) (h : WD P N (L.take m).toArray (L.take m) [] (fun s'=>WL P fr N L.toArray (L.drop m) Q s') ⟨rg,hp,mk⟩) : W P fr N (.region id L.toArray true) Q ⟨rg,hp,mk⟩ :=
  W_drawS (l:=L.take m) (l2:=L.drop m) (List.take_append_drop m L).symm (by rw [List.length_take_of_le (by simpa [Nat.ble_eq] using hm)];exact hl) (by rw [Nat.eq_of_beq_eq_true h0];exact h)
end
end Go.AL

namespace Go.AL
section
variable {P : Program} [GlobF P] {fr : Option Nat} {N : Nat} {Q : Exit → AS → Prop} {ops : Array Oper} {rest : List Oper} {rg : List (Nat × AV)} {h : List AObj} {mk : Mk} {ty : TypeId} {pos : String} {af : Array Edge} {d : Nat}
theorem W_rangeX {g : Operand} {ps : Array Tmp} {assign body : Code} {f : FuncId} {ys : List AV} (hg : evR rg g = some (.fn (.func f) [] ys) ∨ (evR rg g = some (.sc (.func (.func f) #[] #[])) ∧ ys = []))
    (hc : ∀ l (X : LoopState → Option Code → AObj),(∀ st pe,X st pe = .loopr l N ps assign body rg st pe) → AC P f (.sc (.func (.yield l) #[] #[]) :: ys) (h ++ [.raw (.deferred (some []))] ++ [X .ready none]) (fun _ h'=>EndR (h.length + 1) l N ps assign body rg ⟨h.length :: mk.l,mk.n0⟩ Q h')) :
    W P none N (.rangeFunc g ps assign body) Q ⟨rg,h,mk⟩:=W_range hg fun l=>hc l (fun st pe=>.loopr l N ps assign body rg st pe) fun _ _=>rfl
theorem W_hq {c : Code} {h' : List AObj} (e : h = h') (hk : W P fr N c Q ⟨rg,h',mk⟩) : W P fr N c Q ⟨rg,h,mk⟩:=e ▸ hk
end
end Go.AL

namespace Go.AL
section
variable {P : Program} [GlobF P] {fr : Option Nat} {N : Nat} {Q : Exit → AS → Prop} {ops : Array Oper} {rg : List (Nat × AV)} {h : List AObj} {mk : Mk}
end
end Go.AL

namespace Go.AL
section
variable {P : Program} [GlobF P] {fr : Option Nat} {N : Nat} {Q : Exit → AS → Prop} {ops : Array Oper} {rg : List (Nat × AV)} {h : List AObj} {mk : Mk}
end
end Go.AL

namespace Go.AL
section
variable {P : Program} [GlobF P]
end
end Go.AL

namespace Go.AL
section
variable {P : Program} [GlobF P] {fr : Option Nat} {N : Nat} {Q : Exit → AS → Prop} {ops : Array Oper} {rg : List (Nat × AV)} {h : List AObj} {mk : Mk}
theorem mc_inv {G : Gh} {v : Value} {r n cap : Nat} (h : Conc G v (.mc r n cap)) : ∃ b,v = .slice (some ⟨b,0,none⟩) n cap ∧ G.blk r = some b ∧ n ≤ cap:=by
  cases h with
  | mc h hc=>exact ⟨_,rfl,h,hc⟩
theorem R.rowC {B : Base P} {G : Gh} {a : Act} {w : World} {t r n k e : Nat} {els : List (List AV)} (hR : R B N G ⟨rg,h,mk⟩ a w) (ht : lookO rg t = some (rowA r n)) (ho : h[r]? = some (.row k e els)) (hn : n = els.length) (h0 : 0 < n) :
    ∃ sp cap,n ≤ cap ∧ cap ≤ maxLen ∧ (els.flatten ++ sp).length = cap * k ∧ R B N G ⟨(t,.mc r n cap) :: rg,h.set r (.cells (els.flatten ++ sp) (some e)),mk⟩ a w:=by
  have hr:=hR.heap
  have h1:=hR.regs t
  rw [show look rg t = _ from lookO_eq ht] at h1
  obtain ⟨hk,hv⟩:=row_inv hr ho hn h1
  rcases hv with ⟨rfl,_⟩ | ⟨g,cap,c,hv,q2,q3,q4,q5,q6,q7,q8,q9⟩
  · simp at hn;omega
  have htl:=(rowA_inv h1).1
  have e1:=q7.append (⟨(List.length_map (f:=AV.sc)).symm,fun i v x hv hx=>by
    rw [List.getElem?_map,hv] at hx;simp at hx;subst hx;exact .sc _⟩ : ConcL G (c.drop (els.length * k)) ((c.drop (els.length * k)).map AV.sc))
  rw [List.take_append_drop] at e1
  refine ⟨(c.drop (els.length * k)).map .sc,cap,by omega,q5,by rw [← e1.1];exact q6,?_⟩
  have hob : ownBlk G r (.row k e els) = some g:=by simp only [ownBlk];rw [← hn,htl,hv];rfl
  have hh : RH B G (h.set r (.cells (els.flatten ++ (c.drop (els.length * k)).map .sc) (some e))) w:=by
    refine hr.set (w':=w) (b:=g) ho hob q2 rfl rfl rfl (Nat.le_refl _) rfl (fun _ _=>rfl) (fun i v hi=>by rw [q8 i] at hi;cases hi) ?_ (fun c' hc'=>?_)
    · exact ⟨g,c,⟨e,fun _ e=>by cases e;rfl⟩,q9,q2,q3,e1,q8⟩
    · simp only [ownBlk] at hc';rw [q9] at hc';exact (Option.some.inj hc').symm
  refine ⟨hh,hR.size,fun u=>?_,hR.defers,hR.own⟩
  simp only [look]
  cases hq : Nat.beq t u with
  | true =>
    have : t = u:=Nat.eq_of_beq_eq_true hq
    subst this
    rw [hv,← hn]
    exact .mc q9 (by omega)
  | false=>exact hR.regs u
theorem WL_rowC {l : List Oper} (t r : Nat) {n k e : Nat} {els : List (List AV)} (ht : lookO rg t = some (rowA r n)) (ho : h[r]? = some (.row k e els)) (hn : n = els.length) (h0 : 0 < n)
    (hk : ∀ sp cap,n ≤ cap → cap ≤ maxLen → (els.flatten ++ sp).length = cap * k → WL P fr N ops l Q ⟨(t,.mc r n cap) :: rg,h.set r (.cells (els.flatten ++ sp) (some e)),mk⟩) : WL P fr N ops l Q ⟨rg,h,mk⟩:=by
  intro B G a w hR
  obtain ⟨sp,cap,c1,c2,c3,hR'⟩:=hR.rowC ht ho hn h0
  exact hk sp cap c1 c2 c3 B G a w hR'
theorem D_slC {dst af gd ty pos : _} {ρ : Operand → Option AV} {t e k j : Nat} {x : Operand} {hi : Option Operand} {r n c : Nat} [hu : Und P t (.slice e)] [hs : Siz P e k] (hx : ρ x = some (.mc r n c)) (hj : j ≤ n)
    (hb : ∀ (G : Gh) (a : Act) (w : World),n ≤ c → (∀ y,y ∈ hi.toList → ∀ u,ρ y = some u → Conc G (a.eval y) u) → (Instr.sliceBounds true n c none (hi.map a.eval) none).run P w = .ok (0,j,c) w) :
    PPOp P { dst:=dst,op:=.slice t x none hi none,type:=ty,pos:=pos,after:=af,guard:=gd } ρ (.mc r j c) :=
  PPOp.val (by simp) (fun B G a w hR E=>by
    have ex:=E x (by simp [Op.operands]) _ hx
    obtain ⟨b,hv,hbk,hc⟩:=mc_inv ex
    have hbb : (Instr.sliceBounds true n c none (hi.map a.eval) none).run P w = .ok (0,j,c) w:=hb G a w hc fun y hy u hu=>E y (by
      cases hi <;> simp [Op.operands] at hy ⊢ <;> exact .inr hy) u hu
    have key : (execOp a.eval { dst:=dst,op:=.slice t x none hi none,type:=ty,pos:=pos,after:=af,guard:=gd }).run P w = ((Instr.slice t (.slice (some ⟨b,0,none⟩) n c) none (hi.map a.eval) none).run P w).andThen fun v w'=>.ok (.value v) w':=by
      simp only [execOp,hv,Sem.run_bind,Option.map_none,Instr.sliceAt,run_underlying hu.h,Result.andThen_ok]
      rfl
    rw [key]
    refine ⟨.slice (some ⟨b,0,none⟩) j c,?_,.mc hbk (by omega)⟩
    simp only [Instr.slice,Sem.run_bind,run_underlying hu.h,hbb,hs.h,Result.andThen_ok,Sem.run_pure,Option.map_some,add_none]
    simp)
theorem D_slCh {dst af gd ty pos : _} {ρ : Operand → Option AV} {t e k : Nat} {x z : Operand} {kk' : IntKind} {r n c : Nat} {j : Int} [hu : Und P t (.slice e)] [hs : Siz P e k] (hx : ρ x = some (.mc r n c)) (hz : ρ z = some (.sc (.int kk' j)))
    (h1 : 0 ≤ j) (h2 : j ≤ n) : PPOp P { dst:=dst,op:=.slice t x none (some z) none,type:=ty,pos:=pos,after:=af,guard:=gd } ρ (.mc r j.toNat c) :=
  D_slC (hi:=some z) hx (by omega) fun G a w hc E=>by
    have e2:=conc_sc (E z (by simp) _ hz)
    simp [Instr.sliceBounds,e2,run_sliceBound w kk' j c _ (by omega) (by omega)]
end
end Go.AL

namespace Go.AL
theorem WL_weak {P : Program} [GlobF P] {fr : Option Nat} {N : Nat} {ops : Array Oper} {Q : Exit → AS → Prop} {l : List Oper} {s s' : AS} (hw : Wk s s') (h : WL P fr N ops l Q s') : WL P fr N ops l Q s:=fun B G a w hr=>h B G a w (hw.R hr)
theorem set_lastO {A : List AObj} {x y : AObj} : (A ++ [x]).set A.length y = A ++ [y]:=by simp
theorem frz_self {r off : Nat} {cells : List AV} : frz r cells (.bp r off) = .ep (cells.drop off):=by simp [frz]
theorem D_eqv2 {P : Program} [GlobF P] {ρ : Operand → Option AV} {o : Oper} {v v' : AV} (h : PPOp P o ρ v) (e : v = v') : PPOp P o ρ v':=e ▸ h
theorem Wkn.sl {tok : Option Nat} {k : Nat} {els : List (List AV)} : Wkn (.sl tok k els) (.sl none k els):=fun G v hv=>by
  cases hv with
  | sl us hk hcap him hc ht=>exact .sl us hk hcap him hc (fun t e=>by cases e)
  | slnil ht=>exact .slnil (fun t e=>by cases e)
  | slz=>exact .slz
end Go.AL

namespace Go.AL
section
variable {P : Program} [GlobF P] {fr : Option Nat} {N : Nat} {Q : Exit → AS → Prop} {ops : Array Oper} {rest : List Oper} {rg : List (Nat × AV)} {h : List AObj} {mk : Mk} {ty : TypeId} {pos : String} {af : Array Edge} {d : Nat}
theorem S_litG {gd : Option (Nat × Bool)} {ρ : Operand → Option AV} {t e n k by_ : Nat} {ps : List (Nat × Operand)} {els : List (List AV)} {z : Value} (r : Nat) [hu : Und P t (.slice e)] [hs : Siz P e k] [hz : Zer P e z] [hi : Inf P e k by_ z] (hr : h[r]? = some .free)
    (hps : partsO ρ 0 ps = some els) (hn : Nat.beq n ps.length = true) (hk : els.all (fun e=>Nat.beq e.length k) = true) (hm : Nat.ble (n * k) 1000 = true) (hn1 : Nat.ble n 1000 = true) :
    POpS P { dst:=some d,op:=.buildSlice t n ps.toArray,type:=ty,pos:=pos,after:=af,guard:=gd } ρ h [r] (rowA r n) (some (r,.row k e els)):=by
  intro fr B G a w h' hl hsl hR E
  have hr' : h'[r]? = some .free:=(hsl r (.head _)).trans hr
  have hrl : r < h'.length:=(List.getElem?_eq_some_iff.1 hr').1
  obtain ⟨f1,f2⟩:=hR.obj r _ hr'
  refine ⟨fun f _=>fence_fn fr f,?_⟩
  rw [Oper.semAt_eq _ _ _ (by simp)]
  obtain ⟨g1,g2,g3⟩:=partsO_spec hps
  have hn' : n = ps.length:=Nat.eq_of_beq_eq_true hn
  have hk' : ∀ e,e ∈ els → e.length = k:=fun e he=>Nat.eq_of_beq_eq_true (List.all_eq_true.1 hk e he)
  have hm' : n * k ≤ 1000:=by simpa using hm
  have hn1' : n ≤ 1000:=by simpa using hn1
  let vs : List Value:=ps.map (fun p=>a.eval p.2)
  have hvl : vs.length = n:=by simp [vs,hn']
  have hmem : ∀ p,p ∈ ps → p.2 ∈ (Op.buildSlice t n ps.toArray).operands.toList:=fun p hp=>by
    simp only [Op.operands,List.mem_map];exact ⟨p,hp,rfl⟩
  have hcon : ∀ (m : Nat) (v : Value) (e : List AV),vs[m]? = some v → els[m]? = some e → ConcL G v.cells.toList e:=fun m v e hv he=>by
    simp only [vs,List.getElem?_map,Option.map_eq_some_iff] at hv
    obtain ⟨p,hp,rfl⟩:=hv
    obtain ⟨u,h1,h2⟩:=g3 m p e hp he
    exact cellsO_conc (E p.2 (hmem p (List.mem_of_getElem? hp)) u h1) h2
  have hvk : ∀ v,v ∈ vs → v.cells.size = k:=fun v hv=>by
    obtain ⟨m,hm,rfl⟩:=List.getElem_of_mem hv
    have hm2 : m < els.length:=by rw [g2,← hn',← hvl];exact hm
    have:=hcon m _ _ (List.getElem?_eq_getElem hm) (List.getElem?_eq_getElem hm2)
    rw [← hk' _ (List.getElem_mem hm2),← this.1];simp
  let cs0 : Array Value:=(Array.range (n * k)).map ((if n * k = 0 then #[] else z.cells)[· % (if n * k = 0 then #[] else z.cells).size]!)
  have hcs0 : cs0.size = n * k:=by simp [cs0]
  obtain ⟨cs',k1,k2,_,k4⟩:=fill_seq k vs 0 cs0 hvk (by rw [hvl,hcs0];simp)
  have hzip : (List.range' 0 vs.length).zip vs = ps.map (fun p=>(p.1,a.eval p.2)):=by
    rw [show vs.length = ps.length by simp [vs],← g1];exact zip_map_map ps a
  rw [hzip] at k1
  have hel : els.length = n:=by rw [g2,hn']
  have hrun : (execOp a.eval { dst:=some d,op:=.buildSlice t n ps.toArray,type:=ty,pos:=pos,after:=af,guard:=gd }).run P w = .ok (.value (.slice (some ⟨w.heap.size,0,none⟩) n n)) (w.alloc (.cells cs' e)):=by
    simp only [execOp,Instr.buildSlice,Sem.run_bind,run_underlying hu.h,Result.andThen,hs.h]
    rw [if_neg (by omega)]
    have k1' : Instr.fill (fun i=>some (i * k,k)) ((Array.range (n * k)).map ((if n * k = 0 then #[] else z.cells)[· % (if n * k = 0 then #[] else z.cells).size]!)) (ps.map (fun p=>(p.1,a.eval p.2))) = some cs':=k1
    clear k1
    by_cases h0 : n * k = 0
    · simp only [h0,if_true,Sem.run_bind,Sem.run_pure,Result.andThen,List.map_toArray] at k1' ⊢
      rw [k1'];rfl
    · simp only [h0,if_false,Sem.run_bind,Sem.run_pure,Result.andThen,List.map_toArray,hz.h] at k1' ⊢
      rw [k1'];rfl
  rw [hrun]
  let G' : Gh:=⟨G.imm,fun q=>if q = r then some w.heap.size else G.blk q,fun q j=>if q = r ∧ j = n then some (.slice (some ⟨w.heap.size,0,none⟩) n n) else G.tl q j⟩
  have hle : G.le G':=⟨fun _ _ _ e=>e,fun q b' e=>by
      show (if q = r then _ else G.blk q) = some b'
      rw [if_neg fun h=>by subst h;rw [f1] at e;cases e];exact e,fun q j v e=>by
      show (if q = r ∧ j = n then _ else G.tl q j) = some v
      rw [if_neg fun h=>by obtain ⟨rfl,rfl⟩:=h;rw [f2] at e;cases e];exact e⟩
  have himm : ∀ j,G.imm w.heap.size j = none:=fun j=>by
    cases hi : G.imm w.heap.size j with
    | none=>rfl
    | some v=>exact absurd (hR.lt hi) (by omega)
  have hblk : ∀ b',b' < w.heap.size → (w.alloc (.cells cs' e)).heap[b']? = w.heap[b']?:=fun b' hb'=>heap_alloc_old w _ b' hb'
  have hnewb : (w.alloc (.cells cs' e)).heap[w.heap.size]? = some (.cells cs' e (0,0)):=heap_alloc_new w _
  have hset : ∀ (q : Nat) (ob x : AObj),(h'.set r ob)[q]? = some x → (q = r ∧ x = ob) ∨ (q ≠ r ∧ h'[q]? = some x):=fun q ob x hx=>by
    by_cases e : q = r
    · subst e;rw [List.getElem?_set_self hrl] at hx;exact .inl ⟨rfl,(Option.some.inj hx).symm⟩
    · rw [List.getElem?_set_ne (Ne.symm e)] at hx;exact .inr ⟨e,hx⟩
  have e1 : G'.tl r n = some (.slice (some ⟨w.heap.size,0,none⟩) n n):=if_pos ⟨rfl,rfl⟩
  have hcc : ConcL G' cs'.toList els.flatten:=by
    refine ⟨by rw [flat_len hk',Array.length_toList,k2,hcs0,hel],fun q v x hv hx=>?_⟩
    have hq : q < n * k:=by rw [← hcs0,← k2];exact (Array.getElem?_eq_some_iff.1 (by simpa using hv)).1
    have hk0 : 0 < k:=by
      rcases Nat.eq_zero_or_pos k with h|h
      · subst h;omega
      · exact h
    have d1 : q / k < n:=(Nat.div_lt_iff_lt_mul hk0).2 hq
    have d2 : q % k < k:=Nat.mod_lt _ hk0
    have d3 : q / k * k + q % k = q:=by have:=Nat.div_add_mod q k;rw [Nat.mul_comm] at this;exact this
    rw [← d3,flat_get hk' _ _ d2] at hx
    cases he : els[q / k]? with
    | none=>rw [he] at hx;cases hx
    | some e =>
      rw [he] at hx
      have hiv : q / k < vs.length:=by rw [hvl];exact d1
      have h5:=k4 (q / k) vs[q / k] (q % k) (List.getElem?_eq_getElem hiv) d2
      rw [Nat.zero_add,d3,← Array.getElem?_toList,hv] at h5
      exact ((hcon (q / k) _ e (List.getElem?_eq_getElem hiv) he).2 (q % k) v x (by rw [Array.getElem?_toList,← h5]) hx).mono hle
  have hel2 : els.length = n:=hel
  have ec : G'.blk r = some w.heap.size:=if_pos rfl
  have hnb : ∀ q,q ≠ r → G'.blk q = G.blk q:=fun q hq=>if_neg hq
  refine ⟨_,G',rfl,hle,?_,rowA_mk e1 (Nat.le_refl _)⟩
  refine hR.turn (hR.base.trans hle) rfl rfl rfl (Nat.le_refl _) (by simp) (fun b' hb'=>hblk b' (Nat.lt_of_lt_of_le hb' hR.size)) (fun b' o' hb'=>rfl) (fun b' o' v hv=>?_) (fun q x hx=>?_) (fun q x b' hx hb'=>?_) (fun q q' x x' b' hx hx' hb1 hb2 hlt=>?_) (fun q hq=>?_)
  · have e1 : (w.alloc (.cells cs' e)).cell? ⟨b',o',none⟩ = w.cell? ⟨b',o',none⟩:=by
      simp only [World.cell?];rw [hblk b' (hR.lt hv)]
    exact e1.trans (hR.imm _ _ _ hv)
  · rcases hset q _ x hx with ⟨rfl,rfl⟩ | ⟨hne,hx⟩
    · refine ⟨fun j hj=>?_,hk',.inr ⟨w.heap.size,n,cs'.toList,by rw [hel2];exact e1,hR.size,by rw [Array.toArray_toList];exact hnewb,by omega,by simp only [maxLen];omega,by rw [Array.length_toList,k2,hcs0],?_,himm,ec⟩⟩
      · show (if q = q ∧ j = n then _ else G.tl q j) = none
        rw [if_neg fun h=>by omega];exact f2 j
      · rw [hel2,List.take_of_length_le (by rw [Array.length_toList,k2,hcs0];exact Nat.le_refl _)];exact hcc
    · exact (hR.obj q x hx).keep hle (hnb q hne) (fun j=>if_neg fun h=>hne h.1) fun b' hb' hlt=>⟨hblk b' hlt,fun j hj=>hj⟩
  · rcases hset q _ x hx with ⟨rfl,rfl⟩ | ⟨hne,hx⟩
    · simp only [ownBlk,hel2] at hb'
      rw [e1] at hb';simp only [slBlock,Option.some.injEq] at hb';subst hb'
      exact .inl (Nat.le_refl _)
    · rw [ownBlk.congr (G:=G) (G':=G') (hnb q hne) (fun j=>if_neg fun h=>hne h.1)] at hb';exact .inr ⟨x,hx,hb'⟩
  · have key : ∀ q x,(h'.set r (.row k e els))[q]? = some x → ownBlk G' q x = some b' → q = r:=fun q x hx hb=>by
      rcases hset q _ x hx with ⟨rfl,rfl⟩ | ⟨hne,hx⟩
      · rfl
      · rw [ownBlk.congr (G:=G) (G':=G') (hnb q hne) (fun j=>if_neg fun h=>hne h.1)] at hb
        exact absurd ((hR.obj q x hx).own hb).1 (by omega)
    rw [key q x hx hb1,key q' x' hx' hb2]
  · have hq' : h'.length ≤ q:=by simpa [appU] using hq
    obtain ⟨k1,k2⟩:=hR.fresh q hq'
    exact ⟨(hnb q (by omega)).trans k1,fun j=>by show (if q = r ∧ _ then _ else _) = none;rw [if_neg fun h=>by omega];exact k2 j⟩
theorem m_litG {t e n k by_ : Nat} {ps : List (Nat × Operand)} {els : List (List AV)} {z : Value} [hu : Und P t (.slice e)] [hs : Siz P e k] [hz : Zer P e z] [hi : Inf P e k by_ z]
    (hps : partsO (evR rg) 0 ps = some els) (hn : Nat.beq n ps.length = true) (hk : els.all (fun e=>Nat.beq e.length k) = true) (hm : Nat.ble (n * k) 1000 = true) (hn1 : Nat.ble n 1000 = true) (hd : Nat.blt d N = true)
    (hw : WL P fr N ops rest Q ⟨(d,rowA h.length n) :: rg,h ++ [.row k e els],mk⟩) :
    WL P fr N ops ({ dst:=some d,op:=.buildSlice t n ps.toArray,type:=ty,pos:=pos,after:=af,guard:=none } :: rest) Q ⟨rg,h,mk⟩:=by
  refine WL_resv 1 (pV (S_litG h.length ?_ hps hn hk hm hn1) hd ?_)
  · simp [resv]
  · have : (resv 1 h).set h.length (.row k e els) = h ++ [.row k e els]:=by simp [resv]
    rw [this];exact hw
end
end Go.AL
