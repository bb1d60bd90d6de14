/- How much an argument holds, by a measure of readings (the bulk of an '..Upto' statement). No condition. -/
import Derived.Test.YtjojdiefnhbglaaGreatOpen
import Derived.Carry
import Derived.HandedShaped
set_option linter.all false
namespace Go.AL
structure BulkP (B : ∀ H : Type,DataW H → Nat) : Prop where
  str : ∀ (H : Type) (b : List UInt8),b.length ≤ B H (.lit (.string b))
  agg : ∀ (H : Type) (ps : List (DataW H)),(ps.map (B H)).sum ≤ B H (.agg ps)
  sl : ∀ (H : Type) (es sp : List (DataW H)),(es.map (B H)).sum ≤ B H (.slice es sp)
  one : ∀ (H : Type) (d : DataW H),1 ≤ B H d
class OpnB (B : ∀ H : Type,DataW H → Nat) (P : Program) (t : TypeId) {α : outParam Type} (enc : outParam (α → List AV)) (ok : outParam (α → Prop)) (wt : outParam (α → Nat)) : Prop where
  h : ∀ {H : Type} {en : TypeId × Value → H} {w : World} {base : Nat} {spare : Nat → Bool} {held : Bool} {fuel : Nat} {cs : List Value} {x : DataW H × List MemPlace},(∀ b,spare b = true) →
    DataW.trod en P w base spare held fuel t cs = some x → ∃ a,ConcL (Gh.all w) cs (enc a) ∧ ok a ∧ wt a ≤ B H x.1
section
variable {B : ∀ H : Type,DataW H → Nat} {P : Program}
theorem opnB_one {t : TypeId} {α : Type} {enc : α → List AV} {ok : α → Prop} (hB : BulkP B) (ho : Opn P t enc ok) : OpnB B P t enc ok (fun _=>1):=⟨fun {H en w base spare held fuel cs x} hsp h=>by
  obtain ⟨a,h1,h2⟩:=ho.h hsp h
  exact ⟨a,h1,h2,hB.one _ _⟩⟩
theorem opnB_str {t : TypeId} (hB : BulkP B) (ht : P.underlying t = some .string) : OpnB B P t (α:=List UInt8) (fun l=>[str l]) (fun l=>l.length ≤ maxLen) List.length:=⟨fun _ h=>by
  obtain ⟨s,rfl,rfl,hs⟩:=DataW.trod_string ht h
  exact ⟨s.data.toList,.cons (conc_str s) (.nil _),hs,hB.str _ _⟩⟩
theorem sum_le {α : Type} {f g : α → Nat} : ∀ {l : List α},(∀ a,a ∈ l → f a ≤ g a) → (l.map f).sum ≤ (l.map g).sum
  | [],_=>Nat.le_refl _
  | a :: l,h=>by
    have h1:=h a List.mem_cons_self
    have h2:=sum_le (l:=l) fun b hb=>h b (List.mem_cons_of_mem _ hb)
    simp only [List.map_cons,List.sum_cons];omega
theorem opnB_slice {t e : TypeId} {k : Nat} {α : Type} {enc : α → List AV} {ok : α → Prop} {wt : α → Nat} (hB : BulkP B) (ht : P.underlying t = some (.slice e)) (he : OpnB B P e enc ok wt) [hc : Cel P e k] (hk : ∀ a,(enc a).length = k) (hk0 : 0 < k) :
    OpnB B P t (α:=List α) (fun l=>[.sl none k (l.map enc)]) (fun l=>l.length ≤ maxLen ∧ ∀ a,a ∈ l → ok a) (fun l=>(l.map wt).sum):=⟨fun {H en w base spare held fuel cs x} hsp h=>by
  rcases Go.Deep.open_slice ht h with ⟨rfl,_⟩ | ⟨a,len,cap,m,n,D,Pl,rfl,hb,hl,hm,hmm,rfl,hx⟩
  · exact ⟨[],.cons (.slnil (fun t e=>by cases e)) (.nil _),⟨Nat.zero_le _,fun a h=>by cases h⟩,Nat.zero_le _⟩
  · rw [hsp] at hmm
    simp only [if_true] at hmm
    subst hmm
    rw [hc.h] at hx
    have hex : ∀ i,i < m → ∃ y : α,(ok y ∧ wt y ≤ B H (D i)) ∧ ∃ cs',w.cells? base (a.add (i * k)) k = some cs' ∧ ConcL (Gh.all w) cs' (enc y):=fun i hi=>by
      obtain ⟨cs',h1,h2⟩:=hx i hi
      obtain ⟨y,h3,h4,h5⟩:=he.h hsp h2
      exact ⟨y,⟨h4,h5⟩,cs',h1,h3⟩
    rcases Nat.eq_zero_or_pos m with h0|h0
    · have hl0 : len = 0:=by omega
      subst h0;subst hl0
      exact ⟨[],.cons .slz (.nil _),⟨Nat.zero_le _,fun a h=>by cases h⟩,Nat.zero_le _⟩
    have hspot : a.spot = none:=by
      obtain ⟨y,_,cs',h1,h3⟩:=hex 0 h0
      obtain ⟨h4,h5⟩:=all_cell h1
      have:=h5 0 (cs'[0]'(by omega)) (List.getElem?_eq_getElem (by omega))
      have:=World.cell?_spot this
      simpa [Addr.add] using this
    have hne : Nonempty α:=let ⟨y,_⟩:=hex 0 h0;⟨y⟩
    let f : Nat → α:=fun i=>Classical.epsilon fun y=>(ok y ∧ wt y ≤ B H (D i)) ∧ ∃ cs',w.cells? base (a.add (i * k)) k = some cs' ∧ ConcL (Gh.all w) cs' (enc y)
    have hf : ∀ i,i < m → (ok (f i) ∧ wt (f i) ≤ B H (D i)) ∧ ∃ cs',w.cells? base (a.add (i * k)) k = some cs' ∧ ConcL (Gh.all w) cs' (enc (f i)):=fun i hi=>Classical.epsilon_spec (hex i hi)
    refine ⟨(List.range len).map f,.cons ?_ (.nil _),⟨by simp;omega,fun y hy=>?_⟩,?_⟩
    · obtain ⟨b,o,sp⟩:=a
      simp only at hspot
      subst hspot
      have hcell : ∀ i j,i < len → j < k → ∃ u,w.cell? ⟨b,o + i * k + j,none⟩ = some u ∧ ∀ x,(enc (f i))[j]? = some x → Conc (Gh.all w) u x:=fun i j hi hj=>by
        obtain ⟨_,cs',h1,h2⟩:=hf i (by omega)
        obtain ⟨h3,h4⟩:=all_cell h1
        have:=h4 j (cs'[j]'(by omega)) (List.getElem?_eq_getElem (by omega))
        rw [add_none,add_none] at this
        exact ⟨_,this,fun x hx=>h2.2 j _ x (List.getElem?_eq_getElem (by omega)) hx⟩
      have e1 : ((List.range len).map f |>.map enc).length = len:=by simp
      have hgen : ∀ els : List (List AV),els = ((List.range len).map f).map enc → Conc (Gh.all w) (.slice (some ⟨b,o,none⟩) len m) (.sl none k els):=fun els hels=>by
        have hlen : els.length = len:=by rw [hels];exact e1
        rw [← hlen]
        refine .sl (fun i j=>(w.cell? ⟨b,o + i * k + j,none⟩).getD undef) (fun e he=>?_) (by omega) (fun i j hi hj=>?_) (fun i e j x he hx=>?_) (fun t e=>by cases e)
        · rw [hels] at he
          obtain ⟨y,_,rfl⟩:=List.mem_map.1 he
          exact hk y
        · obtain ⟨u,h1,_⟩:=hcell i j (by omega) hj
          show w.cell? ⟨b,o + i * k + j,none⟩ = _
          rw [h1];rfl
        · have hi : i < len:=by rw [← hlen];exact (List.getElem?_eq_some_iff.1 he).1
          rw [hels] at he
          simp [hi] at he
          subst he
          have hj : j < k:=by rw [← hk (f i)];exact (List.getElem?_eq_some_iff.1 hx).1
          obtain ⟨u,h1,h2⟩:=hcell i j hi hj
          rw [h1];exact h2 x hx
      exact hgen _ rfl
    · obtain ⟨i,hi,rfl⟩:=List.mem_map.1 hy
      exact (hf i (by have:=List.mem_range.1 hi;omega)).1.1
    · refine Nat.le_trans ?_ (hB.sl H _ _)
      rw [List.map_map,List.map_map]
      exact sum_le fun i hi=>(hf i (by have:=List.mem_range.1 hi;omega)).1.2⟩
theorem fld_openB {H : Type} {en : TypeId × Value → H} {w : World} {base : Nat} {spare : Nat → Bool} {held : Bool} {n o s i : Nat} {cs : List Value} {xs : List (DataW H × List MemPlace)} {ft : TypeId} {α : Type} {enc : α → List AV} {ok : α → Prop} {wt : α → Nat}
    (hsp : ∀ b,spare b = true) (hf : DataW.trod en P w base spare held n ft ((cs.drop o).take (P.cellsOf ft)) = xs[i]?) (hi : i < xs.length) (he : OpnB B P ft enc ok wt) [hc : Cel P ft s] : ∃ a,ConcL (Gh.all w) ((cs.drop o).take s) (enc a) ∧ ok a ∧ wt a ≤ B H (xs[i].1):=by
  rw [hc.h,List.getElem?_eq_getElem hi] at hf
  exact he.h hsp hf
theorem OpnB.arg {H : Type} {en : TypeId × Value → H} {w : World} {t : TypeId} {v : Value} {d : DataW H} {ps : List MemPlace} {base : Nat} {held : Bool} {α : Type} {enc : α → List AV} {ok : α → Prop} {wt : α → Nat} (ho : OpnB B P t enc ok wt) (h : DataW.Trod en P w base (fun _=>true) held t v d ps) :
    ∃ a,ConcL (Gh.all w) v.cells.toList (enc a) ∧ ok a ∧ wt a ≤ B H d:=by
  obtain ⟨fuel,hf⟩:=h
  exact ho.h (fun _=>rfl) hf
end
end Go.AL
namespace Go.RowKit
open Go.ChangeShapes
section
variable {H : Type} {enc : TypeId × Value → H} {P : Program} {w : World} {base : Nat} {spare : Nat → Bool} {held : Bool}
end
end Go.RowKit
