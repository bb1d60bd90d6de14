/- The bridge from a call's contract in the abstract logic to what a statement asks. No condition. -/
import Derived.Test.YtjojdiefnhbglaaDraw
import Derived.ProofKit
import Derived.Carry
import Derived.Lib.SmallJoins
import Derived.Test.YtjojdiefnhbglaaApp4
import Derived.Deep.Slices
import Derived.ChangeArms
import Derived.ChangeOld
set_option linter.all false
namespace Go.AL
open Go.RowKit
def Gh.all (W : World) : Gh:=Gh.of fun b o=>W.cell? ⟨b,o,none⟩
theorem PC.law {P : Program} [GlobF P] {f : FuncId} {xs : List AV} {u : Value} (h : PC P f xs (.sc u)) {W : World} {vs : List Value} (hgl : ∀ b o u,GlobF.f P b o = some u → W.cell? ⟨b,o,none⟩ = some u) (hc : ConcL (Gh.all W) vs xs) (hgo : ∀ b x,GlobF.o P b = some x → W.heap[b]? = some x:=by intro _ _ e;cases e) :
    Calls P f vs.toArray W fun e W'=>e = .returned u ∧ Below W.heap.size W W' :=
  (h.2 W (fun b o=>W.cell? ⟨b,o,none⟩) vs ⟨hgl,hgo⟩ (fun _ _ _ e=>e) hc).mono fun e W' ⟨r,imm',he,hg,_,_,hr⟩=>by
    have:=conc_sc hr
    subst this
    exact ⟨he,hg.os,hg.tape,hg.output,hg.size,hg.out⟩
theorem conc_str {G : Gh} (s : ByteArray) : Conc G (.string s) (str s.data.toList):=by
  have e : (⟨s.data.toList.toArray⟩ : ByteArray) = s:=by cases s;simp
  have:=Conc.sc (G:=G) (.string ⟨s.data.toList.toArray⟩)
  rw [e] at this
  unfold str
  rw [e]
  exact this
end Go.AL

namespace Go.AL
class Opn (P : Program) (t : TypeId) {α : outParam Type} (enc : outParam (α → List AV)) (ok : outParam (α → Prop)) : Prop where
  h : ∀ {H : Type} {en : TypeId × Value → H} {w : World} {base : Nat} {spare : Nat → Bool} {held : Bool} {fuel : Nat} {cs : List Value} {x : DataW H × List MemPlace},(∀ b,spare b = true) →
    DataW.trod en P w base spare held fuel t cs = some x → ∃ a,ConcL (Gh.all w) cs (enc a) ∧ ok a
class Cel (P : Program) (t : TypeId) (n : outParam Nat) : Prop where
  h : P.cellsOf t = n
theorem opn_int {P : Program} {t : TypeId} {k : IntKind} (ht : P.underlying t = some (.int k)) : Opn P t (α:=Int) (fun n=>[.sc (.int k n)]) (fun n=>(Lit.int k n).wf = true):=⟨fun _ h=>by
  obtain ⟨n,rfl,_,hw⟩:=DataW.trod_int ht h
  exact ⟨n,.cons (.sc _) (.nil _),hw⟩⟩
theorem opn_bool {P : Program} {t : TypeId} (ht : P.underlying t = some .bool) : Opn P t (α:=Bool) (fun b=>[.sc (.bool b)]) (fun _=>True):=⟨fun _ h=>by
  obtain ⟨n,rfl,_⟩:=DataW.trod_bool ht h
  exact ⟨n,.cons (.sc _) (.nil _),trivial⟩⟩
theorem opn_str {P : Program} {t : TypeId} (ht : P.underlying t = some .string) : Opn P t (α:=List UInt8) (fun l=>[str l]) (fun l=>l.length ≤ maxLen):=⟨fun _ h=>by
  obtain ⟨s,rfl,_,hs⟩:=DataW.trod_string ht h
  exact ⟨s.data.toList,.cons (conc_str s) (.nil _),hs⟩⟩
theorem all_cell {w : World} {base : Nat} {a : Addr} {n : Nat} {cs : List Value} (h : w.cells? base a n = some cs) : cs.length = n ∧ ∀ j v,cs[j]? = some v → w.cell? (a.add j) = some v:=by
  obtain ⟨_,h1,h2⟩:=World.cells?_some h
  exact ⟨h1,fun j v hj=>(h2 j (by rw [← h1];exact (List.getElem?_eq_some_iff.1 hj).1)).trans hj⟩
theorem opn_slice {P : Program} {t e : TypeId} {k : Nat} {α : Type} {enc : α → List AV} {ok : α → Prop} (ht : P.underlying t = some (.slice e)) [he : Opn P e enc ok] [hc : Cel P e k] (hk : ∀ a,(enc a).length = k) (hk0 : 0 < k) :
    Opn P t (α:=List α) (fun l=>[.sl none k (l.map enc)]) (fun l=>l.length ≤ maxLen ∧ ∀ a,a ∈ l → ok a):=⟨fun {H en w base spare held fuel cs x} hsp h=>by
  rcases Go.Deep.open_slice ht h with ⟨rfl,_⟩ | ⟨a,len,cap,m,n,D,Pl,rfl,hb,hl,hm,hmm,_,hx⟩
  · exact ⟨[],.cons (.slnil (fun t e=>by cases e)) (.nil _),Nat.zero_le _,fun a h=>by cases h⟩
  · rw [hsp] at hmm
    simp only [if_true] at hmm
    subst hmm
    rw [hc.h] at hx
    have hex : ∀ i,i < m → ∃ y : α,ok y ∧ ∃ cs',w.cells? base (a.add (i * k)) k = some cs' ∧ ConcL (Gh.all w) cs' (enc y):=fun i hi=>by
      obtain ⟨cs',h1,h2⟩:=hx i hi
      obtain ⟨y,h3,h4⟩:=he.h hsp h2
      exact ⟨y,h4,cs',h1,h3⟩
    rcases Nat.eq_zero_or_pos m with h0|h0
    · have hl0 : len = 0:=by omega
      subst h0;subst hl0
      exact ⟨[],.cons .slz (.nil _),Nat.zero_le _,fun a h=>by cases h⟩
    have hspot : a.spot = none:=by
      obtain ⟨y,_,cs',h1,h3⟩:=hex 0 h0
      obtain ⟨h4,h5⟩:=all_cell h1
      have:=h5 0 (cs'[0]'(by omega)) (List.getElem?_eq_getElem (by omega))
      have:=World.cell?_spot this
      simpa [Addr.add] using this
    have hne : Nonempty α:=let ⟨y,_⟩:=hex 0 h0;⟨y⟩
    let f : Nat → α:=fun i=>Classical.epsilon fun y=>ok y ∧ ∃ cs',w.cells? base (a.add (i * k)) k = some cs' ∧ ConcL (Gh.all w) cs' (enc y)
    have hf : ∀ i,i < m → ok (f i) ∧ ∃ cs',w.cells? base (a.add (i * k)) k = some cs' ∧ ConcL (Gh.all w) cs' (enc (f i)):=fun i hi=>Classical.epsilon_spec (hex i hi)
    refine ⟨(List.range len).map f,.cons ?_ (.nil _),by simp;omega,fun y hy=>?_⟩
    · obtain ⟨b,o,sp⟩:=a
      simp only at hspot
      subst hspot
      have hcell : ∀ i j,i < len → j < k → ∃ u,w.cell? ⟨b,o + i * k + j,none⟩ = some u ∧ ∀ x,(enc (f i))[j]? = some x → Conc (Gh.all w) u x:=fun i j hi hj=>by
        obtain ⟨_,cs',h1,h2⟩:=hf i (by omega)
        obtain ⟨h3,h4⟩:=all_cell h1
        have:=h4 j (cs'[j]'(by omega)) (List.getElem?_eq_getElem (by omega))
        rw [add_none,add_none] at this
        exact ⟨_,this,fun x hx=>h2.2 j _ x (List.getElem?_eq_getElem (by omega)) hx⟩
      have e1 : ((List.range len).map f |>.map enc).length = len:=by simp
      have hgen : ∀ els : List (List AV),els = ((List.range len).map f).map enc → Conc (Gh.all w) (.slice (some ⟨b,o,none⟩) len m) (.sl none k els):=fun els hels=>by
        have hlen : els.length = len:=by rw [hels];exact e1
        rw [← hlen]
        refine .sl (fun i j=>(w.cell? ⟨b,o + i * k + j,none⟩).getD undef) (fun e he=>?_) (by omega) (fun i j hi hj=>?_) (fun i e j x he hx=>?_) (fun t e=>by cases e)
        · rw [hels] at he
          obtain ⟨y,_,rfl⟩:=List.mem_map.1 he
          exact hk y
        · obtain ⟨u,h1,_⟩:=hcell i j (by omega) hj
          show w.cell? ⟨b,o + i * k + j,none⟩ = _
          rw [h1];rfl
        · have hi : i < len:=by rw [← hlen];exact (List.getElem?_eq_some_iff.1 he).1
          rw [hels] at he
          simp [hi] at he
          subst he
          have hj : j < k:=by rw [← hk (f i)];exact (List.getElem?_eq_some_iff.1 hx).1
          obtain ⟨u,h1,h2⟩:=hcell i j hi hj
          rw [h1];exact h2 x hx
      exact hgen _ rfl
    · obtain ⟨i,hi,rfl⟩:=List.mem_map.1 hy
      exact (hf i (by have:=List.mem_range.1 hi;omega)).1⟩
theorem fld_open {H : Type} {en : TypeId × Value → H} {P : Program} {w : World} {base : Nat} {spare : Nat → Bool} {held : Bool} {n o s i : Nat} {cs : List Value} {xs : List (DataW H × List MemPlace)} {ft : TypeId} {α : Type} {enc : α → List AV} {ok : α → Prop}
    (hsp : ∀ b,spare b = true) (hf : DataW.trod en P w base spare held n ft ((cs.drop o).take (P.cellsOf ft)) = xs[i]?) (hi : i < xs.length) [he : Opn P ft enc ok] [hc : Cel P ft s] : ∃ a,ConcL (Gh.all w) ((cs.drop o).take s) (enc a) ∧ ok a:=by
  rw [hc.h,List.getElem?_eq_getElem hi] at hf
  exact he.h hsp hf
theorem fl_cons {G : Gh} {cs : List Value} {o s : Nat} {xs ys : List AV} (h : ConcL G ((cs.drop o).take s) xs) (h' : ConcL G (cs.drop (o + s)) ys) : ConcL G (cs.drop o) (xs ++ ys):=by
  have:=h.append h'
  rwa [← List.drop_drop,List.take_append_drop] at this
theorem fl_nil {G : Gh} {cs : List Value} {o : Nat} (h : cs.length ≤ o) : ConcL G (cs.drop o) []:=by
  rw [List.drop_eq_nil_of_le h];exact .nil _
theorem Opn.arg {H : Type} {en : TypeId × Value → H} {P : Program} {w : World} {t : TypeId} {v : Value} {d : DataW H} {ps : List MemPlace} {base : Nat} {held : Bool} {α : Type} {enc : α → List AV} {ok : α → Prop} [ho : Opn P t enc ok] (h : DataW.Trod en P w base (fun _=>true) held t v d ps) :
    ∃ a,ConcL (Gh.all w) v.cells.toList (enc a) ∧ ok a:=by
  obtain ⟨fuel,hf⟩:=h
  exact ho.h (fun _=>rfl) hf
theorem one_arg {G : Gh} {v : Value} {x : AV} (hv : v.cells = #[v]) (h : ConcL G v.cells.toList [x]) : Conc G v x:=by
  rw [hv] at h
  exact h.split.1
end Go.AL
