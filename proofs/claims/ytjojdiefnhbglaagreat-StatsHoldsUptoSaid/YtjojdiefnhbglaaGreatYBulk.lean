/- What the arguments weigh. No condition. -/
import Derived.Test.YtjojdiefnhbglaaGreatYOpn
import Derived.Test.YtjojdiefnhbglaaGreatOpen4
import Derived.Test.YtjojdiefnhbglaaGreatRows
set_option linter.all false
namespace Go.Proofs.YtjojdiefnhbglaaGreat
open Go.AL Go.RowKit
theorem bulk_one {H : Type} (d : DataW H) : 1 ≤ Rows.uptoBulk d:=by
  cases d with
  | lit l=>cases l <;> simp [Rows.uptoBulk]
  | nil=>simp [Rows.uptoBulk]
  | ptr d=>simp [Rows.uptoBulk]
  | slice elems spare=>simp [Rows.uptoBulk]
  | agg parts=>simp [Rows.uptoBulk]
  | iface t d=>simp [Rows.uptoBulk]
  | map entries=>simp [Rows.uptoBulk]
  | held h=>simp [Rows.uptoBulk]
theorem bulk_part {H : Type} {d : DataW H} {l : List (DataW H)} (h : d ∈ l) : Rows.uptoBulk d ≤ Rows.uptoBulkAll l:=by
  induction l with
  | nil=>cases h
  | cons x r ih =>
    simp only [Rows.uptoBulkAll]
    rcases List.mem_cons.1 h with e|e
    · subst e;omega
    · have:=ih e;omega
theorem bulk_sum {H : Type} (l : List (DataW H)) : (l.map Rows.uptoBulk).sum = Rows.uptoBulkAll l:=by
  induction l with
  | nil=>simp [Rows.uptoBulkAll]
  | cons x r ih=>simp [Rows.uptoBulkAll,ih]
abbrev blk : ∀ H : Type,DataW H → Nat:=fun _ d=>Rows.uptoBulk d
theorem blk_ok : BulkP blk :=
  ⟨fun _ b=>by simp [blk,Rows.uptoBulk],fun _ ps=>by show (ps.map Rows.uptoBulk).sum ≤ Rows.uptoBulk _;rw [bulk_sum];simp [Rows.uptoBulk],
   fun _ es sp=>by show (es.map Rows.uptoBulk).sum ≤ Rows.uptoBulk _;rw [bulk_sum];simp only [Rows.uptoBulk];omega,fun _ d=>bulk_one d⟩
abbrev wtD (d : Dat) : Nat:=1 + d.v.s.length
theorem bVal : OpnB blk Tryz.prog 46 vC valOk (fun v=>1 + v.s.length):=⟨fun {H en w base spare held fuel cs x} hsp h=>by
  obtain ⟨xs,n,rfl,rfl,hl,hn,hf⟩:=DataW.trod_struct Tryz.underlying46 h
  have hn' : xs.length = 3:=hn
  match xs,hn',hf with
  | [y0,y1,y2],_,hf =>
    obtain ⟨a0,c0,k0,q0⟩:=fld_openB (ft:=3) (o:=0) hsp (hf 0 _ rfl) (by show 0 < 3;omega) (opnB_one blk_ok inferInstance)
    obtain ⟨a1,c1,k1,q1⟩:=fld_openB (ft:=2) (o:=1) hsp (hf 1 _ rfl) (by show 1 < 3;omega) (opnB_one blk_ok inferInstance)
    obtain ⟨a2,c2,k2,q2⟩:=fld_openB (ft:=9) (o:=2) hsp (hf 2 _ rfl) (by show 2 < 3;omega) (opnB_str blk_ok Tryz.underlying9)
    have hs:=blk_ok.agg H [y0.1,y1.1,y2.1]
    simp only [List.map_cons,List.map_nil,List.sum_cons,List.sum_nil] at hs
    have q0 : _ ≤ blk H y0.1:=q0
    have q1 : _ ≤ blk H y1.1:=q1
    have q2 : _ ≤ blk H y2.1:=q2
    exact ⟨Val.mk a0 a1 a2,(fl_cons c0 (fl_cons c1 (fl_cons c2 (fl_nil (by rw [hl,Cel.h (P:=Tryz.prog) (t:=46)];exact Nat.le_refl _))))),⟨k0,k1,k2⟩,by simp only [List.map_cons,List.map_nil,wtD,wtF];omega⟩⟩
theorem bSp : OpnB blk Tryz.prog 62 sC spOk (fun _=>1):=opnB_one blk_ok inferInstance
theorem bSps : OpnB blk Tryz.prog 52 (fun l : List Sp=>[.sl none 2 (l.map sC)]) (fun l : List Sp=>l.length ≤ maxLen ∧ ∀ a,a ∈ l → spOk a) (fun l=>(l.map (fun _=>1)).sum):=opnB_slice blk_ok Tryz.underlying52 bSp (fun _=>rfl) (by decide)
theorem sum_one {α : Type} : ∀ l : List α,(l.map fun _=>1).sum = l.length
  | []=>rfl
  | _ :: l=>by simp only [List.map_cons,List.sum_cons,List.length_cons,sum_one l];omega
theorem bSpl : OpnB blk Tryz.prog 52 (fun l : List Sp=>[.sl none 2 (l.map sC)]) (fun l : List Sp=>l.length ≤ maxLen ∧ ∀ a,a ∈ l → spOk a) List.length:=by
  have e : (fun l : List Sp=>(l.map fun _=>1).sum) = List.length:=funext sum_one
  have:=bSps
  rwa [e] at this
def facOk (f : Fac) : Prop:=(Lit.int .i64 f.e).wf = true ∧ (Lit.int .i64 f.a).wf = true ∧ valOk f.v ∧ (f.sp.length ≤ maxLen ∧ ∀ a,a ∈ f.sp → spOk a)
theorem bFac : OpnB blk Tryz.prog 54 fC facOk (wtF):=⟨fun {H en w base spare held fuel cs x} hsp h=>by
  obtain ⟨xs,n,rfl,rfl,hl,hn,hf⟩:=DataW.trod_struct Tryz.underlying54 h
  have hn' : xs.length = 4:=hn
  match xs,hn',hf with
  | [y0,y1,y2,y3],_,hf =>
    obtain ⟨a0,c0,k0,q0⟩:=fld_openB (ft:=2) (o:=0) hsp (hf 0 _ rfl) (by show 0 < 4;omega) (opnB_one blk_ok inferInstance)
    obtain ⟨a1,c1,k1,q1⟩:=fld_openB (ft:=2) (o:=1) hsp (hf 1 _ rfl) (by show 1 < 4;omega) (opnB_one blk_ok inferInstance)
    obtain ⟨a2,c2,k2,q2⟩:=fld_openB (ft:=46) (o:=2) hsp (hf 2 _ rfl) (by show 2 < 4;omega) bVal
    obtain ⟨a3,c3,k3,q3⟩:=fld_openB (ft:=52) (o:=5) hsp (hf 3 _ rfl) (by show 3 < 4;omega) bSpl
    have hs:=blk_ok.agg H [y0.1,y1.1,y2.1,y3.1]
    simp only [List.map_cons,List.map_nil,List.sum_cons,List.sum_nil] at hs
    have q0 : _ ≤ blk H y0.1:=q0
    have q1 : _ ≤ blk H y1.1:=q1
    have q2 : _ ≤ blk H y2.1:=q2
    have q3 : _ ≤ blk H y3.1:=q3
    exact ⟨Fac.mk a0 a1 a2 a3,(fl_cons c0 (fl_cons c1 (fl_cons c2 (fl_cons c3 (fl_nil (by rw [hl,Cel.h (P:=Tryz.prog) (t:=54)];exact Nat.le_refl _)))))),⟨k0,k1,k2,k3⟩,by simp only [List.map_cons,List.map_nil,wtD,wtF];omega⟩⟩
theorem bFacs : OpnB blk Tryz.prog 36 (fun l : List Fac=>[.sl none 6 (l.map fC)]) (fun l : List Fac=>l.length ≤ maxLen ∧ ∀ a,a ∈ l → facOk a) (fun l=>(l.map wtF).sum):=opnB_slice blk_ok Tryz.underlying36 bFac (fun _=>rfl) (by decide)
end Go.Proofs.YtjojdiefnhbglaaGreat
