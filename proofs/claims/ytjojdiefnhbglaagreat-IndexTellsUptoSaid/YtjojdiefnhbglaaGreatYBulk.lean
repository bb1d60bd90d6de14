/- What the arguments weigh. No condition. -/
import Derived.Test.YtjojdiefnhbglaaGreatYOpn
import Derived.Test.YtjojdiefnhbglaaGreatOpen4
import Derived.Test.YtjojdiefnhbglaaGreatRows
import Derived.Test.YtjojdiefnhbglaaGreatYD1
set_option linter.all false
namespace Go.Proofs.YtjojdiefnhbglaaGreat
open Go.AL Go.RowKit
theorem bulk_one {H : Type} (d : DataW H) : 1 ≤ Rows.uptoBulk d:=by
  cases d with
  | lit l=>cases l <;> simp [Rows.uptoBulk]
  | nil=>simp [Rows.uptoBulk]
  | ptr d=>simp [Rows.uptoBulk]
  | slice elems spare=>simp [Rows.uptoBulk]
  | agg parts=>simp [Rows.uptoBulk]
  | iface t d=>simp [Rows.uptoBulk]
  | map entries=>simp [Rows.uptoBulk]
  | held h=>simp [Rows.uptoBulk]
theorem bulk_part {H : Type} {d : DataW H} {l : List (DataW H)} (h : d ∈ l) : Rows.uptoBulk d ≤ Rows.uptoBulkAll l:=by
  induction l with
  | nil=>cases h
  | cons x r ih =>
    simp only [Rows.uptoBulkAll]
    rcases List.mem_cons.1 h with e|e
    · subst e;omega
    · have:=ih e;omega
theorem bulk_sum {H : Type} (l : List (DataW H)) : (l.map Rows.uptoBulk).sum = Rows.uptoBulkAll l:=by
  induction l with
  | nil=>simp [Rows.uptoBulkAll]
  | cons x r ih=>simp [Rows.uptoBulkAll,ih]
abbrev blk : ∀ H : Type,DataW H → Nat:=fun _ d=>Rows.uptoBulk d
theorem blk_ok : BulkP blk :=
  ⟨fun _ b=>by simp [blk,Rows.uptoBulk],fun _ ps=>by show (ps.map Rows.uptoBulk).sum ≤ Rows.uptoBulk _;rw [bulk_sum];simp [Rows.uptoBulk],
   fun _ es sp=>by show (es.map Rows.uptoBulk).sum ≤ Rows.uptoBulk _;rw [bulk_sum];simp only [Rows.uptoBulk];omega,fun _ d=>bulk_one d⟩
abbrev wtD (d : Dat) : Nat:=1 + d.v.s.length
theorem bVal : OpnB blk Tryz.prog 46 vC valOk (fun v=>1 + v.s.length):=⟨fun {H en w base spare held fuel cs x} hsp h=>by
  obtain ⟨xs,n,rfl,rfl,hl,hn,hf⟩:=DataW.trod_struct Tryz.underlying46 h
  have hn' : xs.length = 3:=hn
  match xs,hn',hf with
  | [y0,y1,y2],_,hf =>
    obtain ⟨a0,c0,k0,q0⟩:=fld_openB (ft:=3) (o:=0) hsp (hf 0 _ rfl) (by show 0 < 3;omega) (opnB_one blk_ok inferInstance)
    obtain ⟨a1,c1,k1,q1⟩:=fld_openB (ft:=2) (o:=1) hsp (hf 1 _ rfl) (by show 1 < 3;omega) (opnB_one blk_ok inferInstance)
    obtain ⟨a2,c2,k2,q2⟩:=fld_openB (ft:=9) (o:=2) hsp (hf 2 _ rfl) (by show 2 < 3;omega) (opnB_str blk_ok Tryz.underlying9)
    have hs:=blk_ok.agg H [y0.1,y1.1,y2.1]
    simp only [List.map_cons,List.map_nil,List.sum_cons,List.sum_nil] at hs
    have q0 : _ ≤ blk H y0.1:=q0
    have q1 : _ ≤ blk H y1.1:=q1
    have q2 : _ ≤ blk H y2.1:=q2
    exact ⟨Val.mk a0 a1 a2,(fl_cons c0 (fl_cons c1 (fl_cons c2 (fl_nil (by rw [hl,Cel.h (P:=Tryz.prog) (t:=46)];exact Nat.le_refl _))))),⟨k0,k1,k2⟩,by simp only [List.map_cons,List.map_nil,wtD,wtF];omega⟩⟩
theorem bDat : OpnB blk Tryz.prog 48 dC datOk (wtD):=⟨fun {H en w base spare held fuel cs x} hsp h=>by
  obtain ⟨xs,n,rfl,rfl,hl,hn,hf⟩:=DataW.trod_struct Tryz.underlying48 h
  have hn' : xs.length = 7:=hn
  match xs,hn',hf with
  | [y0,y1,y2,y3,y4,y5,y6],_,hf =>
    obtain ⟨a0,c0,k0,q0⟩:=fld_openB (ft:=2) (o:=0) hsp (hf 0 _ rfl) (by show 0 < 7;omega) (opnB_one blk_ok inferInstance)
    obtain ⟨a1,c1,k1,q1⟩:=fld_openB (ft:=2) (o:=1) hsp (hf 1 _ rfl) (by show 1 < 7;omega) (opnB_one blk_ok inferInstance)
    obtain ⟨a2,c2,k2,q2⟩:=fld_openB (ft:=46) (o:=2) hsp (hf 2 _ rfl) (by show 2 < 7;omega) bVal
    obtain ⟨a3,c3,k3,q3⟩:=fld_openB (ft:=2) (o:=5) hsp (hf 3 _ rfl) (by show 3 < 7;omega) (opnB_one blk_ok inferInstance)
    obtain ⟨a4,c4,k4,q4⟩:=fld_openB (ft:=4) (o:=6) hsp (hf 4 _ rfl) (by show 4 < 7;omega) (opnB_one blk_ok inferInstance)
    obtain ⟨a5,c5,k5,q5⟩:=fld_openB (ft:=2) (o:=7) hsp (hf 5 _ rfl) (by show 5 < 7;omega) (opnB_one blk_ok inferInstance)
    obtain ⟨a6,c6,k6,q6⟩:=fld_openB (ft:=2) (o:=8) hsp (hf 6 _ rfl) (by show 6 < 7;omega) (opnB_one blk_ok inferInstance)
    have hs:=blk_ok.agg H [y0.1,y1.1,y2.1,y3.1,y4.1,y5.1,y6.1]
    simp only [List.map_cons,List.map_nil,List.sum_cons,List.sum_nil] at hs
    have q0 : _ ≤ blk H y0.1:=q0
    have q1 : _ ≤ blk H y1.1:=q1
    have q2 : _ ≤ blk H y2.1:=q2
    have q3 : _ ≤ blk H y3.1:=q3
    have q4 : _ ≤ blk H y4.1:=q4
    have q5 : _ ≤ blk H y5.1:=q5
    have q6 : _ ≤ blk H y6.1:=q6
    exact ⟨Dat.mk a0 a1 a2 a3 a4 a5 a6,(fl_cons c0 (fl_cons c1 (fl_cons c2 (fl_cons c3 (fl_cons c4 (fl_cons c5 (fl_cons c6 (fl_nil (by rw [hl,Cel.h (P:=Tryz.prog) (t:=48)];exact Nat.le_refl _))))))))),⟨k0,k1,k2,k3,k4,k5,k6⟩,by simp only [List.map_cons,List.map_nil,wtD,wtF];omega⟩⟩
theorem bDats : OpnB blk Tryz.prog 22 (fun l : List Dat=>[.sl none 9 (l.map dC)]) (fun l : List Dat=>l.length ≤ maxLen ∧ ∀ a,a ∈ l → datOk a) (fun l=>(l.map wtD).sum):=opnB_slice blk_ok Tryz.underlying22 bDat (fun _=>rfl) (by decide)
end Go.Proofs.YtjojdiefnhbglaaGreat

namespace Go.Proofs.YtjojdiefnhbglaaGreat
open Go.AL
theorem i64_wf1 {n : Int} (h : (Lit.int .i64 n).wf = true) : i64P n:=by
  have:=i64_wf0 h
  unfold i64P;omega
theorem datI_of {d : Dat} (h : datOk d) : datI d:=⟨i64_wf1 h.1,i64_wf1 h.2.1,i64_wf1 h.2.2.1.2.1,i64_wf1 h.2.2.2.1,i64_wf1 h.2.2.2.2.2.1,i64_wf1 h.2.2.2.2.2.2⟩
theorem prtI_of {p : Prt} (h : prtOk p) : prtI p:=⟨i64_wf1 h.2.1,i64_wf1 h.2.2.2.1⟩
theorem prtS_of {p : Prt} (h : prtOk p) : p.v.s.length < 9223372036854775808:=Nat.lt_succ_of_le (show _ ≤ 9223372036854775807 from h.2.2.2.2)
end Go.Proofs.YtjojdiefnhbglaaGreat
