/- What the arguments stand for. No condition. -/
import Derived.Test.YtjojdiefnhbglaaGreatYI5
import Derived.Test.YtjojdiefnhbglaaGreatOpen
import Derived.Test.YtjojdiefnhbglaaGreatOpen3
set_option linter.all false
namespace Go.Proofs
open Go.AL
def spOk (s : Sp) : Prop:=(Lit.int .i64 s.f).wf = true ∧ (Lit.int .i64 s.t).wf = true
theorem i64_wf0 {n : Int} (h : (Lit.int .i64 n).wf = true) : -9223372036854775808 ≤ n ∧ n ≤ 9223372036854775807:=by
  simp [Lit.wf,IntKind.min,IntKind.max,IntKind.signed,IntKind.bits] at h
  omega
def valOk (v : Val) : Prop:=(Lit.int .i64 v.kind).wf = true ∧ (Lit.int .i64 v.n).wf = true ∧ v.s.length ≤ maxLen
def datOk (d : Dat) : Prop:=(Lit.int .i64 d.e).wf = true ∧ (Lit.int .i64 d.a).wf = true ∧ valOk d.v ∧ (Lit.int .i64 d.t).wf = true ∧ True ∧ (Lit.int .i64 d.fr).wf = true ∧ (Lit.int .i64 d.to).wf = true
theorem datOk.rg {d : Dat} (h : datOk d) : loT ≤ d.fr ∧ d.to ≤ hiT:=⟨(i64_wf0 h.2.2.2.2.2.1).1,(i64_wf0 h.2.2.2.2.2.2).2⟩
theorem datOk.sl {d : Dat} (h : datOk d) : d.v.s.length < 9223372036854775808:=Nat.lt_succ_of_le (show _ ≤ 9223372036854775807 from h.2.2.1.2.2)
def prtOk (p : Prt) : Prop:=True ∧ (Lit.int .i64 p.n).wf = true ∧ valOk p.v
def vwOk (v : Vw) : Prop:=(Lit.int .i64 v.up).wf = true ∧ (Lit.int .i64 v.af).wf = true ∧ (Lit.int .i64 v.at_).wf = true ∧ True ∧ True
instance : Opn Tryz.prog 2 (fun n : Int=>[.sc (.int .i64 n)]) (fun n : Int=>(Lit.int .i64 n).wf = true):=opn_int Tryz.underlying2
instance : Opn Tryz.prog 3 (fun n : Int=>[.sc (.int .i64 n)]) (fun n : Int=>(Lit.int .i64 n).wf = true):=opn_int Tryz.underlying3
instance : Opn Tryz.prog 4 (fun b : Bool=>[.sc (.bool b)]) (fun _ : Bool=>True):=opn_bool Tryz.underlying4
instance : Opn Tryz.prog 5 (fun n : Int=>[.sc (.int .u8 n)]) (fun n : Int=>(Lit.int .u8 n).wf = true):=opn_int Tryz.underlying5
instance : Opn Tryz.prog 6 (fun n : Int=>[.sc (.int .u8 n)]) (fun n : Int=>(Lit.int .u8 n).wf = true):=opn_int Tryz.underlying6
instance : Opn Tryz.prog 9 (fun l : List UInt8=>[str l]) (fun l : List UInt8=>l.length ≤ maxLen):=opn_str Tryz.underlying9
instance : Opn Tryz.prog 10 (fun l : List UInt8=>[str l]) (fun l : List UInt8=>l.length ≤ maxLen):=opn_str Tryz.underlying10
instance : Opn Tryz.prog 11 (fun l : List UInt8=>[str l]) (fun l : List UInt8=>l.length ≤ maxLen):=opn_str Tryz.underlying11
instance : Opn Tryz.prog 12 (fun n : Int=>[.sc (.int .u64 n)]) (fun n : Int=>(Lit.int .u64 n).wf = true):=opn_int Tryz.underlying12
instance : Opn Tryz.prog 21 (fun n : Int=>[.sc (.int .i32 n)]) (fun n : Int=>(Lit.int .i32 n).wf = true):=opn_int Tryz.underlying21
instance : Opn Tryz.prog 29 (fun n : Int=>[.sc (.int .i64 n)]) (fun n : Int=>(Lit.int .i64 n).wf = true):=opn_int Tryz.underlying29
instance : Opn Tryz.prog 180 (fun n : Int=>[.sc (.int .u64 n)]) (fun n : Int=>(Lit.int .u64 n).wf = true):=opn_int Tryz.underlying180
instance : Opn Tryz.prog 225 (fun n : Int=>[.sc (.int .i64 n)]) (fun n : Int=>(Lit.int .i64 n).wf = true):=opn_int Tryz.underlying225
instance : Opn Tryz.prog 232 (fun n : Int=>[.sc (.int .u32 n)]) (fun n : Int=>(Lit.int .u32 n).wf = true):=opn_int Tryz.underlying232
instance : Opn Tryz.prog 234 (fun n : Int=>[.sc (.int .u64 n)]) (fun n : Int=>(Lit.int .u64 n).wf = true):=opn_int Tryz.underlying234
instance : Opn Tryz.prog 265 (fun n : Int=>[.sc (.int .u64 n)]) (fun n : Int=>(Lit.int .u64 n).wf = true):=opn_int Tryz.underlying265
instance : Opn Tryz.prog 322 (fun n : Int=>[.sc (.int .u8 n)]) (fun n : Int=>(Lit.int .u8 n).wf = true):=opn_int Tryz.underlying322
instance : Opn Tryz.prog 323 (fun n : Int=>[.sc (.int .u8 n)]) (fun n : Int=>(Lit.int .u8 n).wf = true):=opn_int Tryz.underlying323
instance : Opn Tryz.prog 326 (fun n : Int=>[.sc (.int .i32 n)]) (fun n : Int=>(Lit.int .i32 n).wf = true):=opn_int Tryz.underlying326
instance : Opn Tryz.prog 327 (fun n : Int=>[.sc (.int .i32 n)]) (fun n : Int=>(Lit.int .i32 n).wf = true):=opn_int Tryz.underlying327
instance : Opn Tryz.prog 62 sC spOk:=⟨fun {H en w base spare held fuel cs x} hsp h=>by
  obtain ⟨xs,n,rfl,rfl,hl,hn,hf⟩:=DataW.trod_struct Tryz.underlying62 h
  have hn' : xs.length = 2:=hn
  obtain ⟨a0,c0,k0⟩:=fld_open (ft:=2) (o:=0) hsp (hf 0 _ rfl) (by omega)
  obtain ⟨a1,c1,k1⟩:=fld_open (ft:=2) (o:=1) hsp (hf 1 _ rfl) (by omega)
  exact ⟨Sp.mk a0 a1,(fl_cons c0 (fl_cons c1 (fl_nil (by rw [hl,Cel.h (P:=Tryz.prog) (t:=62)];exact Nat.le_refl _)))),⟨k0,k1⟩⟩⟩
instance : Opn Tryz.prog 52 (fun l : List Sp=>[.sl none 2 (l.map sC)]) (fun l : List Sp=>l.length ≤ maxLen ∧ ∀ a,a ∈ l → spOk a):=opn_slice Tryz.underlying52 (fun _=>rfl) (by decide)
instance : Opn Tryz.prog 46 vC valOk:=⟨fun {H en w base spare held fuel cs x} hsp h=>by
  obtain ⟨xs,n,rfl,rfl,hl,hn,hf⟩:=DataW.trod_struct Tryz.underlying46 h
  have hn' : xs.length = 3:=hn
  obtain ⟨a0,c0,k0⟩:=fld_open (ft:=3) (o:=0) hsp (hf 0 _ rfl) (by omega)
  obtain ⟨a1,c1,k1⟩:=fld_open (ft:=2) (o:=1) hsp (hf 1 _ rfl) (by omega)
  obtain ⟨a2,c2,k2⟩:=fld_open (ft:=9) (o:=2) hsp (hf 2 _ rfl) (by omega)
  exact ⟨Val.mk a0 a1 a2,(fl_cons c0 (fl_cons c1 (fl_cons c2 (fl_nil (by rw [hl,Cel.h (P:=Tryz.prog) (t:=46)];exact Nat.le_refl _))))),⟨k0,k1,k2⟩⟩⟩
instance : Opn Tryz.prog 48 dC datOk:=⟨fun {H en w base spare held fuel cs x} hsp h=>by
  obtain ⟨xs,n,rfl,rfl,hl,hn,hf⟩:=DataW.trod_struct Tryz.underlying48 h
  have hn' : xs.length = 7:=hn
  obtain ⟨a0,c0,k0⟩:=fld_open (ft:=2) (o:=0) hsp (hf 0 _ rfl) (by omega)
  obtain ⟨a1,c1,k1⟩:=fld_open (ft:=2) (o:=1) hsp (hf 1 _ rfl) (by omega)
  obtain ⟨a2,c2,k2⟩:=fld_open (ft:=46) (o:=2) hsp (hf 2 _ rfl) (by omega)
  obtain ⟨a3,c3,k3⟩:=fld_open (ft:=2) (o:=5) hsp (hf 3 _ rfl) (by omega)
  obtain ⟨a4,c4,k4⟩:=fld_open (ft:=4) (o:=6) hsp (hf 4 _ rfl) (by omega)
  obtain ⟨a5,c5,k5⟩:=fld_open (ft:=2) (o:=7) hsp (hf 5 _ rfl) (by omega)
  obtain ⟨a6,c6,k6⟩:=fld_open (ft:=2) (o:=8) hsp (hf 6 _ rfl) (by omega)
  exact ⟨Dat.mk a0 a1 a2 a3 a4 a5 a6,(fl_cons c0 (fl_cons c1 (fl_cons c2 (fl_cons c3 (fl_cons c4 (fl_cons c5 (fl_cons c6 (fl_nil (by rw [hl,Cel.h (P:=Tryz.prog) (t:=48)];exact Nat.le_refl _))))))))),⟨k0,k1,k2,k3,k4,k5,k6⟩⟩⟩
instance : Opn Tryz.prog 58 pC prtOk:=⟨fun {H en w base spare held fuel cs x} hsp h=>by
  obtain ⟨xs,n,rfl,rfl,hl,hn,hf⟩:=DataW.trod_struct Tryz.underlying58 h
  have hn' : xs.length = 3:=hn
  obtain ⟨a0,c0,k0⟩:=fld_open (ft:=4) (o:=0) hsp (hf 0 _ rfl) (by omega)
  obtain ⟨a1,c1,k1⟩:=fld_open (ft:=2) (o:=1) hsp (hf 1 _ rfl) (by omega)
  obtain ⟨a2,c2,k2⟩:=fld_open (ft:=46) (o:=2) hsp (hf 2 _ rfl) (by omega)
  exact ⟨Prt.mk a0 a1 a2,(fl_cons c0 (fl_cons c1 (fl_cons c2 (fl_nil (by rw [hl,Cel.h (P:=Tryz.prog) (t:=58)];exact Nat.le_refl _))))),⟨k0,k1,k2⟩⟩⟩
instance : Opn Tryz.prog 22 (fun l : List Dat=>[.sl none 9 (l.map dC)]) (fun l : List Dat=>l.length ≤ maxLen ∧ ∀ a,a ∈ l → datOk a):=opn_slice Tryz.underlying22 (fun _=>rfl) (by decide)
instance : Opn Tryz.prog 23 (fun l : List Prt=>[.sl none 5 (l.map pC)]) (fun l : List Prt=>l.length ≤ maxLen ∧ ∀ a,a ∈ l → prtOk a):=opn_slice Tryz.underlying23 (fun _=>rfl) (by decide)
instance : Opn Tryz.prog 25 wC vwOk:=⟨fun {H en w base spare held fuel cs x} hsp h=>by
  obtain ⟨xs,n,rfl,rfl,hl,hn,hf⟩:=DataW.trod_struct Tryz.underlying25 h
  have hn' : xs.length = 5:=hn
  obtain ⟨a0,c0,k0⟩:=fld_open (ft:=2) (o:=0) hsp (hf 0 _ rfl) (by omega)
  obtain ⟨a1,c1,k1⟩:=fld_open (ft:=2) (o:=1) hsp (hf 1 _ rfl) (by omega)
  obtain ⟨a2,c2,k2⟩:=fld_open (ft:=2) (o:=2) hsp (hf 2 _ rfl) (by omega)
  obtain ⟨a3,c3,k3⟩:=fld_open (ft:=4) (o:=3) hsp (hf 3 _ rfl) (by omega)
  obtain ⟨a4,c4,k4⟩:=fld_open (ft:=4) (o:=4) hsp (hf 4 _ rfl) (by omega)
  exact ⟨Vw.mk a0 a1 a2 a3 a4,(fl_cons c0 (fl_cons c1 (fl_cons c2 (fl_cons c3 (fl_cons c4 (fl_nil (by rw [hl,Cel.h (P:=Tryz.prog) (t:=25)];exact Nat.le_refl _))))))),⟨k0,k1,k2,k3,k4⟩⟩⟩
end Go.Proofs
