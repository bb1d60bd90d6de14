/- The facts on a seat's types, as instances of the abstract logic's classes. No condition. -/
import Derived.Test.YthofnclbbjemfaaDoorOpen
import Derived.Test.YthofnclbbjemfaaDoorOps17
import Derived.Test.YthofnclbbjemfaaDoorProg
import Derived.Shelf.Strings.Split
import Derived.Shelf.SlLaysNS
import Derived.Test.YthofnclbbjemfaaDoorBase
import Derived.Lib.ParseIntBTie
import Derived.Lib.ItoaLen
import Derived.Lib.Split
import Derived.Lib.Join
import Derived.Lib.SplitLaws
import Derived.Lib.CutLaws
import Derived.Shelf.Strings.OnBuilder
import Derived.Test.YthofnclbbjemfaaDoorOps5
import Derived.Test.YthofnclbbjemfaaDoorOps12
import Derived.Shelf.SortG.Plain
import Derived.Test.YthofnclbbjemfaaDoorOps21
set_option linter.all false
namespace Go.Proofs
open Go.AL
instance : Und Tryd.prog 4 .bool:=⟨Tryd.underlying4⟩
instance : Und Tryd.prog 9 .string:=⟨Tryd.underlying9⟩
instance : Siz Tryd.prog 9 1:=⟨Tryd.sizeOf9⟩
instance : Agg Tryd.prog 9 false:=⟨Tryd.isAgg9⟩
instance : Zer Tryd.prog 9 (.string ⟨#[]⟩):=⟨Tryd.zeroValue9⟩
instance : Inf Tryd.prog 9 1 16 (.string ⟨#[]⟩):=⟨inf_of (by kernel_rfl)⟩
instance : Und Tryd.prog 24 (.slice 9):=⟨Tryd.underlying24⟩
instance : Siz Tryd.prog 24 1:=⟨Tryd.sizeOf24⟩
instance : Agg Tryd.prog 24 false:=⟨Tryd.isAgg24⟩
instance : Mix Tryd.prog:=⟨by decide⟩
end Go.Proofs

namespace Go.Proofs
open Go.Shelf
def Tryd.lays146_ren : Go.Shelf.Ren:=⟨fun|146=>14|221=>18|268=>30|138=>31|143=>32|195=>39|197=>40|218=>41|219=>42|260=>44|217=>45|225=>46|224=>47|267=>48|266=>49|314=>50|n=>n,fun|9=>9|31=>24|3=>3|4=>4|0=>0|105=>61|21=>21|5=>5|46=>37|119=>68|139=>71|138=>70|146=>72|51=>49|n=>n,fun|1=>0|3=>1|4=>2|n=>n⟩
theorem Tryd.lays146 : Go.Proofs.Lays.n146 Tryd.prog Tryd.lays146_ren:={
  mixed:=by kernel_rfl
  f138:=Tryd.func31.trans (congrArg some (by kernel_rfl))
  f143:=Tryd.func32.trans (congrArg some (by kernel_rfl))
  f146:=Tryd.func14.trans (congrArg some (by kernel_rfl))
  f195:=Tryd.func39.trans (congrArg some (by kernel_rfl))
  f197:=Tryd.func40.trans (congrArg some (by kernel_rfl))
  f217:=Tryd.func45.trans (congrArg some (by kernel_rfl))
  f218:=Tryd.func41.trans (congrArg some (by kernel_rfl))
  f219:=Tryd.func42.trans (congrArg some (by kernel_rfl))
  f221:=Tryd.func18.trans (congrArg some (by kernel_rfl))
  f224:=Tryd.func47.trans (congrArg some (by kernel_rfl))
  f225:=Tryd.func46.trans (congrArg some (by kernel_rfl))
  f260:=Tryd.func44.trans (congrArg some (by kernel_rfl))
  f266:=Tryd.func49.trans (congrArg some (by kernel_rfl))
  f267:=Tryd.func48.trans (congrArg some (by kernel_rfl))
  f268:=Tryd.func30.trans (congrArg some (by kernel_rfl))
  f314:=Tryd.func50.trans (congrArg some (by kernel_rfl))
  t0:=Tryd.underlying0
  a0:=Tryd.isAgg0
  z0:=Tryd.sizeOf0
  v0:=Tryd.zeroValue0
  t3:=Tryd.underlying3
  a3:=Tryd.isAgg3
  z3:=Tryd.sizeOf3
  v3:=Tryd.zeroValue3
  t4:=Tryd.underlying4
  a4:=Tryd.isAgg4
  z4:=Tryd.sizeOf4
  v4:=Tryd.zeroValue4
  t5:=Tryd.underlying5
  a5:=Tryd.isAgg5
  z5:=Tryd.sizeOf5
  v5:=Tryd.zeroValue5
  t9:=Tryd.underlying9
  a9:=Tryd.isAgg9
  z9:=Tryd.sizeOf9
  v9:=Tryd.zeroValue9
  t21:=Tryd.underlying21
  a21:=Tryd.isAgg21
  z21:=Tryd.sizeOf21
  v21:=Tryd.zeroValue21
  t31:=Tryd.underlying24
  a31:=Tryd.isAgg24
  z31:=Tryd.sizeOf24
  v31:=Tryd.zeroValue24
  t46:=Tryd.underlying37
  a46:=Tryd.isAgg37
  z46:=Tryd.sizeOf37
  v46:=Tryd.zeroValue37
  t51:=Tryd.underlying49
  a51:=Tryd.isAgg49
  z51:=Tryd.sizeOf49
  v51:=Tryd.zeroValue49
  t105:=Tryd.underlying61
  a105:=Tryd.isAgg61
  z105:=Tryd.sizeOf61
  v105:=Tryd.zeroValue61
  t119:=Tryd.underlying68
  a119:=Tryd.isAgg68
  z119:=Tryd.sizeOf68
  t138:=Tryd.underlying70
  a138:=Tryd.isAgg70
  z138:=Tryd.sizeOf70
  v138:=Tryd.zeroValue70
  t139:=Tryd.underlying71
  a139:=Tryd.isAgg71
  z139:=Tryd.sizeOf71
  v139:=Tryd.zeroValue71
  t146:=Tryd.underlying72
  a146:=Tryd.isAgg72
  z146:=Tryd.sizeOf72
  v146:=Tryd.zeroValue72
  g1:=by kernel_rfl
  g3:=by kernel_rfl
  g4:=by kernel_rfl }
def Tryd.laysSt_ren : Go.Shelf.Ren:=⟨fun|54=>12|64=>17|65=>16|78=>28|79=>29|80=>19|81=>20|82=>21|83=>22|84=>23|85=>24|61=>25|86=>26|87=>27|93=>33|89=>34|90=>35|94=>36|95=>37|69=>38|97=>43|n=>n,fun|25=>24|26=>9|3=>3|51=>37|0=>0|67=>49|69=>51|4=>4|61=>41|60=>40|44=>46|5=>5|9=>9|75=>54|79=>58|83=>64|84=>65|n=>n,fun|n=>n⟩
theorem Tryd.laysSt : Go.Proofs.SlLaysN.n54 Tryd.prog Tryd.laysSt_ren:={
  mixed:=by kernel_rfl
  f54:=⟨Tryd.f12.name,by decide,Tryd.func12.trans (congrArg some (by kernel_rfl))⟩
  f61:=⟨Tryd.f25.name,by decide,Tryd.func25.trans (congrArg some (by kernel_rfl))⟩
  f64:=Tryd.func17.trans (congrArg some (by kernel_rfl))
  f65:=⟨Tryd.f16.name,by decide,Tryd.func16.trans (congrArg some (by kernel_rfl))⟩
  f69:=⟨Tryd.f38.name,by decide,Tryd.func38.trans (congrArg some (by kernel_rfl))⟩
  f78:=Tryd.func28.trans (congrArg some (by kernel_rfl))
  f79:=Tryd.func29.trans (congrArg some (by kernel_rfl))
  f80:=⟨Tryd.f19.name,by decide,Tryd.func19.trans (congrArg some (by kernel_rfl))⟩
  f81:=⟨Tryd.f20.name,by decide,Tryd.func20.trans (congrArg some (by kernel_rfl))⟩
  f82:=⟨Tryd.f21.name,by decide,Tryd.func21.trans (congrArg some (by kernel_rfl))⟩
  f83:=⟨Tryd.f22.name,by decide,Tryd.func22.trans (congrArg some (by kernel_rfl))⟩
  f84:=⟨Tryd.f23.name,by decide,Tryd.func23.trans (congrArg some (by kernel_rfl))⟩
  f85:=⟨Tryd.f24.name,by decide,Tryd.func24.trans (congrArg some (by kernel_rfl))⟩
  f86:=⟨Tryd.f26.name,by decide,Tryd.func26.trans (congrArg some (by kernel_rfl))⟩
  f87:=⟨Tryd.f27.name,by decide,Tryd.func27.trans (congrArg some (by kernel_rfl))⟩
  f89:=Tryd.func34.trans (congrArg some (by kernel_rfl))
  f90:=Tryd.func35.trans (congrArg some (by kernel_rfl))
  f93:=⟨Tryd.f33.name,by decide,Tryd.func33.trans (congrArg some (by kernel_rfl))⟩
  f94:=⟨Tryd.f36.name,by decide,Tryd.func36.trans (congrArg some (by kernel_rfl))⟩
  f95:=⟨Tryd.f37.name,by decide,Tryd.func37.trans (congrArg some (by kernel_rfl))⟩
  f97:=⟨Tryd.f43.name,by decide,Tryd.func43.trans (congrArg some (by kernel_rfl))⟩
  t0:=Tryd.underlying0
  a0:=Tryd.isAgg0
  z0:=Tryd.sizeOf0
  v0:=Tryd.zeroValue0
  t3:=Tryd.underlying3
  a3:=Tryd.isAgg3
  z3:=Tryd.sizeOf3
  v3:=Tryd.zeroValue3
  t4:=Tryd.underlying4
  a4:=Tryd.isAgg4
  z4:=Tryd.sizeOf4
  v4:=Tryd.zeroValue4
  t5:=Tryd.underlying5
  a5:=Tryd.isAgg5
  z5:=Tryd.sizeOf5
  v5:=Tryd.zeroValue5
  t9:=Tryd.underlying9
  a9:=Tryd.isAgg9
  z9:=Tryd.sizeOf9
  v9:=Tryd.zeroValue9
  t25:=Tryd.underlying24
  a25:=Tryd.isAgg24
  z25:=Tryd.sizeOf24
  v25:=Tryd.zeroValue24
  t26:=Tryd.underlying9
  a26:=Tryd.isAgg9
  z26:=Tryd.sizeOf9
  v26:=Tryd.zeroValue9
  t44:=Tryd.underlying46
  a44:=Tryd.isAgg46
  z44:=Tryd.sizeOf46
  v44:=Tryd.zeroValue46
  t51:=Tryd.underlying37
  a51:=Tryd.isAgg37
  z51:=Tryd.sizeOf37
  v51:=Tryd.zeroValue37
  t60:=Tryd.underlying40
  a60:=Tryd.isAgg40
  z60:=Tryd.sizeOf40
  v60:=Tryd.zeroValue40
  t61:=Tryd.underlying41
  a61:=Tryd.isAgg41
  z61:=Tryd.sizeOf41
  v61:=Tryd.zeroValue41
  t67:=Tryd.underlying49
  a67:=Tryd.isAgg49
  z67:=Tryd.sizeOf49
  v67:=Tryd.zeroValue49
  t69:=Tryd.underlying51
  a69:=Tryd.isAgg51
  z69:=Tryd.sizeOf51
  v69:=Tryd.zeroValue51
  t75:=Tryd.underlying54
  a75:=Tryd.isAgg54
  z75:=Tryd.sizeOf54
  v75:=Tryd.zeroValue54
  t79:=Tryd.underlying58
  a79:=Tryd.isAgg58
  z79:=Tryd.sizeOf58
  v79:=Tryd.zeroValue58
  t83:=Tryd.underlying64
  a83:=Tryd.isAgg64
  z83:=Tryd.sizeOf64
  v83:=Tryd.zeroValue64
  t84:=Tryd.underlying65
  a84:=Tryd.isAgg65
  z84:=Tryd.sizeOf65
  v84:=Tryd.zeroValue65 }
end Go.Proofs

namespace Go.Proofs
structure Sp where
  f : Int
  t : Int
theorem Sp.ext' {a b : Sp} (h1 : a.f = b.f) (h2 : a.t = b.t) : a = b:=by
  obtain ⟨a,b⟩:=a;simp only at h1 h2;subst h1;subst h2;rfl
def neS (l : List Sp) : Prop:=∀ s,s ∈ l → s.f < s.t
def SetP (l : List Sp) : Prop:=neS l ∧ l.Pairwise (fun a b=>a.t < b.f)
theorem SetP.nil : SetP []:=⟨fun _ h=>by simp at h,List.Pairwise.nil⟩
end Go.Proofs

namespace Go.Proofs
open Go.Lib
def dval (a : Nat) (l : List UInt8) : Nat:=l.foldl (fun a c=>a * 10 + (c.toNat - 48)) a
theorem dval_cons (a : Nat) (c : UInt8) (l : List UInt8) : dval a (c :: l) = dval (a * 10 + (c.toNat - 48)) l:=by unfold dval;rw [List.foldl_cons]
theorem dval_snoc (a : Nat) (c : UInt8) (l : List UInt8) : dval a (l ++ [c]) = dval a l * 10 + (c.toNat - 48):=by unfold dval;rw [List.foldl_append,List.foldl_cons,List.foldl_nil]
theorem dval_ge (l : List UInt8) : ∀ a,a ≤ dval a l:=by
  induction l with
  | nil=>exact fun a=>Nat.le_refl _
  | cons c l ih=>intro a;rw [dval_cons];have:=ih (a * 10 + (c.toNat - 48));omega
def isD (c : UInt8) : Prop:=48 ≤ c.toNat ∧ c.toNat ≤ 57
theorem dgt_toNat {m : Nat} (h : m < 10) : (UInt8.ofNat (48 + m)).toNat = 48 + m:=by
  rw [UInt8.toNat_ofNat'];omega
theorem dec_digs (u : Nat) : ∀ c ∈ decDigits u,isD c:=by
  induction u using Nat.strongRecOn with
  | _ u ih =>
    intro c hc
    rw [decDigits] at hc
    split at hc
    · rename_i h
      simp only [List.mem_cons,List.not_mem_nil,or_false] at hc
      subst hc;unfold isD;rw [dgt_toNat h];omega
    · rename_i h
      simp only [List.mem_append,List.mem_cons,List.not_mem_nil,or_false] at hc
      rcases hc with hc|rfl
      · exact ih (u / 10) (by omega) c hc
      · unfold isD;rw [dgt_toNat (by omega)];omega
theorem dec_val (u : Nat) : dval 0 (decDigits u) = u:=by
  induction u using Nat.strongRecOn with
  | _ u ih =>
    rw [decDigits]
    split
    · rename_i h
      show 0 * 10 + ((UInt8.ofNat (48 + u)).toNat - 48) = u
      rw [dgt_toNat h];omega
    · rename_i h
      rw [dval_snoc,ih (u / 10) (by omega),dgt_toNat (by omega)];omega
theorem dec_ne (u : Nat) : decDigits u ≠ []:=fun h=>by
  have:=decDigits_length u
  have:=nDigits_pos u
  rw [h] at *;simp at *;omega
theorem parse10 : ∀ (l : List UInt8) (a : Nat),(∀ c ∈ l,isD c) → dval a l < 18446744073709551616 → parseUint10 a l = .ok (dval a l)
  | [],a,_,_=>rfl
  | c :: l,a,h,hd=>by
    have hc:=h c (.head _)
    rw [dval_cons] at hd
    have:=dval_ge l (a * 10 + (c.toNat - 48))
    unfold isD at hc
    rw [parseUint10,if_pos hc,if_neg (by omega),if_neg (by omega),dval_cons]
    exact parse10 l _ (fun c hc=>h c (.tail _ hc)) hd
theorem mag_dec {u : Nat} (h : u < 18446744073709551616) : parseMag (decDigits u) = .ok u:=by
  unfold parseMag
  rw [if_neg (dec_ne u),parse10 _ _ (dec_digs u) (by rw [dec_val];exact h),dec_val]
theorem parse_itoa {n : Int} (h0 : -9223372036854775808 ≤ n) (h1 : n ≤ 9223372036854775807) : parseIntB 64 (itoa n) = .ok n:=by
  rw [parseIntB_64]
  by_cases hneg : n < 0
  · obtain ⟨u,rfl⟩ : ∃ u : Nat,n = -(u : Int):=⟨n.natAbs,by omega⟩
    rw [itoa_neg u (by omega),atoiAll_minus,mag_dec (by omega),signed,if_neg (by omega)]
  · obtain ⟨u,rfl⟩ : ∃ u : Nat,n = u:=⟨n.toNat,by omega⟩
    rw [itoa_nonneg]
    have hm:=mag_dec (u:=u) (by omega)
    cases hd : decDigits u with
    | nil=>exact absurd hd (dec_ne u)
    | cons c r =>
      have hc:=dec_digs u c (by rw [hd];exact .head _)
      unfold isD at hc
      rw [atoiAll_plain c r (by omega) (by omega),← hd,hm,signless,if_neg (by omega)]
theorem itoa_inj {n m : Int} (h0 : -9223372036854775808 ≤ n) (h1 : n ≤ 9223372036854775807) (g0 : -9223372036854775808 ≤ m) (g1 : m ≤ 9223372036854775807) (e : itoa n = itoa m) : n = m:=by
  have a:=parse_itoa h0 h1
  have b:=parse_itoa g0 g1
  rw [e,b] at a;injection a with a;exact a.symm
def NumP (s : List UInt8) (n : Int) : Prop:=-9223372036854775808 ≤ n ∧ n ≤ 9223372036854775807 ∧ itoa n = s
theorem NumP.inj {s : List UInt8} {n m : Int} (h : NumP s n) (h' : NumP s m) : n = m:=itoa_inj h.1 h.2.1 h'.1 h'.2.1 (h.2.2.trans h'.2.2.symm)
end Go.Proofs

namespace Go.Proofs
open Go.Lib
abbrev rngI (n : Int) : Prop:=-9223372036854775808 ≤ n ∧ n ≤ 9223372036854775807
abbrev rngL (l : List Sp) : Prop:=∀ s,s ∈ l → rngI s.f ∧ rngI s.t
def endL (n : Int) : List UInt8:=if n = -9223372036854775808 then [45] else if n = 9223372036854775807 then [43] else itoa n
theorem nd45 : ¬ isD 45:=fun h=>by unfold isD at h;revert h;decide
theorem nd43 : ¬ isD 43:=fun h=>by unfold isD at h;revert h;decide
theorem itoa_mem (n : Int) : ∀ c ∈ itoa n,isD c ∨ c = 45:=by
  by_cases hneg : n < 0
  · obtain ⟨u,rfl⟩ : ∃ u : Nat,n = -(u : Int):=⟨n.natAbs,by omega⟩
    rw [itoa_neg u (by omega)]
    intro c hc
    rcases List.mem_cons.1 hc with rfl|hc
    · exact .inr rfl
    · exact .inl (dec_digs u c hc)
  · obtain ⟨u,rfl⟩ : ∃ u : Nat,n = u:=⟨n.toNat,by omega⟩
    rw [itoa_nonneg]
    exact fun c hc=>.inl (dec_digs u c hc)
theorem itoa_ne (n : Int) : itoa n ≠ [45] ∧ itoa n ≠ [43]:=by
  by_cases hneg : n < 0
  · obtain ⟨u,rfl⟩ : ∃ u : Nat,n = -(u : Int):=⟨n.natAbs,by omega⟩
    rw [itoa_neg u (by omega)]
    exact ⟨fun e=>dec_ne u (List.cons.inj e).2,fun e=>by cases e⟩
  · obtain ⟨u,rfl⟩ : ∃ u : Nat,n = u:=⟨n.toNat,by omega⟩
    rw [itoa_nonneg]
    exact ⟨fun e=>nd45 (dec_digs u 45 (by rw [e];exact .head _)),fun e=>nd43 (dec_digs u 43 (by rw [e];exact .head _))⟩
theorem end_mem (n : Int) : ∀ c ∈ endL n,c ≠ 32 ∧ c ≠ 44 ∧ c ≠ 41 ∧ c ≠ 91:=by
  have k : ∀ c : UInt8,isD c ∨ c = 45 → c ≠ 32 ∧ c ≠ 44 ∧ c ≠ 41 ∧ c ≠ 91:=fun c h=>by
    rcases h with h|rfl
    · unfold isD at h
      refine ⟨?_,?_,?_,?_⟩ <;> (rintro rfl;revert h;decide)
    · decide
  intro c hc
  unfold endL at hc
  split at hc
  · rcases List.mem_cons.1 hc with rfl|hc
    · decide
    · cases hc
  · split at hc
    · rcases List.mem_cons.1 hc with rfl|hc
      · decide
      · cases hc
    · exact k c (itoa_mem n c hc)
theorem end_lo : endL (-9223372036854775808) = [45]:=by unfold endL;rw [if_pos rfl]
theorem end_hi : endL 9223372036854775807 = [43]:=by unfold endL;rw [if_neg (by decide),if_pos rfl]
theorem end_mid {n : Int} (h0 : n ≠ -9223372036854775808) (h1 : n ≠ 9223372036854775807) : endL n = itoa n:=by unfold endL;rw [if_neg h0,if_neg h1]
theorem end_inj {n m : Int} (hn : rngI n) (hm : rngI m) (e : endL n = endL m) : n = m:=by
  have k : ∀ n,n ≠ -9223372036854775808 → n ≠ 9223372036854775807 → endL n ≠ [45] ∧ endL n ≠ [43]:=fun n h0 h1=>by rw [end_mid h0 h1];exact itoa_ne n
  by_cases a0 : n = -9223372036854775808
  · by_cases b0 : m = -9223372036854775808
    · rw [a0,b0]
    · by_cases b1 : m = 9223372036854775807
      · rw [a0,b1,end_lo,end_hi] at e;cases e
      · exfalso;rw [a0,end_lo] at e;exact (k m b0 b1).1 e.symm
  · by_cases a1 : n = 9223372036854775807
    · by_cases b0 : m = -9223372036854775808
      · rw [a1,b0,end_lo,end_hi] at e;cases e
      · by_cases b1 : m = 9223372036854775807
        · rw [a1,b1]
        · exfalso;rw [a1,end_hi] at e;exact (k m b0 b1).2 e.symm
    · by_cases b0 : m = -9223372036854775808
      · exfalso;rw [b0,end_lo] at e;exact (k n a0 a1).1 e
      · by_cases b1 : m = 9223372036854775807
        · exfalso;rw [b1,end_hi] at e;exact (k n a0 a1).2 e
        · rw [end_mid a0 a1,end_mid b0 b1] at e
          exact itoa_inj hn.1 hn.2 hm.1 hm.2 e
def EndP (s : List UInt8) (n : Int) : Prop:=rngI n ∧ endL n = s
theorem EndP.inj {s : List UInt8} {n m : Int} (h : EndP s n) (h' : EndP s m) : n = m:=end_inj h.1 h'.1 (h.2.trans h'.2.symm)
def spL (s : Sp) : List UInt8:=91 :: (endL s.f ++ 44 :: (endL s.t ++ [41]))
theorem spL_sp (s : Sp) : (32 : UInt8) ∉ spL s:=by
  unfold spL
  intro h
  simp only [List.mem_cons,List.mem_append] at h
  rcases h with h|h|h|h|h|h
  · revert h;decide
  · exact (end_mem _ _ h).1 rfl
  · revert h;decide
  · exact (end_mem _ _ h).1 rfl
  · revert h;decide
  · cases h
def cutA (c : UInt8) : List UInt8 → Option (List UInt8 × List UInt8)
  | []=>none
  | b :: s=>if b = c then some ([],s) else (cutA c s).map fun p=>(b :: p.1,p.2)
theorem cutA_app {c : UInt8} {a b : List UInt8} (h : c ∉ a) : cutA c (a ++ c :: b) = some (a,b):=by
  induction a with
  | nil=>simp [cutA]
  | cons x a ih =>
    rw [List.cons_append,cutA,if_neg (fun e=>h (by rw [e];exact .head _)),ih (fun k=>h (.tail _ k))];rfl
theorem cutA_some {c : UInt8} : ∀ {s a b : List UInt8},cutA c s = some (a,b) → s = a ++ c :: b ∧ c ∉ a
  | [],_,_,h=>by cases h
  | x :: s,a,b,h=>by
    rw [cutA] at h
    split at h
    · rename_i e;subst e;cases h;exact ⟨rfl,List.not_mem_nil⟩
    · rename_i e
      cases hc : cutA c s with
      | none=>rw [hc] at h;cases h
      | some p =>
        obtain ⟨p,q⟩:=p
        rw [hc] at h;cases h
        obtain ⟨h1,h2⟩:=cutA_some hc
        refine ⟨by rw [h1];rfl,fun k=>?_⟩
        rcases List.mem_cons.1 k with k|k
        · exact e k.symm
        · exact h2 k
theorem cutA_none {c : UInt8} {s : List UInt8} (h : cutA c s = none) : c ∉ s:=fun k=>by
  obtain ⟨a,b,rfl⟩:=List.append_of_mem k
  by_cases ha : c ∈ a
  · have : ∀ a : List UInt8,c ∈ a → cutA c (a ++ c :: b) ≠ none:=by
      intro a;induction a with
      | nil=>intro k;cases k
      | cons x a ih =>
        intro k e
        rw [List.cons_append,cutA] at e
        split at e
        · cases e
        · rename_i hx
          rcases List.mem_cons.1 k with k|k
          · exact hx k.symm
          · exact ih k (by simpa using e)
    exact this a ha h
  · rw [cutA_app ha] at h;cases h
theorem part_cut (s : Sp) : cutA 44 (spL s) = some (91 :: endL s.f,endL s.t ++ [41]):=by
  have : spL s = (91 :: endL s.f) ++ 44 :: (endL s.t ++ [41]):=rfl
  rw [this]
  refine cutA_app fun h=>?_
  rcases List.mem_cons.1 h with h|h
  · revert h;decide
  · exact (end_mem _ _ h).2.1 rfl
theorem spL_inj {s r : Sp} (hs : rngI s.f ∧ rngI s.t) (hr : rngI r.f ∧ rngI r.t) (e : spL s = spL r) : s = r:=by
  have h:=part_cut s
  rw [e,part_cut r] at h
  simp only [Option.some.injEq,Prod.mk.injEq,List.cons.injEq,true_and,List.append_cancel_right_eq] at h
  exact Sp.ext' (end_inj hs.1 hr.1 h.1.symm) (end_inj hs.2 hr.2 h.2.symm)
def splS : List UInt8 → List (List UInt8)
  | []=>[[]]
  | b :: s=>if b = 32 then [] :: splS s else match splS s with|[]=>[[b]]|p :: ps=>(b :: p) :: ps
def joiS : List (List UInt8) → List UInt8
  | []=>[]
  | p :: ps=>p ++ ps.flatMap (32 :: ·)
theorem splS_pre {p : List UInt8} (h : (32 : UInt8) ∉ p) : splS p = [p]:=by
  induction p with
  | nil=>rfl
  | cons b p ih=>rw [splS,if_neg (fun e=>h (by rw [e];exact .head _)),ih (fun k=>h (.tail _ k))]
theorem splS_app {p r : List UInt8} (h : (32 : UInt8) ∉ p) : splS (p ++ 32 :: r) = p :: splS r:=by
  induction p with
  | nil=>rw [List.nil_append,splS,if_pos rfl]
  | cons b p ih=>rw [List.cons_append,splS,if_neg (fun e=>h (by rw [e];exact .head _)),ih (fun k=>h (.tail _ k))]
theorem split_join : ∀ {ps : List (List UInt8)},ps ≠ [] → (∀ p,p ∈ ps → (32 : UInt8) ∉ p) → splS (joiS ps) = ps
  | [],h,_=>absurd rfl h
  | [p],_,h=>by rw [joiS,List.flatMap_nil,List.append_nil];exact splS_pre (h p (.head _))
  | p :: q :: ps,_,h=>by
    have e : joiS (p :: q :: ps) = p ++ 32 :: joiS (q :: ps):=rfl
    rw [e,splS_app (h p (.head _)),split_join (by simp) (fun r hr=>h r (.tail _ hr))]
abbrev noneT : List UInt8:=[110,111,110,101]
def textS (l : List Sp) : List UInt8:=if l = [] then noneT else joiS (l.map spL)
theorem text_head {s : Sp} {l : List Sp} : joiS ((s :: l).map spL) ≠ noneT:=fun e=>by
  rw [List.map_cons,joiS,spL] at e;cases e
def Says (s : List UInt8) (l : List Sp) : Prop:=SetP l ∧ rngL l ∧ s = textS l
theorem split_text {l : List Sp} (h : l ≠ []) : splS (joiS (l.map spL)) = l.map spL:=split_join (by simpa using h) fun p hp=>by
  obtain ⟨s,_,rfl⟩:=List.mem_map.1 hp
  exact spL_sp s
theorem map_inj : ∀ {l m : List Sp},rngL l → rngL m → l.map spL = m.map spL → l = m
  | [],[],_,_,_=>rfl
  | [],_ :: _,_,_,h=>by cases h
  | _ :: _,[],_,_,h=>by cases h
  | s :: l,r :: m,hl,hm,h=>by
    rw [List.map_cons,List.map_cons,List.cons.injEq] at h
    rw [spL_inj (hl s (.head _)) (hm r (.head _)) h.1,map_inj (fun x hx=>hl x (.tail _ hx)) (fun x hx=>hm x (.tail _ hx)) h.2]
theorem joi_inj {l m : List Sp} (hl : rngL l) (hm : rngL m) (h1 : l ≠ []) (h2 : m ≠ []) (e : joiS (l.map spL) = joiS (m.map spL)) : l = m:=by
  have:=split_text h1
  rw [e,split_text h2] at this
  exact map_inj hl hm this.symm
theorem Says.inj {s : List UInt8} {l m : List Sp} (h : Says s l) (h' : Says s m) : l = m:=by
  obtain ⟨_,hl,rfl⟩:=h
  obtain ⟨_,hm,e⟩:=h'
  unfold textS at e
  cases l with
  | nil=>cases m with
    | nil=>rfl
    | cons r m=>rw [if_pos rfl,if_neg (by simp)] at e;exact absurd e.symm text_head
  | cons s l=>cases m with
    | nil=>rw [if_neg (by simp),if_pos rfl] at e;exact absurd e text_head
    | cons r m =>
      rw [if_neg (by simp),if_neg (by simp)] at e
      exact joi_inj hl hm (by simp) (by simp) e
end Go.Proofs

namespace Go.Proofs
open Go.Lib
theorem index_c (c : UInt8) : ∀ s : List UInt8,index s [c] = match cutA c s with|some p=>(p.1.length : Int)|none=>-1
  | []=>by simp [index,cutA]
  | b :: s=>by
    rw [index,cutA]
    by_cases h : b = c
    · subst h
      rw [if_pos rfl,if_pos (by simp)];rfl
    · rw [if_neg h]
      have hp : ¬ (([c] : List UInt8).isPrefixOf (b :: s) = true):=by
        simp;exact fun e=>h e.symm
      rw [if_neg hp,index_c c s]
      cases hc : cutA c s with
      | none=>rfl
      | some p =>
        show (if ((p.1.length : Int) == -1) = true then _ else _) = _
        rw [if_neg (by simp only [beq_iff_eq];omega)]
        simp
theorem splitK_c : ∀ (k : Nat) (s : List UInt8),s.count 32 ≤ k → splitK [32] 0 k s = splS s
  | 0,s,h=>by
    rw [splitK,splS_pre]
    intro hm
    have:=List.count_pos_iff.2 hm
    omega
  | k + 1,s,h=>by
    rw [splitK,index_c]
    cases hc : cutA 32 s with
    | none =>
      show (if ((-1 : Int) == -1) = true then _ else _) = _
      rw [if_pos (by decide),splS_pre (cutA_none hc)]
    | some p =>
      obtain ⟨a,b⟩:=p
      obtain ⟨rfl,hn⟩:=cutA_some hc
      show (if ((a.length : Int) == -1) = true then _ else _) = _
      rw [if_neg (by simp only [beq_iff_eq];omega),splS_app hn,← splitK_c k b (by simp at h;omega)]
      simp
theorem lib_split (s : List UInt8) : (splitB ⟨[(32 : UInt8)].toArray⟩ 0 (countB ⟨s.toArray⟩ ⟨[(32 : UInt8)].toArray⟩) ⟨s.toArray⟩).map (·.data.toList) = splS s:=by
  rw [splitB_data]
  show splitK [32] 0 (count s [32]) s = _
  exact splitK_c _ _ (by rw [count_one];exact Nat.le_refl _)
end Go.Proofs

namespace Go.AL
open Go.Proofs
section
variable {P : Program} [GlobF P]
theorem Grown.same (w : World) : Grown w w:=⟨rfl,rfl,rfl,Nat.le_refl _,Nat.le_refl _,fun _ _=>rfl⟩
theorem Grown.drew (w : World) (n : Nat) : Grown w (w.drewN n):=⟨rfl,rfl,rfl,Nat.le_add_right _ _,Nat.le_refl _,fun _ _=>rfl⟩
theorem Grown.alloc (w : World) (o : Obj) : Grown w (w.alloc o):=⟨rfl,rfl,rfl,Nat.le_refl _,by show w.heap.size ≤ (w.heap.push _).size;simp,fun b hb=>by show (w.heap.push o)[b]? = _;rw [Array.getElem?_push_lt hb,Array.getElem?_eq_getElem hb]⟩
theorem PC.of_newSl {f : FuncId} {us : List Value} {cs : List Value} {t : TypeId} (he : Go.Proofs.Enters P f) (h : ∀ w : World,(∀ b o u,GlobF.f P b o = some u → w.cell? ⟨b,o,none⟩ = some u) → Calls P f us.toArray w fun e w'=>e = .returned (.slice (some ⟨w.heap.size,0,none⟩) cs.length cs.length) ∧ w' = w.alloc (.cells cs.toArray t)) : PC P f (us.map .sc) (.sl none 1 (cs.map fun v=>[.sc v])) :=
  ⟨he,fun w imm vs hgl him hc=>by
    rw [sc_args hc]
    exact (h w (fun b o u e=>him b o u (hgl.f b o u e))).mono fun e w' ⟨h1,h2⟩=>by
      subst h2
      have hold : ∀ b o u,imm b o = some u → b < w.heap.size:=fun b o u e=>World.block_lt_of_cell? _ _ (him b o u e)
      refine ⟨_,fun b o=>if b = w.heap.size then cs[o]? else imm b o,h1,Grown.alloc w _,fun b o hb=>if_neg (by omega),fun b o u e=>?_,?_⟩
      · dsimp only at e
        by_cases hb : b = w.heap.size
        · subst hb
          rw [if_pos rfl] at e
          have e1 : (w.alloc (.cells cs.toArray t)).heap[w.heap.size]? = some (.cells cs.toArray t):=by show (w.heap.push _)[_]? = _;simp
          unfold World.cell?
          rw [e1];simpa using e
        · rw [if_neg hb] at e
          rw [World.cell?_alloc_old _ _ _ (by show b ≠ _;exact hb)]
          exact him b o u e
      · have hl : (cs.map fun v=>[AV.sc v]).length = cs.length:=by simp
        have:=Conc.sl (G:=Gh.of fun b o=>if b = w.heap.size then cs[o]? else imm b o) (b:=w.heap.size) (o:=0) (cap:=cs.length) (k:=1) (tok:=none) (els:=cs.map fun v=>[AV.sc v]) (fun i _=>cs[i]?.getD (.bool false))
          (fun e he=>by obtain ⟨v,_,rfl⟩:=List.mem_map.1 he;rfl) (by simp)
          (fun i j hi hj=>by
            rw [hl] at hi
            show (if w.heap.size = w.heap.size then cs[0 + i * 1 + j]? else _) = _
            rw [if_pos rfl]
            have : 0 + i * 1 + j = i:=by omega
            rw [this,List.getElem?_eq_getElem hi];rfl)
          (fun i e j x he hx=>by
            rw [List.getElem?_map] at he
            cases hc : cs[i]? with
            | none=>rw [hc] at he;cases he
            | some v =>
              rw [hc] at he
              simp only [Option.map_some,Option.some.injEq] at he
              subst he
              cases j with
              | zero=>simp at hx;subst hx;exact .sc v
              | succ j=>simp at hx)
          (fun t h=>by cases h)
        rw [hl] at this
        exact this⟩
end
end Go.AL
namespace Go.AL
open Go.Proofs
section
variable {P : Program} [GlobF P] {fr : Option Nat} {N : Nat} {Q : Exit → AS → Prop} {s : AS} {ops : Array Oper} {rest : List Oper} {ty : TypeId} {pos : String} {af : Array Edge} {dst : Option Nat} {gd : Option (Nat × Bool)} {ρ : Operand → Option AV} {hp : List AObj}
end
end Go.AL

namespace Go.Proofs
open Go.AL Go.Sort
attribute [local irreducible] Go.AL.W Go.AL.WL Go.AL.WD Go.AL.POp Go.AL.PPOp Go.AL.POpS Go.AL.PC Go.AL.AC Go.AL.YW Go.AL.Ret Go.AL.Le Go.AL.thn Go.AL.inBlk Go.AL.scp
open Classical in
noncomputable def dP (p : Prop) : Bool:=decide p
theorem dP_t {p : Prop} : (dP p = true) = p:=by unfold dP;simp
theorem dP_f {p : Prop} : (dP p = false) = ¬ p:=by unfold dP;simp
instance (p : Prop) : BP (dP p) p (¬ p):=⟨fun h=>by rwa [dP_t] at h,fun h=>by rwa [dP_f] at h⟩
theorem dP_T {p : Prop} (h : p) : true = dP p:=(dP_t.mpr h).symm
theorem dP_F {p : Prop} (h : ¬ p) : false = dP p:=(dP_f.mpr h).symm
abbrev sC (l : List UInt8) : List AV:=[str l]
set_option maxHeartbeats 1000000 in
theorem inl_pc [GlobF Tryd.prog] (s : List UInt8) (l : List (List UInt8)) (hl : l.length < 4611686018427387904) : PC Tryd.prog 8 [str s,.sl none 1 (l.map sC)] (.sc (.bool (dP (s ∈ l)))):=by
  refine PC.of_body Tryd.func8 Tryd.ntmps8 rfl rfl rfl ?_
  repeat' first
    | (apply p1 (hd:=rfl);case hop=>first|(apply D_move;rfl)|(apply D_assign;rfl)|(apply D_load1;rfl)|(apply D_int;rfl;rfl;rfl)|(apply D_lenM;rfl)|(apply D_len_sl;rfl)|(apply D_str;rfl;rfl;rfl)|(apply D_loadW;rfl;rfl)|(apply D_loadA;rfl;rfl)|(apply D_len_nil;rfl)|(apply D_idxAn;rfl;rfl;(first|omega|(simp;done)))|(apply D_idxA;rfl;rfl;omega;(first|omega|(simp;done)|(simp;omega)))|(apply D_idxA0;rfl;rfl;omega;(first|omega|(simp;done)|(simp;omega)))|(apply D_lenR;rfl)|(apply D_ixRn;rfl;rfl;(first|omega|(simp;done)))|(apply D_ixR;rfl;rfl;all_goals first|omega|((repeat rw [w64 _ (by omega) (by omega)]);omega)|decide))
    | refine W_seq ?_
    | refine W_region ?_
    | (refine idC ?_;first|refine c1 rfl ?_|refine c0 rfl ?_|refine cs rfl (fun _=>?_) (fun _=>?_))
    | refine WL_nil ?_
    | refine tn ?_
    | refine tr ?_
    | refine br ?_
    | refine bn ?_
    | refine te ?_
    | (refine idB ?_;first|refine bh rfl ?_|refine bm rfl ?_)
    | refine W_skip ?_
    | refine W_block ?_
    | refine W_exit ?_
    | refine W_ret ?_
    | refine W_label ?_
    | refine W_scope ?_
    | refine sn ?_
    | refine sr ?_
    | refine se ?_
    | (refine idR ?_;first|refine ret1 rfl rfl rfl ?_|refine rL1 rfl (by first|exact trivial|exact ⟨rfl,trivial⟩) (by first|exact ResO.tmp rfl|exact ResO.cellBA rfl rfl rfl|exact ResO.cellB1 rfl rfl rfl|exact ResO.cellEA rfl rfl|exact ResO.cellE1 rfl) ?_)
    | refine Le.bool ?_
    | refine Le.int ?_
    | refine Le.str ?_
  refine W_loopL (X:=Nat) (fun i=>[(0,str s),(1,.sl none 1 (l.map sC)),(4,.sc (.bool false)),(5,.sc (.int .i64 (i : Int)))]) (fun _=>[])
    (fun i=>i ≤ l.length ∧ ∀ (j : Nat) (h : j < l.length),j < i → l[j] ≠ s) (fun i=>l.length - i) 0 ⟨by omega,fun j h h'=>by omega⟩ ⟨rfl,rfl,rfl,rfl,trivial⟩ rfl ?_
  rintro i ⟨hi,hz⟩
  repeat' first
    | (apply p1 (hd:=rfl);case hop=>first|(apply D_move;rfl)|(apply D_assign;rfl)|(apply D_load1;rfl)|(apply D_int;rfl;rfl;rfl)|(apply D_lenM;rfl)|(apply D_len_sl;rfl)|(apply D_str;rfl;rfl;rfl)|(apply D_loadW;rfl;rfl)|(apply D_loadA;rfl;rfl)|(apply D_len_nil;rfl)|(apply D_idxAn;rfl;rfl;(first|omega|(simp;done)))|(apply D_idxA;rfl;rfl;omega;(first|omega|(simp;done)|(simp;omega)))|(apply D_idxA0;rfl;rfl;omega;(first|omega|(simp;done)|(simp;omega)))|(apply D_lenR;rfl)|(apply D_ixRn;rfl;rfl;(first|omega|(simp;done)))|(apply D_ixR;rfl;rfl;all_goals first|omega|((repeat rw [w64 _ (by omega) (by omega)]);omega)|decide))
    | refine W_seq ?_
    | refine W_region ?_
    | (refine idC ?_;first|refine c1 rfl ?_|refine c0 rfl ?_|refine cs rfl (fun _=>?_) (fun _=>?_))
    | refine WL_nil ?_
    | refine tn ?_
    | refine tr ?_
    | refine br ?_
    | refine bn ?_
    | refine te ?_
    | (refine idB ?_;first|refine bh rfl ?_|refine bm rfl ?_)
    | refine W_skip ?_
    | refine W_block ?_
    | refine W_exit ?_
    | refine W_ret ?_
    | refine W_label ?_
    | refine W_scope ?_
    | refine sn ?_
    | refine sr ?_
    | refine se ?_
    | (refine idR ?_;first|refine ret1 rfl rfl rfl ?_|refine rL1 rfl (by first|exact trivial|exact ⟨rfl,trivial⟩) (by first|exact ResO.tmp rfl|exact ResO.cellBA rfl rfl rfl|exact ResO.cellB1 rfl rfl rfl|exact ResO.cellEA rfl rfl|exact ResO.cellE1 rfl) ?_)
    | refine Le.bool ?_
    | refine Le.int ?_
    | refine Le.str ?_
  · rename_i h1 h2
    exact dP_T (h2 ▸ List.getElem_mem _)
  · rename_i h1 h2
    refine ⟨rfl,i + 1,⟨by omega,fun j h hj=>?_⟩,by omega,⟨rfl,rfl,rfl,ieq (wsucc i (by omega)),trivial⟩,rfl⟩
    by_cases e : j = i
    · subst e;exact h2
    · exact hz j h (by omega)
  · rename_i h1
    exact dP_F fun h=>by
      obtain ⟨j,hj,e⟩:=List.getElem_of_mem h
      exact hz j hj (by omega) e
def preds : List (List UInt8):=[[61],[33,61],[60],[60,61],[62],[62,61],[98,101,103,105,110,115],[101,110,100,115],[104,97,115],[107,105,110,100]]
def twos : List (List UInt8):=[[43],[45],[42],[47],[109,111,100],[109,105,110],[109,97,120],[99,97,116]]
def ones : List (List UInt8):=[[110,101,103],[97,98,115],[108,101,110],[116,101,120,116],[118,97,108,117,101],[110,117,109,98,101,114],[116,105,109,101],[110,97,109,101]]
open Classical in
noncomputable def knownI (s : List UInt8) : Int:=if s ∈ preds ∨ s ∈ twos then 2 else if s ∈ ones then 1 else if s = [115,117,98] then 3 else 0
noncomputable def knownP (s : List UInt8) : Bool:=dP (s ∈ preds)
noncomputable def knownK (s : List UInt8) : Bool:=dP (s ∈ preds ∨ s ∈ twos ∨ s ∈ ones ∨ s = [115,117,98])
noncomputable abbrev knownV (s : List UInt8) : AV:=.tu [.sc (.int .i64 (knownI s)),.sc (.bool (knownP s)),.sc (.bool (knownK s))]
set_option maxHeartbeats 4000000 in
theorem known_pc [GlobF Tryd.prog] (s : List UInt8) : PC Tryd.prog 4 [str s] (knownV s):=by
  refine PC.of_body Tryd.func4 Tryd.ntmps4 rfl rfl rfl ?_
  repeat' first
    | (apply p1 (hd:=rfl);case hop=>first|(apply D_move;rfl)|(apply D_assign;rfl)|(apply D_str;rfl;rfl;rfl))
    | refine W_seq ?_
    | refine W_region ?_
    | (refine idC ?_;first|refine c1 rfl ?_|refine c0 rfl ?_|refine cs rfl (fun _=>?_) (fun _=>?_))
    | refine WL_nil ?_
    | refine tn ?_
    | refine tr ?_
    | refine br ?_
    | refine bn ?_
    | refine te ?_
    | (refine idB ?_;first|refine bh rfl ?_|refine bm rfl ?_)
    | refine W_skip ?_
    | refine W_block ?_
    | refine W_exit ?_
    | refine W_ret ?_
    | refine W_label ?_
    | refine W_scope ?_
    | refine sn ?_
    | refine sr ?_
    | refine se ?_
    | (refine idR ?_;first|refine ret3 rfl rfl rfl rfl rfl ?_ ?_ ?_|refine rL3 rfl (by first|exact trivial|exact ⟨rfl,trivial⟩) (by first|exact ResO.tmp rfl|exact ResO.cellBA rfl rfl rfl|exact ResO.cellB1 rfl rfl rfl|exact ResO.cellEA rfl rfl|exact ResO.cellE1 rfl) (by first|exact ResO.tmp rfl|exact ResO.cellBA rfl rfl rfl|exact ResO.cellB1 rfl rfl rfl|exact ResO.cellEA rfl rfl|exact ResO.cellE1 rfl) (by first|exact ResO.tmp rfl|exact ResO.cellBA rfl rfl rfl|exact ResO.cellB1 rfl rfl rfl|exact ResO.cellEA rfl rfl|exact ResO.cellE1 rfl) ?_ ?_ ?_)
    | refine Le.bool ?_
    | refine Le.int ?_
    | refine Le.str ?_
  all_goals first
    | (simp_all [knownI,preds,twos,ones];done)
    | (unfold knownP;first|(refine dP_T ?_;simp_all [preds];done)|(refine dP_F ?_;simp_all [preds];done))
    | (unfold knownK;first|(refine dP_T ?_;simp_all [preds,twos,ones];done)|(refine dP_F ?_;simp_all [preds,twos,ones];done))
    | trace_state
abbrev namesL : List (List UInt8):=[[33,61],[42],[43],[45],[47],[60],[60,61],[61],[62],[62,61],[97,98,115],[98,101,103,105,110,115],[99,97,116],[101,110,100,115],[104,97,115],[107,105,110,100],[108,101,110],[109,97,120],[109,105,110],[109,111,100],[110,97,109,101],[110,101,103],[110,117,109,98,101,114],[115,117,98],[116,101,120,116],[116,105,109,101],[118,97,108,117,101]]
abbrev onesL : List (List UInt8):=[[110,101,103],[97,98,115],[108,101,110],[116,101,120,116],[118,97,108,117,101],[110,117,109,98,101,114],[116,105,109,101],[110,97,109,101]]
abbrev predsL : List (List UInt8):=[[61],[33,61],[60],[60,61],[62],[62,61],[98,101,103,105,110,115],[101,110,100,115],[104,97,115],[107,105,110,100]]
set_option maxHeartbeats 4000000 in
theorem names_pc [GlobF Tryd.prog] : PC Tryd.prog 7 [] (.sl none 1 (namesL.map sC)):=by
  refine PC.of_body Tryd.func7 Tryd.ntmps7 rfl rfl rfl ?_
  repeat' first
    | (apply p1 (hd:=rfl);case hop=>first|(apply D_assign;rfl)|(apply D_lit;rfl;rfl;rfl;rfl))
    | refine W_seq ?_
    | refine W_region ?_
    | refine WL_nil ?_
    | refine tn ?_
    | refine tr ?_
    | refine br ?_
    | refine bn ?_
    | refine te ?_
    | (refine idB ?_;first|refine bh rfl ?_|refine bm rfl ?_)
    | refine W_skip ?_
    | refine W_block ?_
    | refine W_exit ?_
    | refine W_ret ?_
    | refine W_label ?_
    | refine W_scope ?_
    | refine sn ?_
    | refine sr ?_
    | refine se ?_
    | (refine idR ?_;first|refine ret1 rfl rfl rfl ?_|refine rL1 rfl (by first|exact trivial|exact ⟨rfl,trivial⟩) (by first|exact ResO.tmp rfl|exact ResO.cellBA rfl rfl rfl|exact ResO.cellB1 rfl rfl rfl|exact ResO.cellEA rfl rfl|exact ResO.cellE1 rfl) ?_)
    | refine Le.bool ?_
    | refine Le.int ?_
    | refine Le.str ?_
  all_goals exact Le.of_eq rfl
theorem names_sub : ∀ s,s ∈ namesL → s ∈ preds ∨ s ∈ twos ∨ s ∈ ones ∨ s = [115,117,98]:=by decide
theorem preds_sub : ∀ s,s ∈ preds → s ∈ namesL:=by decide
theorem twos_sub : ∀ s,s ∈ twos → s ∈ namesL:=by decide
theorem ones_sub : ∀ s,s ∈ ones → s ∈ namesL:=by decide
theorem ones_not : ∀ s,s ∈ ones → ¬ s ∈ preds ∧ ¬ s ∈ twos:=by decide
theorem sub_not : ¬ [115,117,98] ∈ preds ∧ ¬ [115,117,98] ∈ twos ∧ ¬ [115,117,98] ∈ ones ∧ [115,117,98] ∈ namesL:=by decide
set_option maxHeartbeats 4000000 in
theorem known1_pc [GlobF Tryd.prog] (s : List UInt8) : PC Tryd.prog 5 [str s] (knownV s):=by
  refine PC.of_body Tryd.func5 Tryd.ntmps5 rfl rfl rfl ?_
  repeat' first
    | (apply p1 (hd:=rfl);case hop=>first|(apply D_move;rfl)|(apply D_assign;rfl)|(apply D_pc names_pc;rfl;exact .nil)|(apply D_pc (inl_pc s namesL (by decide));rfl;exact .same rfl (.same rfl .nil))|(apply D_pc (inl_pc s onesL (by decide));rfl;exact .same rfl (.same rfl .nil))|(apply D_pc (inl_pc s predsL (by decide));rfl;exact .same rfl (.same rfl .nil))|(apply D_str;rfl;rfl;rfl)|(apply D_not;rfl)|(apply D_lit;rfl;rfl;rfl;rfl))
    | refine W_seq ?_
    | refine W_region ?_
    | (refine idC ?_;first|refine c1 rfl ?_|refine c0 rfl ?_|refine cs rfl (fun _=>?_) (fun _=>?_))
    | refine WL_nil ?_
    | refine tn ?_
    | refine tr ?_
    | refine br ?_
    | refine bn ?_
    | refine te ?_
    | (refine idB ?_;first|refine bh rfl ?_|refine bm rfl ?_)
    | refine W_skip ?_
    | refine W_block ?_
    | refine W_exit ?_
    | refine W_ret ?_
    | refine W_label ?_
    | refine W_scope ?_
    | refine sn ?_
    | refine sr ?_
    | refine se ?_
    | (refine idR ?_;first|refine ret3 rfl rfl rfl rfl rfl ?_ ?_ ?_|refine rL3 rfl (by first|exact trivial|exact ⟨rfl,trivial⟩) (by first|exact ResO.tmp rfl|exact ResO.cellBA rfl rfl rfl|exact ResO.cellB1 rfl rfl rfl|exact ResO.cellEA rfl rfl|exact ResO.cellE1 rfl) (by first|exact ResO.tmp rfl|exact ResO.cellBA rfl rfl rfl|exact ResO.cellB1 rfl rfl rfl|exact ResO.cellEA rfl rfl|exact ResO.cellE1 rfl) (by first|exact ResO.tmp rfl|exact ResO.cellBA rfl rfl rfl|exact ResO.cellB1 rfl rfl rfl|exact ResO.cellEA rfl rfl|exact ResO.cellE1 rfl) ?_ ?_ ?_)
    | refine Le.bool ?_
    | refine Le.int ?_
    | refine Le.str ?_
  · rename_i h
    have h1 : ¬ s ∈ preds:=fun e=>h (preds_sub s e)
    have h2 : ¬ s ∈ twos:=fun e=>h (twos_sub s e)
    have h3 : ¬ s ∈ ones:=fun e=>h (ones_sub s e)
    have h4 : ¬ s = [115,117,98]:=fun e=>h (e ▸ sub_not.2.2.2)
    simp [knownI,h1,h2,h3,h4]
  · rename_i h
    exact dP_F fun e=>h (preds_sub s e)
  · rename_i h
    refine dP_F fun e=>?_
    rcases e with e|e|e|e
    · exact h (preds_sub s e)
    · exact h (twos_sub s e)
    · exact h (ones_sub s e)
    · exact h (e ▸ sub_not.2.2.2)
  · rename_i h h3
    have h3' : s ∈ ones:=h3
    obtain ⟨h1,h2⟩:=ones_not s h3'
    simp [knownI,h1,h2,h3']
  · rename_i h h3
    exact dP_F (ones_not s h3).1
  · rename_i h h3
    exact dP_T (.inr (.inr (.inl h3)))
  · rename_i h h3 h4
    subst h4
    simp [knownI,sub_not.1,sub_not.2.1,sub_not.2.2.1]
  · rename_i h h3 h4
    subst h4
    exact dP_F sub_not.1
  · rename_i h h3 h4
    exact dP_T (.inr (.inr (.inr h4)))
  · rename_i h h3 h4
    have hk:=names_sub s h
    have h3' : ¬ s ∈ ones:=h3
    have h12 : s ∈ preds ∨ s ∈ twos:=by
      rcases hk with e|e|e|e
      · exact .inl e
      · exact .inr e
      · exact absurd e h3'
      · exact absurd e h4
    simp [knownI,h12]
  · rfl
  · rename_i h h3 h4
    exact dP_T (names_sub s h)
def MaxLenOK [GlobF Tryd.prog] : Prop:=∃ m : Int,GlobF.f Tryd.prog 0 0 = some (.int .i64 m)
abbrev tC (s : List UInt8) : List AV:=[str s]
theorem tsplit_pc [GlobF Tryd.prog] (hg : MaxLenOK) (s : List UInt8) (hs : s.length < 4294967281) : PC Tryd.prog 14 [str s,str [32]] (.sl none 1 ((splS s).map tC)):=by
  obtain ⟨m,hm⟩:=hg
  have he : ((splS s).map fun l=>Value.string ⟨l.toArray⟩) = (Lib.splitB ⟨[(32 : UInt8)].toArray⟩ 0 (Lib.countB ⟨s.toArray⟩ ⟨[(32 : UInt8)].toArray⟩) ⟨s.toArray⟩).map Value.string:=by
    rw [← lib_split,List.map_map]
    exact List.map_congr_left fun x _=>rfl
  have hl : ((splS s).map fun l=>Value.string ⟨l.toArray⟩).length = Lib.countB ⟨s.toArray⟩ ⟨[(32 : UInt8)].toArray⟩ + 1:=by
    rw [he,List.length_map]
    exact Lib.splitB_all _ (by decide) 0 _ _ rfl
  have:=PC.of_newSl (P:=Tryd.prog) (us:=[.string ⟨s.toArray⟩,.string ⟨[32].toArray⟩]) (cs:=(splS s).map fun l=>Value.string ⟨l.toArray⟩) (t:=Tryd.lays146_ren.t 9) (enters_of Tryd.func14 (by kernel_rfl) rfl) fun w hgl =>
    (Any.strings_Split Tryd.lays146 (by kernel_rfl) ⟨s.toArray⟩ ⟨[32].toArray⟩ m w hs (hgl _ 0 _ hm) (by decide)).mono fun e w' h=>by
      rw [hl,he];exact h
  rw [List.map_map] at this
  exact this
end Go.Proofs

namespace Go.AL
open Go.Proofs (Enters)
open Go.Sort (Holds putRow mapBlock putCells)
open Go.Proofs (encStr)
theorem putCells1 {α : Type} [Inhabited α] (enc : α → Value) (l : List α) (c sp : List Value) (hc : c.length = l.length) : putCells enc 0 l.toArray (c ++ sp).toArray = (l.map enc ++ sp).toArray:=by
  apply Array.ext_getElem?
  intro t
  simp only [putCells,Array.getElem?_mapIdx,List.getElem?_toArray,Nat.zero_le,true_and,Nat.zero_add,Nat.sub_zero]
  rcases Nat.lt_or_ge t l.length with h|h
  · have h1 : (c ++ sp)[t]? = some ((c ++ sp)[t]'(by simp;omega)):=List.getElem?_eq_getElem _
    rw [h1,Option.map_some,if_pos (by simpa using h),List.getElem?_append_left (by simpa using h),List.getElem?_map,List.getElem?_eq_getElem h,getElem!_pos _ t (by simpa using h)]
    simp
  · rw [List.getElem?_append_right (by omega),List.getElem?_append_right (by simpa using h),hc,List.length_map]
    cases hx : sp[t - l.length]? with
    | none=>rfl
    | some y=>rw [Option.map_some,if_neg (by simp;omega)]
theorem sortStr_ac {P : Program} [GlobF P] {ρ : Shelf.Ren} (L : Go.Proofs.SlLaysN.n54 P ρ) {h : List AObj} {r : Nat} {l : List (List UInt8)} {sp : List AV} (hr0 : h[r]? = some (.cells ((l.map fun s=>[str s]).flatten ++ sp))) (hne : 0 < l.length) (hl : l.length < 4611686018427387904) :
    AC P (ρ.f 54) [.mr r 0 l.length] h (fun v h'=>v = .tu [] ∧ h' = h.set r (.cells (((l.mergeSort fun x y=>decide (x ≤ y)).map fun s=>[str s]).flatten ++ sp))):=by
  refine ⟨L.f54.enters rfl,fun B G w vs hr hc=>?_⟩
  obtain ⟨v1,vs1,rfl,c1,hc1⟩:=hc.inv_cons
  have:=hc1.inv_nil
  subst this
  obtain ⟨b,o',cap,rfl,hb,hcap,ho⟩:=mr_inv c1
  have ho':=ho hne
  subst ho'
  obtain ⟨b',c,ty,g1,g2,g3,g4,g5⟩:=hr.obj r _ hr0
  rw [hb] at g1;cases g1
  have hblk : b < w.heap.size:=(Array.getElem?_eq_some_iff.1 g3).1
  have hfm : ∀ m : List (List UInt8),(m.map fun s=>[str s]).flatten = (m.map encStr).map AV.sc:=fun m=>by
    induction m with
    | nil=>rfl
    | cons a m ih=>simp only [List.map_cons,List.flatten_cons,ih];rfl
  have hlm : ((l.map encStr).map AV.sc).length = l.length:=by simp
  have hcn : c.take l.length = l.map encStr:=by
    have:=g4.take l.length
    rw [hfm,List.take_append_of_le_length (Nat.le_of_eq hlm.symm),List.take_of_length_le (Nat.le_of_eq hlm)] at this
    exact concSc this
  have hsp : ConcL G (c.drop l.length) sp:=by
    have:=g4.drop l.length
    rwa [hfm,List.drop_append_of_le_length (Nat.le_of_eq hlm.symm),List.drop_of_length_le (Nat.le_of_eq hlm),List.nil_append] at this
  have hcs : c = l.map encStr ++ c.drop l.length:=by rw [← hcn,List.take_append_drop]
  have hnl : l.length ≤ c.length:=by have:=congrArg List.length hcs;rw [List.length_append,List.length_map] at this;omega
  have hH : Holds encStr w b 0 l.toArray:=by
    intro j hj
    have hj' : j < l.length:=by simpa using hj
    have e2 : encStr l.toArray[j]! = c[j]'(by omega):=by
      rw [getElem!_pos _ j hj]
      have h1 : (c.take l.length)[j]'(by rw [List.length_take];omega) = (l.map encStr)[j]'(by simpa using hj'):=by simp only [hcn]
      rw [List.getElem_take,List.getElem_map] at h1
      rw [h1];rfl
    refine ⟨?_,?_⟩
    · rw [Nat.zero_add,e2]
      simp only [World.cell?,g3,Option.isSome_none,Bool.false_eq_true,if_false,id]
      simp [show j < c.length by omega]
    · simp [World.frozen?,g3]
  have hcon:=Go.Proofs.AnyG.slices_Sort_string L b 0 cap l w hH hblk hl
  refine hcon.mono ?_
  rintro e w' ⟨rfl,m,os,rfl⟩
  generalize hms : (l.mergeSort fun x y=>decide (x ≤ y)) = ms
  have hmsl : ms.length = l.length:=by rw [← hms];exact List.length_mergeSort _
  have hrow : (putRow encStr (Go.Sort.ahead w m) b 0 ms.toArray).heap[b]? = some (.cells (ms.map encStr ++ c.drop l.length).toArray ty (0,0)):=by
    simp only [putRow,mapBlock,Go.Sort.ahead,Array.getElem?_modify,g3,if_true,Option.map_some,Go.Sort.onCells]
    rw [hcs,putCells1 encStr ms _ _ (by rw [List.length_map,hmsl])]
    rw [← hcs]
  have hr1 : RH B G (h.set r (.cells ((ms.map fun s=>[str s]).flatten ++ sp))) (putRow encStr (Go.Sort.ahead w m) b 0 ms.toArray):=by
    refine hr.set (w':=putRow encStr (Go.Sort.ahead w m) b 0 ms.toArray) (b:=b) hr0 (by simp only [ownBlk];exact hb) g2 rfl rfl rfl (Nat.le_add_right _ _) (by simp [putRow,mapBlock,Go.Sort.ahead]) (fun b' hb'=>?_) (fun i v hi=>by rw [g5 i] at hi;cases hi) ?_ (fun c' hc'=>?_)
    · show (w.heap.modify b _)[b']? = _
      rw [Array.getElem?_modify,if_neg (Ne.symm hb')]
    · refine ⟨b,_,ty,hb,g2,hrow,?_,g5⟩
      rw [hfm]
      refine ConcL.append ⟨(List.length_map (f:=AV.sc)).symm,fun i v x hv hx=>?_⟩ hsp
      rw [List.getElem?_map,hv] at hx;simp at hx;subst hx;exact .sc _
    · simp only [ownBlk] at hc';rw [hb] at hc';exact (Option.some.inj hc').symm
  have hgr : Grown (putRow encStr (Go.Sort.ahead w m) b 0 ms.toArray) (Go.Sort.grow (putRow encStr (Go.Sort.ahead w m) b 0 ms.toArray) os):=⟨rfl,rfl,rfl,Nat.le_refl _,by simp [Go.Sort.grow],fun b' hb'=>by
    show ((putRow encStr (Go.Sort.ahead w m) b 0 ms.toArray).heap ++ os)[b']? = _
    rw [Array.getElem?_append_left hb']⟩
  obtain ⟨hle,hr2⟩:=hr1.grown (imm':=G.imm) hgr (fun _ _ _=>rfl) (fun b' o u hu=>by
    have h2:=hr1.imm b' o u hu
    unfold World.cell? at h2 ⊢
    rw [hgr.out b' (hr1.lt hu)];exact h2)
  exact ⟨_,G,_,.tu [],rfl,.refl G,hr2,.tu rfl (fun i v x hv=>by simp at hv),rfl,rfl⟩
end Go.AL

namespace Go.AL
section
variable {P : Program} [GlobF P] {fr : Option Nat} {N : Nat} {Q : Exit → AS → Prop} {ops : Array Oper} {rg : List (Nat × AV)} {h : List AObj} {mk : Mk}
theorem R.adoptCG {B : Base P} {G : Gh} {a : Act} {w : World} {r j k e : Nat} {xs : List AV} {tp : Option TypeId} (hR : R B N G ⟨rg,h,mk⟩ a w) (hr0 : h[r]? = some (.cells xs tp)) (hj : xs[j]? = some (.sc (.slice none 0 0))) :
    ∃ G',R B N G' ⟨rg,(h ++ [AObj.row k e []]).set r (.cells (xs.set j (rowA h.length 0)) tp),mk⟩ a w:=by
  have hr:=hR.heap
  obtain ⟨f1,f2⟩:=hr.fresh h.length (Nat.le_refl _)
  let G' : Gh:=⟨G.imm,G.blk,fun r j=>if r = h.length ∧ j = 0 then some (.slice none 0 0) else G.tl r j⟩
  have hle : G.le G':=⟨fun _ _ _ e=>e,fun _ _ e=>e,fun r j v e=>by
    show (if r = h.length ∧ j = 0 then _ else G.tl r j) = some v
    rw [if_neg fun h=>by obtain ⟨rfl,rfl⟩:=h;rw [f2] at e;cases e];exact e⟩
  have hh : RH B G' (h ++ [AObj.row k e []]) w:=by
    refine hr.allocObj _ hle rfl rfl rfl (Nat.le_refl _) (Nat.le_refl _) (fun _ _=>rfl) (fun _ _ _=>rfl) hr.imm (fun r hne=>⟨rfl,fun n=>if_neg fun h=>hne h.1⟩) ?_ (fun b hb=>?_)
    · exact ⟨fun j hj=>by show (if h.length = h.length ∧ j = 0 then _ else _) = none;rw [if_neg fun h=>by simp at hj;omega];exact f2 j,fun x hx=>by simp at hx,.inl ⟨rfl,if_pos ⟨rfl,rfl⟩⟩⟩
    · simp only [ownBlk,List.length_nil] at hb
      have e1 : G'.tl h.length 0 = some (.slice none 0 0):=if_pos ⟨rfl,rfl⟩
      rw [e1] at hb;cases hb
  have hlt : r < h.length:=(List.getElem?_eq_some_iff.1 hr0).1
  have hr1 : (h ++ [AObj.row k e []])[r]? = some (.cells xs tp):=by rw [List.getElem?_append_left hlt];exact hr0
  obtain ⟨b,c,ty,g1,g2,g3,g4,g5⟩:=hh.obj r _ hr1
  have hc : ConcL G' c (xs.set j (rowA h.length 0)):=⟨by simp [g4.1],fun i v x hv hx=>by
    by_cases e : j = i
    · subst e
      have hjl : j < xs.length:=(List.getElem?_eq_some_iff.1 hj).1
      rw [List.getElem?_set_self hjl] at hx
      cases hx
      have:=g4.2 j v _ hv hj
      rw [conc_sc this]
      exact .slnil fun t e=>by cases e;exact if_pos ⟨rfl,rfl⟩
    · rw [List.getElem?_set_ne e] at hx
      exact g4.2 i v x hv hx⟩
  have hh2:=hh.set (w':=w) (b:=b) (o':=.cells (xs.set j (rowA h.length 0)) tp) hr1 g1 g2 rfl rfl rfl (Nat.le_refl _) rfl (fun _ _=>rfl) (fun i v hv=>by rw [g5 i] at hv;cases hv) ⟨b,c,ty,g1,g2,g3,hc,g5⟩ (fun c hc=>by
    simp only [ownBlk] at hc;rw [g1] at hc;exact (Option.some.inj hc).symm)
  exact ⟨G',hR.step hle hh2⟩
theorem W_adoptCG {c : Code} (r j k e : Nat) {xs : List AV} {tp : Option TypeId} (hr0 : h[r]? = some (.cells xs tp)) (hj : xs[j]? = some (.sc (.slice none 0 0)))
    (hk : W P fr N c Q ⟨rg,(h ++ [AObj.row k e []]).set r (.cells (xs.set j (rowA h.length 0)) tp),mk⟩) : W P fr N c Q ⟨rg,h,mk⟩:=by
  intro B G a w hR
  obtain ⟨G',hR'⟩:=hR.adoptCG (k:=k) (e:=e) hr0 hj
  exact hk B G' a w hR'
end
end Go.AL
