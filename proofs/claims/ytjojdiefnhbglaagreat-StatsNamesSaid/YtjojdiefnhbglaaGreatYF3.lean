/- Contracts of the document's facts: folded, at an instant. -/
import Derived.Test.YtjojdiefnhbglaaGreatYF2
import Derived.Test.YtjojdiefnhbglaaGreatYS2
set_option linter.all false
namespace Go.Proofs
open Go.AL Go.Sort
attribute [local irreducible] Go.AL.W Go.AL.WL Go.AL.WD Go.AL.POp Go.AL.PPOp Go.AL.POpS Go.AL.PC Go.AL.AC Go.AL.YW Go.AL.Ret Go.AL.Le Go.AL.thn Go.AL.inBlk Go.AL.scp
instance (p : Prop) : BP (dP p) p (¬ p):=⟨fun h=>by rwa [dP_t] at h,fun h=>by rwa [dP_f] at h⟩
instance (s : List UInt8) : BP (wordB s) (WordP s) (¬ WordP s):=⟨fun h=>by unfold wordB at h;simpa using h,fun h=>by unfold wordB at h;simpa using h⟩
instance (v : Val) : BP (mayB v) (MayP v) (¬ MayP v):=⟨fun h=>by unfold mayB at h;rwa [dP_t] at h,fun h=>by unfold mayB at h;rwa [dP_f] at h⟩
instance : Xt Tryz.prog 252 Extern.BytealgCompare.compare:=⟨run_callFunc_extern Tryz.func252 (by kernel_rfl) (by kernel_rfl) (by kernel_rfl) (by kernel_rfl)⟩
instance : Inhabited Sp:=⟨⟨0,0⟩⟩
noncomputable instance : DecidableEq Val:=fun _ _=>Classical.propDecidable _
instance : Inhabited Dat:=⟨dat0⟩
instance : Inhabited Val:=⟨val0⟩
instance : Inhabited Dat:=⟨dat0⟩
noncomputable instance : DecidableEq Dat:=fun _ _=>Classical.propDecidable _
noncomputable instance : DecidableEq Val:=fun _ _=>Classical.propDecidable _
instance : Inhabited Val:=⟨val0⟩
instance : Inhabited Dat:=⟨dat0⟩
noncomputable instance : DecidableEq Dat:=fun _ _=>Classical.propDecidable _
end Go.Proofs

namespace Go.Proofs
open Go.AL Go.Sort
attribute [local irreducible] Go.AL.W Go.AL.WL Go.AL.WD Go.AL.POp Go.AL.PPOp Go.AL.POpS Go.AL.PC Go.AL.AC Go.AL.YW Go.AL.Ret Go.AL.Le Go.AL.thn Go.AL.inBlk Go.AL.scp
def ofA (x : Int) (d : Dat) : Bool:=decide (d.a = x)
def ofF (x : Int) (f : Fac) : Bool:=decide (f.a = x)
noncomputable def attR (D : List Dat) (F : List Fac) (x : Int) : Att:=⟨x,(D.filter (ofA x)).length,addN (D.filter (ofA x)),(insL cmpI ((D.filter (ofA x)).map Dat.e)).length,(valS (D.filter (ofA x))).length,(F.filter (ofF x)).length,(valS (D.filter (ofA x))).headD val0,(valS (D.filter (ofA x))).getLastD val0⟩
noncomputable def attsR (D : List Dat) (F : List Fac) : List Att:=(insL cmpI (D.map Dat.a)).map (attR D F)
theorem insI_congr {l m : List Int} (h : ∀ x,x ∈ l ↔ x ∈ m) : insL cmpI l = insL cmpI m :=
  rise_eq wcI ((insI_rise l).imp fun h=>ltI.2 h) ((insI_rise m).imp fun h=>ltI.2 h) fun x=>by rw [insI_mem,insI_mem,h]
theorem valS_congr {l m : List Dat} (h : ∀ d,d ∈ l ↔ d ∈ m) : valS l = valS m :=
  rise_eq wc_cmpV (sortC_rise wc_cmpV cmpV_zz _) (sortC_rise wc_cmpV cmpV_zz _) fun v=>by
    unfold valS;rw [sortC_mem,sortC_mem,List.mem_map,List.mem_map]
    exact ⟨fun ⟨d,hd,e⟩=>⟨d,(h d).1 hd,e⟩,fun ⟨d,hd,e⟩=>⟨d,(h d).2 hd,e⟩⟩
theorem grpA_all (f : List Dat → Att) : ∀ (n : Nat) (L : List Dat),L.length ≤ n → L.Pairwise (fun a b=>a.a ≤ b.a) → (grpL grA L).map f = (insL cmpI (L.map Dat.a)).map (fun x=>f (L.filter (ofA x)))
  | _,[],_,_=>by rw [grpL_nil];rfl
  | 0,_ :: _,h,_=>by simp at h
  | n + 1,d :: l,h,hs=>by
    obtain ⟨s1,s2⟩:=List.pairwise_cons.1 hs
    have htst : ∀ x : Dat,tst grA d x = ofA d.a x:=fun x=>by unfold tst grA ofA;congr
    have hdw : ∀ y,y ∈ l.dropWhile (ofA d.a) → d.a < y.a:=fun y hy=>by
      have key : ∀ (m : List Dat),m.Pairwise (fun a b=>a.a ≤ b.a) → (∀ y,y ∈ m → d.a ≤ y.a) → ∀ y,y ∈ m.dropWhile (ofA d.a) → d.a < y.a:=by
        intro m
        induction m with
        | nil=>intro _ _ y hy;cases hy
        | cons z m ih =>
          intro hp hle y hy
          rw [List.dropWhile_cons] at hy
          split at hy
          · exact ih (List.pairwise_cons.1 hp).2 (fun y hy=>hle y (.tail _ hy)) y hy
          · rename_i hz
            have hz1 : z.a ≠ d.a:=fun e=>hz (by unfold ofA;exact decide_eq_true e)
            have hz2:=hle z (.head _)
            rcases List.mem_cons.1 hy with rfl|hy
            · omega
            · have:=(List.pairwise_cons.1 hp).1 y hy;omega
      exact key l s2 s1 y hy
    have htw : ∀ y,y ∈ l.takeWhile (ofA d.a) → y.a = d.a:=fun y hy=>by
      have:=mem_tw l hy
      unfold ofA at this;exact of_decide_eq_true this
    have hspl : l.takeWhile (ofA d.a) ++ l.dropWhile (ofA d.a) = l:=List.takeWhile_append_dropWhile
    have hf0 : (d :: l).filter (ofA d.a) = d :: l.takeWhile (ofA d.a):=by
      rw [List.filter_cons,if_pos (by unfold ofA;exact decide_eq_true rfl)]
      congr 1
      conv=>lhs;rw [← hspl]
      rw [List.filter_append,List.filter_eq_self.2 fun y hy=>(by unfold ofA;exact decide_eq_true (htw y hy)),List.filter_eq_nil_iff.2 fun y hy=>(by unfold ofA;have:=hdw y hy;simp;omega),List.append_nil]
    have hkey : insL cmpI ((d :: l).map Dat.a) = d.a :: insL cmpI ((l.dropWhile (ofA d.a)).map Dat.a):=by
      refine rise_eq wcI ((insI_rise _).imp fun h=>ltI.2 h) (List.pairwise_cons.2 ⟨fun x hx=>?_,(insI_rise _).imp fun h=>ltI.2 h⟩) fun x=>?_
      · rw [insI_mem] at hx
        obtain ⟨y,hy,rfl⟩:=List.mem_map.1 hx
        exact ltI.2 (hdw y hy)
      · rw [insI_mem,List.mem_cons,insI_mem,List.map_cons,List.mem_cons]
        constructor
        · rintro (hx|hx)
          · exact .inl hx
          · obtain ⟨y,hy,rfl⟩:=List.mem_map.1 hx
            rw [← hspl] at hy
            rcases List.mem_append.1 hy with hy|hy
            · exact .inl (htw y hy)
            · exact .inr (List.mem_map.2 ⟨y,hy,rfl⟩)
        · rintro (hx|hx)
          · exact .inl hx
          · obtain ⟨y,hy,rfl⟩:=List.mem_map.1 hx
            exact .inr (List.mem_map.2 ⟨y,by rw [← hspl];exact List.mem_append_right _ hy,rfl⟩)
    have hfr : ∀ x,x ∈ insL cmpI ((l.dropWhile (ofA d.a)).map Dat.a) → (d :: l).filter (ofA x) = (l.dropWhile (ofA d.a)).filter (ofA x):=fun x hx=>by
      rw [insI_mem] at hx
      obtain ⟨y,hy,rfl⟩:=List.mem_map.1 hx
      have hlt:=hdw y hy
      rw [List.filter_cons,if_neg (by unfold ofA;simp;omega)]
      conv=>lhs;rw [← hspl]
      rw [List.filter_append,List.filter_eq_nil_iff.2 fun z hz=>(by have:=htw z hz;unfold ofA;simp;omega),List.nil_append]
    have hlen : (l.dropWhile (ofA d.a)).length ≤ n:=by
      have:=congrArg List.length hspl
      rw [List.length_append] at this
      simp only [List.length_cons] at h
      omega
    have hps : (l.dropWhile (ofA d.a)).Pairwise (fun a b=>a.a ≤ b.a):=by
      have : l.Pairwise (fun a b=>a.a ≤ b.a):=s2
      rw [← hspl] at this
      exact (List.pairwise_append.1 this).2.1
    have e1 : l.takeWhile (tst grA d) = l.takeWhile (ofA d.a):=by congr 1;funext x;exact htst x
    have e2 : l.dropWhile (tst grA d) = l.dropWhile (ofA d.a):=by congr 1;funext x;exact htst x
    rw [grpL_cons,List.map_cons,e1,e2,hkey,List.map_cons,hf0,grpA_all f n _ hlen hps]
    congr 1
    exact List.map_congr_left fun x hx=>by rw [hfr x hx]
end Go.Proofs
