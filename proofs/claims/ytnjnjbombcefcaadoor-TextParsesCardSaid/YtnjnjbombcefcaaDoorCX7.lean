/- Contracts of the document's reader of texts: one node. -/
import Derived.Test.YtnjnjbombcefcaaDoorCX6
set_option linter.all false
namespace Go.Proofs.Rd
open Go.AL Go.Txt
attribute [local irreducible] Go.AL.W Go.AL.WL Go.AL.WD Go.AL.POp Go.AL.PPOp Go.AL.POpS Go.AL.PC Go.AL.AC Go.AL.YW Go.AL.Ret Go.AL.Le Go.AL.thn Go.AL.inBlk Go.AL.scp
theorem nodk7 {a b c d e f g : AV} : Wkn (.ag [a,b,c,d,e,.sc (.slice none 0 0),f,g]) (.ag [a,b,c,d,e,.sl none 8 [],f,g]) :=
  Wkn.ag ⟨Wkn.refl _,Wkn.refl _,Wkn.refl _,Wkn.refl _,Wkn.refl _,Wkn.nil,Wkn.refl _,Wkn.refl _,trivial⟩
theorem Keep.app {p : Nat} {h h' : List AObj} (a : Keep p h h') (o : AObj) : Keep p h (h' ++ [o]):=⟨by rw [List.length_append];exact Nat.le_trans a.len (Nat.le_add_right _ _),fun i hi hp=>(List.getElem?_append_left (Nat.lt_of_lt_of_le hi a.len)).trans (a.fr i hi hp)⟩
theorem Keep.set {p : Nat} {h h' : List AObj} (a : Keep p h h') {j : Nat} (hj : j = p ∨ h.length ≤ j) (o : AObj) : Keep p h (h'.set j o):=⟨by rw [List.length_set];exact a.len,fun i hi hp=>(List.getElem?_set_ne (by omega)).trans (a.fr i hi hp)⟩
theorem D_slw {P : Program} [GlobF P] {ty : TypeId} {pos : String} {af : Array Edge} {dst : Option Nat} {gd : Option (Nat × Bool)} {ρ : Operand → Option AV} {t : TypeId} {x y z : Operand} {k k' : IntKind} {l : List UInt8} {i n : Nat} [hu : Und P t .string] (hx : ρ x = some (str l)) (hy : ρ y = some (.sc (.int k (i : Nat)))) (hz : ρ z = some (.sc (.int k' ((i + n : Nat) : Int)))) (h2 : i + n ≤ l.length) :
    PPOp P { dst:=dst,op:=.slice t x (some y) (some z) none,type:=ty,pos:=pos,after:=af,guard:=gd } ρ (str ((l.drop i).take n)):=by
  have h:=D_slS (P:=P) (t:=t) (dst:=dst) (ty:=ty) (pos:=pos) (af:=af) (gd:=gd) hx hy hz (by omega) (by omega) (by omega)
  rw [Int.toNat_natCast,Int.toNat_natCast,List.drop_take,Nat.add_sub_cancel_left] at h
  exact h
theorem retC {P : Program} [GlobF P] {fn : Func} {K : AV → List AObj → Prop} {rg : List (Nat × AV)} {H : List AObj} {q a t n m : Nat} {cs : List AV} {tp : Option TypeId} (hf : fn.results = #[.cell a t]) (ha : Agg P t true) (hs : Siz P t n) (hv : lookO rg a = some (.bp q 0)) (hl : q < H.length) (hn : Nat.beq n cs.length = true)
    (hk : K (.ag cs) (H.set q (.cells cs tp))) : Ret P fn K .ret ⟨rg,H.set q (.cells cs tp),⟨[],m⟩⟩:=by
  have e:=Nat.eq_of_beq_eq_true hn
  have hr : ResO P rg (H.set q (.cells cs tp)) (.cell a t) (.ag ((cs.drop 0).take n)):=ResO.cellBA hv (List.getElem?_set_self hl) (by rw [Nat.zero_add,Nat.ble_eq];omega)
  rw [List.drop_zero,e,List.take_length] at hr
  exact retK1 (.inl rfl) hf rfl hr hk
theorem opn_c {c : UInt8} (h : c ∈ opn) : (c = 40 ∧ opn.idxOf c = 0 ∧ cls.getD (opn.idxOf c) 0 = 41) ∨ (c = 91 ∧ opn.idxOf c = 1 ∧ cls.getD (opn.idxOf c) 0 = 93) ∨ (c = 123 ∧ opn.idxOf c = 2 ∧ cls.getD (opn.idxOf c) 0 = 125):=by
  simp only [opn,List.mem_cons,List.not_mem_nil,or_false] at h
  rcases h with rfl|rfl|rfl
  · exact .inl ⟨rfl,by decide,by decide⟩
  · exact .inr (.inl ⟨rfl,by decide,by decide⟩)
  · exact .inr (.inr ⟨rfl,by decide,by decide⟩)
set_option maxHeartbeats 16000000 in
theorem node_ac [GlobF Tryd.prog] (s : List UInt8) (hs : s.length < 268435456) (p F : Nat) (hnd : NodesOK s p F) : NodeOK s p F:=by
  intro i d m h hi hcl hF hd hm hp
  have hpl:=(List.getElem?_eq_some_iff.1 hp).1
  have hpc:=place_pc s i (by omega) (by omega)
  obtain ⟨hb1,hb2⟩:=place_le s i
  have hmany : IntKind.i64.wrap ((m : Int) + 1) = ((m + 1 : Nat) : Int):=wsucc m (by omega)
  refine AC.of_body Tryd.func89 Tryd.ntmps89 rfl rfl rfl ?_
  repeat' first
 | (apply p1 (hd:=rfl);case hop=>first|(apply D_move;rfl)|(apply D_assign;rfl)|exact PPOp.wk (D_build rfl) nodk7|exact D_sc (D_int rfl rfl rfl) (congrArg (Value.int IntKind.i64) hmany)|exact D_fldB rfl|(apply D_nilB;rfl))
 | refine W_seq ?_
 | refine W_region ?_
 | refine WL_nil ?_
 | refine tn ?_
 | refine W_block ?_
 | (refine idLd ?_;first|refine p1L (D_loadB1 rfl (by (repeat first|assumption|exact get_last|(refine get_last2 ?_;focus (simp;done))|apply get_set|apply get_app|(apply get_ne;focus omega)|(apply get_ne;focus (simp only [List.length_set,List.length_append,List.length_cons,List.length_nil];omega)));done) (by rfl)) rfl ?_)
 | (refine idA ?_;refine m_alloc rfl ?_)
 | (refine idS ?_;first|refine pS (S_store rfl rfl rfl (by (repeat first|assumption|exact get_last|(refine get_last2 ?_;focus (simp;done))|apply get_set|apply get_app|(apply get_ne;focus omega)|(apply get_ne;focus (simp only [List.length_set,List.length_append,List.length_cons,List.length_nil];omega)));done) (by rfl) (by rfl) (by rfl)) ?_)
 | (refine idW ?_;refine W_draw0 rfl ?_)
 | (apply d1 (hd:=rfl);case hop=>first|(apply D_move;rfl)|(apply D_assign;rfl)|(apply D_pc hpc;rfl;exact .same rfl (.same rfl .nil))|(apply D_ext;rfl;rfl)|exact D_fldB rfl|(apply D_nilB;rfl))
 | (refine idDn ?_;first|refine dL _ (fun hp' hs=>D_loadB1 rfl (hs.trans (by (repeat first|assumption|exact get_last|(refine get_last2 ?_;focus (simp;done))|apply get_set|apply get_app|(apply get_ne;focus omega)|(apply get_ne;focus (simp only [List.length_set,List.length_append,List.length_cons,List.length_nil];omega)));done)) (by rfl)) rfl ?_)
 | (refine WD_nil (by first|decide +kernel|kernel_rfl|rfl) ?_)
  refine W_weak (s':=⟨[(0,.bp p 0),(1,.sc (.int .u8 s[i].toNat)),(4,.bp h.length 0),(7,.bp (h.length + 1) 0),(8,i64 0)],_,⟨[],_⟩⟩) ⟨⟨rfl,rfl,rfl,congrArg (fun n=>some (AV.bp n 0)) (by simp),rfl,trivial⟩,rfl,rfl⟩ ?_
  refine W_gen fun K hK=>?_
  have hKl : K.length = h.length + 2:=by rw [hK];simp
  have hKp : K[p]? = some (rdC s (i : Int) (d : Int) ((m + 1 : Nat) : Int) (-1)):=by rw [hK];exact (by (repeat first|assumption|exact get_last|(refine get_last2 ?_;focus (simp;done))|apply get_set|apply get_app|(apply get_ne;focus omega)|(apply get_ne;focus (simp only [List.length_set,List.length_append,List.length_cons,List.length_nil];omega)));done)
  have hK4 : K[h.length]? = some (.cells [i64 0,i64 0,i64 0,str [],str [],nilV,i64 0,i64 0]):=by rw [hK];exact (by (repeat first|assumption|exact get_last|(refine get_last2 ?_;focus (simp;done))|apply get_set|apply get_app|(apply get_ne;focus omega)|(apply get_ne;focus (simp only [List.length_set,List.length_append,List.length_cons,List.length_nil];omega)));done)
  have hK7 : K[h.length + 1]? = some (.cells [i64 0,i64 0,i64 0,str [],str [],.sl none 8 [],i64 ((place s i).1 : Int),i64 ((place s i).2 : Int)]):=by
    rw [hK]
    have e : h.length + 1 = (h ++ [AObj.cells [i64 0,i64 0,i64 0,str [],str [],nilV,i64 0,i64 0]]).length:=by simp
    rw [e];exact (by (repeat first|assumption|exact get_last|(refine get_last2 ?_;focus (simp;done))|apply get_set|apply get_app|(apply get_ne;focus omega)|(apply get_ne;focus (simp only [List.length_set,List.length_append,List.length_cons,List.length_nil];omega)));done)
  have hKK : Keep p h K:=by
    rw [hK]
    refine Keep.set (Keep.set (Keep.app (Keep.app (Keep.refl p h) _) _) (.inr (by simp)) _) (.inl rfl) _
  clear hK
  have hlp : h.length ≠ p:=by omega
  have hk1 : IntKind.i64.wrap ((0 : Int) + 1) = ((1 : Nat) : Int):=rfl
  have hk2 : IntKind.i64.wrap (((1 : Nat) : Int) + 1) = ((2 : Nat) : Int):=rfl
  have hk3 : IntKind.i64.wrap (((2 : Nat) : Int) + 1) = ((3 : Nat) : Int):=rfl
  by_cases hop : s[i] ∈ opn
  · have hR : rnode leafT s F s[i] i d m = if 50 ≤ d ∨ 5000 < m + 1 then .error i else match rnodes leafT s F (some (cls.getD (opn.idxOf s[i]) 0)) (i + 1) (d + 1) (m + 1) with
       | .error q=>.error q
       | .ok (ks,i2,m2)=>.ok (opnN s[i] (place s i).1 (place s i).2 ks,i2,m2):=by unfold rnode;rw [if_pos hop];rfl
    have hi1 : IntKind.i64.wrap ((i : Int) + 1) = ((i + 1 : Nat) : Int):=wsucc i (by omega)
    have hd1 : IntKind.i64.wrap ((d : Int) + 1) = ((d + 1 : Nat) : Int):=wsucc d (by omega)
    have hdm : IntKind.i64.wrap (((d + 1 : Nat) : Int) - 1) = (d : Int):=by rw [w64 _ (by omega) (by omega)];omega
    by_cases hbig : 50 ≤ d ∨ 5000 < m + 1
    · rw [if_pos hbig] at hR
      rw [hR]
      rcases opn_c hop with ⟨e,_,_⟩ | ⟨e,_,_⟩ | ⟨e,_,_⟩
      · have e1 : (s[i].toNat : Int) = 40:=by rw [e];rfl
        refine W_rounds 3 ?_
        repeat' first
 | refine cs rfl (fun hh=>absurd e1 hh) (fun _=>?_)
 | refine cs rfl (fun _=>?_) (fun hh=>absurd hh (by decide +kernel))
 | (apply p1 (hd:=rfl);case hop=>first|(apply D_move;rfl)|exact D_sc (D_int rfl rfl rfl) (congrArg (Value.int IntKind.i64) hk3)|(apply D_pickT;rfl;rfl)|(apply D_pickF;rfl;rfl)|(apply D_int;rfl;rfl;rfl)|(apply D_idxSn;rfl;rfl;(first|omega|(simp;done)))|exact D_fldB rfl|(apply D_nilB;rfl))
 | refine W_seq ?_
 | refine W_region ?_
 | (refine idC ?_;refine cs rfl (fun _=>?_) (fun _=>?_))
 | refine WL_nil ?_
 | (refine idG ?_;first|refine g0f rfl rfl rfl ?_|refine gr rfl rfl ?_|refine gs rfl rfl (fun _=>?_) (fun _=>?_))
 | refine tn ?_
 | refine tr ?_
 | refine br ?_
 | refine W_skip ?_
 | refine W_block ?_
 | refine W_ret ?_
 | (refine idLd ?_;first|refine p1L (D_loadB1 rfl (by (repeat first|assumption|exact get_last|(refine get_last2 ?_;focus (simp;done))|apply get_set|apply get_app|(apply get_ne;focus omega)|(apply get_ne;focus (simp only [List.length_set,List.length_append,List.length_cons,List.length_nil];omega)));done) (by rfl)) rfl ?_|refine p1L (D_loadBA rfl (by (repeat first|assumption|exact get_last|(refine get_last2 ?_;focus (simp;done))|apply get_set|apply get_app|(apply get_ne;focus omega)|(apply get_ne;focus (simp only [List.length_set,List.length_append,List.length_cons,List.length_nil];omega)));done) (by rfl)) rfl ?_)
 | (refine idS ?_;first|refine pS (S_store rfl rfl rfl (by (repeat first|assumption|exact get_last|(refine get_last2 ?_;focus (simp;done))|apply get_set|apply get_app|(apply get_ne;focus omega)|(apply get_ne;focus (simp only [List.length_set,List.length_append,List.length_cons,List.length_nil];omega)));done) (by rfl) (by rfl) (by rfl)) ?_)
        all_goals first
          | (exfalso;omega)
          | (exfalso;rename_i hh;exact Bool.noConfusion hh)
          | skip
        all_goals (apply retC;(focus rfl);(focus infer_instance);(focus infer_instance);(focus rfl);(focus (simp only [List.length_set];omega));(focus rfl);refine ⟨by repeat (first|exact hKK|refine Keep.set ?_ (by omega) _|refine Keep.app ?_ _),⟨.mk 0 0 0 [] [] [] (place s i).1 (place s i).2,Wkn.refl _⟩,(i : Int),(d : Int),((m + 1 : Nat) : Int),(by (repeat first|assumption|exact get_last|(refine get_last2 ?_;focus (simp;done))|apply get_set|apply get_app|(apply get_ne;focus omega)|(apply get_ne;focus (simp only [List.length_set,List.length_append,List.length_cons,List.length_nil];omega)));done)⟩)
      · have e1 : (s[i].toNat : Int) = 91:=by rw [e];rfl
        refine W_rounds 3 ?_
        repeat' first
 | refine cs rfl (fun _=>?_) (fun hh=>absurd (e1.symm.trans hh) (by decide))
 | refine cs rfl (fun hh=>absurd e1 hh) (fun _=>?_)
 | refine cs rfl (fun _=>?_) (fun hh=>absurd hh (by decide +kernel))
 | (apply p1 (hd:=rfl);case hop=>first|(apply D_move;rfl)|(apply D_assign;rfl)|exact D_sc (D_int rfl rfl rfl) (congrArg (Value.int IntKind.i64) hk1)|(apply D_pickT;rfl;rfl)|(apply D_pickF;rfl;rfl)|(apply D_int;rfl;rfl;rfl)|(apply D_idxSn;rfl;rfl;(first|omega|(simp;done)))|exact D_fldB rfl|(apply D_nilB;rfl))
 | refine W_seq ?_
 | refine W_region ?_
 | (refine idC ?_;refine cs rfl (fun _=>?_) (fun _=>?_))
 | refine WL_nil ?_
 | (refine idG ?_;first|refine g0f rfl rfl rfl ?_|refine gr rfl rfl ?_|refine gs rfl rfl (fun _=>?_) (fun _=>?_))
 | refine tn ?_
 | refine tr ?_
 | refine br ?_
 | refine te ?_
 | (refine idB ?_;refine bh rfl ?_)
 | refine W_skip ?_
 | refine W_block ?_
 | refine W_exit ?_
 | refine W_ret ?_
 | (refine idLd ?_;first|refine p1L (D_loadB1 rfl (by (repeat first|assumption|exact get_last|(refine get_last2 ?_;focus (simp;done))|apply get_set|apply get_app|(apply get_ne;focus omega)|(apply get_ne;focus (simp only [List.length_set,List.length_append,List.length_cons,List.length_nil];omega)));done) (by rfl)) rfl ?_|refine p1L (D_loadBA rfl (by (repeat first|assumption|exact get_last|(refine get_last2 ?_;focus (simp;done))|apply get_set|apply get_app|(apply get_ne;focus omega)|(apply get_ne;focus (simp only [List.length_set,List.length_append,List.length_cons,List.length_nil];omega)));done) (by rfl)) rfl ?_)
 | (refine idS ?_;first|refine pS (S_store rfl rfl rfl (by (repeat first|assumption|exact get_last|(refine get_last2 ?_;focus (simp;done))|apply get_set|apply get_app|(apply get_ne;focus omega)|(apply get_ne;focus (simp only [List.length_set,List.length_append,List.length_cons,List.length_nil];omega)));done) (by rfl) (by rfl) (by rfl)) ?_)
        all_goals first
          | (exfalso;omega)
          | (exfalso;rename_i hh;exact Bool.noConfusion hh)
          | skip
        all_goals (apply retC;(focus rfl);(focus infer_instance);(focus infer_instance);(focus rfl);(focus (simp only [List.length_set];omega));(focus rfl);refine ⟨by repeat (first|exact hKK|refine Keep.set ?_ (by omega) _|refine Keep.app ?_ _),⟨.mk 0 0 0 [] [] [] (place s i).1 (place s i).2,Wkn.refl _⟩,(i : Int),(d : Int),((m + 1 : Nat) : Int),(by (repeat first|assumption|exact get_last|(refine get_last2 ?_;focus (simp;done))|apply get_set|apply get_app|(apply get_ne;focus omega)|(apply get_ne;focus (simp only [List.length_set,List.length_append,List.length_cons,List.length_nil];omega)));done)⟩)
      · have e1 : (s[i].toNat : Int) = 123:=by rw [e];rfl
        refine W_rounds 3 ?_
        repeat' first
 | refine cs rfl (fun _=>?_) (fun hh=>absurd (e1.symm.trans hh) (by decide))
 | refine cs rfl (fun hh=>absurd e1 hh) (fun _=>?_)
 | refine cs rfl (fun _=>?_) (fun hh=>absurd hh (by decide +kernel))
 | (apply p1 (hd:=rfl);case hop=>first|(apply D_move;rfl)|(apply D_assign;rfl)|exact D_sc (D_int rfl rfl rfl) (congrArg (Value.int IntKind.i64) hk1)|exact D_sc (D_int rfl rfl rfl) (congrArg (Value.int IntKind.i64) hk2)|(apply D_pickT;rfl;rfl)|(apply D_pickF;rfl;rfl)|(apply D_int;rfl;rfl;rfl)|(apply D_idxSn;rfl;rfl;(first|omega|(simp;done)))|exact D_fldB rfl|(apply D_nilB;rfl))
 | refine W_seq ?_
 | refine W_region ?_
 | (refine idC ?_;refine cs rfl (fun _=>?_) (fun _=>?_))
 | refine WL_nil ?_
 | (refine idG ?_;first|refine g0f rfl rfl rfl ?_|refine gr rfl rfl ?_|refine gs rfl rfl (fun _=>?_) (fun _=>?_))
 | refine tn ?_
 | refine tr ?_
 | refine br ?_
 | refine te ?_
 | (refine idB ?_;refine bh rfl ?_)
 | refine W_skip ?_
 | refine W_block ?_
 | refine W_exit ?_
 | refine W_ret ?_
 | (refine idLd ?_;first|refine p1L (D_loadB1 rfl (by (repeat first|assumption|exact get_last|(refine get_last2 ?_;focus (simp;done))|apply get_set|apply get_app|(apply get_ne;focus omega)|(apply get_ne;focus (simp only [List.length_set,List.length_append,List.length_cons,List.length_nil];omega)));done) (by rfl)) rfl ?_|refine p1L (D_loadBA rfl (by (repeat first|assumption|exact get_last|(refine get_last2 ?_;focus (simp;done))|apply get_set|apply get_app|(apply get_ne;focus omega)|(apply get_ne;focus (simp only [List.length_set,List.length_append,List.length_cons,List.length_nil];omega)));done) (by rfl)) rfl ?_)
 | (refine idS ?_;first|refine pS (S_store rfl rfl rfl (by (repeat first|assumption|exact get_last|(refine get_last2 ?_;focus (simp;done))|apply get_set|apply get_app|(apply get_ne;focus omega)|(apply get_ne;focus (simp only [List.length_set,List.length_append,List.length_cons,List.length_nil];omega)));done) (by rfl) (by rfl) (by rfl)) ?_)
        all_goals first
          | (exfalso;omega)
          | (exfalso;rename_i hh;exact Bool.noConfusion hh)
          | skip
        all_goals (apply retC;(focus rfl);(focus infer_instance);(focus infer_instance);(focus rfl);(focus (simp only [List.length_set];omega));(focus rfl);refine ⟨by repeat (first|exact hKK|refine Keep.set ?_ (by omega) _|refine Keep.app ?_ _),⟨.mk 0 0 0 [] [] [] (place s i).1 (place s i).2,Wkn.refl _⟩,(i : Int),(d : Int),((m + 1 : Nat) : Int),(by (repeat first|assumption|exact get_last|(refine get_last2 ?_;focus (simp;done))|apply get_set|apply get_app|(apply get_ne;focus omega)|(apply get_ne;focus (simp only [List.length_set,List.length_append,List.length_cons,List.length_nil];omega)));done)⟩)
    · rw [if_neg hbig] at hR
      have hd50 : d < 50:=by omega
      rw [hR]
      rcases opn_c hop with ⟨e,e2,e3⟩ | ⟨e,e2,e3⟩ | ⟨e,e2,e3⟩
      · have e1 : (s[i].toNat : Int) = 40:=by rw [e];rfl
        have heo : eOf 41 = some 41:=by decide
        rw [e3,← heo]
        have hcall : ∀ H,H[p]? = some (rdC s ((i + 1 : Nat) : Int) ((d + 1 : Nat) : Int) ((m + 1 : Nat) : Int) (-1)) → AC Tryd.prog 42 [.bp p 0,.sc (.int .u8 (41 : UInt8).toNat)] H (NdsP s p (rnodes leafT s F (eOf 41) (i + 1) (d + 1) (m + 1)) (d + 1) H):=fun H hH=>hnd 41 (i + 1) (d + 1) (m + 1) H (.inr (by decide)) (by omega) (by omega) (by omega) (by omega) hH
        cases hRn : rnodes leafT s F (eOf 41) (i + 1) (d + 1) (m + 1) with
        | error q =>
          rw [hRn] at hcall
          refine W_rounds 3 ?_
          repeat' first
 | refine cs rfl (fun hh=>absurd e1 hh) (fun _=>?_)
 | refine cs rfl (fun _=>?_) (fun hh=>absurd hh (by decide +kernel))
 | (apply p1 (hd:=rfl);case hop=>first|(apply D_move;rfl)|exact D_sc (D_int rfl rfl rfl) (congrArg (Value.int IntKind.i64) hk3)|exact D_sc (D_int rfl rfl rfl) (congrArg (Value.int IntKind.i64) hi1)|exact D_sc (D_int rfl rfl rfl) (congrArg (Value.int IntKind.i64) hd1)|(apply D_pickT;rfl;rfl)|(apply D_pickF;rfl;rfl)|(apply D_int;rfl;rfl;rfl)|(apply D_idxSn;rfl;rfl;(first|omega|(simp;done)))|exact D_fldB rfl|(apply D_nilB;rfl))
 | refine W_seq ?_
 | refine W_region ?_
 | (refine idC ?_;refine cs rfl (fun _=>?_) (fun _=>?_))
 | refine WL_nil ?_
 | (refine idG ?_;first|refine g0f rfl rfl rfl ?_|refine gr rfl rfl ?_|refine gs rfl rfl (fun _=>?_) (fun _=>?_))
 | refine tn ?_
 | refine tr ?_
 | refine br ?_
 | refine W_skip ?_
 | refine W_block ?_
 | refine W_ret ?_
 | (refine idLd ?_;first|refine p1L (D_loadB1 rfl (by (repeat first|assumption|exact get_last|(refine get_last2 ?_;focus (simp;done))|apply get_set|apply get_app|(apply get_ne;focus omega)|(apply get_ne;focus (simp only [List.length_set,List.length_append,List.length_cons,List.length_nil];omega)));done) (by rfl)) rfl ?_|refine p1L (D_loadBA rfl (by (repeat first|assumption|exact get_last|(refine get_last2 ?_;focus (simp;done))|apply get_set|apply get_app|(apply get_ne;focus omega)|(apply get_ne;focus (simp only [List.length_set,List.length_append,List.length_cons,List.length_nil];omega)));done) (by rfl)) rfl ?_)
 | (refine idS ?_;first|refine pS (S_store rfl rfl rfl (by (repeat first|assumption|exact get_last|(refine get_last2 ?_;focus (simp;done))|apply get_set|apply get_app|(apply get_ne;focus omega)|(apply get_ne;focus (simp only [List.length_set,List.length_append,List.length_cons,List.length_nil];omega)));done) (by rfl) (by rfl) (by rfl)) ?_)
 | (refine m_call (d:=86) (hcall _ (by (repeat first|assumption|exact get_last|(refine get_last2 ?_;focus (simp;done))|apply get_set|apply get_app|(apply get_ne;focus omega)|(apply get_ne;focus (simp only [List.length_set,List.length_append,List.length_cons,List.length_nil];omega)));done)) rfl rfl rfl ?_;rintro v2 h2 ⟨hk2,⟨l,hw⟩,a',d',m',hp2⟩;refine WL_wkn 86 rfl hw ?_;have hl2 : h.length + 2 ≤ h2.length:=(by have hq:=hk2.len;simp only [List.length_set] at hq;omega);have g7:=Eq.trans (hk2.fr (h.length + 1) (by simp only [List.length_set];omega) (by omega)) (by (repeat first|assumption|exact get_last|(refine get_last2 ?_;focus (simp;done))|apply get_set|apply get_app|(apply get_ne;focus omega)|(apply get_ne;focus (simp only [List.length_set,List.length_append,List.length_cons,List.length_nil];omega)));done);have g4:=Eq.trans (hk2.fr h.length (by simp only [List.length_set];omega) (by omega)) (by (repeat first|assumption|exact get_last|(refine get_last2 ?_;focus (simp;done))|apply get_set|apply get_app|(apply get_ne;focus omega)|(apply get_ne;focus (simp only [List.length_set,List.length_append,List.length_cons,List.length_nil];omega)));done);have hKK2 : Keep p h h2:=Keep.trans (by repeat (first|exact hKK|refine Keep.set ?_ (by omega) _)) hk2)
          all_goals first
            | (exfalso;omega)
            | (exfalso;rename_i hh;exact Bool.noConfusion hh)
            | skip
          all_goals (apply retC;(focus rfl);(focus infer_instance);(focus infer_instance);(focus rfl);(focus (simp only [List.length_set];omega));(focus rfl);refine ⟨by repeat (first|exact hKK2|refine Keep.set ?_ (by omega) _|refine Keep.app ?_ _),⟨.mk 3 0 0 [] [] l (place s i).1 (place s i).2,Wkn.refl _⟩,a',_,m',(by (repeat first|assumption|exact get_last|(refine get_last2 ?_;focus (simp;done))|apply get_set|apply get_app|(apply get_ne;focus omega)|(apply get_ne;focus (simp only [List.length_set,List.length_append,List.length_cons,List.length_nil];omega)));done)⟩)
        | ok w =>
          obtain ⟨ks,i2,m2⟩:=w
          rw [hRn] at hcall
          refine W_rounds 3 ?_
          repeat' first
 | refine cs rfl (fun hh=>absurd e1 hh) (fun _=>?_)
 | refine cs rfl (fun _=>?_) (fun hh=>absurd hh (by decide +kernel))
 | (apply p1 (hd:=rfl);case hop=>first|(apply D_move;rfl)|exact D_sc (D_int rfl rfl rfl) (congrArg (Value.int IntKind.i64) hk3)|exact D_sc (D_int rfl rfl rfl) (congrArg (Value.int IntKind.i64) hi1)|exact D_sc (D_int rfl rfl rfl) (congrArg (Value.int IntKind.i64) hd1)|exact D_sc (D_int rfl rfl rfl) (congrArg (Value.int IntKind.i64) hdm)|(apply D_pickT;rfl;rfl)|(apply D_pickF;rfl;rfl)|(apply D_int;rfl;rfl;rfl)|(apply D_idxSn;rfl;rfl;(first|omega|(simp;done)))|exact D_fldB rfl|(apply D_nilB;rfl))
 | refine W_seq ?_
 | refine W_region ?_
 | (refine idC ?_;refine cs rfl (fun _=>?_) (fun _=>?_))
 | refine WL_nil ?_
 | (refine idG ?_;first|refine g0f rfl rfl rfl ?_|refine gr rfl rfl ?_|refine gs rfl rfl (fun _=>?_) (fun _=>?_))
 | refine tn ?_
 | refine tr ?_
 | refine br ?_
 | refine W_skip ?_
 | refine W_block ?_
 | refine W_ret ?_
 | (refine idLd ?_;first|refine p1L (D_loadB1 rfl (by (repeat first|assumption|exact get_last|(refine get_last2 ?_;focus (simp;done))|apply get_set|apply get_app|(apply get_ne;focus omega)|(apply get_ne;focus (simp only [List.length_set,List.length_append,List.length_cons,List.length_nil];omega)));done) (by rfl)) rfl ?_|refine p1L (D_loadBA rfl (by (repeat first|assumption|exact get_last|(refine get_last2 ?_;focus (simp;done))|apply get_set|apply get_app|(apply get_ne;focus omega)|(apply get_ne;focus (simp only [List.length_set,List.length_append,List.length_cons,List.length_nil];omega)));done) (by rfl)) rfl ?_)
 | (refine idS ?_;first|refine pS (S_store rfl rfl rfl (by (repeat first|assumption|exact get_last|(refine get_last2 ?_;focus (simp;done))|apply get_set|apply get_app|(apply get_ne;focus omega)|(apply get_ne;focus (simp only [List.length_set,List.length_append,List.length_cons,List.length_nil];omega)));done) (by rfl) (by rfl) (by rfl)) ?_)
 | (refine m_call (d:=86) (hcall _ (by (repeat first|assumption|exact get_last|(refine get_last2 ?_;focus (simp;done))|apply get_set|apply get_app|(apply get_ne;focus omega)|(apply get_ne;focus (simp only [List.length_set,List.length_append,List.length_cons,List.length_nil];omega)));done)) rfl rfl rfl ?_;rintro v2 h2 ⟨hk2,hw,hp2⟩;refine WL_wkn 86 rfl hw ?_;have hl2 : h.length + 2 ≤ h2.length:=(by have hq:=hk2.len;simp only [List.length_set] at hq;omega);have g7:=Eq.trans (hk2.fr (h.length + 1) (by simp only [List.length_set];omega) (by omega)) (by (repeat first|assumption|exact get_last|(refine get_last2 ?_;focus (simp;done))|apply get_set|apply get_app|(apply get_ne;focus omega)|(apply get_ne;focus (simp only [List.length_set,List.length_append,List.length_cons,List.length_nil];omega)));done);have g4:=Eq.trans (hk2.fr h.length (by simp only [List.length_set];omega) (by omega)) (by (repeat first|assumption|exact get_last|(refine get_last2 ?_;focus (simp;done))|apply get_set|apply get_app|(apply get_ne;focus omega)|(apply get_ne;focus (simp only [List.length_set,List.length_append,List.length_cons,List.length_nil];omega)));done);have hKK2 : Keep p h h2:=Keep.trans (by repeat (first|exact hKK|refine Keep.set ?_ (by omega) _)) hk2)
          all_goals first
            | (exfalso;omega)
            | (exfalso;rename_i hh;exact Bool.noConfusion hh)
            | skip
          all_goals (apply retC;(focus rfl);(focus infer_instance);(focus infer_instance);(focus rfl);(focus (simp only [List.length_set];omega));(focus rfl);refine ⟨by repeat (first|exact hKK2|refine Keep.set ?_ (by omega) _|refine Keep.app ?_ _),by rw [opnN,e2];exact Wkn.refl _,(by (repeat first|assumption|exact get_last|(refine get_last2 ?_;focus (simp;done))|apply get_set|apply get_app|(apply get_ne;focus omega)|(apply get_ne;focus (simp only [List.length_set,List.length_append,List.length_cons,List.length_nil];omega)));done)⟩)
      · have e1 : (s[i].toNat : Int) = 91:=by rw [e];rfl
        have heo : eOf 93 = some 93:=by decide
        rw [e3,← heo]
        have hcall : ∀ H,H[p]? = some (rdC s ((i + 1 : Nat) : Int) ((d + 1 : Nat) : Int) ((m + 1 : Nat) : Int) (-1)) → AC Tryd.prog 42 [.bp p 0,.sc (.int .u8 (93 : UInt8).toNat)] H (NdsP s p (rnodes leafT s F (eOf 93) (i + 1) (d + 1) (m + 1)) (d + 1) H):=fun H hH=>hnd 93 (i + 1) (d + 1) (m + 1) H (.inr (by decide)) (by omega) (by omega) (by omega) (by omega) hH
        cases hRn : rnodes leafT s F (eOf 93) (i + 1) (d + 1) (m + 1) with
        | error q =>
          rw [hRn] at hcall
          refine W_rounds 3 ?_
          repeat' first
 | refine cs rfl (fun _=>?_) (fun hh=>absurd (e1.symm.trans hh) (by decide))
 | refine cs rfl (fun hh=>absurd e1 hh) (fun _=>?_)
 | refine cs rfl (fun _=>?_) (fun hh=>absurd hh (by decide +kernel))
 | (apply p1 (hd:=rfl);case hop=>first|(apply D_move;rfl)|(apply D_assign;rfl)|exact D_sc (D_int rfl rfl rfl) (congrArg (Value.int IntKind.i64) hk1)|exact D_sc (D_int rfl rfl rfl) (congrArg (Value.int IntKind.i64) hi1)|exact D_sc (D_int rfl rfl rfl) (congrArg (Value.int IntKind.i64) hd1)|(apply D_pickT;rfl;rfl)|(apply D_pickF;rfl;rfl)|(apply D_int;rfl;rfl;rfl)|(apply D_idxSn;rfl;rfl;(first|omega|(simp;done)))|exact D_fldB rfl|(apply D_nilB;rfl))
 | refine W_seq ?_
 | refine W_region ?_
 | (refine idC ?_;refine cs rfl (fun _=>?_) (fun _=>?_))
 | refine WL_nil ?_
 | (refine idG ?_;first|refine g0f rfl rfl rfl ?_|refine gr rfl rfl ?_|refine gs rfl rfl (fun _=>?_) (fun _=>?_))
 | refine tn ?_
 | refine tr ?_
 | refine br ?_
 | refine te ?_
 | (refine idB ?_;refine bh rfl ?_)
 | refine W_skip ?_
 | refine W_block ?_
 | refine W_exit ?_
 | refine W_ret ?_
 | (refine idLd ?_;first|refine p1L (D_loadB1 rfl (by (repeat first|assumption|exact get_last|(refine get_last2 ?_;focus (simp;done))|apply get_set|apply get_app|(apply get_ne;focus omega)|(apply get_ne;focus (simp only [List.length_set,List.length_append,List.length_cons,List.length_nil];omega)));done) (by rfl)) rfl ?_|refine p1L (D_loadBA rfl (by (repeat first|assumption|exact get_last|(refine get_last2 ?_;focus (simp;done))|apply get_set|apply get_app|(apply get_ne;focus omega)|(apply get_ne;focus (simp only [List.length_set,List.length_append,List.length_cons,List.length_nil];omega)));done) (by rfl)) rfl ?_)
 | (refine idS ?_;first|refine pS (S_store rfl rfl rfl (by (repeat first|assumption|exact get_last|(refine get_last2 ?_;focus (simp;done))|apply get_set|apply get_app|(apply get_ne;focus omega)|(apply get_ne;focus (simp only [List.length_set,List.length_append,List.length_cons,List.length_nil];omega)));done) (by rfl) (by rfl) (by rfl)) ?_)
 | (refine m_call (d:=86) (hcall _ (by (repeat first|assumption|exact get_last|(refine get_last2 ?_;focus (simp;done))|apply get_set|apply get_app|(apply get_ne;focus omega)|(apply get_ne;focus (simp only [List.length_set,List.length_append,List.length_cons,List.length_nil];omega)));done)) rfl rfl rfl ?_;rintro v2 h2 ⟨hk2,⟨l,hw⟩,a',d',m',hp2⟩;refine WL_wkn 86 rfl hw ?_;have hl2 : h.length + 2 ≤ h2.length:=(by have hq:=hk2.len;simp only [List.length_set] at hq;omega);have g7:=Eq.trans (hk2.fr (h.length + 1) (by simp only [List.length_set];omega) (by omega)) (by (repeat first|assumption|exact get_last|(refine get_last2 ?_;focus (simp;done))|apply get_set|apply get_app|(apply get_ne;focus omega)|(apply get_ne;focus (simp only [List.length_set,List.length_append,List.length_cons,List.length_nil];omega)));done);have g4:=Eq.trans (hk2.fr h.length (by simp only [List.length_set];omega) (by omega)) (by (repeat first|assumption|exact get_last|(refine get_last2 ?_;focus (simp;done))|apply get_set|apply get_app|(apply get_ne;focus omega)|(apply get_ne;focus (simp only [List.length_set,List.length_append,List.length_cons,List.length_nil];omega)));done);have hKK2 : Keep p h h2:=Keep.trans (by repeat (first|exact hKK|refine Keep.set ?_ (by omega) _)) hk2)
          all_goals first
            | (exfalso;omega)
            | (exfalso;rename_i hh;exact Bool.noConfusion hh)
            | skip
          all_goals (apply retC;(focus rfl);(focus infer_instance);(focus infer_instance);(focus rfl);(focus (simp only [List.length_set];omega));(focus rfl);refine ⟨by repeat (first|exact hKK2|refine Keep.set ?_ (by omega) _|refine Keep.app ?_ _),⟨.mk 4 0 0 [] [] l (place s i).1 (place s i).2,Wkn.refl _⟩,a',_,m',(by (repeat first|assumption|exact get_last|(refine get_last2 ?_;focus (simp;done))|apply get_set|apply get_app|(apply get_ne;focus omega)|(apply get_ne;focus (simp only [List.length_set,List.length_append,List.length_cons,List.length_nil];omega)));done)⟩)
        | ok w =>
          obtain ⟨ks,i2,m2⟩:=w
          rw [hRn] at hcall
          refine W_rounds 3 ?_
          repeat' first
 | refine cs rfl (fun _=>?_) (fun hh=>absurd (e1.symm.trans hh) (by decide))
 | refine cs rfl (fun hh=>absurd e1 hh) (fun _=>?_)
 | refine cs rfl (fun _=>?_) (fun hh=>absurd hh (by decide +kernel))
 | (apply p1 (hd:=rfl);case hop=>first|(apply D_move;rfl)|(apply D_assign;rfl)|exact D_sc (D_int rfl rfl rfl) (congrArg (Value.int IntKind.i64) hk1)|exact D_sc (D_int rfl rfl rfl) (congrArg (Value.int IntKind.i64) hi1)|exact D_sc (D_int rfl rfl rfl) (congrArg (Value.int IntKind.i64) hd1)|exact D_sc (D_int rfl rfl rfl) (congrArg (Value.int IntKind.i64) hdm)|(apply D_pickT;rfl;rfl)|(apply D_pickF;rfl;rfl)|(apply D_int;rfl;rfl;rfl)|(apply D_idxSn;rfl;rfl;(first|omega|(simp;done)))|exact D_fldB rfl|(apply D_nilB;rfl))
 | refine W_seq ?_
 | refine W_region ?_
 | (refine idC ?_;refine cs rfl (fun _=>?_) (fun _=>?_))
 | refine WL_nil ?_
 | (refine idG ?_;first|refine g0f rfl rfl rfl ?_|refine gr rfl rfl ?_|refine gs rfl rfl (fun _=>?_) (fun _=>?_))
 | refine tn ?_
 | refine tr ?_
 | refine br ?_
 | refine te ?_
 | (refine idB ?_;refine bh rfl ?_)
 | refine W_skip ?_
 | refine W_block ?_
 | refine W_exit ?_
 | refine W_ret ?_
 | (refine idLd ?_;first|refine p1L (D_loadB1 rfl (by (repeat first|assumption|exact get_last|(refine get_last2 ?_;focus (simp;done))|apply get_set|apply get_app|(apply get_ne;focus omega)|(apply get_ne;focus (simp only [List.length_set,List.length_append,List.length_cons,List.length_nil];omega)));done) (by rfl)) rfl ?_|refine p1L (D_loadBA rfl (by (repeat first|assumption|exact get_last|(refine get_last2 ?_;focus (simp;done))|apply get_set|apply get_app|(apply get_ne;focus omega)|(apply get_ne;focus (simp only [List.length_set,List.length_append,List.length_cons,List.length_nil];omega)));done) (by rfl)) rfl ?_)
 | (refine idS ?_;first|refine pS (S_store rfl rfl rfl (by (repeat first|assumption|exact get_last|(refine get_last2 ?_;focus (simp;done))|apply get_set|apply get_app|(apply get_ne;focus omega)|(apply get_ne;focus (simp only [List.length_set,List.length_append,List.length_cons,List.length_nil];omega)));done) (by rfl) (by rfl) (by rfl)) ?_)
 | (refine m_call (d:=86) (hcall _ (by (repeat first|assumption|exact get_last|(refine get_last2 ?_;focus (simp;done))|apply get_set|apply get_app|(apply get_ne;focus omega)|(apply get_ne;focus (simp only [List.length_set,List.length_append,List.length_cons,List.length_nil];omega)));done)) rfl rfl rfl ?_;rintro v2 h2 ⟨hk2,hw,hp2⟩;refine WL_wkn 86 rfl hw ?_;have hl2 : h.length + 2 ≤ h2.length:=(by have hq:=hk2.len;simp only [List.length_set] at hq;omega);have g7:=Eq.trans (hk2.fr (h.length + 1) (by simp only [List.length_set];omega) (by omega)) (by (repeat first|assumption|exact get_last|(refine get_last2 ?_;focus (simp;done))|apply get_set|apply get_app|(apply get_ne;focus omega)|(apply get_ne;focus (simp only [List.length_set,List.length_append,List.length_cons,List.length_nil];omega)));done);have g4:=Eq.trans (hk2.fr h.length (by simp only [List.length_set];omega) (by omega)) (by (repeat first|assumption|exact get_last|(refine get_last2 ?_;focus (simp;done))|apply get_set|apply get_app|(apply get_ne;focus omega)|(apply get_ne;focus (simp only [List.length_set,List.length_append,List.length_cons,List.length_nil];omega)));done);have hKK2 : Keep p h h2:=Keep.trans (by repeat (first|exact hKK|refine Keep.set ?_ (by omega) _)) hk2)
          all_goals first
            | (exfalso;omega)
            | (exfalso;rename_i hh;exact Bool.noConfusion hh)
            | skip
          all_goals (apply retC;(focus rfl);(focus infer_instance);(focus infer_instance);(focus rfl);(focus (simp only [List.length_set];omega));(focus rfl);refine ⟨by repeat (first|exact hKK2|refine Keep.set ?_ (by omega) _|refine Keep.app ?_ _),by rw [opnN,e2];exact Wkn.refl _,(by (repeat first|assumption|exact get_last|(refine get_last2 ?_;focus (simp;done))|apply get_set|apply get_app|(apply get_ne;focus omega)|(apply get_ne;focus (simp only [List.length_set,List.length_append,List.length_cons,List.length_nil];omega)));done)⟩)
      · have e1 : (s[i].toNat : Int) = 123:=by rw [e];rfl
        have heo : eOf 125 = some 125:=by decide
        rw [e3,← heo]
        have hcall : ∀ H,H[p]? = some (rdC s ((i + 1 : Nat) : Int) ((d + 1 : Nat) : Int) ((m + 1 : Nat) : Int) (-1)) → AC Tryd.prog 42 [.bp p 0,.sc (.int .u8 (125 : UInt8).toNat)] H (NdsP s p (rnodes leafT s F (eOf 125) (i + 1) (d + 1) (m + 1)) (d + 1) H):=fun H hH=>hnd 125 (i + 1) (d + 1) (m + 1) H (.inr (by decide)) (by omega) (by omega) (by omega) (by omega) hH
        cases hRn : rnodes leafT s F (eOf 125) (i + 1) (d + 1) (m + 1) with
        | error q =>
          rw [hRn] at hcall
          refine W_rounds 3 ?_
          repeat' first
 | refine cs rfl (fun _=>?_) (fun hh=>absurd (e1.symm.trans hh) (by decide))
 | refine cs rfl (fun hh=>absurd e1 hh) (fun _=>?_)
 | refine cs rfl (fun _=>?_) (fun hh=>absurd hh (by decide +kernel))
 | (apply p1 (hd:=rfl);case hop=>first|(apply D_move;rfl)|(apply D_assign;rfl)|exact D_sc (D_int rfl rfl rfl) (congrArg (Value.int IntKind.i64) hk1)|exact D_sc (D_int rfl rfl rfl) (congrArg (Value.int IntKind.i64) hk2)|exact D_sc (D_int rfl rfl rfl) (congrArg (Value.int IntKind.i64) hi1)|exact D_sc (D_int rfl rfl rfl) (congrArg (Value.int IntKind.i64) hd1)|(apply D_pickT;rfl;rfl)|(apply D_pickF;rfl;rfl)|(apply D_int;rfl;rfl;rfl)|(apply D_idxSn;rfl;rfl;(first|omega|(simp;done)))|exact D_fldB rfl|(apply D_nilB;rfl))
 | refine W_seq ?_
 | refine W_region ?_
 | (refine idC ?_;refine cs rfl (fun _=>?_) (fun _=>?_))
 | refine WL_nil ?_
 | (refine idG ?_;first|refine g0f rfl rfl rfl ?_|refine gr rfl rfl ?_|refine gs rfl rfl (fun _=>?_) (fun _=>?_))
 | refine tn ?_
 | refine tr ?_
 | refine br ?_
 | refine te ?_
 | (refine idB ?_;refine bh rfl ?_)
 | refine W_skip ?_
 | refine W_block ?_
 | refine W_exit ?_
 | refine W_ret ?_
 | (refine idLd ?_;first|refine p1L (D_loadB1 rfl (by (repeat first|assumption|exact get_last|(refine get_last2 ?_;focus (simp;done))|apply get_set|apply get_app|(apply get_ne;focus omega)|(apply get_ne;focus (simp only [List.length_set,List.length_append,List.length_cons,List.length_nil];omega)));done) (by rfl)) rfl ?_|refine p1L (D_loadBA rfl (by (repeat first|assumption|exact get_last|(refine get_last2 ?_;focus (simp;done))|apply get_set|apply get_app|(apply get_ne;focus omega)|(apply get_ne;focus (simp only [List.length_set,List.length_append,List.length_cons,List.length_nil];omega)));done) (by rfl)) rfl ?_)
 | (refine idS ?_;first|refine pS (S_store rfl rfl rfl (by (repeat first|assumption|exact get_last|(refine get_last2 ?_;focus (simp;done))|apply get_set|apply get_app|(apply get_ne;focus omega)|(apply get_ne;focus (simp only [List.length_set,List.length_append,List.length_cons,List.length_nil];omega)));done) (by rfl) (by rfl) (by rfl)) ?_)
 | (refine m_call (d:=86) (hcall _ (by (repeat first|assumption|exact get_last|(refine get_last2 ?_;focus (simp;done))|apply get_set|apply get_app|(apply get_ne;focus omega)|(apply get_ne;focus (simp only [List.length_set,List.length_append,List.length_cons,List.length_nil];omega)));done)) rfl rfl rfl ?_;rintro v2 h2 ⟨hk2,⟨l,hw⟩,a',d',m',hp2⟩;refine WL_wkn 86 rfl hw ?_;have hl2 : h.length + 2 ≤ h2.length:=(by have hq:=hk2.len;simp only [List.length_set] at hq;omega);have g7:=Eq.trans (hk2.fr (h.length + 1) (by simp only [List.length_set];omega) (by omega)) (by (repeat first|assumption|exact get_last|(refine get_last2 ?_;focus (simp;done))|apply get_set|apply get_app|(apply get_ne;focus omega)|(apply get_ne;focus (simp only [List.length_set,List.length_append,List.length_cons,List.length_nil];omega)));done);have g4:=Eq.trans (hk2.fr h.length (by simp only [List.length_set];omega) (by omega)) (by (repeat first|assumption|exact get_last|(refine get_last2 ?_;focus (simp;done))|apply get_set|apply get_app|(apply get_ne;focus omega)|(apply get_ne;focus (simp only [List.length_set,List.length_append,List.length_cons,List.length_nil];omega)));done);have hKK2 : Keep p h h2:=Keep.trans (by repeat (first|exact hKK|refine Keep.set ?_ (by omega) _)) hk2)
          all_goals first
            | (exfalso;omega)
            | (exfalso;rename_i hh;exact Bool.noConfusion hh)
            | skip
          all_goals (apply retC;(focus rfl);(focus infer_instance);(focus infer_instance);(focus rfl);(focus (simp only [List.length_set];omega));(focus rfl);refine ⟨by repeat (first|exact hKK2|refine Keep.set ?_ (by omega) _|refine Keep.app ?_ _),⟨.mk 5 0 0 [] [] l (place s i).1 (place s i).2,Wkn.refl _⟩,a',_,m',(by (repeat first|assumption|exact get_last|(refine get_last2 ?_;focus (simp;done))|apply get_set|apply get_app|(apply get_ne;focus omega)|(apply get_ne;focus (simp only [List.length_set,List.length_append,List.length_cons,List.length_nil];omega)));done)⟩)
        | ok w =>
          obtain ⟨ks,i2,m2⟩:=w
          rw [hRn] at hcall
          refine W_rounds 3 ?_
          repeat' first
 | refine cs rfl (fun _=>?_) (fun hh=>absurd (e1.symm.trans hh) (by decide))
 | refine cs rfl (fun hh=>absurd e1 hh) (fun _=>?_)
 | refine cs rfl (fun _=>?_) (fun hh=>absurd hh (by decide +kernel))
 | (apply p1 (hd:=rfl);case hop=>first|(apply D_move;rfl)|(apply D_assign;rfl)|exact D_sc (D_int rfl rfl rfl) (congrArg (Value.int IntKind.i64) hk1)|exact D_sc (D_int rfl rfl rfl) (congrArg (Value.int IntKind.i64) hk2)|exact D_sc (D_int rfl rfl rfl) (congrArg (Value.int IntKind.i64) hi1)|exact D_sc (D_int rfl rfl rfl) (congrArg (Value.int IntKind.i64) hd1)|exact D_sc (D_int rfl rfl rfl) (congrArg (Value.int IntKind.i64) hdm)|(apply D_pickT;rfl;rfl)|(apply D_pickF;rfl;rfl)|(apply D_int;rfl;rfl;rfl)|(apply D_idxSn;rfl;rfl;(first|omega|(simp;done)))|exact D_fldB rfl|(apply D_nilB;rfl))
 | refine W_seq ?_
 | refine W_region ?_
 | (refine idC ?_;refine cs rfl (fun _=>?_) (fun _=>?_))
 | refine WL_nil ?_
 | (refine idG ?_;first|refine g0f rfl rfl rfl ?_|refine gr rfl rfl ?_|refine gs rfl rfl (fun _=>?_) (fun _=>?_))
 | refine tn ?_
 | refine tr ?_
 | refine br ?_
 | refine te ?_
 | (refine idB ?_;refine bh rfl ?_)
 | refine W_skip ?_
 | refine W_block ?_
 | refine W_exit ?_
 | refine W_ret ?_
 | (refine idLd ?_;first|refine p1L (D_loadB1 rfl (by (repeat first|assumption|exact get_last|(refine get_last2 ?_;focus (simp;done))|apply get_set|apply get_app|(apply get_ne;focus omega)|(apply get_ne;focus (simp only [List.length_set,List.length_append,List.length_cons,List.length_nil];omega)));done) (by rfl)) rfl ?_|refine p1L (D_loadBA rfl (by (repeat first|assumption|exact get_last|(refine get_last2 ?_;focus (simp;done))|apply get_set|apply get_app|(apply get_ne;focus omega)|(apply get_ne;focus (simp only [List.length_set,List.length_append,List.length_cons,List.length_nil];omega)));done) (by rfl)) rfl ?_)
 | (refine idS ?_;first|refine pS (S_store rfl rfl rfl (by (repeat first|assumption|exact get_last|(refine get_last2 ?_;focus (simp;done))|apply get_set|apply get_app|(apply get_ne;focus omega)|(apply get_ne;focus (simp only [List.length_set,List.length_append,List.length_cons,List.length_nil];omega)));done) (by rfl) (by rfl) (by rfl)) ?_)
 | (refine m_call (d:=86) (hcall _ (by (repeat first|assumption|exact get_last|(refine get_last2 ?_;focus (simp;done))|apply get_set|apply get_app|(apply get_ne;focus omega)|(apply get_ne;focus (simp only [List.length_set,List.length_append,List.length_cons,List.length_nil];omega)));done)) rfl rfl rfl ?_;rintro v2 h2 ⟨hk2,hw,hp2⟩;refine WL_wkn 86 rfl hw ?_;have hl2 : h.length + 2 ≤ h2.length:=(by have hq:=hk2.len;simp only [List.length_set] at hq;omega);have g7:=Eq.trans (hk2.fr (h.length + 1) (by simp only [List.length_set];omega) (by omega)) (by (repeat first|assumption|exact get_last|(refine get_last2 ?_;focus (simp;done))|apply get_set|apply get_app|(apply get_ne;focus omega)|(apply get_ne;focus (simp only [List.length_set,List.length_append,List.length_cons,List.length_nil];omega)));done);have g4:=Eq.trans (hk2.fr h.length (by simp only [List.length_set];omega) (by omega)) (by (repeat first|assumption|exact get_last|(refine get_last2 ?_;focus (simp;done))|apply get_set|apply get_app|(apply get_ne;focus omega)|(apply get_ne;focus (simp only [List.length_set,List.length_append,List.length_cons,List.length_nil];omega)));done);have hKK2 : Keep p h h2:=Keep.trans (by repeat (first|exact hKK|refine Keep.set ?_ (by omega) _)) hk2)
          all_goals first
            | (exfalso;omega)
            | (exfalso;rename_i hh;exact Bool.noConfusion hh)
            | skip
          all_goals (apply retC;(focus rfl);(focus infer_instance);(focus infer_instance);(focus rfl);(focus (simp only [List.length_set];omega));(focus rfl);refine ⟨by repeat (first|exact hKK2|refine Keep.set ?_ (by omega) _|refine Keep.app ?_ _),by rw [opnN,e2];exact Wkn.refl _,(by (repeat first|assumption|exact get_last|(refine get_last2 ?_;focus (simp;done))|apply get_set|apply get_app|(apply get_ne;focus omega)|(apply get_ne;focus (simp only [List.length_set,List.length_append,List.length_cons,List.length_nil];omega)));done)⟩)
  · have hR : rnode leafT s F s[i] i d m = rleaf leafT s i m:=by unfold rnode;rw [if_neg hop]
    have n40 : ¬ (s[i].toNat : Int) = 40:=fun e=>hop (by rw [show s[i] = 40 from u8e.1 e];decide)
    have n91 : ¬ (s[i].toNat : Int) = 91:=fun e=>hop (by rw [show s[i] = 91 from u8e.1 e];decide)
    have n123 : ¬ (s[i].toNat : Int) = 123:=fun e=>hop (by rw [show s[i] = 123 from u8e.1 e];decide)
    have hword:=word_ac s (by omega) p i d ((m + 1 : Nat) : Int) (-1) hi hKp
    unfold rwI at hword
    unfold rleaf at hR
    cases hz : rsz (s.drop i) with
    | none =>
      rw [hz] at hword hR
      simp only at hword hR
      rw [hR]
      refine W_rounds 4 ?_
      repeat' first
 | refine cs rfl (fun _=>?_) (fun hh=>absurd hh n40)
 | refine cs rfl (fun _=>?_) (fun hh=>absurd hh n91)
 | refine cs rfl (fun _=>?_) (fun hh=>absurd hh n123)
 | refine cs rfl (fun _=>?_) (fun hh=>absurd hh (by decide +kernel))
 | refine cs rfl (fun hh=>absurd hh (by decide +kernel)) (fun _=>?_)
 | (apply p1 (hd:=rfl);case hop=>first|(apply D_move;rfl)|(apply D_assign;rfl)|exact D_sc (D_int rfl rfl rfl) (congrArg (Value.int IntKind.i64) hk1)|exact D_sc (D_int rfl rfl rfl) (congrArg (Value.int IntKind.i64) hk2)|exact D_sc (D_int rfl rfl rfl) (congrArg (Value.int IntKind.i64) hk3)|(apply D_int;rfl;rfl;rfl)|(apply D_len_str;rfl)|(apply D_idxSn;rfl;rfl;(first|omega|(simp;done)))|exact D_fldB rfl|(apply D_nilB;rfl))
 | refine W_seq ?_
 | refine W_region ?_
 | refine WL_nil ?_
 | refine tn ?_
 | refine tr ?_
 | refine te ?_
 | (refine idB ?_;refine bh rfl ?_)
 | refine W_skip ?_
 | refine W_block ?_
 | refine W_exit ?_
 | refine W_ret ?_
 | (refine idLd ?_;first|refine p1L (D_loadB1 rfl (by (repeat first|assumption|exact get_last|(refine get_last2 ?_;focus (simp;done))|apply get_set|apply get_app|(apply get_ne;focus omega)|(apply get_ne;focus (simp only [List.length_set,List.length_append,List.length_cons,List.length_nil];omega)));done) (by rfl)) rfl ?_|refine p1L (D_loadBA rfl (by (repeat first|assumption|exact get_last|(refine get_last2 ?_;focus (simp;done))|apply get_set|apply get_app|(apply get_ne;focus omega)|(apply get_ne;focus (simp only [List.length_set,List.length_append,List.length_cons,List.length_nil];omega)));done) (by rfl)) rfl ?_)
 | (refine idS ?_;first|refine pS (S_store rfl rfl rfl (by (repeat first|assumption|exact get_last|(refine get_last2 ?_;focus (simp;done))|apply get_set|apply get_app|(apply get_ne;focus omega)|(apply get_ne;focus (simp only [List.length_set,List.length_append,List.length_cons,List.length_nil];omega)));done) (by rfl) (by rfl) (by rfl)) ?_)
 | (refine m_call (d:=97) hword rfl rfl rfl ?_;rintro v2 h2 ⟨hh2,hv2⟩;subst v2 h2)
      all_goals first
        | (exfalso;omega)
        | (exfalso;rename_i hh;exact Bool.noConfusion hh)
        | skip
      all_goals (apply retC;(focus rfl);(focus infer_instance);(focus infer_instance);(focus rfl);(focus (simp only [List.length_set,List.length_append,List.length_cons,List.length_nil];omega));(focus rfl);refine ⟨by repeat (first|exact hKK|refine Keep.set ?_ (by omega) _|refine Keep.app ?_ _),⟨.mk 0 0 0 [] [] [] (place s i).1 (place s i).2,Wkn.refl _⟩,(i : Int),(d : Int),((m + 1 : Nat) : Int),(by (repeat first|assumption|exact get_last|(refine get_last2 ?_;focus (simp;done))|apply get_set|apply get_app|(apply get_ne;focus omega)|(apply get_ne;focus (simp only [List.length_set,List.length_append,List.length_cons,List.length_nil];omega)));done)⟩)
    | some n =>
      rw [hz] at hword hR
      simp only at hword hR
      have hnl:=rsz_le hz
      rw [List.length_drop] at hnl
      by_cases hbig : n = 0 ∨ 5000 < m + 1
      · rw [if_pos hbig] at hR
        rw [hR]
        refine W_rounds 4 ?_
        repeat' first
 | refine cs rfl (fun _=>?_) (fun hh=>absurd hh n40)
 | refine cs rfl (fun _=>?_) (fun hh=>absurd hh n91)
 | refine cs rfl (fun _=>?_) (fun hh=>absurd hh n123)
 | refine cs rfl (fun _=>?_) (fun hh=>absurd hh (by decide +kernel))
 | refine cs rfl (fun hh=>absurd hh (by decide +kernel)) (fun _=>?_)
 | (apply p1 (hd:=rfl);case hop=>first|(apply D_move;rfl)|(apply D_assign;rfl)|exact D_sc (D_int rfl rfl rfl) (congrArg (Value.int IntKind.i64) hk1)|exact D_sc (D_int rfl rfl rfl) (congrArg (Value.int IntKind.i64) hk2)|exact D_sc (D_int rfl rfl rfl) (congrArg (Value.int IntKind.i64) hk3)|(apply D_pickT;rfl;rfl)|(apply D_pickF;rfl;rfl)|(apply D_int;rfl;rfl;rfl)|(apply D_len_str;rfl)|(apply D_idxSn;rfl;rfl;(first|omega|(simp;done)))|exact D_fldB rfl|(apply D_nilB;rfl))
 | refine W_seq ?_
 | refine W_region ?_
 | (refine idC ?_;refine cs rfl (fun _=>?_) (fun _=>?_))
 | refine WL_nil ?_
 | (refine idG ?_;first|refine g0f rfl rfl rfl ?_|refine gr rfl rfl ?_|refine gs rfl rfl (fun _=>?_) (fun _=>?_))
 | refine tn ?_
 | refine tr ?_
 | refine te ?_
 | (refine idB ?_;refine bh rfl ?_)
 | refine W_skip ?_
 | refine W_block ?_
 | refine W_exit ?_
 | refine W_ret ?_
 | (refine idLd ?_;first|refine p1L (D_loadB1 rfl (by (repeat first|assumption|exact get_last|(refine get_last2 ?_;focus (simp;done))|apply get_set|apply get_app|(apply get_ne;focus omega)|(apply get_ne;focus (simp only [List.length_set,List.length_append,List.length_cons,List.length_nil];omega)));done) (by rfl)) rfl ?_|refine p1L (D_loadBA rfl (by (repeat first|assumption|exact get_last|(refine get_last2 ?_;focus (simp;done))|apply get_set|apply get_app|(apply get_ne;focus omega)|(apply get_ne;focus (simp only [List.length_set,List.length_append,List.length_cons,List.length_nil];omega)));done) (by rfl)) rfl ?_)
 | (refine idS ?_;first|refine pS (S_store rfl rfl rfl (by (repeat first|assumption|exact get_last|(refine get_last2 ?_;focus (simp;done))|apply get_set|apply get_app|(apply get_ne;focus omega)|(apply get_ne;focus (simp only [List.length_set,List.length_append,List.length_cons,List.length_nil];omega)));done) (by rfl) (by rfl) (by rfl)) ?_)
 | (refine m_call (d:=97) hword rfl rfl rfl ?_;rintro v2 h2 ⟨hh2,hv2⟩;subst v2 h2)
 | (refine idW ?_;refine W_draw0 rfl ?_)
 | (apply d1 (hd:=rfl);case hop=>first|(apply D_move;rfl)|(apply D_assign;rfl)|(apply D_int;rfl;rfl;rfl)|(apply D_slS;rfl;rfl;rfl;all_goals first|omega|((repeat rw [w64 _ (by omega) (by omega)]);omega)|decide)|exact D_fldB rfl|(apply D_nilB;rfl))
 | (refine idDn ?_;first|refine dL _ (fun hp' hs=>D_loadB1 rfl (hs.trans (by (repeat first|assumption|exact get_last|(refine get_last2 ?_;focus (simp;done))|apply get_set|apply get_app|(apply get_ne;focus omega)|(apply get_ne;focus (simp only [List.length_set,List.length_append,List.length_cons,List.length_nil];omega)));done)) (by rfl)) rfl ?_)
 | (refine WD_nil (by first|decide +kernel|kernel_rfl|rfl) ?_)
        all_goals first
          | (exfalso;omega)
          | (exfalso;rename_i hh;exact Bool.noConfusion hh)
          | skip
        all_goals (apply retC;(focus rfl);(focus infer_instance);(focus infer_instance);(focus rfl);(focus (simp only [List.length_set,List.length_append,List.length_cons,List.length_nil];omega));(focus rfl);refine ⟨by repeat (first|exact hKK|refine Keep.set ?_ (by omega) _|refine Keep.app ?_ _),⟨.mk 0 0 0 [] [] [] (place s i).1 (place s i).2,Wkn.refl _⟩,(i : Int),(d : Int),((m + 1 : Nat) : Int),(by (repeat first|assumption|exact get_last|(refine get_last2 ?_;focus (simp;done))|apply get_set|apply get_app|(apply get_ne;focus omega)|(apply get_ne;focus (simp only [List.length_set,List.length_append,List.length_cons,List.length_nil];omega)));done)⟩)
      · rw [if_neg hbig] at hR
        have hsum : IntKind.i64.wrap ((i : Int) + (n : Int)) = ((i + n : Nat) : Int):=by rw [w64 _ (by omega) (by omega)];omega
        have hwl : ((s.drop i).take n).length < 268435456:=by rw [List.length_take,List.length_drop];omega
        have hpar:=parse1_pc ((s.drop i).take n) hwl
        have hnam:=named1_pc ((s.drop i).take n) (by omega)
        refine W_rounds 4 ?_
        repeat' first
 | refine cs rfl (fun _=>?_) (fun hh=>absurd hh n40)
 | refine cs rfl (fun _=>?_) (fun hh=>absurd hh n91)
 | refine cs rfl (fun _=>?_) (fun hh=>absurd hh n123)
 | refine cs rfl (fun _=>?_) (fun hh=>absurd hh (by decide +kernel))
 | refine cs rfl (fun hh=>absurd hh (by decide +kernel)) (fun _=>?_)
 | (apply p1 (hd:=rfl);case hop=>first|(apply D_move;rfl)|(apply D_assign;rfl)|exact D_sc (D_int rfl rfl rfl) (congrArg (Value.int IntKind.i64) hk1)|exact D_sc (D_int rfl rfl rfl) (congrArg (Value.int IntKind.i64) hk2)|exact D_sc (D_int rfl rfl rfl) (congrArg (Value.int IntKind.i64) hk3)|(apply D_pickT;rfl;rfl)|(apply D_pickF;rfl;rfl)|(apply D_int;rfl;rfl;rfl)|(apply D_len_str;rfl)|(apply D_idxSn;rfl;rfl;(first|omega|(simp;done)))|exact D_fldB rfl|(apply D_nilB;rfl))
 | refine W_seq ?_
 | refine W_region ?_
 | (refine idC ?_;refine cs rfl (fun _=>?_) (fun _=>?_))
 | refine WL_nil ?_
 | (refine idG ?_;first|refine g0f rfl rfl rfl ?_|refine gr rfl rfl ?_|refine gs rfl rfl (fun _=>?_) (fun _=>?_))
 | refine tn ?_
 | refine tr ?_
 | refine te ?_
 | (refine idB ?_;refine bh rfl ?_)
 | refine W_skip ?_
 | refine W_block ?_
 | refine W_exit ?_
 | refine W_ret ?_
 | (refine idLd ?_;first|refine p1L (D_loadB1 rfl (by (repeat first|assumption|exact get_last|(refine get_last2 ?_;focus (simp;done))|apply get_set|apply get_app|(apply get_ne;focus omega)|(apply get_ne;focus (simp only [List.length_set,List.length_append,List.length_cons,List.length_nil];omega)));done) (by rfl)) rfl ?_|refine p1L (D_loadBA rfl (by (repeat first|assumption|exact get_last|(refine get_last2 ?_;focus (simp;done))|apply get_set|apply get_app|(apply get_ne;focus omega)|(apply get_ne;focus (simp only [List.length_set,List.length_append,List.length_cons,List.length_nil];omega)));done) (by rfl)) rfl ?_)
 | (refine idS ?_;first|refine pS (S_store rfl rfl rfl (by (repeat first|assumption|exact get_last|(refine get_last2 ?_;focus (simp;done))|apply get_set|apply get_app|(apply get_ne;focus omega)|(apply get_ne;focus (simp only [List.length_set,List.length_append,List.length_cons,List.length_nil];omega)));done) (by rfl) (by rfl) (by rfl)) ?_)
 | (refine m_call (d:=97) hword rfl rfl rfl ?_;rintro v2 h2 ⟨hh2,hv2⟩;subst v2 h2)
 | (refine idW ?_;refine W_draw0 rfl ?_)
 | (apply d1 (hd:=rfl);case hop=>first|(apply D_move;rfl)|(apply D_assign;rfl)|exact D_sc (D_int rfl rfl rfl) (congrArg (Value.int IntKind.i64) hsum)|exact D_slw (n:=n) rfl rfl rfl (by omega)|exact D_fldB rfl|(apply D_nilB;rfl))
 | (refine idDn ?_;first|refine dL _ (fun hp' hs=>D_loadB1 rfl (hs.trans (by (repeat first|assumption|exact get_last|(refine get_last2 ?_;focus (simp;done))|apply get_set|apply get_app|(apply get_ne;focus omega)|(apply get_ne;focus (simp only [List.length_set,List.length_append,List.length_cons,List.length_nil];omega)));done)) (by rfl)) rfl ?_)
 | (refine WD_nil (by first|decide +kernel|kernel_rfl|rfl) ?_)
        all_goals first
          | (exfalso;omega)
          | (exfalso;rename_i hh;exact Bool.noConfusion hh)
          | skip
        generalize hw : (s.drop i).take n = w at *
        have hnd2 : [h.length + 1,K.length].Nodup:=by simp;omega
        have hfc : ∀ (hlt : i + n < s.length),(fits (s.drop (i + n)) = true ↔ s[i + n] ∈ ([32,9,10,13,40,41,91,93,123,125,59] : List UInt8)):=fun hlt=>by
          rw [drop_c hlt]
          simp only [fits,List.contains_iff_mem]
        rcases parseE_cases w with hE | ⟨hE,hV⟩
        · rw [leaf_v hE] at hR
          simp only at hR
          rw [hE] at hpar
          rcases Nat.lt_or_ge (i + n) s.length with hlt|hge
          · have hin:=in_pc [32,9,10,13,40,41,91,93,123,125,59] (s[i + n]) (by decide)
            by_cases hf : s[i + n] ∈ ([32,9,10,13,40,41,91,93,123,125,59] : List UInt8)
            · rw [if_pos ((hfc hlt).2 hf)] at hR
              rw [hR]
              rw [dP_t.mpr hf] at hin
              repeat' first
 | refine cs rfl (fun _=>?_) (fun hh=>absurd hh (by first|omega|decide))
 | refine cs rfl (fun hh=>absurd hh (by first|omega|decide)) (fun _=>?_)
 | (apply p1 (hd:=rfl);case hop=>first|(apply D_move;rfl)|(apply D_assign;rfl)|(apply D_pc hpar;rfl;exact .same rfl .nil)|(apply D_pc hnam;rfl;exact .same rfl .nil)|exact D_sc (D_int rfl rfl rfl) (congrArg (Value.int IntKind.i64) hsum)|(apply D_pc hin;rfl;exact .same rfl (.same rfl .nil))|(apply D_pickT;rfl;rfl)|(apply D_pickF;rfl;rfl)|(apply D_int;rfl;rfl;rfl)|(apply D_ext;rfl;rfl)|(apply D_not;rfl)|exact D_fldB rfl|(apply D_nilB;rfl))
 | refine W_seq ?_
 | refine W_region ?_
 | refine WL_nil ?_
 | (refine idG ?_;first|refine g0t rfl rfl rfl ?_|refine gr rfl rfl ?_|refine gs rfl rfl (fun _=>?_) (fun _=>?_))
 | refine tn ?_
 | refine tr ?_
 | refine W_skip ?_
 | refine W_ret ?_
 | (refine idLd ?_;first|refine p1L (D_loadB1 rfl (by (repeat first|assumption|exact get_last|(refine get_last2 ?_;focus (simp;done))|apply get_set|apply get_app|(apply get_ne;focus omega)|(apply get_ne;focus (simp only [List.length_set,List.length_append,List.length_cons,List.length_nil];omega)));done) (by rfl)) rfl ?_|refine p1L (D_loadBA rfl (by (repeat first|assumption|exact get_last|(refine get_last2 ?_;focus (simp;done))|apply get_set|apply get_app|(apply get_ne;focus omega)|(apply get_ne;focus (simp only [List.length_set,List.length_append,List.length_cons,List.length_nil];omega)));done) (by rfl)) rfl ?_)
 | (refine idA ?_;refine m_alloc rfl ?_)
 | (refine idS ?_;first|refine pS (S_store rfl rfl rfl (by (repeat first|assumption|exact get_last|(refine get_last2 ?_;focus (simp;done))|apply get_set|apply get_app|(apply get_ne;focus omega)|(apply get_ne;focus (simp only [List.length_set,List.length_append,List.length_cons,List.length_nil];omega)));done) (by rfl) (by rfl) (by rfl)) ?_)
 | (refine WD_nilR [h.length + 1,K.length] [([1],none),([],none),([0],some 0),([],none),([0],some 0)] hnd2 rfl rfl (by decide +kernel) ?_)
 | (refine idW ?_;refine W_draw0 rfl ?_)
 | (apply d1 (hd:=rfl);case hop=>first|(apply D_move;rfl)|(apply D_assign;rfl)|(apply D_int;rfl;rfl;rfl)|(apply D_len_str;rfl)|(apply D_idxSn;rfl;rfl;(first|omega|(simp;done)))|exact D_fldB rfl|(apply D_nilB;rfl))
 | (refine idDn ?_;first|refine dS (S_store rfl rfl rfl (by (repeat first|assumption|exact get_last|(refine get_last2 ?_;focus (simp;done))|apply get_set|apply get_app|(apply get_ne;focus omega)|(apply get_ne;focus (simp only [List.length_set,List.length_append,List.length_cons,List.length_nil];omega)));done) (by rfl) (by rfl) (by rfl)) (bltL (by (repeat first|assumption|exact get_last|(refine get_last2 ?_;focus (simp;done))|apply get_set|apply get_app|(apply get_ne;focus omega)|(apply get_ne;focus (simp only [List.length_set,List.length_append,List.length_cons,List.length_nil];omega)));done)) ?_|refine dL _ (fun hp' hs=>D_loadB1 rfl (hs.trans (by (repeat first|assumption|exact get_last|(refine get_last2 ?_;focus (simp;done))|apply get_set|apply get_app|(apply get_ne;focus omega)|(apply get_ne;focus (simp only [List.length_set,List.length_append,List.length_cons,List.length_nil];omega)));done)) (by rfl)) rfl ?_|refine dL _ (fun hp' hs=>D_loadBA rfl (hs.trans (by (repeat first|assumption|exact get_last|(refine get_last2 ?_;focus (simp;done))|apply get_set|apply get_app|(apply get_ne;focus omega)|(apply get_ne;focus (simp only [List.length_set,List.length_append,List.length_cons,List.length_nil];omega)));done)) (by rfl)) rfl ?_)
 | (refine WD_nil (by first|decide +kernel|kernel_rfl|rfl) ?_)
              all_goals first
                | (exfalso;omega)
                | (exfalso;rename_i hh;exact Bool.noConfusion hh)
                | skip
              all_goals (apply retC;(focus rfl);(focus infer_instance);(focus infer_instance);(focus rfl);(focus (simp only [List.length_set,List.length_append,List.length_cons,List.length_nil];omega));(focus rfl);refine ⟨by repeat (first|exact hKK|refine Keep.set ?_ (by omega) _|refine Keep.app ?_ _),Wkn.refl _,(by (repeat first|assumption|exact get_last|(refine get_last2 ?_;focus (simp;done))|apply get_set|apply get_app|(apply get_ne;focus omega)|(apply get_ne;focus (simp only [List.length_set,List.length_append,List.length_cons,List.length_nil];omega)));done)⟩)
            · rw [if_neg (fun e=>hf ((hfc hlt).1 e))] at hR
              rw [hR]
              rw [dP_f.mpr hf] at hin
              repeat' first
 | refine cs rfl (fun _=>?_) (fun hh=>absurd hh (by first|omega|decide))
 | refine cs rfl (fun hh=>absurd hh (by first|omega|decide)) (fun _=>?_)
 | (apply p1 (hd:=rfl);case hop=>first|(apply D_move;rfl)|(apply D_assign;rfl)|(apply D_pc hpar;rfl;exact .same rfl .nil)|(apply D_pc hnam;rfl;exact .same rfl .nil)|exact D_sc (D_int rfl rfl rfl) (congrArg (Value.int IntKind.i64) hsum)|(apply D_pc hin;rfl;exact .same rfl (.same rfl .nil))|(apply D_pickT;rfl;rfl)|(apply D_pickF;rfl;rfl)|(apply D_int;rfl;rfl;rfl)|(apply D_ext;rfl;rfl)|(apply D_not;rfl)|exact D_fldB rfl|(apply D_nilB;rfl))
 | refine W_seq ?_
 | refine W_region ?_
 | refine WL_nil ?_
 | (refine idG ?_;first|refine g0t rfl rfl rfl ?_|refine gr rfl rfl ?_|refine gs rfl rfl (fun _=>?_) (fun _=>?_))
 | refine tn ?_
 | refine tr ?_
 | refine W_skip ?_
 | refine W_ret ?_
 | (refine idLd ?_;first|refine p1L (D_loadB1 rfl (by (repeat first|assumption|exact get_last|(refine get_last2 ?_;focus (simp;done))|apply get_set|apply get_app|(apply get_ne;focus omega)|(apply get_ne;focus (simp only [List.length_set,List.length_append,List.length_cons,List.length_nil];omega)));done) (by rfl)) rfl ?_|refine p1L (D_loadBA rfl (by (repeat first|assumption|exact get_last|(refine get_last2 ?_;focus (simp;done))|apply get_set|apply get_app|(apply get_ne;focus omega)|(apply get_ne;focus (simp only [List.length_set,List.length_append,List.length_cons,List.length_nil];omega)));done) (by rfl)) rfl ?_)
 | (refine idA ?_;refine m_alloc rfl ?_)
 | (refine idS ?_;first|refine pS (S_store rfl rfl rfl (by (repeat first|assumption|exact get_last|(refine get_last2 ?_;focus (simp;done))|apply get_set|apply get_app|(apply get_ne;focus omega)|(apply get_ne;focus (simp only [List.length_set,List.length_append,List.length_cons,List.length_nil];omega)));done) (by rfl) (by rfl) (by rfl)) ?_)
 | (refine WD_nilR [h.length + 1,K.length] [([1],none),([],none),([0],some 0),([],none),([0],some 0)] hnd2 rfl rfl (by decide +kernel) ?_)
 | (refine idW ?_;refine W_draw0 rfl ?_)
 | (apply d1 (hd:=rfl);case hop=>first|(apply D_move;rfl)|(apply D_assign;rfl)|(apply D_int;rfl;rfl;rfl)|(apply D_len_str;rfl)|(apply D_idxSn;rfl;rfl;(first|omega|(simp;done)))|exact D_fldB rfl|(apply D_nilB;rfl))
 | (refine idDn ?_;first|refine dS (S_store rfl rfl rfl (by (repeat first|assumption|exact get_last|(refine get_last2 ?_;focus (simp;done))|apply get_set|apply get_app|(apply get_ne;focus omega)|(apply get_ne;focus (simp only [List.length_set,List.length_append,List.length_cons,List.length_nil];omega)));done) (by rfl) (by rfl) (by rfl)) (bltL (by (repeat first|assumption|exact get_last|(refine get_last2 ?_;focus (simp;done))|apply get_set|apply get_app|(apply get_ne;focus omega)|(apply get_ne;focus (simp only [List.length_set,List.length_append,List.length_cons,List.length_nil];omega)));done)) ?_|refine dL _ (fun hp' hs=>D_loadB1 rfl (hs.trans (by (repeat first|assumption|exact get_last|(refine get_last2 ?_;focus (simp;done))|apply get_set|apply get_app|(apply get_ne;focus omega)|(apply get_ne;focus (simp only [List.length_set,List.length_append,List.length_cons,List.length_nil];omega)));done)) (by rfl)) rfl ?_|refine dL _ (fun hp' hs=>D_loadBA rfl (hs.trans (by (repeat first|assumption|exact get_last|(refine get_last2 ?_;focus (simp;done))|apply get_set|apply get_app|(apply get_ne;focus omega)|(apply get_ne;focus (simp only [List.length_set,List.length_append,List.length_cons,List.length_nil];omega)));done)) (by rfl)) rfl ?_)
 | (refine WD_nil (by first|decide +kernel|kernel_rfl|rfl) ?_)
              all_goals first
                | (exfalso;omega)
                | (exfalso;rename_i hh;exact Bool.noConfusion hh)
                | skip
              all_goals (apply retC;(focus rfl);(focus infer_instance);(focus infer_instance);(focus rfl);(focus (simp only [List.length_set,List.length_append,List.length_cons,List.length_nil];omega));(focus rfl);refine ⟨by repeat (first|exact hKK|refine Keep.set ?_ (by omega) _|refine Keep.app ?_ _),⟨leafN (1,(parseV w).kind,(parseV w).n,(parseV w).s,[]) (place s i).1 (place s i).2,Wkn.refl _⟩,((i + n : Nat) : Int),(d : Int),((m + 1 : Nat) : Int),(by (repeat first|assumption|exact get_last|(refine get_last2 ?_;focus (simp;done))|apply get_set|apply get_app|(apply get_ne;focus omega)|(apply get_ne;focus (simp only [List.length_set,List.length_append,List.length_cons,List.length_nil];omega)));done)⟩)
          · rw [if_pos (by rw [List.drop_eq_nil_of_le hge];rfl)] at hR
            rw [hR]
            repeat' first
 | refine cs rfl (fun _=>?_) (fun hh=>absurd hh (by first|omega|decide))
 | refine cs rfl (fun hh=>absurd hh (by first|omega|decide)) (fun _=>?_)
 | (apply p1 (hd:=rfl);case hop=>first|(apply D_move;rfl)|(apply D_assign;rfl)|(apply D_pc hpar;rfl;exact .same rfl .nil)|(apply D_pc hnam;rfl;exact .same rfl .nil)|exact D_sc (D_int rfl rfl rfl) (congrArg (Value.int IntKind.i64) hsum)|(apply D_pickT;rfl;rfl)|(apply D_pickF;rfl;rfl)|(apply D_int;rfl;rfl;rfl)|(apply D_ext;rfl;rfl)|(apply D_not;rfl)|exact D_fldB rfl|(apply D_nilB;rfl))
 | refine W_seq ?_
 | refine W_region ?_
 | refine WL_nil ?_
 | (refine idG ?_;first|refine g0t rfl rfl rfl ?_|refine gr rfl rfl ?_|refine gs rfl rfl (fun _=>?_) (fun _=>?_))
 | refine tn ?_
 | refine tr ?_
 | refine W_skip ?_
 | refine W_ret ?_
 | (refine idLd ?_;first|refine p1L (D_loadB1 rfl (by (repeat first|assumption|exact get_last|(refine get_last2 ?_;focus (simp;done))|apply get_set|apply get_app|(apply get_ne;focus omega)|(apply get_ne;focus (simp only [List.length_set,List.length_append,List.length_cons,List.length_nil];omega)));done) (by rfl)) rfl ?_|refine p1L (D_loadBA rfl (by (repeat first|assumption|exact get_last|(refine get_last2 ?_;focus (simp;done))|apply get_set|apply get_app|(apply get_ne;focus omega)|(apply get_ne;focus (simp only [List.length_set,List.length_append,List.length_cons,List.length_nil];omega)));done) (by rfl)) rfl ?_)
 | (refine idA ?_;refine m_alloc rfl ?_)
 | (refine idS ?_;first|refine pS (S_store rfl rfl rfl (by (repeat first|assumption|exact get_last|(refine get_last2 ?_;focus (simp;done))|apply get_set|apply get_app|(apply get_ne;focus omega)|(apply get_ne;focus (simp only [List.length_set,List.length_append,List.length_cons,List.length_nil];omega)));done) (by rfl) (by rfl) (by rfl)) ?_)
 | (refine WD_nilR [h.length + 1,K.length] [([1],none),([],none),([0],some 0),([],none),([0],some 0)] hnd2 rfl rfl (by decide +kernel) ?_)
 | (refine idW ?_;refine W_draw0 rfl ?_)
 | (apply d1 (hd:=rfl);case hop=>first|(apply D_move;rfl)|(apply D_int;rfl;rfl;rfl)|(apply D_len_str;rfl)|exact D_fldB rfl|(apply D_nilB;rfl))
 | (refine idDn ?_;first|refine dS (S_store rfl rfl rfl (by (repeat first|assumption|exact get_last|(refine get_last2 ?_;focus (simp;done))|apply get_set|apply get_app|(apply get_ne;focus omega)|(apply get_ne;focus (simp only [List.length_set,List.length_append,List.length_cons,List.length_nil];omega)));done) (by rfl) (by rfl) (by rfl)) (bltL (by (repeat first|assumption|exact get_last|(refine get_last2 ?_;focus (simp;done))|apply get_set|apply get_app|(apply get_ne;focus omega)|(apply get_ne;focus (simp only [List.length_set,List.length_append,List.length_cons,List.length_nil];omega)));done)) ?_|refine dL _ (fun hp' hs=>D_loadB1 rfl (hs.trans (by (repeat first|assumption|exact get_last|(refine get_last2 ?_;focus (simp;done))|apply get_set|apply get_app|(apply get_ne;focus omega)|(apply get_ne;focus (simp only [List.length_set,List.length_append,List.length_cons,List.length_nil];omega)));done)) (by rfl)) rfl ?_|refine dL _ (fun hp' hs=>D_loadBA rfl (hs.trans (by (repeat first|assumption|exact get_last|(refine get_last2 ?_;focus (simp;done))|apply get_set|apply get_app|(apply get_ne;focus omega)|(apply get_ne;focus (simp only [List.length_set,List.length_append,List.length_cons,List.length_nil];omega)));done)) (by rfl)) rfl ?_)
 | (refine WD_nil (by first|decide +kernel|kernel_rfl|rfl) ?_)
            all_goals first
              | (exfalso;omega)
              | (exfalso;rename_i hh;exact Bool.noConfusion hh)
              | skip
            all_goals (apply retC;(focus rfl);(focus infer_instance);(focus infer_instance);(focus rfl);(focus (simp only [List.length_set,List.length_append,List.length_cons,List.length_nil];omega));(focus rfl);refine ⟨by repeat (first|exact hKK|refine Keep.set ?_ (by omega) _|refine Keep.app ?_ _),Wkn.refl _,(by (repeat first|assumption|exact get_last|(refine get_last2 ?_;focus (simp;done))|apply get_set|apply get_app|(apply get_ne;focus omega)|(apply get_ne;focus (simp only [List.length_set,List.length_append,List.length_cons,List.length_nil];omega)));done)⟩)
        · rw [hE,hV] at hpar
          by_cases hN : NamedP w
          · rw [leaf_n (by rw [hE];decide) hN] at hR
            simp only at hR
            rw [dP_t.mpr hN] at hnam
            rcases Nat.lt_or_ge (i + n) s.length with hlt|hge
            · have hin:=in_pc [32,9,10,13,40,41,91,93,123,125,59] (s[i + n]) (by decide)
              by_cases hf : s[i + n] ∈ ([32,9,10,13,40,41,91,93,123,125,59] : List UInt8)
              · rw [if_pos ((hfc hlt).2 hf)] at hR
                rw [hR]
                rw [dP_t.mpr hf] at hin
                repeat' first
 | refine cs rfl (fun _=>?_) (fun hh=>absurd hh (by first|omega|decide))
 | refine cs rfl (fun hh=>absurd hh (by first|omega|decide)) (fun _=>?_)
 | (apply p1 (hd:=rfl);case hop=>first|(apply D_move;rfl)|(apply D_assign;rfl)|(apply D_pc hpar;rfl;exact .same rfl .nil)|(apply D_pc hnam;rfl;exact .same rfl .nil)|exact D_sc (D_int rfl rfl rfl) (congrArg (Value.int IntKind.i64) hsum)|(apply D_pc hin;rfl;exact .same rfl (.same rfl .nil))|(apply D_pickT;rfl;rfl)|(apply D_pickF;rfl;rfl)|(apply D_int;rfl;rfl;rfl)|(apply D_ext;rfl;rfl)|(apply D_not;rfl)|exact D_build rfl|exact D_fldB rfl|(apply D_nilB;rfl))
 | refine W_seq ?_
 | refine W_region ?_
 | refine WL_nil ?_
 | (refine idG ?_;first|refine g0t rfl rfl rfl ?_|refine gr rfl rfl ?_|refine gs rfl rfl (fun _=>?_) (fun _=>?_))
 | refine tn ?_
 | refine tr ?_
 | refine W_skip ?_
 | refine W_ret ?_
 | (refine idLd ?_;first|refine p1L (D_loadB1 rfl (by (repeat first|assumption|exact get_last|(refine get_last2 ?_;focus (simp;done))|apply get_set|apply get_app|(apply get_ne;focus omega)|(apply get_ne;focus (simp only [List.length_set,List.length_append,List.length_cons,List.length_nil];omega)));done) (by rfl)) rfl ?_|refine p1L (D_loadBA rfl (by (repeat first|assumption|exact get_last|(refine get_last2 ?_;focus (simp;done))|apply get_set|apply get_app|(apply get_ne;focus omega)|(apply get_ne;focus (simp only [List.length_set,List.length_append,List.length_cons,List.length_nil];omega)));done) (by rfl)) rfl ?_)
 | (refine idA ?_;refine m_alloc rfl ?_)
 | (refine idS ?_;first|refine pS (S_store rfl rfl rfl (by (repeat first|assumption|exact get_last|(refine get_last2 ?_;focus (simp;done))|apply get_set|apply get_app|(apply get_ne;focus omega)|(apply get_ne;focus (simp only [List.length_set,List.length_append,List.length_cons,List.length_nil];omega)));done) (by rfl) (by rfl) (by rfl)) ?_)
 | (refine WD_nilR [h.length + 1,K.length] [([1],none),([],none),([0],some 0),([],none),([0],some 0)] hnd2 rfl rfl (by decide +kernel) ?_)
 | (refine idW ?_;refine W_draw0 rfl ?_)
 | (apply d1 (hd:=rfl);case hop=>first|(apply D_move;rfl)|(apply D_assign;rfl)|(apply D_int;rfl;rfl;rfl)|(apply D_len_str;rfl)|(apply D_idxSn;rfl;rfl;(first|omega|(simp;done)))|exact D_fldB rfl|(apply D_nilB;rfl))
 | (refine idDn ?_;first|refine dS (S_store rfl rfl rfl (by (repeat first|assumption|exact get_last|(refine get_last2 ?_;focus (simp;done))|apply get_set|apply get_app|(apply get_ne;focus omega)|(apply get_ne;focus (simp only [List.length_set,List.length_append,List.length_cons,List.length_nil];omega)));done) (by rfl) (by rfl) (by rfl)) (bltL (by (repeat first|assumption|exact get_last|(refine get_last2 ?_;focus (simp;done))|apply get_set|apply get_app|(apply get_ne;focus omega)|(apply get_ne;focus (simp only [List.length_set,List.length_append,List.length_cons,List.length_nil];omega)));done)) ?_|refine dL _ (fun hp' hs=>D_loadB1 rfl (hs.trans (by (repeat first|assumption|exact get_last|(refine get_last2 ?_;focus (simp;done))|apply get_set|apply get_app|(apply get_ne;focus omega)|(apply get_ne;focus (simp only [List.length_set,List.length_append,List.length_cons,List.length_nil];omega)));done)) (by rfl)) rfl ?_|refine dL _ (fun hp' hs=>D_loadBA rfl (hs.trans (by (repeat first|assumption|exact get_last|(refine get_last2 ?_;focus (simp;done))|apply get_set|apply get_app|(apply get_ne;focus omega)|(apply get_ne;focus (simp only [List.length_set,List.length_append,List.length_cons,List.length_nil];omega)));done)) (by rfl)) rfl ?_)
 | (refine WD_nil (by first|decide +kernel|kernel_rfl|rfl) ?_)
                all_goals first
                  | (exfalso;omega)
                  | (exfalso;rename_i hh;exact Bool.noConfusion hh)
                  | skip
                all_goals (apply retC;(focus rfl);(focus infer_instance);(focus infer_instance);(focus rfl);(focus (simp only [List.length_set,List.length_append,List.length_cons,List.length_nil];omega));(focus rfl);refine ⟨by repeat (first|exact hKK|refine Keep.set ?_ (by omega) _|refine Keep.app ?_ _),Wkn.refl _,(by (repeat first|assumption|exact get_last|(refine get_last2 ?_;focus (simp;done))|apply get_set|apply get_app|(apply get_ne;focus omega)|(apply get_ne;focus (simp only [List.length_set,List.length_append,List.length_cons,List.length_nil];omega)));done)⟩)
              · rw [if_neg (fun e=>hf ((hfc hlt).1 e))] at hR
                rw [hR]
                rw [dP_f.mpr hf] at hin
                repeat' first
 | refine cs rfl (fun _=>?_) (fun hh=>absurd hh (by first|omega|decide))
 | refine cs rfl (fun hh=>absurd hh (by first|omega|decide)) (fun _=>?_)
 | (apply p1 (hd:=rfl);case hop=>first|(apply D_move;rfl)|(apply D_assign;rfl)|(apply D_pc hpar;rfl;exact .same rfl .nil)|(apply D_pc hnam;rfl;exact .same rfl .nil)|exact D_sc (D_int rfl rfl rfl) (congrArg (Value.int IntKind.i64) hsum)|(apply D_pc hin;rfl;exact .same rfl (.same rfl .nil))|(apply D_pickT;rfl;rfl)|(apply D_pickF;rfl;rfl)|(apply D_int;rfl;rfl;rfl)|(apply D_ext;rfl;rfl)|(apply D_not;rfl)|exact D_build rfl|exact D_fldB rfl|(apply D_nilB;rfl))
 | refine W_seq ?_
 | refine W_region ?_
 | refine WL_nil ?_
 | (refine idG ?_;first|refine g0t rfl rfl rfl ?_|refine gr rfl rfl ?_|refine gs rfl rfl (fun _=>?_) (fun _=>?_))
 | refine tn ?_
 | refine tr ?_
 | refine W_skip ?_
 | refine W_ret ?_
 | (refine idLd ?_;first|refine p1L (D_loadB1 rfl (by (repeat first|assumption|exact get_last|(refine get_last2 ?_;focus (simp;done))|apply get_set|apply get_app|(apply get_ne;focus omega)|(apply get_ne;focus (simp only [List.length_set,List.length_append,List.length_cons,List.length_nil];omega)));done) (by rfl)) rfl ?_|refine p1L (D_loadBA rfl (by (repeat first|assumption|exact get_last|(refine get_last2 ?_;focus (simp;done))|apply get_set|apply get_app|(apply get_ne;focus omega)|(apply get_ne;focus (simp only [List.length_set,List.length_append,List.length_cons,List.length_nil];omega)));done) (by rfl)) rfl ?_)
 | (refine idA ?_;refine m_alloc rfl ?_)
 | (refine idS ?_;first|refine pS (S_store rfl rfl rfl (by (repeat first|assumption|exact get_last|(refine get_last2 ?_;focus (simp;done))|apply get_set|apply get_app|(apply get_ne;focus omega)|(apply get_ne;focus (simp only [List.length_set,List.length_append,List.length_cons,List.length_nil];omega)));done) (by rfl) (by rfl) (by rfl)) ?_)
 | (refine WD_nilR [h.length + 1,K.length] [([1],none),([],none),([0],some 0),([],none),([0],some 0)] hnd2 rfl rfl (by decide +kernel) ?_)
 | (refine idW ?_;refine W_draw0 rfl ?_)
 | (apply d1 (hd:=rfl);case hop=>first|(apply D_move;rfl)|(apply D_assign;rfl)|(apply D_int;rfl;rfl;rfl)|(apply D_len_str;rfl)|(apply D_idxSn;rfl;rfl;(first|omega|(simp;done)))|exact D_fldB rfl|(apply D_nilB;rfl))
 | (refine idDn ?_;first|refine dS (S_store rfl rfl rfl (by (repeat first|assumption|exact get_last|(refine get_last2 ?_;focus (simp;done))|apply get_set|apply get_app|(apply get_ne;focus omega)|(apply get_ne;focus (simp only [List.length_set,List.length_append,List.length_cons,List.length_nil];omega)));done) (by rfl) (by rfl) (by rfl)) (bltL (by (repeat first|assumption|exact get_last|(refine get_last2 ?_;focus (simp;done))|apply get_set|apply get_app|(apply get_ne;focus omega)|(apply get_ne;focus (simp only [List.length_set,List.length_append,List.length_cons,List.length_nil];omega)));done)) ?_|refine dL _ (fun hp' hs=>D_loadB1 rfl (hs.trans (by (repeat first|assumption|exact get_last|(refine get_last2 ?_;focus (simp;done))|apply get_set|apply get_app|(apply get_ne;focus omega)|(apply get_ne;focus (simp only [List.length_set,List.length_append,List.length_cons,List.length_nil];omega)));done)) (by rfl)) rfl ?_|refine dL _ (fun hp' hs=>D_loadBA rfl (hs.trans (by (repeat first|assumption|exact get_last|(refine get_last2 ?_;focus (simp;done))|apply get_set|apply get_app|(apply get_ne;focus omega)|(apply get_ne;focus (simp only [List.length_set,List.length_append,List.length_cons,List.length_nil];omega)));done)) (by rfl)) rfl ?_)
 | (refine WD_nil (by first|decide +kernel|kernel_rfl|rfl) ?_)
                all_goals first
                  | (exfalso;omega)
                  | (exfalso;rename_i hh;exact Bool.noConfusion hh)
                  | skip
                all_goals (apply retC;(focus rfl);(focus infer_instance);(focus infer_instance);(focus rfl);(focus (simp only [List.length_set,List.length_append,List.length_cons,List.length_nil];omega));(focus rfl);refine ⟨by repeat (first|exact hKK|refine Keep.set ?_ (by omega) _|refine Keep.app ?_ _),⟨leafN (2,0,0,[],w) (place s i).1 (place s i).2,Wkn.refl _⟩,((i + n : Nat) : Int),(d : Int),((m + 1 : Nat) : Int),(by (repeat first|assumption|exact get_last|(refine get_last2 ?_;focus (simp;done))|apply get_set|apply get_app|(apply get_ne;focus omega)|(apply get_ne;focus (simp only [List.length_set,List.length_append,List.length_cons,List.length_nil];omega)));done)⟩)
            · rw [if_pos (by rw [List.drop_eq_nil_of_le hge];rfl)] at hR
              rw [hR]
              repeat' first
 | refine cs rfl (fun _=>?_) (fun hh=>absurd hh (by first|omega|decide))
 | refine cs rfl (fun hh=>absurd hh (by first|omega|decide)) (fun _=>?_)
 | (apply p1 (hd:=rfl);case hop=>first|(apply D_move;rfl)|(apply D_assign;rfl)|(apply D_pc hpar;rfl;exact .same rfl .nil)|(apply D_pc hnam;rfl;exact .same rfl .nil)|exact D_sc (D_int rfl rfl rfl) (congrArg (Value.int IntKind.i64) hsum)|(apply D_pickT;rfl;rfl)|(apply D_pickF;rfl;rfl)|(apply D_int;rfl;rfl;rfl)|(apply D_ext;rfl;rfl)|(apply D_not;rfl)|exact D_build rfl|exact D_fldB rfl|(apply D_nilB;rfl))
 | refine W_seq ?_
 | refine W_region ?_
 | refine WL_nil ?_
 | (refine idG ?_;first|refine g0t rfl rfl rfl ?_|refine gr rfl rfl ?_|refine gs rfl rfl (fun _=>?_) (fun _=>?_))
 | refine tn ?_
 | refine tr ?_
 | refine W_skip ?_
 | refine W_ret ?_
 | (refine idLd ?_;first|refine p1L (D_loadB1 rfl (by (repeat first|assumption|exact get_last|(refine get_last2 ?_;focus (simp;done))|apply get_set|apply get_app|(apply get_ne;focus omega)|(apply get_ne;focus (simp only [List.length_set,List.length_append,List.length_cons,List.length_nil];omega)));done) (by rfl)) rfl ?_|refine p1L (D_loadBA rfl (by (repeat first|assumption|exact get_last|(refine get_last2 ?_;focus (simp;done))|apply get_set|apply get_app|(apply get_ne;focus omega)|(apply get_ne;focus (simp only [List.length_set,List.length_append,List.length_cons,List.length_nil];omega)));done) (by rfl)) rfl ?_)
 | (refine idA ?_;refine m_alloc rfl ?_)
 | (refine idS ?_;first|refine pS (S_store rfl rfl rfl (by (repeat first|assumption|exact get_last|(refine get_last2 ?_;focus (simp;done))|apply get_set|apply get_app|(apply get_ne;focus omega)|(apply get_ne;focus (simp only [List.length_set,List.length_append,List.length_cons,List.length_nil];omega)));done) (by rfl) (by rfl) (by rfl)) ?_)
 | (refine WD_nilR [h.length + 1,K.length] [([1],none),([],none),([0],some 0),([],none),([0],some 0)] hnd2 rfl rfl (by decide +kernel) ?_)
 | (refine idW ?_;refine W_draw0 rfl ?_)
 | (apply d1 (hd:=rfl);case hop=>first|(apply D_move;rfl)|(apply D_int;rfl;rfl;rfl)|(apply D_len_str;rfl)|exact D_fldB rfl|(apply D_nilB;rfl))
 | (refine idDn ?_;first|refine dS (S_store rfl rfl rfl (by (repeat first|assumption|exact get_last|(refine get_last2 ?_;focus (simp;done))|apply get_set|apply get_app|(apply get_ne;focus omega)|(apply get_ne;focus (simp only [List.length_set,List.length_append,List.length_cons,List.length_nil];omega)));done) (by rfl) (by rfl) (by rfl)) (bltL (by (repeat first|assumption|exact get_last|(refine get_last2 ?_;focus (simp;done))|apply get_set|apply get_app|(apply get_ne;focus omega)|(apply get_ne;focus (simp only [List.length_set,List.length_append,List.length_cons,List.length_nil];omega)));done)) ?_|refine dL _ (fun hp' hs=>D_loadB1 rfl (hs.trans (by (repeat first|assumption|exact get_last|(refine get_last2 ?_;focus (simp;done))|apply get_set|apply get_app|(apply get_ne;focus omega)|(apply get_ne;focus (simp only [List.length_set,List.length_append,List.length_cons,List.length_nil];omega)));done)) (by rfl)) rfl ?_|refine dL _ (fun hp' hs=>D_loadBA rfl (hs.trans (by (repeat first|assumption|exact get_last|(refine get_last2 ?_;focus (simp;done))|apply get_set|apply get_app|(apply get_ne;focus omega)|(apply get_ne;focus (simp only [List.length_set,List.length_append,List.length_cons,List.length_nil];omega)));done)) (by rfl)) rfl ?_)
 | (refine WD_nil (by first|decide +kernel|kernel_rfl|rfl) ?_)
              all_goals first
                | (exfalso;omega)
                | (exfalso;rename_i hh;exact Bool.noConfusion hh)
                | skip
              all_goals (apply retC;(focus rfl);(focus infer_instance);(focus infer_instance);(focus rfl);(focus (simp only [List.length_set,List.length_append,List.length_cons,List.length_nil];omega));(focus rfl);refine ⟨by repeat (first|exact hKK|refine Keep.set ?_ (by omega) _|refine Keep.app ?_ _),Wkn.refl _,(by (repeat first|assumption|exact get_last|(refine get_last2 ?_;focus (simp;done))|apply get_set|apply get_app|(apply get_ne;focus omega)|(apply get_ne;focus (simp only [List.length_set,List.length_append,List.length_cons,List.length_nil];omega)));done)⟩)
          · rw [leaf_no (by rw [hE];decide) hN] at hR
            simp only at hR
            rw [dP_f.mpr hN] at hnam
            rw [hR]
            repeat' first
 | refine cs rfl (fun _=>?_) (fun hh=>absurd hh (by first|omega|decide))
 | (apply p1 (hd:=rfl);case hop=>first|(apply D_move;rfl)|(apply D_assign;rfl)|(apply D_pc hpar;rfl;exact .same rfl .nil)|(apply D_pc hnam;rfl;exact .same rfl .nil)|(apply D_pickT;rfl;rfl)|(apply D_pickF;rfl;rfl)|(apply D_int;rfl;rfl;rfl)|(apply D_ext;rfl;rfl)|(apply D_not;rfl)|exact D_fldB rfl|(apply D_nilB;rfl))
 | refine W_seq ?_
 | refine W_region ?_
 | refine WL_nil ?_
 | (refine idG ?_;first|refine g0t rfl rfl rfl ?_|refine gr rfl rfl ?_|refine gs rfl rfl (fun _=>?_) (fun _=>?_))
 | refine tn ?_
 | refine tr ?_
 | refine W_ret ?_
 | (refine idLd ?_;first|refine p1L (D_loadB1 rfl (by (repeat first|assumption|exact get_last|(refine get_last2 ?_;focus (simp;done))|apply get_set|apply get_app|(apply get_ne;focus omega)|(apply get_ne;focus (simp only [List.length_set,List.length_append,List.length_cons,List.length_nil];omega)));done) (by rfl)) rfl ?_|refine p1L (D_loadBA rfl (by (repeat first|assumption|exact get_last|(refine get_last2 ?_;focus (simp;done))|apply get_set|apply get_app|(apply get_ne;focus omega)|(apply get_ne;focus (simp only [List.length_set,List.length_append,List.length_cons,List.length_nil];omega)));done) (by rfl)) rfl ?_)
 | (refine idA ?_;refine m_alloc rfl ?_)
 | (refine idS ?_;first|refine pS (S_store rfl rfl rfl (by (repeat first|assumption|exact get_last|(refine get_last2 ?_;focus (simp;done))|apply get_set|apply get_app|(apply get_ne;focus omega)|(apply get_ne;focus (simp only [List.length_set,List.length_append,List.length_cons,List.length_nil];omega)));done) (by rfl) (by rfl) (by rfl)) ?_)
            all_goals first
              | (exfalso;omega)
              | (exfalso;rename_i hh;exact Bool.noConfusion hh)
              | skip
            all_goals (apply retC;(focus rfl);(focus infer_instance);(focus infer_instance);(focus rfl);(focus (simp only [List.length_set,List.length_append,List.length_cons,List.length_nil];omega));(focus rfl);refine ⟨by repeat (first|exact hKK|refine Keep.set ?_ (by omega) _|refine Keep.app ?_ _),⟨.mk 0 0 0 [] [] [] (place s i).1 (place s i).2,Wkn.refl _⟩,(i : Int),(d : Int),((m + 1 : Nat) : Int),(by (repeat first|assumption|exact get_last|(refine get_last2 ?_;focus (simp;done))|apply get_set|apply get_app|(apply get_ne;focus omega)|(apply get_ne;focus (simp only [List.length_set,List.length_append,List.length_cons,List.length_nil];omega)));done)⟩)
end Go.Proofs.Rd
