/- The plain law of prefixes: the bytes that begin with some stand from these on, ahead of their end. -/
import Derived.Test.YtjojdiefnhbglaaGreatYT6
import Derived.Test.YtjojdiefnhbglaaGreatPS1
import Derived.Test.YtjojdiefnhbglaaGreatOps25
import Derived.Test.YtjojdiefnhbglaaGreatOps11
set_option linter.all false
namespace Go.Proofs
open Go.AL Go.Sort
def endR : List UInt8 → Option (List UInt8)
  | []=>none
  | c :: r=>match endR r with
    | some e=>some (c :: e)
    | none=>if c = 255 then none else some [c + 1]
theorem cb_nil (k : List UInt8) : 0 ≤ cbB k []:=by cases k <;> simp [cbB,Lib.compareBytes]
theorem cb_nil2 (c : UInt8) (r : List UInt8) : cbB [] (c :: r) = -1:=by simp [cbB,Lib.compareBytes]
theorem u8_ne255 {c : UInt8} (h : c ≠ 255) : (c + 1).toNat = c.toNat + 1:=by
  have h2 : c.toNat ≠ 255:=fun e=>h (UInt8.toNat_inj.1 (by rw [e];rfl))
  have h3:=c.toNat_lt
  rw [UInt8.toNat_add]
  show (c.toNat + 1) % 256 = _
  omega
theorem end_none : ∀ {b : List UInt8},endR b = none → ∀ k,0 ≤ cbB k b ↔ b <+: k
  | [],_,k=>⟨fun _=>List.nil_prefix,fun _=>cb_nil k⟩
  | c :: r, h,k=>by
    rw [endR] at h
    cases hr : endR r with
    | some e=>rw [hr] at h;cases h
    | none =>
      rw [hr] at h
      have hc : c = 255:=by
        by_cases hc : c = 255
        · exact hc
        · rw [if_neg hc] at h;cases h
      subst hc
      cases k with
      | nil=>rw [cb_nil2];simp
      | cons y k =>
        have ih:=end_none hr k
        rcases Nat.lt_trichotomy y.toNat (255 : UInt8).toNat with hy|hy|hy
        · rw [show cbB (y :: k) (255 :: r) = -1 from cb_lt hy]
          constructor
          · intro h;omega
          · intro h
            have:=(List.cons_prefix_cons.1 h).1
            rw [← this] at hy;omega
        · have e : y = 255:=UInt8.toNat_inj.1 hy
          subst e
          rw [show cbB (255 :: k) (255 :: r) = cbB k r from cb_eq _ _ _,ih,List.cons_prefix_cons]
          exact ⟨fun h=>⟨rfl,h⟩,fun h=>h.2⟩
        · have:=y.toNat_lt
          have e : (255 : UInt8).toNat = 255:=rfl
          omega
theorem end_some : ∀ {b e : List UInt8},endR b = some e → ∀ k,(0 ≤ cbB k b ∧ cbB k e < 0) ↔ b <+: k
  | [],e,h,k=>by cases h
  | c :: r, e,h,k=>by
    rw [endR] at h
    cases k with
    | nil=>rw [cb_nil2];simp
    | cons y k =>
      cases hr : endR r with
      | some e' =>
        rw [hr] at h
        cases h
        have ih:=end_some hr k
        rcases Nat.lt_trichotomy y.toNat c.toNat with hy|hy|hy
        · rw [show cbB (y :: k) (c :: r) = -1 from cb_lt hy]
          constructor
          · rintro ⟨h,_⟩;omega
          · intro h
            have:=(List.cons_prefix_cons.1 h).1
            rw [← this] at hy;omega
        · have e : y = c:=UInt8.toNat_inj.1 hy
          subst e
          rw [show cbB (y :: k) (y :: r) = cbB k r from cb_eq _ _ _,show cbB (y :: k) (y :: e') = cbB k e' from cb_eq _ _ _,ih,List.cons_prefix_cons]
          exact ⟨fun h=>⟨rfl,h⟩,fun h=>h.2⟩
        · rw [show cbB (y :: k) (c :: e') = 1 from cb_gt hy]
          constructor
          · rintro ⟨_,h⟩;omega
          · intro h
            have:=(List.cons_prefix_cons.1 h).1
            rw [← this] at hy;omega
      | none =>
        rw [hr] at h
        simp only at h
        by_cases hc : c = 255
        · rw [if_pos hc] at h;cases h
        · rw [if_neg hc] at h
          cases h
          have h1:=u8_ne255 hc
          have hn:=end_none hr k
          rcases Nat.lt_trichotomy y.toNat c.toNat with hy|hy|hy
          · rw [show cbB (y :: k) (c :: r) = -1 from cb_lt hy]
            constructor
            · rintro ⟨h,_⟩;omega
            · intro h
              have:=(List.cons_prefix_cons.1 h).1
              rw [← this] at hy;omega
          · have e : y = c:=UInt8.toNat_inj.1 hy
            subst e
            rw [show cbB (y :: k) (y :: r) = cbB k r from cb_eq _ _ _,show cbB (y :: k) [y + 1] = -1 from cb_lt (show y.toNat < (y + 1).toNat by omega),hn,List.cons_prefix_cons]
            exact ⟨fun h=>⟨rfl,h.1⟩,fun h=>⟨h.2,by omega⟩⟩
          · have hge : 0 ≤ cbB (y :: k) [c + 1]:=by
              rcases Nat.lt_or_ge (c + 1).toNat y.toNat with h2|h2
              · rw [show cbB (y :: k) [c + 1] = 1 from cb_gt h2];omega
              · have e : y = c + 1:=UInt8.toNat_inj.1 (by omega)
                subst e
                rw [show cbB ((c + 1) :: k) [c + 1] = cbB k [] from cb_eq _ _ _];exact cb_nil k
            constructor
            · rintro ⟨_,h⟩;omega
            · intro h
              have:=(List.cons_prefix_cons.1 h).1
              rw [← this] at hy;omega
theorem end_at : ∀ {b : List UInt8} {n : Nat},(hn : n ≤ b.length) → (∀ (j : Nat) (h : j < b.length),n ≤ j → b[j] = 255) →
    (n = 0 → endR b = none) ∧ (∀ h : 0 < n,(b[n - 1]'(by omega)) ≠ 255 → endR b = some (b.take (n - 1) ++ [(b[n - 1]'(by omega)) + 1]))
  | [],n,hn,_=>⟨fun _=>rfl,fun h _=>by simp at hn;omega⟩
  | c :: r,0,_,hz=>by
    refine ⟨fun _=>?_,fun h=>by omega⟩
    have h0 : c = 255:=hz 0 (by simp) (Nat.le_refl _)
    have:=(end_at (b:=r) (n:=0) (Nat.zero_le _) fun j hj _=>hz (j + 1) (by simpa using hj) (Nat.zero_le _)).1 rfl
    rw [endR,this,if_pos h0]
  | c :: r,n + 1,hn,hz=>by
    refine ⟨fun h=>by omega,fun _ hne=>?_⟩
    have ih:=end_at (b:=r) (n:=n) (by simpa using hn) fun j hj h2=>hz (j + 1) (by simpa using hj) (by omega)
    cases n with
    | zero =>
      have e:=ih.1 rfl
      simp only [Nat.zero_add,Nat.sub_self,List.getElem_cons_zero] at hne ⊢
      rw [endR,e]
      simp only
      rw [if_neg hne];rfl
    | succ n =>
      have hne2 : (r[n]'(by simp at hn;omega)) ≠ 255:=by simpa using hne
      have e:=ih.2 (by omega) (by simpa using hne2)
      rw [endR,e]
      simp
def inEnd (b k : List UInt8) : Prop:=0 ≤ cbB k b ∧ (match endR b with|none=>True|some e=>cbB k e < 0)
theorem inEnd_iff (b k : List UInt8) : inEnd b k ↔ b <+: k:=by
  unfold inEnd
  cases h : endR b with
  | none=>simp only [and_true];exact end_none h k
  | some e=>exact end_some h k
end Go.Proofs

namespace Go.Proofs
open Go.AL Go.Sort
attribute [local irreducible] Go.AL.W Go.AL.WL Go.AL.WD Go.AL.POp Go.AL.PPOp Go.AL.POpS Go.AL.PC Go.AL.AC Go.AL.YW Go.AL.Ret Go.AL.Le Go.AL.thn Go.AL.inBlk Go.AL.scp
def endV (b : List UInt8) : List UInt8:=(endR b).getD []
def endX (b : List UInt8) : Bool:=(endR b).isSome
theorem flat_bytes (l : List UInt8) : (l.map byteC).flatten = l.map fun c=>AV.sc (.int .u8 c.toNat):=by
  induction l with
  | nil=>rfl
  | cons c l ih=>simp only [List.map_cons,List.flatten_cons,ih];rfl
theorem byteC_row {l : List UInt8} : ∀ e,e ∈ l.map byteC → e.length = 1:=fun e he=>by obtain ⟨a,_,rfl⟩:=List.mem_map.1 he;rfl
theorem upd_at {α : Type} {P sp : List α} {x y : α} {m : Nat} (h : m = P.length) : (P ++ [x] ++ sp).take m ++ [y] ++ (P ++ [x] ++ sp).drop (m + 1) = (P ++ [y]) ++ sp:=by subst h;simp
set_option maxHeartbeats 16000000 in
theorem oend_pc [GlobF Tryz.prog] (b : List UInt8) (hl : b.length < 1099511627776) : PC Tryz.prog 99 [bsA b] (.tu [bsA (endV b),.sc (.bool (endX b))]):=by
  refine PC.of_body Tryz.func99 Tryz.ntmps99 rfl rfl rfl ?_
  repeat' first
 | (apply p1 (hd:=rfl);case hop=>first|(apply D_move;rfl)|(apply D_assign;rfl)|(apply D_lenM;rfl))
 | refine W_seq ?_
 | refine W_region ?_
 | refine WL_nil ?_
 | refine tn ?_
 | (refine W_block ?_)
  refine W_loopL (X:=Nat) (fun n=>[(0,bsA b),(4,.sc (.int .i64 (n : Int)))]) (fun _=>[])
    (fun n=>n ≤ b.length ∧ ∀ (j : Nat) (h : j < b.length),n ≤ j → b[j] = 255) (fun n=>n) b.length ⟨Nat.le_refl _,fun j h h2=>by omega⟩ ⟨rfl,rfl,trivial⟩ rfl ?_
  rintro n ⟨hn,hz⟩
  obtain ⟨e1,e2⟩:=end_at hn hz
  by_cases h0 : n = 0
  · subst h0
    have e:=e1 rfl
    have g0 : Value.bool (iLt 0 ((0 : Nat) : Int)) = .bool false:=by rw [(iLt_f _ _).mpr (by omega)]
    have g1 : Value.bool (iEq ((0 : Nat) : Int) 0) = .bool true:=by rw [(iEq_t _ _).mpr (by omega)]
    rw [show endV b = [] by unfold endV;rw [e];rfl,show endX b = false by unfold endX;rw [e];rfl]
    repeat' first
 | (apply p1 (hd:=rfl);case hop=>first|(apply D_move;rfl)|(apply D_assign;rfl)|exact D_sc (D_int rfl rfl rfl) g0|exact D_sc (D_int rfl rfl rfl) g1|(apply D_pickF;rfl;rfl))
 | refine W_seq ?_
 | refine W_region ?_
 | (refine idC ?_;first|refine c1 rfl ?_|refine c0 rfl ?_)
 | refine WL_nil ?_
 | (refine idG ?_;refine g0t rfl rfl rfl ?_)
 | refine tn ?_
 | refine tr ?_
 | refine te ?_
 | (refine idB ?_;refine bh rfl ?_)
 | refine W_exit ?_
 | refine W_ret ?_
 | (refine idR ?_;refine ret2 rfl rfl rfl rfl ?_ ?_)
 | (refine Le.bool ?_)
    all_goals first|exact Le.nil rfl|rfl|contradiction|skip
  · have hn1 : n - 1 < b.length:=by omega
    have g0 : Value.bool (iLt 0 (n : Int)) = .bool true:=by rw [(iLt_t _ _).mpr (by omega)]
    have g1 : Value.bool (iEq (n : Int) 0) = .bool false:=by rw [(iEq_f _ _).mpr (by omega)]
    have g2 : Value.int .i64 (IntKind.i64.wrap ((n : Int) - 1)) = .int .i64 ((n - 1 : Nat) : Int):=by rw [w64 _ (by omega) (by omega)];congr 1;omega
    by_cases hc : b[n - 1] = 255
    · have g3 : Value.bool (iEq (b[n - 1].toNat : Int) 255) = .bool true:=by rw [(iEq_t _ _).mpr (by rw [hc];rfl)]
      repeat' first
 | (apply p1 (hd:=rfl);case hop=>first|(apply D_move;rfl)|(apply D_assign;rfl)|exact D_sc (D_int rfl rfl rfl) g0|exact D_sc (D_int rfl rfl rfl) g2|exact D_sc (D_int rfl rfl rfl) g3|(apply D_load1;rfl)|(apply D_pickT;rfl;rfl)|(apply D_idxAn;rfl;rfl;(first|omega|(simp;done))))
 | refine W_seq ?_
 | refine W_region ?_
 | (refine idC ?_;refine c1 rfl ?_)
 | refine WL_nil ?_
 | (refine idG ?_;refine gr rfl rfl ?_)
 | refine tn ?_
 | refine bn ?_
 | refine W_skip ?_
 | (refine W_block ?_)
      all_goals first
        | contradiction
        | exact ⟨rfl,n - 1,⟨by omega,fun j h h2=>by
            by_cases e : j = n - 1
            · subst e;exact hc
            · exact hz j h (by omega)⟩,by omega,⟨rfl,rfl,trivial⟩,rfl⟩
        | skip
    · have g3 : Value.bool (iEq (b[n - 1].toNat : Int) 255) = .bool false:=by rw [(iEq_f _ _).mpr (fun e=>hc (UInt8.toNat_inj.1 (by show b[n - 1].toNat = 255;omega)))]
      have e:=e2 (by omega) hc
      rw [show endV b = b.take (n - 1) ++ [b[n - 1] + 1] by unfold endV;rw [e];rfl,show endX b = true by unfold endX;rw [e];rfl]
      have htn : b.take n = b.take (n - 1) ++ [b[n - 1]]:=by
        have:=List.take_succ_eq_append_getElem hn1
        rw [show n - 1 + 1 = n by omega] at this;exact this
      have hbn : ((b.take n).map byteC).length = n:=by rw [List.length_map,List.length_take];omega
      have hne : (b.take n).map byteC ≠ []:=fun e=>by rw [e] at hbn;simp at hbn;omega
      have hld : ∀ sp : List AV,(((b.take n).map byteC).flatten ++ sp)[0 + ((n - 1 : Nat) : Int).toNat * 1]? = some (.sc (.int .u8 b[n - 1].toNat)):=fun sp=>by
        rw [show 0 + ((n - 1 : Nat) : Int).toNat * 1 = n - 1 by omega,flat_bytes,List.getElem?_append_left (by rw [List.length_map,List.length_take];omega),List.getElem?_map,List.getElem?_take_of_lt (by omega),List.getElem?_eq_getElem hn1];rfl
      have hst : ∀ sp : List AV,(((b.take n).map byteC).flatten ++ sp).take (0 + ((n - 1 : Nat) : Int).toNat * 1) ++ [.sc (.int .u8 (b[n - 1] + 1).toNat)] ++ (((b.take n).map byteC).flatten ++ sp).drop (0 + ((n - 1 : Nat) : Int).toNat * 1 + 1) = ((b.take (n - 1) ++ [b[n - 1] + 1]).map byteC).flatten ++ sp:=fun sp=>by
        rw [show 0 + ((n - 1 : Nat) : Int).toNat * 1 = n - 1 by omega,flat_bytes,flat_bytes,htn,List.map_append,List.map_append]
        exact upd_at (by rw [List.length_map,List.length_take];omega)
      have hsz : (((b.take n).map byteC).length : Int) = (n : Int):=by rw [hbn]
      have g5 : Value.int .u8 (IntKind.u8.wrap ((b[n - 1].toNat : Int) + 1)) = .int .u8 ((b[n - 1] + 1).toNat : Int):=by
        rw [u8_ne255 hc]
        have h2 : b[n - 1].toNat ≠ 255:=fun e=>hc (UInt8.toNat_inj.1 (by rw [e];rfl))
        have h3:=b[n - 1].toNat_lt
        congr 1
        simp [IntKind.wrap,IntKind.signed,IntKind.bits];omega
      repeat' first
 | refine m_lit (d:=22) rfl rfl rfl rfl rfl rfl ?_
 | (refine m_appR (d:=26) rfl rfl get_last hne rfl (by show ((b.take n).map byteC).length * 1 ≤ _;omega) (by show ((b.take n).map byteC).length < _;omega) rfl ?_;intro sp)
 | (refine p1L (D_loadB1 rfl rfl (hld _)) rfl ?_)
 | (apply p1 (hd:=rfl);case hop=>first|(apply D_move;rfl)|(apply D_assign;rfl)|exact D_sc (D_int rfl rfl rfl) g0|exact D_sc (D_int rfl rfl rfl) g1|exact D_sc (D_int rfl rfl rfl) g2|exact D_sc (D_int rfl rfl rfl) g3|exact D_sc (D_int rfl rfl rfl) g5|(apply D_ixR;rfl;rfl;(focus omega);(show ((n - 1 : Nat) : Int) < (((b.take n).map byteC).length : Int);omega))|(apply D_load1;rfl)|(apply D_pickT;rfl;rfl)|(apply D_idxAn;rfl;rfl;(first|omega|(simp;done)))|(apply D_slVhM;rfl;rfl;all_goals first|omega|((repeat rw [w64 _ (by omega) (by omega)]);omega)|decide))
 | refine W_seq ?_
 | refine W_region ?_
 | (refine idC ?_;refine c0 rfl ?_)
 | refine WL_nil ?_
 | (refine idG ?_;refine gr rfl rfl ?_)
 | refine tn ?_
 | refine te ?_
 | (refine idB ?_;refine bh rfl ?_)
 | refine W_skip ?_
 | (refine W_exit ?_)
      have hle : ∀ z : AV,Nat.ble (0 + ((n - 1 : Nat) : Int).toNat * 1 + 1) (((b.take n).map byteC).flatten ++ sp).length = true:=fun _=>by
        rw [Nat.ble_eq,List.length_append,flat_bytes,List.length_map,List.length_take];omega
      refine pS (S_store rfl rfl rfl rfl rfl rfl (hle .any)) ?_
      refine WL_hq (h':=[.dead,.cells (((b.take (n - 1) ++ [b[n - 1] + 1]).map byteC).flatten ++ sp)]) (congrArg (fun z=>[AObj.dead,AObj.cells z]) (hst _)) ?_
      refine WL_frz 5 1 1 (els:=(b.take (n - 1) ++ [b[n - 1] + 1]).map byteC) (sp:=sp) rfl rfl (by show ((b.take n).map byteC).length ≤ _;rw [hbn];simp;omega) byteC_row ?_
      rw [List.take_of_length_le (l:=(b.take (n - 1) ++ [b[n - 1] + 1]).map byteC) (by show _ ≤ ((b.take n).map byteC).length;rw [hbn];simp;omega)]
      repeat' first
 | (apply p1 (hd:=rfl);case hop=>first|(apply D_move;rfl)|(apply D_assign;rfl))
 | refine W_seq ?_
 | refine W_region ?_
 | refine WL_nil ?_
 | refine tn ?_
 | refine W_ret ?_
 | (refine idR ?_;refine ret2 rfl rfl rfl rfl ?_ ?_)
 | (refine Le.bool ?_)
      all_goals first|exact Le.of_eq rfl|rfl|contradiction|skip
end Go.Proofs

namespace Go.Proofs
open Go.AL Go.Sort
attribute [local irreducible] Go.AL.W Go.AL.WL Go.AL.WD Go.AL.POp Go.AL.PPOp Go.AL.POpS Go.AL.PC Go.AL.AC Go.AL.YW Go.AL.Ret Go.AL.Le Go.AL.thn Go.AL.inBlk Go.AL.scp
def fromN (key : List UInt8) : Tr → List Tr
  | .no=>[]
  | .nd k v l r d m=>(if 0 ≤ cbB k key then fromN key l ++ [.nd k v l r d m] else []) ++ fromN key r
theorem fromN_nd (key k v : List UInt8) (l r : Tr) (d m : Int) : fromN key (.nd k v l r d m) = (if 0 ≤ cbB k key then fromN key l ++ [.nd k v l r d m] else []) ++ fromN key r:=by rw [fromN]
set_option maxHeartbeats 4000000 in
theorem from_pc [GlobF Tryz.prog] (key : List UInt8) (t : Tr) : PC Tryz.prog 151 [tA t,bsA key] (.fn (.func 206) [] [.ep [tA t],.ep [bsA key]]):=by
  refine PC.of_body Tryz.func151 Tryz.ntmps151 rfl rfl rfl ?_
  repeat' first
 | (apply p1 (hd:=rfl);case hop=>first|(apply D_assign;rfl)|exact D_box rfl (cells_tA t)|(apply D_box;rfl;rfl)|exact D_mkfn rfl)
 | refine W_seq ?_
 | refine W_region ?_
 | refine WL_nil ?_
 | refine tn ?_
 | refine W_ret ?_
 | (refine idR ?_;refine ret1 rfl rfl rfl ?_)
  all_goals first|exact Le.of_eq rfl|rfl|contradiction|skip
theorem get_at {a : List AObj} {x : AObj} {b : List AObj} {n : Nat} (h : n = a.length) : (a ++ x :: b)[n]? = some x:=by subst h;simp
theorem set_at {a : List AObj} {x y : AObj} {b : List AObj} {n : Nat} (h : n = a.length) : (a ++ x :: b).set n y = a ++ y :: b:=by subst h;simp
theorem tw_app {α : Type} (c : α → Bool) {a b : List α} (h : ∀ x,x ∈ a → c x = true) : (a ++ b).takeWhile c = a ++ b.takeWhile c:=by
  induction a with
  | nil=>rfl
  | cons x a ih=>rw [List.cons_append,List.takeWhile_cons,if_pos (h x (.head _)),ih fun y hy=>h y (.tail _ hy)];rfl
theorem tw_stop {α : Type} (c : α → Bool) {a b : List α} (h : ¬ ∀ x,x ∈ a → c x = true) : (a ++ b).takeWhile c = a.takeWhile c:=by
  induction a with
  | nil=>exact absurd (fun x hx=>by cases hx) h
  | cons x a ih =>
    rw [List.cons_append,List.takeWhile_cons,List.takeWhile_cons]
    by_cases hx : c x = true
    · rw [if_pos hx,if_pos hx,ih fun h2=>h fun y hy=>by
        rcases List.mem_cons.1 hy with rfl|hy
        · exact hx
        · exact h2 y hy]
    · rw [if_neg hx,if_neg hx]
abbrev rawD : AObj:=.raw (.deferred (some []))
theorem mk_get {A e1 e2 : List AObj} {x y : AObj} {n : Nat} (h : n = A.length + e1.length) : (A ++ (e1 ++ [x,y]) ++ e2)[n]? = some x:=by
  rw [show A ++ (e1 ++ [x,y]) ++ e2 = (A ++ e1) ++ x :: ([y] ++ e2) by simp];exact get_at (by simp;omega)
theorem mk_set {A e1 e2 : List AObj} {x y z : AObj} {n : Nat} (h : n = A.length + e1.length) : (A ++ (e1 ++ [x,y]) ++ e2).set n z = A ++ (e1 ++ [z,y]) ++ e2:=by
  rw [show A ++ (e1 ++ [x,y]) ++ e2 = (A ++ e1) ++ x :: ([y] ++ e2) by simp,set_at (by simp;omega)];simp
theorem lp_get {A e1 e2 : List AObj} {x y : AObj} {n : Nat} (h : n = A.length + e1.length + 1) : (A ++ (e1 ++ [x,y]) ++ e2)[n]? = some y:=by
  rw [show A ++ (e1 ++ [x,y]) ++ e2 = (A ++ e1 ++ [x]) ++ y :: e2 by simp];exact get_at (by simp;omega)
theorem lp_set {A e1 e2 : List AObj} {x y z : AObj} {n : Nat} (h : n = A.length + e1.length + 1) : (A ++ (e1 ++ [x,y]) ++ e2).set n z = A ++ (e1 ++ [x,z]) ++ e2:=by
  rw [show A ++ (e1 ++ [x,y]) ++ e2 = (A ++ e1 ++ [x]) ++ y :: e2 by simp,set_at (by simp;omega)];simp
theorem marks1 {A ex e3 : List AObj} {n1 : Nat} (h1 : n1 = A.length + ex.length) : MarksOK [n1] (A ++ (ex ++ [rawD,.dead]) ++ e3) ∧ ∃ e4,kill [n1] (A ++ (ex ++ [rawD,.dead]) ++ e3) = A ++ ex ++ e4 :=
  ⟨⟨mk_get h1,trivial⟩,[.dead,.dead] ++ e3,by simp only [kill];rw [mk_set h1];simp⟩
theorem marks2 {A ex exx e3 : List AObj} {n1 n2 : Nat} (h1 : n1 = A.length + ex.length) (h2 : n2 = A.length + (ex ++ [rawD,.dead] ++ exx).length) : MarksOK [n2,n1] (A ++ (ex ++ [rawD,.dead] ++ exx ++ [rawD,.dead]) ++ e3) ∧ ∃ e4,kill [n2,n1] (A ++ (ex ++ [rawD,.dead] ++ exx ++ [rawD,.dead]) ++ e3) = A ++ ex ++ e4:=by
  have e : A ++ (ex ++ [rawD,.dead] ++ exx ++ [.dead,.dead]) ++ e3 = A ++ (ex ++ [rawD,.dead]) ++ (exx ++ [.dead,.dead] ++ e3):=by simp
  refine ⟨⟨mk_get h2,?_,trivial⟩,[.dead,.dead] ++ (exx ++ [.dead,.dead] ++ e3),?_⟩
  · rw [mk_set h2,e];exact mk_get h1
  · simp only [kill];rw [mk_set h2,e,mk_set h1];simp
def TellQ (Base Fin : List Tr → List AObj) (ok : List Tr → Prop) (c : Tr → Bool) (o E : List Tr) (ex : List AObj) (h' : List AObj) : Prop :=
  ((∀ x,x ∈ E → c x = true) ∧ ok (o ++ E) ∧ ∃ ex',h' = Base (o ++ E) ++ ex ++ ex') ∨ ((¬ ∀ x,x ∈ E → c x = true) ∧ ∃ ex',h' = Fin (o ++ E.takeWhile c) ++ ex ++ ex')
structure Teller [GlobF Tryz.prog] (l : Nat) (D : List Tr → Tr → Prop) (Base Fin : List Tr → List AObj) (ok : List Tr → Prop) (c : Tr → Bool) (n0 : Nat) : Prop where
  bl : ∀ o,(Base o).length = n0
  fl : ∀ o,(Fin o).length = n0
  y : ∀ (o : List Tr) (p : Tr) (ex : List AObj),ok o → D o p → YW Tryz.prog l [tA p] (Base o ++ ex) (fun b h'=>(b = true ∧ c p = true ∧ ok (o ++ [p]) ∧ ∃ ex',h' = Base (o ++ [p]) ++ ex ++ ex') ∨ (b = false ∧ c p = false ∧ ∃ ex',h' = Fin o ++ ex ++ ex'))
set_option maxHeartbeats 64000000 in
theorem from1_ac [GlobF Tryz.prog] (key : List UInt8) (c : Tr → Bool) (D : List Tr → Tr → Prop) : ∀ (t : Tr) (l n0 : Nat) (Base Fin : List Tr → List AObj) (ok : List Tr → Prop),Teller l D Base Fin ok c n0 →
    ∀ (o : List Tr) (ex h0 : List AObj),h0 = Base o ++ ex → ok o → (∀ a p b,fromN key t = a ++ p :: b → D (o ++ a) p) →
    AC Tryz.prog 206 [.sc (.func (.yield l) #[] #[]),.ep [tA t],.ep [bsA key]] h0 (fun _ h'=>TellQ Base Fin ok c o (fromN key t) ex h')
  | .no,l,n0,Base,Fin,ok,hT,o,ex,h0,hh,hok,hD=>by
    subst hh
    simp only [tA_no]
    refine AC.of_body Tryz.func206 Tryz.ntmps206 rfl rfl rfl ?_
    repeat' first
 | (apply p1 (hd:=rfl);case hop=>first|exact D_peN rfl rfl|(apply D_load1;rfl)|(apply D_box;rfl;rfl))
 | refine W_seq ?_
 | refine W_region ?_
 | (refine idC ?_;refine c1 rfl ?_)
 | refine WL_nil ?_
 | refine tn ?_
 | refine tr ?_
 | (refine W_ret ?_)
    all_goals
      refine ret0 (.inl rfl) rfl rfl ?_
      rw [show fromN key .no = [] by rw [fromN]]
      exact .inl ⟨fun x hx=>(List.not_mem_nil hx).elim,by rw [List.append_nil];exact hok,[],by simp⟩
  | .nd k v lt rt d m,l,n0,Base,Fin,ok,hT,o,ex,h0,hh,hok,hD=>by
    subst hh
    have hcm:=bcmp_pc k key
    have hfl:=from_pc key lt
    have hfr:=from_pc key rt
    have hnT : Value.bool (bNot true) = .bool false:=by simp [bNot]
    have hnF : Value.bool (bNot false) = .bool true:=by simp [bNot]
    obtain ⟨n,hn⟩ : ∃ n,n = Tr.nd k v lt rt d m:=⟨_,rfl⟩
    have hIl:=from1_ac key c D lt
    have hIr:=from1_ac key c D rt
    have htn : tA n = .ep [bsA k,bsA v,tA lt,tA rt,.sc (.int .i64 d),.sc (.int .i64 m)]:=by rw [hn,tA_nd]
    rw [fromN_nd,← hn] at hD ⊢
    rw [htn]
    by_cases c1 : 0 ≤ cbB k key
    · have g1 : Value.bool (iLe 0 (cbB k key)) = .bool true:=by rw [(iLe_t _ _).mpr c1]
      rw [if_pos c1] at hD ⊢
      have hDl : ∀ a p b,fromN key lt = a ++ p :: b → D (o ++ a) p:=fun a p b h=>hD a p (b ++ [n] ++ fromN key rt) (by rw [h];simp)
      have hDn : D (o ++ fromN key lt) n:=hD _ n (fromN key rt) (by simp)
      have hDr : ∀ a p b,fromN key rt = a ++ p :: b → D (o ++ fromN key lt ++ [n] ++ a) p:=fun a p b h=>by have:=hD (fromN key lt ++ [n] ++ a) p b (by rw [h];simp);simpa using this
      refine AC.of_body Tryz.func206 Tryz.ntmps206 rfl rfl rfl ?_
      repeat' first
 | (apply p1 (hd:=rfl);case hop=>first|exact D_peE rfl rfl|(apply D_load1;rfl)|(apply D_box;rfl;rfl))
 | refine W_seq ?_
 | refine W_region ?_
 | (refine idC ?_;first|refine c0 rfl ?_|refine cs rfl (fun _=>?_) (fun _=>?_))
 | refine WL_nil ?_
 | refine tn ?_
 | refine W_skip ?_
 | refine W_block ?_
 | (refine idW ?_;refine W_draw0 rfl ?_)
 | (apply d1 (hd:=rfl);case hop=>first|exact D_nilE rfl|(apply D_pc hcm;rfl;exact .same rfl (.same rfl .nil))|(apply D_pc hfl;rfl;exact .same rfl (.same rfl .nil))|(apply D_pc hfr;rfl;exact .same rfl (.same rfl .nil))|exact D_sc (D_int rfl rfl rfl) g1|(apply D_load1;rfl)|(apply D_fld;rfl))
 | (refine WD_nil (by first|decide +kernel|kernel_rfl|rfl) ?_)
      rotate_left
      · contradiction
      · refine W_rangeX (.inl rfl) fun l1 X hX=>?_
        have hin : Teller l1 D (fun o=>Base o ++ (ex ++ [rawD,X .ready none])) (fun o=>Fin o ++ (ex ++ [rawD,X .done (some .ret)])) ok c (n0 + (ex).length + 2):=by
          refine ⟨fun o=>by have:=hT.bl o;simp;omega,fun o=>by have:=hT.fl o;simp;omega,fun o p ex2 hok hDp=>?_⟩
          have hb:=hT.bl o
          have hb1:=hT.bl (o ++ [p])
          have hf:=hT.fl o
          have hyv:=hT.y o p (ex ++ [rawD,X .busy none] ++ ex2) hok hDp
          rw [← List.append_assoc] at hyv
          refine YW.round (r:=n0 + (ex).length + 1) ((lp_get (by omega)).trans (congrArg some (hX _ _))) rfl rfl ?_
          repeat' first
 | (apply p1 (hd:=rfl);case hop=>first|(apply D_assign;rfl))
 | refine W_region ?_
 | (refine WL_nil ?_)
          refine ⟨rfl,(lp_get (by omega)).trans (congrArg some (hX _ _)),?_⟩
          refine W_hq (h':=Base o ++ (ex ++ [rawD,X .busy none]) ++ ex2) (by rw [← hX .busy none];exact lp_set (by omega)) ?_
          repeat' first
 | (apply p1 (hd:=rfl);case hop=>first|(apply D_move;rfl)|exact D_sc (D_not rfl) hnT|exact D_sc (D_not rfl) hnF|(apply D_load1;rfl))
 | refine W_seq ?_
 | refine W_region ?_
 | (refine idC ?_;first|refine c0 rfl ?_|refine cs rfl (fun _=>?_) (fun _=>?_))
 | refine WL_nil ?_
 | refine tn ?_
 | refine br ?_
 | refine bn ?_
 | refine W_skip ?_
 | refine W_block ?_
 | refine W_ret ?_
 | (refine m_yield rfl rfl rfl hyv ?_;rintro b h' (⟨rfl,hc,hok',ex',rfl⟩ | ⟨rfl,hc,ex',rfl⟩))
          all_goals first
            | contradiction
            | (have e : Base (o ++ [p]) ++ (ex ++ [rawD,X .busy none] ++ ex2) ++ ex' = Base (o ++ [p]) ++ (ex ++ [rawD,X .busy none]) ++ (ex2 ++ ex'):=by simp
               rw [e]
               refine ⟨rfl,⟨_,_,(lp_get (by omega)).trans (congrArg some (hX _ _))⟩,.inl ⟨rfl,hc,hok',ex',?_⟩⟩
               rw [← hX .ready none,lp_set (by omega)];simp)
            | (have e : Fin o ++ (ex ++ [rawD,X .busy none] ++ ex2) ++ ex' = Fin o ++ (ex ++ [rawD,X .busy none]) ++ (ex2 ++ ex'):=by simp
               rw [e]
               refine ⟨rfl,⟨_,_,(lp_get (by omega)).trans (congrArg some (hX _ _))⟩,.inr ⟨rfl,hc,ex',?_⟩⟩
               rw [← hX .done (some .ret),lp_set (by omega)];simp)
            | skip
        refine AC.mono (hIl l1 _ _ _ ok hin (o) [] _ (by simp) hok hDl) ?_
        rintro _ h' (⟨hall,hok1,ex1,rfl⟩ | ⟨hno,ex1,rfl⟩)
        · rw [List.append_nil]
          have hb:=hT.bl (o ++ fromN key lt)
          refine ⟨_,_,(lp_get (by simp only [List.length_append,hT.bl,hT.fl,List.length_cons,List.length_nil] <;> omega)).trans (congrArg some (hX _ _)),by decide,?_⟩
          simp only
          rw [lp_set (by simp only [List.length_append,hT.bl,hT.fl,List.length_cons,List.length_nil] <;> omega)]
          have hal:=hall
          obtain ⟨e1,he1⟩ : ∃ e1,e1 = ex1:=⟨_,rfl⟩
          rw [← he1]
          have hyn:=hT.y (o ++ fromN key lt) n (ex ++ [rawD,.dead] ++ e1) hok1 hDn
          rw [← List.append_assoc,htn] at hyn
          repeat' first
 | (apply p1 (hd:=rfl);case hop=>first|exact D_sc (D_not rfl) hnT|exact D_sc (D_not rfl) hnF|(apply D_load1;rfl))
 | refine W_seq ?_
 | refine W_region ?_
 | (refine idC ?_;first|refine c0 rfl ?_|refine cs rfl (fun _=>?_) (fun _=>?_))
 | refine WL_nil ?_
 | refine tn ?_
 | refine tr ?_
 | refine bn ?_
 | refine W_skip ?_
 | refine W_block ?_
 | refine W_ret ?_
 | (refine m_yield rfl rfl rfl hyn ?_;rintro b h' (⟨rfl,hcn,hokn,e2,rfl⟩ | ⟨rfl,hcn,e2,rfl⟩))
 | (refine idW ?_;refine W_draw0 rfl ?_)
 | (apply d1 (hd:=rfl);case hop=>first|exact D_nilE rfl|(apply D_pc hfr;rfl;exact .same rfl (.same rfl .nil))|(apply D_load1;rfl)|(apply D_fld;rfl))
 | (refine WD_nil (by first|decide +kernel|kernel_rfl|rfl) ?_)
          all_goals try contradiction
          all_goals first
            | (have e : Fin (o ++ fromN key lt) ++ (ex ++ [rawD,.dead] ++ e1) ++ e2 = Fin (o ++ fromN key lt) ++ (ex ++ [rawD,.dead]) ++ (e1 ++ e2):=by simp
               rw [e]
               obtain ⟨m1,e4,m2⟩:=marks1 (A:=Fin (o ++ fromN key lt)) (ex:=ex) (e3:=e1 ++ e2) (n1:=(Base o ++ ex).length) (by simp only [List.length_append,hT.bl,hT.fl,List.length_cons,List.length_nil] <;> omega)
               refine retK (rs:=[]) (vs:=[]) (.inl rfl) rfl m1 trivial (.inr ⟨fun h=>(by have:=h n (by simp);rw [hcn] at this;cases this),e4,?_⟩)
               rw [List.append_assoc (fromN key lt),tw_app c hal,List.singleton_append,List.takeWhile_cons,if_neg (by rw [hcn];simp),List.append_nil]
               exact m2)
            | skip
          refine W_hq (h':=Base (o ++ fromN key lt ++ [n]) ++ (ex ++ [rawD,.dead] ++ (e1 ++ e2))) (by simp) ?_
          refine W_rangeX (.inl rfl) fun l1 X hX=>?_
          have hin : Teller l1 D (fun o=>Base o ++ (ex ++ [rawD,.dead] ++ (e1 ++ e2) ++ [rawD,X .ready none])) (fun o=>Fin o ++ (ex ++ [rawD,.dead] ++ (e1 ++ e2) ++ [rawD,X .done (some .ret)])) ok c (n0 + (ex ++ [rawD,.dead] ++ (e1 ++ e2)).length + 2):=by
            refine ⟨fun o=>by have:=hT.bl o;simp;omega,fun o=>by have:=hT.fl o;simp;omega,fun o p ex2 hok hDp=>?_⟩
            have hb:=hT.bl o
            have hb1:=hT.bl (o ++ [p])
            have hf:=hT.fl o
            have hyv:=hT.y o p (ex ++ [rawD,.dead] ++ (e1 ++ e2) ++ [rawD,X .busy none] ++ ex2) hok hDp
            rw [← List.append_assoc] at hyv
            refine YW.round (r:=n0 + (ex ++ [rawD,.dead] ++ (e1 ++ e2)).length + 1) ((lp_get (by omega)).trans (congrArg some (hX _ _))) rfl rfl ?_
            repeat' first
 | (apply p1 (hd:=rfl);case hop=>first|(apply D_assign;rfl))
 | refine W_region ?_
 | (refine WL_nil ?_)
            refine ⟨rfl,(lp_get (by omega)).trans (congrArg some (hX _ _)),?_⟩
            refine W_hq (h':=Base o ++ (ex ++ [rawD,.dead] ++ (e1 ++ e2) ++ [rawD,X .busy none]) ++ ex2) (by rw [← hX .busy none];exact lp_set (by omega)) ?_
            repeat' first
 | (apply p1 (hd:=rfl);case hop=>first|(apply D_move;rfl)|exact D_sc (D_not rfl) hnT|exact D_sc (D_not rfl) hnF|(apply D_load1;rfl))
 | refine W_seq ?_
 | refine W_region ?_
 | (refine idC ?_;first|refine c0 rfl ?_|refine cs rfl (fun _=>?_) (fun _=>?_))
 | refine WL_nil ?_
 | refine tn ?_
 | refine br ?_
 | refine bn ?_
 | refine W_skip ?_
 | refine W_block ?_
 | refine W_ret ?_
 | (refine m_yield rfl rfl rfl hyv ?_;rintro b h' (⟨rfl,hc,hok',ex',rfl⟩ | ⟨rfl,hc,ex',rfl⟩))
            all_goals first
              | contradiction
              | (have e : Base (o ++ [p]) ++ (ex ++ [rawD,.dead] ++ (e1 ++ e2) ++ [rawD,X .busy none] ++ ex2) ++ ex' = Base (o ++ [p]) ++ (ex ++ [rawD,.dead] ++ (e1 ++ e2) ++ [rawD,X .busy none]) ++ (ex2 ++ ex'):=by simp
                 rw [e]
                 refine ⟨rfl,⟨_,_,(lp_get (by omega)).trans (congrArg some (hX _ _))⟩,.inl ⟨rfl,hc,hok',ex',?_⟩⟩
                 rw [← hX .ready none,lp_set (by omega)];simp)
              | (have e : Fin o ++ (ex ++ [rawD,.dead] ++ (e1 ++ e2) ++ [rawD,X .busy none] ++ ex2) ++ ex' = Fin o ++ (ex ++ [rawD,.dead] ++ (e1 ++ e2) ++ [rawD,X .busy none]) ++ (ex2 ++ ex'):=by simp
                 rw [e]
                 refine ⟨rfl,⟨_,_,(lp_get (by omega)).trans (congrArg some (hX _ _))⟩,.inr ⟨rfl,hc,ex',?_⟩⟩
                 rw [← hX .done (some .ret),lp_set (by omega)];simp)
              | skip
          refine AC.mono (hIr l1 _ _ _ ok hin (o ++ fromN key lt ++ [n]) [] _ (by simp) hokn hDr) ?_
          rintro _ h' (⟨hall,hok1,ex1,rfl⟩ | ⟨hno,ex1,rfl⟩)
          · rw [List.append_nil]
            have hb:=hT.bl (o ++ fromN key lt ++ [n] ++ fromN key rt)
            refine ⟨_,_,(lp_get (by simp only [List.length_append,hT.bl,hT.fl,List.length_cons,List.length_nil] <;> omega)).trans (congrArg some (hX _ _)),by decide,?_⟩
            simp only
            rw [lp_set (by simp only [List.length_append,hT.bl,hT.fl,List.length_cons,List.length_nil] <;> omega)]
            repeat' first
 | (refine bn ?_)
            obtain ⟨m1,e4,m2⟩:=marks2 (A:=Base (o ++ fromN key lt ++ [n] ++ fromN key rt)) (ex:=ex) (exx:=e1 ++ e2) (e3:=ex1) (n1:=(Base o ++ ex).length) (n2:=(Base (o ++ fromN key lt ++ [n]) ++ (ex ++ [rawD,.dead] ++ (e1 ++ e2))).length) (by simp only [List.length_append,hT.bl,hT.fl,List.length_cons,List.length_nil] <;> omega) (by simp only [List.length_append,hT.bl,hT.fl,List.length_cons,List.length_nil] <;> omega)
            exact retK (rs:=[]) (vs:=[]) (.inr rfl) rfl m1 trivial (.inl ⟨fun x hx=>by simp only [List.mem_append,List.mem_singleton] at hx;rcases hx with (hx|rfl)|hx;exact hal x hx;exact hcn;exact hall x hx,by simpa using hok1,e4,by simpa using m2⟩)
          · rw [List.append_nil]
            have hb:=hT.fl (o ++ fromN key lt ++ [n] ++ (fromN key rt).takeWhile c)
            refine ⟨_,_,(lp_get (by simp only [List.length_append,hT.bl,hT.fl,List.length_cons,List.length_nil] <;> omega)).trans (congrArg some (hX _ _)),by decide,?_⟩
            simp only
            rw [lp_set (by simp only [List.length_append,hT.bl,hT.fl,List.length_cons,List.length_nil] <;> omega)]
            repeat' first
 | (refine br ?_)
            obtain ⟨m1,e4,m2⟩:=marks2 (A:=Fin (o ++ fromN key lt ++ [n] ++ (fromN key rt).takeWhile c)) (ex:=ex) (exx:=e1 ++ e2) (e3:=ex1) (n1:=(Base o ++ ex).length) (n2:=(Base (o ++ fromN key lt ++ [n]) ++ (ex ++ [rawD,.dead] ++ (e1 ++ e2))).length) (by simp only [List.length_append,hT.bl,hT.fl,List.length_cons,List.length_nil] <;> omega) (by simp only [List.length_append,hT.bl,hT.fl,List.length_cons,List.length_nil] <;> omega)
            refine retK (rs:=[]) (vs:=[]) (.inl rfl) rfl m1 trivial (.inr ⟨fun h=>hno fun x hx=>h x (by simp [hx]),e4,?_⟩)
            rw [tw_app c (a:=fromN key lt ++ [n]) (fun x hx=>by simp only [List.mem_append,List.mem_singleton] at hx;rcases hx with hx|rfl;exact hal x hx;exact hcn)]
            simpa using m2
        · rw [List.append_nil]
          have hb:=hT.fl (o ++ (fromN key lt).takeWhile c)
          refine ⟨_,_,(lp_get (by simp only [List.length_append,hT.bl,hT.fl,List.length_cons,List.length_nil] <;> omega)).trans (congrArg some (hX _ _)),by decide,?_⟩
          simp only
          rw [lp_set (by simp only [List.length_append,hT.bl,hT.fl,List.length_cons,List.length_nil] <;> omega)]
          repeat' first
 | refine tr ?_
 | (refine br ?_)
          obtain ⟨m1,e4,m2⟩:=marks1 (A:=Fin (o ++ (fromN key lt).takeWhile c)) (ex:=ex) (e3:=ex1) (n1:=(Base o ++ ex).length) (by simp only [List.length_append,hT.bl,hT.fl,List.length_cons,List.length_nil] <;> omega)
          refine retK (rs:=[]) (vs:=[]) (.inl rfl) rfl m1 trivial (.inr ⟨fun h=>hno fun x hx=>h x (by simp [hx]),e4,?_⟩)
          rw [List.append_assoc (fromN key lt),tw_stop c hno];exact m2
    · have g1 : Value.bool (iLe 0 (cbB k key)) = .bool false:=by rw [(iLe_f _ _).mpr (by omega)]
      rw [if_neg c1,List.nil_append] at hD ⊢
      refine AC.of_body Tryz.func206 Tryz.ntmps206 rfl rfl rfl ?_
      repeat' first
 | (apply p1 (hd:=rfl);case hop=>first|exact D_peE rfl rfl|(apply D_load1;rfl)|(apply D_box;rfl;rfl))
 | refine W_seq ?_
 | refine W_region ?_
 | (refine idC ?_;refine c0 rfl ?_)
 | refine WL_nil ?_
 | refine tn ?_
 | refine W_skip ?_
 | refine W_block ?_
 | (refine idW ?_;refine W_draw0 rfl ?_)
 | (apply d1 (hd:=rfl);case hop=>first|exact D_nilE rfl|(apply D_pc hcm;rfl;exact .same rfl (.same rfl .nil))|(apply D_pc hfr;rfl;exact .same rfl (.same rfl .nil))|exact D_sc (D_int rfl rfl rfl) g1|(apply D_load1;rfl)|(apply D_fld;rfl))
 | (refine WD_nil (by first|decide +kernel|kernel_rfl|rfl) ?_)
      refine W_rangeX (.inl rfl) fun l1 X hX=>?_
      have hin : Teller l1 D (fun o=>Base o ++ (ex ++ [rawD,X .ready none])) (fun o=>Fin o ++ (ex ++ [rawD,X .done (some .ret)])) ok c (n0 + (ex).length + 2):=by
        refine ⟨fun o=>by have:=hT.bl o;simp;omega,fun o=>by have:=hT.fl o;simp;omega,fun o p ex2 hok hDp=>?_⟩
        have hb:=hT.bl o
        have hb1:=hT.bl (o ++ [p])
        have hf:=hT.fl o
        have hyv:=hT.y o p (ex ++ [rawD,X .busy none] ++ ex2) hok hDp
        rw [← List.append_assoc] at hyv
        refine YW.round (r:=n0 + (ex).length + 1) ((lp_get (by omega)).trans (congrArg some (hX _ _))) rfl rfl ?_
        repeat' first
 | (apply p1 (hd:=rfl);case hop=>first|(apply D_assign;rfl))
 | refine W_region ?_
 | (refine WL_nil ?_)
        refine ⟨rfl,(lp_get (by omega)).trans (congrArg some (hX _ _)),?_⟩
        refine W_hq (h':=Base o ++ (ex ++ [rawD,X .busy none]) ++ ex2) (by rw [← hX .busy none];exact lp_set (by omega)) ?_
        repeat' first
 | (apply p1 (hd:=rfl);case hop=>first|(apply D_move;rfl)|exact D_sc (D_not rfl) hnT|exact D_sc (D_not rfl) hnF|(apply D_load1;rfl))
 | refine W_seq ?_
 | refine W_region ?_
 | (refine idC ?_;first|refine c0 rfl ?_|refine cs rfl (fun _=>?_) (fun _=>?_))
 | refine WL_nil ?_
 | refine tn ?_
 | refine br ?_
 | refine bn ?_
 | refine W_skip ?_
 | refine W_block ?_
 | refine W_ret ?_
 | (refine m_yield rfl rfl rfl hyv ?_;rintro b h' (⟨rfl,hc,hok',ex',rfl⟩ | ⟨rfl,hc,ex',rfl⟩))
        all_goals first
          | contradiction
          | (have e : Base (o ++ [p]) ++ (ex ++ [rawD,X .busy none] ++ ex2) ++ ex' = Base (o ++ [p]) ++ (ex ++ [rawD,X .busy none]) ++ (ex2 ++ ex'):=by simp
             rw [e]
             refine ⟨rfl,⟨_,_,(lp_get (by omega)).trans (congrArg some (hX _ _))⟩,.inl ⟨rfl,hc,hok',ex',?_⟩⟩
             rw [← hX .ready none,lp_set (by omega)];simp)
          | (have e : Fin o ++ (ex ++ [rawD,X .busy none] ++ ex2) ++ ex' = Fin o ++ (ex ++ [rawD,X .busy none]) ++ (ex2 ++ ex'):=by simp
             rw [e]
             refine ⟨rfl,⟨_,_,(lp_get (by omega)).trans (congrArg some (hX _ _))⟩,.inr ⟨rfl,hc,ex',?_⟩⟩
             rw [← hX .done (some .ret),lp_set (by omega)];simp)
          | skip
      refine AC.mono (hIr l1 _ _ _ ok hin (o) [] _ (by simp) hok hD) ?_
      rintro _ h' (⟨hall,hok1,ex1,rfl⟩ | ⟨hno,ex1,rfl⟩)
      · rw [List.append_nil]
        have hb:=hT.bl (o ++ fromN key rt)
        refine ⟨_,_,(lp_get (by simp only [List.length_append,hT.bl,hT.fl,List.length_cons,List.length_nil] <;> omega)).trans (congrArg some (hX _ _)),by decide,?_⟩
        simp only
        rw [lp_set (by simp only [List.length_append,hT.bl,hT.fl,List.length_cons,List.length_nil] <;> omega)]
        repeat' first
 | (refine bn ?_)
        obtain ⟨m1,e4,m2⟩:=marks1 (A:=Base (o ++ fromN key rt)) (ex:=ex) (e3:=ex1) (n1:=(Base o ++ ex).length) (by simp only [List.length_append,hT.bl,hT.fl,List.length_cons,List.length_nil] <;> omega)
        exact retK (rs:=[]) (vs:=[]) (.inr rfl) rfl m1 trivial (.inl ⟨hall,hok1,e4,m2⟩)
      · rw [List.append_nil]
        have hb:=hT.fl (o ++ (fromN key rt).takeWhile c)
        refine ⟨_,_,(lp_get (by simp only [List.length_append,hT.bl,hT.fl,List.length_cons,List.length_nil] <;> omega)).trans (congrArg some (hX _ _)),by decide,?_⟩
        simp only
        rw [lp_set (by simp only [List.length_append,hT.bl,hT.fl,List.length_cons,List.length_nil] <;> omega)]
        repeat' first
 | (refine br ?_)
        obtain ⟨m1,e4,m2⟩:=marks1 (A:=Fin (o ++ (fromN key rt).takeWhile c)) (ex:=ex) (e3:=ex1) (n1:=(Base o ++ ex).length) (by simp only [List.length_append,hT.bl,hT.fl,List.length_cons,List.length_nil] <;> omega)
        exact retK (rs:=[]) (vs:=[]) (.inl rfl) rfl m1 trivial (.inr ⟨hno,e4,m2⟩)
end Go.Proofs
