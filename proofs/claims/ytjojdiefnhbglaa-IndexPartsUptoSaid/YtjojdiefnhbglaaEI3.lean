/- Contracts of index's functions: all datoms; is one there; the next one. -/
import Derived.Test.YtjojdiefnhbglaaET12
namespace Go.Proofs
open Go.AL Go.Sort
attribute [local irreducible] Go.AL.W Go.AL.WL Go.AL.WD Go.AL.POp Go.AL.PPOp Go.AL.POpS Go.AL.PC Go.AL.AC Go.AL.YW Go.AL.Ret Go.AL.Le Go.AL.thn Go.AL.inBlk Go.AL.scp
theorem preL_len (o : Int) (b : List UInt8) (L : List Dat) : (preL o b L).length ≤ L.length := Nat.le_trans (List.length_filter_le _ _) (dsortL_len o L)
set_option maxHeartbeats 8000000 in
theorem dappseq_pc [GlobF Try.prog] (x : Option Ix) (L : List Dat) (hx : IxOf L (topI x)) (hL : okL L) (hl : L.length ≤ 262144) (o : Nat) (ho : 1 ≤ o ∧ o ≤ 4) (b : List UInt8) (hb : b.length < 1099511627776) :
    PC Try.prog 66 [.sc (.slice none 0 0), .fn (.func 67) [] [.ep [xA x], .ep [bsA b], .ep [.sc (.int .i64 (o : Int))]]] (sl9 (preL o b L)) := by
  refine PC.of_body Try.func66 Try.ntmps66 rfl rfl rfl ?_
  repeat' first
    | (refine m_box rfl rfl rfl ?_)
    | (apply p1 (hd := rfl); case hop => first | (apply D_move; rfl) | (apply D_assign; rfl))
    | refine W_seq ?_
    | refine W_region ?_
    | refine WL_nil ?_
    | refine tn ?_
    | refine W_block ?_
  have hEl := preL_len o b L
  refine W_adoptC 0 0 9 36 rfl rfl ?_
  refine W_rangeX (.inl rfl) fun l1 X hX => ?_
  refine AC.mono (begin1_ac x L hx hL hl o ho b hb l1 (fun i h => h = [.cells [.sl (some 1) 9 (((preL o b L).take i).map dC)], .tail i 9 36, rawD, X .ready none]) rfl ?_) ?_
  · rintro i hi h rfl
    have hnx : ((preL o b L).take (i + 1)).map dC = ((preL o b L).take i).map dC ++ [dC ((preL o b L)[i]'hi)] := by
      rw [List.take_succ_eq_append_getElem hi, List.map_append]; rfl
    have hli : (((preL o b L).take i).map dC).length = i := by rw [List.length_map, List.length_take]; omega
    refine YW.round (r := 3) ((show _ = some (X .ready none) from rfl).trans (congrArg some (hX .ready none))) rfl rfl ?_
    repeat' first
      | refine W_region ?_
      | refine WL_nil ?_
      | (refine idA ?_; first | refine m_var rfl rfl rfl rfl rfl rfl rfl ?_)
    refine ⟨rfl, (show _ = some (X .ready none) from rfl).trans (congrArg some (hX .ready none)), ?_⟩
    refine W_hq (h' := [.cells [.sl (some 1) 9 (((preL o b L).take i).map dC)], .tail i 9 36, rawD, X .busy none]) (by rw [hX .busy none]; rfl) ?_
    repeat' first
      | (apply p1 (hd := rfl); case hop => first | (apply D_loadW; rfl; rfl) | (apply D_lit; rfl; rfl; rfl; rfl))
      | refine W_region ?_
      | refine WL_nil ?_
      | refine bn ?_
      | refine W_block ?_
      | (refine idLd ?_; first | refine p1L (D_loadB1 rfl rfl rfl) rfl ?_)
      | (refine idS ?_; first | refine pS (S_store rfl rfl rfl rfl rfl rfl rfl) ?_)
      | (refine idAp ?_; refine m_app rfl rfl (by first | rfl | assumption | exact get_set (by assumption) | exact get_set (get_set (by assumption)) | exact get_set (get_set (get_set (by assumption))) | ((repeat first | assumption | exact get_last | (refine get_last2 ?_; focus (simp; done)) | apply get_set | apply get_app | (apply get_ne; focus omega)); done)) ?_ rfl rfl ?_ ?_ rfl ?_; (first | rfl | focus (simp only [List.length_map, List.length_append, List.length_cons, List.length_nil, List.length_take]; omega) | focus (simp; done) | focus (simp; omega)); (first | focus (simp only [List.length_map, List.length_append, List.length_cons, List.length_nil, List.length_take]; omega) | focus (simp; done) | focus (simp; omega)); (first | focus (simp only [List.length_map, List.length_append, List.length_cons, List.length_nil, List.length_take]; omega) | focus (simp; done) | focus (simp; omega)))
    refine ⟨rfl, ⟨_, _, (show _ = some (X .busy none) from rfl).trans (congrArg some (hX _ _))⟩, ⟨rfl, ?_⟩⟩
    rw [← hX .ready none, hnx]; simp only [hli]; rfl
  · rintro _ h' rfl
    refine ⟨_, _, (show _ = some (X .ready none) from rfl).trans (congrArg some (hX _ _)), by decide, ?_⟩
    repeat' first
      | (apply p1 (hd := rfl); case hop => first | (apply D_assign; rfl))
      | refine W_seq ?_
      | refine W_region ?_
      | refine WL_nil ?_
      | refine tn ?_
      | refine bn ?_
      | refine W_ret ?_
      | (refine idR ?_; first | refine rL1 rfl (by first | exact trivial | exact ⟨rfl, trivial⟩) (by first | exact ResO.tmp rfl | exact ResO.cellBA rfl rfl rfl | exact ResO.cellB1 rfl rfl rfl | exact ResO.cellEA rfl rfl | exact ResO.cellE1 rfl) ?_)
      | (refine idLd ?_; first | refine p1L (D_loadB1 rfl rfl rfl) rfl ?_)
    exact Le.tokq (by rw [List.take_length])
theorem preL_all (L : List Dat) : preL 1 [] L = dsortL 1 L := by unfold preL; exact List.filter_eq_self.2 fun _ _ => rfl
set_option maxHeartbeats 4000000 in
theorem collect_pc [GlobF Try.prog] (x : Option Ix) (L : List Dat) (hx : IxOf L (topI x)) (hL : okL L) (hl : L.length ≤ 262144) (o : Nat) (ho : 1 ≤ o ∧ o ≤ 4) (b : List UInt8) (hb : b.length < 1099511627776) :
    PC Try.prog 32 [.fn (.func 67) [] [.ep [xA x], .ep [bsA b], .ep [.sc (.int .i64 (o : Int))]]] (sl9 (preL o b L)) := by
  have h1 := dappseq_pc x L hx hL hl o ho b hb
  refine PC.of_body Try.func32 Try.ntmps32 rfl rfl rfl ?_
  repeat' first
    | (apply p1 (hd := rfl); case hop => first | (apply D_move; rfl) | (apply D_assign; rfl) | (apply D_pc h1; rfl; exact .same rfl (.same rfl .nil)))
    | refine W_seq ?_
    | refine W_region ?_
    | refine WL_nil ?_
    | refine tn ?_
    | refine W_ret ?_
    | (refine idR ?_; first | refine ret1 rfl rfl rfl ?_)
  all_goals first | exact Le.of_eq rfl | rfl | contradiction | skip
set_option maxHeartbeats 4000000 in
theorem iall_pc [GlobF Try.prog] (x : Option Ix) (L : List Dat) (hx : IxOf L (topI x)) (hL : okL L) (hl : L.length ≤ 262144) :
    PC Try.prog 10 [xA x] (sl9 (dsortL 1 L)) := by
  have h1 := begin_pc x 1 []
  have h2 := collect_pc x L hx hL hl 1 (by decide) [] (by decide)
  rw [show ((1 : Nat) : Int) = 1 from rfl, preL_all] at h2
  refine PC.of_body Try.func10 Try.ntmps10 rfl rfl rfl ?_
  repeat' first
    | (apply p1 (hd := rfl); case hop => first | (apply D_move; rfl) | (apply D_assign; rfl) | (apply D_pc h1; rfl; exact .same rfl (.same rfl (.niln rfl .nil))) | (apply D_pc h2; rfl; exact .same rfl .nil))
    | refine W_seq ?_
    | refine W_region ?_
    | refine WL_nil ?_
    | refine tn ?_
    | refine W_ret ?_
    | (refine idR ?_; first | refine ret1 rfl rfl rfl ?_)
  all_goals first | exact Le.of_eq rfl | rfl | contradiction | skip
end Go.Proofs
