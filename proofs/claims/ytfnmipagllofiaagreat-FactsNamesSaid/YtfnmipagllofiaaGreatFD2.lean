/- The layings of the library functions on spans, datoms. No condition. -/
import Derived.Test.YtfnmipagllofiaaGreatOps22
import Derived.Test.YtfnmipagllofiaaGreatOps23
import Derived.Test.YtfnmipagllofiaaGreatFInst
import Derived.Test.YtfnmipagllofiaaGreatFD1
import Derived.Test.YtfnmipagllofiaaGreatOps14
import Derived.Test.YtfnmipagllofiaaGreatOps15
namespace Go.Proofs
open Go.Shelf
def Tryz.laysSS_ren : Go.Shelf.Ren := ⟨fun | 6 => 131 | 15 => 96 | 14 => 142 | 28 => 120 | 29 => 121 | 20 => 144 | 21 => 145 | 22 => 146 | 23 => 147 | 24 => 148 | 25 => 149 | 26 => 150 | 27 => 151 | 46 => 152 | 47 => 135 | 48 => 136 | 49 => 153 | 50 => 154 | 57 => 155 | n => n, fun | 22 => 40 | 24 => 69 | 25 => 160 | 3 => 3 | 39 => 109 | 0 => 0 | 53 => 150 | 55 => 152 | 4 => 4 | 46 => 144 | 45 => 143 | 50 => 78 | 5 => 5 | 9 => 9 | 66 => 163 | 70 => 167 | 76 => 171 | 77 => 172 | n => n, fun | n => n⟩
theorem Tryz.laysSS : Go.Proofs.SlLaysF0.n6 Tryz.prog Tryz.laysSS_ren := {
  mixed := by kernel_rfl
  f6 := ⟨Tryz.f131.name, by decide, Tryz.func131.trans (congrArg some (by kernel_rfl))⟩
  f14 := ⟨Tryz.f142.name, by decide, Tryz.func142.trans (congrArg some (by kernel_rfl))⟩
  f15 := Tryz.func96.trans (congrArg some (by kernel_rfl))
  f20 := ⟨Tryz.f144.name, by decide, Tryz.func144.trans (congrArg some (by kernel_rfl))⟩
  f21 := ⟨Tryz.f145.name, by decide, Tryz.func145.trans (congrArg some (by kernel_rfl))⟩
  f22 := ⟨Tryz.f146.name, by decide, Tryz.func146.trans (congrArg some (by kernel_rfl))⟩
  f23 := ⟨Tryz.f147.name, by decide, Tryz.func147.trans (congrArg some (by kernel_rfl))⟩
  f24 := ⟨Tryz.f148.name, by decide, Tryz.func148.trans (congrArg some (by kernel_rfl))⟩
  f25 := ⟨Tryz.f149.name, by decide, Tryz.func149.trans (congrArg some (by kernel_rfl))⟩
  f26 := ⟨Tryz.f150.name, by decide, Tryz.func150.trans (congrArg some (by kernel_rfl))⟩
  f27 := ⟨Tryz.f151.name, by decide, Tryz.func151.trans (congrArg some (by kernel_rfl))⟩
  f28 := Tryz.func120.trans (congrArg some (by kernel_rfl))
  f29 := Tryz.func121.trans (congrArg some (by kernel_rfl))
  f46 := ⟨Tryz.f152.name, by decide, Tryz.func152.trans (congrArg some (by kernel_rfl))⟩
  f47 := Tryz.func135.trans (congrArg some (by kernel_rfl))
  f48 := Tryz.func136.trans (congrArg some (by kernel_rfl))
  f49 := ⟨Tryz.f153.name, by decide, Tryz.func153.trans (congrArg some (by kernel_rfl))⟩
  f50 := ⟨Tryz.f154.name, by decide, Tryz.func154.trans (congrArg some (by kernel_rfl))⟩
  f57 := ⟨Tryz.f155.name, by decide, Tryz.func155.trans (congrArg some (by kernel_rfl))⟩
  t0 := Tryz.underlying0
  a0 := Tryz.isAgg0
  z0 := Tryz.sizeOf0
  v0 := Tryz.zeroValue0
  t3 := Tryz.underlying3
  a3 := Tryz.isAgg3
  z3 := Tryz.sizeOf3
  v3 := Tryz.zeroValue3
  t4 := Tryz.underlying4
  a4 := Tryz.isAgg4
  z4 := Tryz.sizeOf4
  v4 := Tryz.zeroValue4
  t5 := Tryz.underlying5
  a5 := Tryz.isAgg5
  z5 := Tryz.sizeOf5
  v5 := Tryz.zeroValue5
  t9 := Tryz.underlying9
  a9 := Tryz.isAgg9
  z9 := Tryz.sizeOf9
  v9 := Tryz.zeroValue9
  t22 := Tryz.underlying40
  a22 := Tryz.isAgg40
  z22 := Tryz.sizeOf40
  v22 := Tryz.zeroValue40
  t25 := Tryz.underlying160
  a25 := Tryz.isAgg160
  z25 := Tryz.sizeOf160
  v25 := Tryz.zeroValue160
  t39 := Tryz.underlying109
  a39 := Tryz.isAgg109
  z39 := Tryz.sizeOf109
  v39 := Tryz.zeroValue109
  t45 := Tryz.underlying143
  a45 := Tryz.isAgg143
  z45 := Tryz.sizeOf143
  v45 := Tryz.zeroValue143
  t46 := Tryz.underlying144
  a46 := Tryz.isAgg144
  z46 := Tryz.sizeOf144
  v46 := Tryz.zeroValue144
  t50 := Tryz.underlying78
  a50 := Tryz.isAgg78
  z50 := Tryz.sizeOf78
  v50 := Tryz.zeroValue78
  t53 := Tryz.underlying150
  a53 := Tryz.isAgg150
  z53 := Tryz.sizeOf150
  v53 := Tryz.zeroValue150
  t55 := Tryz.underlying152
  a55 := Tryz.isAgg152
  z55 := Tryz.sizeOf152
  v55 := Tryz.zeroValue152
  t66 := Tryz.underlying163
  a66 := Tryz.isAgg163
  z66 := Tryz.sizeOf163
  v66 := Tryz.zeroValue163
  t70 := Tryz.underlying167
  a70 := Tryz.isAgg167
  z70 := Tryz.sizeOf167
  v70 := Tryz.zeroValue167
  t76 := Tryz.underlying171
  a76 := Tryz.isAgg171
  z76 := Tryz.sizeOf171
  v76 := Tryz.zeroValue171
  t77 := Tryz.underlying172
  a77 := Tryz.isAgg172
  z77 := Tryz.sizeOf172
  v77 := Tryz.zeroValue172 }
def Tryz.laysGS_ren : Go.Shelf.Ren := ⟨fun | 4 => 133 | n => n, fun | 22 => 40 | 25 => 69 | 3 => 3 | 4 => 4 | 9 => 9 | 20 => 20 | 0 => 0 | 2 => 2 | n => n, fun | n => n⟩
theorem Tryz.laysGS : Go.Proofs.Lays8.n4 Tryz.prog Tryz.laysGS_ren := {
  mixed := by kernel_rfl
  f4 := ⟨Tryz.f133.name, by decide, Tryz.func133.trans (congrArg some (by kernel_rfl))⟩
  t0 := Tryz.underlying0
  a0 := Tryz.isAgg0
  z0 := Tryz.sizeOf0
  v0 := Tryz.zeroValue0
  t3 := Tryz.underlying3
  a3 := Tryz.isAgg3
  z3 := Tryz.sizeOf3
  v3 := Tryz.zeroValue3
  t4 := Tryz.underlying4
  a4 := Tryz.isAgg4
  z4 := Tryz.sizeOf4
  v4 := Tryz.zeroValue4
  t9 := Tryz.underlying9
  a9 := Tryz.isAgg9
  z9 := Tryz.sizeOf9
  v9 := Tryz.zeroValue9
  t20 := Tryz.underlying20
  a20 := Tryz.isAgg20
  z20 := Tryz.sizeOf20
  v20 := Tryz.zeroValue20
  t22 := Tryz.underlying40
  a22 := Tryz.isAgg40
  z22 := Tryz.sizeOf40
  v22 := Tryz.zeroValue40 }
end Go.Proofs

namespace Go.Proofs
open Go.Shelf
def Tryz.laysSD_ren : Go.Shelf.Ren := ⟨fun | 6 => 72 | 15 => 96 | 14 => 95 | 28 => 120 | 29 => 121 | 20 => 112 | 21 => 113 | 22 => 114 | 23 => 115 | 24 => 116 | 25 => 117 | 26 => 118 | 27 => 119 | 46 => 134 | 47 => 135 | 48 => 136 | 49 => 137 | 50 => 138 | 57 => 143 | n => n, fun | 22 => 31 | 24 => 52 | 25 => 108 | 3 => 3 | 39 => 109 | 0 => 0 | 53 => 150 | 55 => 152 | 4 => 4 | 46 => 144 | 45 => 143 | 50 => 78 | 5 => 5 | 9 => 9 | 66 => 163 | 70 => 167 | 76 => 171 | 77 => 172 | n => n, fun | n => n⟩
theorem Tryz.laysSD : Go.Proofs.SlLaysF0.n6 Tryz.prog Tryz.laysSD_ren := {
  mixed := by kernel_rfl
  f6 := ⟨Tryz.f72.name, by decide, Tryz.func72.trans (congrArg some (by kernel_rfl))⟩
  f14 := ⟨Tryz.f95.name, by decide, Tryz.func95.trans (congrArg some (by kernel_rfl))⟩
  f15 := Tryz.func96.trans (congrArg some (by kernel_rfl))
  f20 := ⟨Tryz.f112.name, by decide, Tryz.func112.trans (congrArg some (by kernel_rfl))⟩
  f21 := ⟨Tryz.f113.name, by decide, Tryz.func113.trans (congrArg some (by kernel_rfl))⟩
  f22 := ⟨Tryz.f114.name, by decide, Tryz.func114.trans (congrArg some (by kernel_rfl))⟩
  f23 := ⟨Tryz.f115.name, by decide, Tryz.func115.trans (congrArg some (by kernel_rfl))⟩
  f24 := ⟨Tryz.f116.name, by decide, Tryz.func116.trans (congrArg some (by kernel_rfl))⟩
  f25 := ⟨Tryz.f117.name, by decide, Tryz.func117.trans (congrArg some (by kernel_rfl))⟩
  f26 := ⟨Tryz.f118.name, by decide, Tryz.func118.trans (congrArg some (by kernel_rfl))⟩
  f27 := ⟨Tryz.f119.name, by decide, Tryz.func119.trans (congrArg some (by kernel_rfl))⟩
  f28 := Tryz.func120.trans (congrArg some (by kernel_rfl))
  f29 := Tryz.func121.trans (congrArg some (by kernel_rfl))
  f46 := ⟨Tryz.f134.name, by decide, Tryz.func134.trans (congrArg some (by kernel_rfl))⟩
  f47 := Tryz.func135.trans (congrArg some (by kernel_rfl))
  f48 := Tryz.func136.trans (congrArg some (by kernel_rfl))
  f49 := ⟨Tryz.f137.name, by decide, Tryz.func137.trans (congrArg some (by kernel_rfl))⟩
  f50 := ⟨Tryz.f138.name, by decide, Tryz.func138.trans (congrArg some (by kernel_rfl))⟩
  f57 := ⟨Tryz.f143.name, by decide, Tryz.func143.trans (congrArg some (by kernel_rfl))⟩
  t0 := Tryz.underlying0
  a0 := Tryz.isAgg0
  z0 := Tryz.sizeOf0
  v0 := Tryz.zeroValue0
  t3 := Tryz.underlying3
  a3 := Tryz.isAgg3
  z3 := Tryz.sizeOf3
  v3 := Tryz.zeroValue3
  t4 := Tryz.underlying4
  a4 := Tryz.isAgg4
  z4 := Tryz.sizeOf4
  v4 := Tryz.zeroValue4
  t5 := Tryz.underlying5
  a5 := Tryz.isAgg5
  z5 := Tryz.sizeOf5
  v5 := Tryz.zeroValue5
  t9 := Tryz.underlying9
  a9 := Tryz.isAgg9
  z9 := Tryz.sizeOf9
  v9 := Tryz.zeroValue9
  t22 := Tryz.underlying31
  a22 := Tryz.isAgg31
  z22 := Tryz.sizeOf31
  v22 := Tryz.zeroValue31
  t25 := Tryz.underlying108
  a25 := Tryz.isAgg108
  z25 := Tryz.sizeOf108
  v25 := Tryz.zeroValue108
  t39 := Tryz.underlying109
  a39 := Tryz.isAgg109
  z39 := Tryz.sizeOf109
  v39 := Tryz.zeroValue109
  t45 := Tryz.underlying143
  a45 := Tryz.isAgg143
  z45 := Tryz.sizeOf143
  v45 := Tryz.zeroValue143
  t46 := Tryz.underlying144
  a46 := Tryz.isAgg144
  z46 := Tryz.sizeOf144
  v46 := Tryz.zeroValue144
  t50 := Tryz.underlying78
  a50 := Tryz.isAgg78
  z50 := Tryz.sizeOf78
  v50 := Tryz.zeroValue78
  t53 := Tryz.underlying150
  a53 := Tryz.isAgg150
  z53 := Tryz.sizeOf150
  v53 := Tryz.zeroValue150
  t55 := Tryz.underlying152
  a55 := Tryz.isAgg152
  z55 := Tryz.sizeOf152
  v55 := Tryz.zeroValue152
  t66 := Tryz.underlying163
  a66 := Tryz.isAgg163
  z66 := Tryz.sizeOf163
  v66 := Tryz.zeroValue163
  t70 := Tryz.underlying167
  a70 := Tryz.isAgg167
  z70 := Tryz.sizeOf167
  v70 := Tryz.zeroValue167
  t76 := Tryz.underlying171
  a76 := Tryz.isAgg171
  z76 := Tryz.sizeOf171
  v76 := Tryz.zeroValue171
  t77 := Tryz.underlying172
  a77 := Tryz.isAgg172
  z77 := Tryz.sizeOf172
  v77 := Tryz.zeroValue172 }
end Go.Proofs

namespace Go.Proofs
open Go.AL Go.Sort
attribute [local irreducible] Go.AL.W Go.AL.WL Go.AL.WD Go.AL.POp Go.AL.PPOp Go.AL.POpS Go.AL.PC Go.AL.AC Go.AL.YW Go.AL.Ret Go.AL.Le Go.AL.thn Go.AL.inBlk Go.AL.scp
instance : Inhabited Val := ⟨val0⟩
theorem take_map_len {α β : Type} (l : List α) (f : α → β) : (l.map f).take l.length = l.map f := List.take_of_length_le (by simp)
def encD (d : Dat) : List Value := [.int .i64 d.e, .int .i64 d.a, .int .i64 d.v.kind, .int .i64 d.v.n, .string ⟨d.v.s.toArray⟩, .int .i64 d.t, .bool d.add, .int .i64 d.fr, .int .i64 d.to]
instance : Inhabited Dat := ⟨dat0⟩
theorem dC_enc (d : Dat) : dC d = (encD d).map .sc := rfl
theorem dC_len (d : Dat) : (dC d).length = 9 := rfl
theorem encD_inj {a b : Dat} (h : encD a = encD b) : a = b := by
  obtain ⟨e, c, ⟨k, n, s⟩, t, ad, fr, to⟩ := a
  obtain ⟨e', c', ⟨k', n', s'⟩, t', ad', fr', to'⟩ := b
  simp [encD] at h
  obtain ⟨h1, h2, h3, h4, h5, h6, h7, h8, h9⟩ := h
  subst h1; subst h2; subst h3; subst h4; subst h5; subst h6; subst h7; subst h8; subst h9; rfl
theorem sortD_ac [GlobF Tryz.prog] {h : List AObj} {r : Nat} {l : List Dat} {sp : List AV} (o : Int) (ho : 1 ≤ o ∧ o ≤ 4) (hr : h[r]? = some (.cells ((l.map dC).flatten ++ sp))) (hne : 0 < l.length) (hl : l.length < 4611686018427387904) :
    AC Tryz.prog 72 [.mr r 0 l.length, .fn (.func 73) [] [.ep [.sc (.int .i64 o)]]] h (fun v h' => v = .tu [] ∧ h' = h.set r (.cells (((l.mergeSort fun x y => !(ltOf (cmpD o) y x)).map dC).flatten ++ sp))) :=
  sort_ac Tryz.laysSD Tryz.isAgg52 Tryz.sizeOf52 encD dC dC_enc (fun _ => rfl) (fun x v hv => by simp [encD] at hv; rcases hv with rfl | rfl | rfl | rfl | rfl | rfl | rfl | rfl | rfl <;> rfl) (cmpD o) (wc_cmpD o).swo (ltOf_tot (wc_cmpD o) (cmpD_z o)) 73 [.ep [.sc (.int .i64 o)]] _
    (fun G v hv => fn_inv hv ⟨Le.of_eq rfl, trivial⟩) (fun x y => ordc_pc o ho x y) hr hne hl
theorem sortD_ac' [GlobF Tryz.prog] {h : List AObj} {r n : Nat} {l : List Dat} {sp : List AV} (o : Int) (ho : 1 ≤ o ∧ o ≤ 4) (hn : l.length = n) (hr : h[r]? = some (.cells ((l.map dC).flatten ++ sp))) (hl : l.length < 4611686018427387904) :
    AC Tryz.prog 72 [.mr r 0 n, .fn (.func 73) [] [.ep [.sc (.int .i64 o)]]] h (fun v h' => v = .tu [] ∧ h' = h.set r (.cells (((l.mergeSort fun x y => !(ltOf (cmpD o) y x)).map dC).flatten ++ sp))) := by
  subst hn
  rcases Nat.eq_zero_or_pos l.length with h0 | h0
  · have e : l = [] := List.length_eq_zero_iff.1 h0
    subst e
    have e2 : ([] : List Dat).mergeSort (fun x y => !(ltOf (cmpD o) y x)) = [] := List.length_eq_zero_iff.1 (List.length_mergeSort _)
    rw [e2]
    have := sort_none_ac Tryz.laysSD r 0 (.fn (.func 73) [] [.ep [.sc (.int .i64 o)]]) h
    rw [set_self hr]; exact this
  · exact sortD_ac o ho hr h0 hl
theorem filt_succ {α : Type} (p : α → Bool) (l : List α) (j : Nat) (h : j < l.length) : (l.take (j + 1)).filter p = (l.take j).filter p ++ (if p l[j] then [l[j]] else []) := by
  rw [List.take_succ_eq_append_getElem h, List.filter_append]
  congr 1
  simp only [List.filter_cons, List.filter_nil]
def indexI (p : Dat → Bool) : List Dat → Int
  | [] => -1
  | x :: t => if p x then (if indexI p t = -1 then -1 else indexI p t + 1) else 0
theorem indexI_all (p : Dat → Bool) : ∀ l : List Dat, (∀ (j : Nat) (h : j < l.length), p l[j] = true) → indexI p l = -1
  | [], _ => rfl
  | x :: t, h => by
    have h0 : p x = true := h 0 (by simp)
    have ih := indexI_all p t fun j hj => h (j + 1) (by simpa using hj)
    simp only [indexI]; rw [if_pos h0, if_pos ih]
theorem indexI_at (p : Dat → Bool) : ∀ (l : List Dat) (n : Nat) (hn : n < l.length), (∀ (j : Nat) (h : j < l.length), j < n → p l[j] = true) → p l[n] = false → indexI p l = n
  | [], n, hn, _, _ => by simp at hn
  | x :: t, 0, _, _, h => by simp only [List.getElem_cons_zero] at h; simp only [indexI]; rw [if_neg (by rw [h]; decide)]; rfl
  | x :: t, n + 1, hn, hj, h => by
    have h0 : p x = true := hj 0 (by simp) (by omega)
    have ih := indexI_at p t n (by simpa using hn) (fun j hj' hlt => by
      have := hj (j + 1) (by simpa using hj') (by omega)
      simpa using this) (by simpa using h)
    simp only [indexI]; rw [if_pos h0, ih, if_neg (by omega)]; omega
set_option maxHeartbeats 8000000 in
theorem indexD_ac [GlobF Tryz.prog] {h : List AObj} {r : Nat} {l : List Dat} {sp : List AV} (o : Int) (hr : h[r]? = some (.cells ((l.map dC).flatten ++ sp))) (hl : l.length < 4611686018427387904) :
    AC Tryz.prog 89 [.mr r 0 l.length, .fn (.func 70) [] [.ep [.sc (.int .i64 o)]]] h (fun v h' => v = .sc (.int .i64 (indexI (hasB o) l)) ∧ h' = h) := by
  refine AC.of_body Tryz.func89 Tryz.ntmps89 rfl rfl rfl ?_
  repeat' first
    | (apply p1 (hd := rfl); case hop => first | (apply D_move; rfl) | (apply D_assign; rfl) | (apply D_lenR; rfl))
    | refine W_seq ?_
    | refine W_region ?_
    | refine WL_nil ?_
    | refine tn ?_
    | refine W_block ?_
    | fail
  refine W_loopL (X := Nat) (fun i => [(0, .mr r 0 l.length), (1, .fn (.func 70) [] [.ep [.sc (.int .i64 o)]]), (7, .sc (.int .i64 (l.length : Int))), (8, .sc (.int .i64 (i : Int)))]) (fun _ => h)
    (fun i => i ≤ l.length ∧ ∀ (j : Nat) (h : j < l.length), j < i → hasB o l[j] = true) (fun i => l.length - i) 0 ⟨Nat.zero_le _, fun j h hj => absurd hj (Nat.not_lt_zero j)⟩ ⟨rfl, rfl, rfl, rfl, trivial⟩ rfl ?_
  rintro i ⟨hi, hz⟩
  repeat' first
    | (apply p1 (hd := rfl); case hop => first | (apply D_move; rfl) | (apply D_assign; rfl) | (apply D_int; rfl; rfl; rfl) | (apply D_ixRn; rfl; rfl; (first | omega | (simp; done))))
    | refine W_seq ?_
    | refine W_region ?_
    | (refine idC ?_; refine cs rfl (fun _ => ?_) (fun _ => ?_))
    | refine WL_nil ?_
    | refine tn ?_
    | refine te ?_
    | (refine idB ?_; refine bh rfl ?_)
    | refine W_skip ?_
    | refine W_block ?_
    | refine W_exit ?_
    | refine W_ret ?_
    | fail
  · have hi1 : i < l.length := by omega
    have he1 : 0 + i * 9 = i * 9 := Nat.zero_add _
    repeat' first
      | (refine p1L (d := 15) (D_loadRA (i := i) rfl hr dC_len hi1 he1) rfl ?_)
      | (apply p1 (hd := rfl); case hop => first | (apply D_move; rfl) | (apply D_assign; rfl) | (apply D_add1; rfl; rfl; omega) | (apply D_pcC (ys := [eD l[i]]) (ys' := [.ep [.sc (.int .i64 o)]]) (dele_pc o l[i]); rfl; exact .same rfl .nil; exact ⟨Le.of_eq rfl, trivial⟩))
      | refine W_seq ?_
      | refine W_region ?_
      | (refine idC ?_; refine cs rfl (fun _ => ?_) (fun _ => ?_))
      | refine WL_nil ?_
      | refine tn ?_
      | refine tr ?_
      | refine br ?_
      | refine bn ?_
      | refine W_skip ?_
      | refine W_ret ?_
      | fail
    · rename_i hx
      have hx' : hasB o l[i] = false := by simpa using hx
      exact retK1 (.inl rfl) rfl rfl (ResO.tmp rfl) ⟨by rw [indexI_at (hasB o) l i hi1 hz hx'], rfl⟩
    · rename_i hx
      have hx' : hasB o l[i] = true := by simpa using hx
      refine ⟨rfl, i + 1, ⟨by omega, fun j h hj => ?_⟩, by omega, ⟨rfl, rfl, rfl, rfl, trivial⟩, rfl⟩
      by_cases e : j = i
      · subst e; exact hx'
      · exact hz j h (by omega)
  · have hend : i = l.length := by omega
    exact retK1 (.inl rfl) rfl rfl (ResO.tmp rfl) ⟨by rw [indexI_all (hasB o) l fun j h => hz j h (by omega)], rfl⟩
set_option maxHeartbeats 4000000 in
theorem cloneD_ac [GlobF Tryz.prog] {h : List AObj} {tok : Option Nat} (l : List Dat) (hne : 0 < l.length) (hl : l.length < 1759218604500) :
    AC Tryz.prog 56 [.sl tok 9 (l.map dC)] h (fun v h' => ∃ sp, v = .mr (h.length + 1) 0 l.length ∧ h' = h ++ [.dead, .cells ((l.map dC).flatten ++ sp)]) := by
  have hnn : l.map dC ≠ [] := by cases l with | nil => simp at hne | cons a l => simp
  refine AC.of_body Tryz.func56 Tryz.ntmps56 rfl rfl rfl ?_
  repeat' first
    | (refine m_slnil rfl rfl ?_; rintro b hb)
    | refine m_lit (d := 5) rfl rfl rfl rfl rfl rfl ?_
    | (refine m_appRB (d := 7) rfl rfl get_last hnn rfl (.inr (by rw [List.length_map]; omega)) (by rw [List.length_map]; omega) rfl ?_; intro sp)
    | (apply p1 (hd := rfl); case hop => first | (apply D_move; rfl) | (apply D_assign; rfl))
    | refine W_seq ?_
    | refine W_region ?_
    | (refine idC ?_; refine cs rfl (fun _ => ?_) (fun _ => ?_))
    | refine WL_nil ?_
    | refine tn ?_
    | refine tr ?_
    | refine W_skip ?_
    | refine W_ret ?_
    | fail
  · rename_i hb'
    first
      | exact absurd (hb hb') hnn
      | exact absurd (hb rfl) hnn
  · exact retK1 (.inl rfl) rfl rfl (ResO.tmp rfl) ⟨sp, by simp, by simp⟩
attribute [local irreducible] compL in
set_option maxHeartbeats 16000000 in
theorem compactD_ac [GlobF Tryz.prog] {h : List AObj} {r : Nat} {l : List Dat} {sp : List AV} (hr : h[r]? = some (.cells ((l.map dC).flatten ++ sp))) (hl : l.length < 4611686018427387904) :
    AC Tryz.prog 75 [.mr r 0 l.length] h (fun v h' => ∃ sp', v = .mr r 0 (compL l).length ∧ h' = h.set r (.cells (((compL l).map dC).flatten ++ sp'))) := by
  refine AC.of_body Tryz.func75 Tryz.ntmps75 rfl rfl rfl ?_
  repeat' first
    | (apply p1 (hd := rfl); case hop => first | (apply D_move; rfl) | (apply D_assign; rfl) | (apply D_int; rfl; rfl; rfl) | (apply D_lenR; rfl))
    | refine W_seq ?_
    | refine W_region ?_
    | (refine idC ?_; refine cs rfl (fun _ => ?_) (fun _ => ?_))
    | refine WL_nil ?_
    | refine tn ?_
    | refine tr ?_
    | refine W_skip ?_
    | refine W_block ?_
    | refine W_ret ?_
    | fail
  · rename_i h1
    have e : compL l = l := by
      match l, h1 with
      | [], _ => unfold compL; rfl
      | [x], _ => unfold compL; rfl
      | _ :: _ :: _, h1 => simp at h1; omega
    exact retK1 (.inl rfl) rfl rfl (ResO.tmp rfl) ⟨sp, by rw [e], by rw [e]; exact (set_self hr).symm⟩
  rename_i h1
  refine W_loopL (X := Nat) (fun j => [(0, .mr r 0 l.length), (3, .sc (.int .i64 ((j + 1 : Nat) : Int)))]) (fun _ => h)
    (fun j => j + 1 ≤ l.length ∧ compL (l.take (j + 1)) = l.take (j + 1)) (fun j => l.length - j) 0 ⟨by omega, by
      match l, h1 with
      | x :: t, _ => unfold compL; rfl⟩ ⟨rfl, rfl, trivial⟩ rfl ?_
  rintro j ⟨hj, hcj⟩
  repeat' first
    | (apply p1 (hd := rfl); case hop => first | (apply D_move; rfl) | (apply D_assign; rfl) | (apply D_int; rfl; rfl; rfl) | (apply D_lenR; rfl))
    | refine W_seq ?_
    | refine W_region ?_
    | (refine idC ?_; refine cs rfl (fun _ => ?_) (fun _ => ?_))
    | refine WL_nil ?_
    | refine tn ?_
    | refine te ?_
    | (refine idB ?_; refine bh rfl ?_)
    | refine W_skip ?_
    | refine W_block ?_
    | refine W_exit ?_
    | refine W_ret ?_
    | (refine idW ?_; refine W_draw0 rfl ?_)
    | (apply d1 (hd := rfl); case hop => first | (apply D_move; rfl) | (apply D_ixRn; rfl; rfl; (first | omega | (simp; done))))
    | fail
  · have hi1 : j + 1 < l.length := by omega
    have hi0 : j < l.length := by omega
    have he1 : 0 + (j + 1) * 9 = (j + 1) * 9 := Nat.zero_add _
    have he0 : 0 + j * 9 = j * 9 := Nat.zero_add _
    have hct := compL_take l j hi1
    repeat' first
      | (refine dL (d := 19) _ (fun _ hs => D_loadRA (i := j + 1) rfl (hs.trans hr) dC_len hi1 he1) rfl ?_)
      | (refine dL (d := 24) _ (fun _ hs => D_loadRA (i := j) rfl (hs.trans hr) dC_len hi0 he0) rfl ?_)
      | (apply p1 (hd := rfl); case hop => first | (apply D_move; rfl) | (apply D_assign; rfl) | (apply D_add1; rfl; rfl; omega) | (apply D_slRl; rfl; rfl; all_goals first | omega | ((repeat rw [w64 _ (by omega) (by omega)]); omega) | decide))
      | refine W_seq ?_
      | refine W_region ?_
      | (refine idC ?_; refine cs rfl (fun _ => ?_) (fun _ => ?_))
      | refine WL_nil ?_
      | refine tn ?_
      | refine bn ?_
      | refine W_skip ?_
      | refine W_block ?_
      | (apply d1 (hd := rfl); case hop => first | (apply D_move; rfl) | (apply D_sub1; rfl; rfl; omega) | (apply D_ixRn; rfl; rfl; (first | omega | (simp; done))) | exact D_eqA rfl rfl rfl rfl rfl rfl rfl)
      | refine WD_nil (by first | decide +kernel | kernel_rfl | rfl) ?_
      | fail
    · rename_i heq
      have hxy : l[j + 1] = l[j] := encD_inj heq
      rw [if_pos hxy.symm, List.append_nil, hcj] at hct
      refine W_loopL (X := Nat × Nat × List Dat) (fun x => [(0, .mr r 0 l.length), (3, .sc (.int .i64 (x.1 : Int))), (4, .mr r (0 + (j + 1) * 9) (l.length - (j + 1))), (5, .sc (.int .i64 ((x.2.1 + 1 : Nat) : Int)))]) (fun x => h.set r (.cells ((x.2.2.map dC).flatten ++ sp)))
        (fun x => j + 1 + x.2.1 + 1 ≤ l.length ∧ x.2.2.length = l.length ∧ x.1 ≤ j + 1 + x.2.1 ∧ compL (l.take (j + 1 + x.2.1 + 1)) = x.2.2.take x.1 ∧ x.2.2.drop (j + 1 + x.2.1) = l.drop (j + 1 + x.2.1)) (fun x => l.length - x.2.1) (j + 1, 0, l) ⟨by dsimp only; omega, rfl, by dsimp only; omega, hct, rfl⟩ ⟨rfl, rfl, rfl, rfl, trivial⟩ (set_self hr) ?_
      rintro ⟨k, q, R⟩ ⟨g1, g2, g3, g4, g5⟩
      dsimp only at g1 g2 g3 g4 g5 ⊢
      have hr2 : (h.set r (.cells ((R.map dC).flatten ++ sp)))[r]? = some (.cells ((R.map dC).flatten ++ sp)) := get_set hr
      repeat' first
        | (apply p1 (hd := rfl); case hop => first | (apply D_move; rfl) | (apply D_int; rfl; rfl; rfl) | (apply D_lenR; rfl) | (apply D_slRl; rfl; rfl; all_goals first | omega | ((repeat rw [w64 _ (by omega) (by omega)]); omega) | decide))
        | refine W_seq ?_
        | refine W_region ?_
        | (refine idC ?_; refine cs rfl (fun _ => ?_) (fun _ => ?_))
        | refine WL_nil ?_
        | refine tn ?_
        | refine te ?_
        | (refine idB ?_; refine bh rfl ?_)
        | refine W_skip ?_
        | refine W_block ?_
        | refine W_exit ?_
        | (refine idW ?_; refine W_draw0 rfl ?_)
        | (apply d1 (hd := rfl); case hop => first | (apply D_move; rfl) | (apply D_ixRn; rfl; rfl; (first | omega | (simp; done))))
        | fail
      · have hq1 : j + 1 + q + 1 < R.length := by omega
        have hq0 : j + 1 + q < R.length := by omega
        have hkR : k < R.length := by omega
        have he1 : 0 + (j + 1) * 9 + (q + 1) * 9 = (j + 1 + q + 1) * 9 := by omega
        have he0 : 0 + (j + 1) * 9 + q * 9 = (j + 1 + q) * 9 := by omega
        have hek : 0 + k * 9 = k * 9 := Nat.zero_add _
        have hR1 : R[j + 1 + q + 1] = l[j + 1 + q + 1]'(by omega) := by
          have := congrArg (·[1]?) g5
          simp only [List.getElem?_drop] at this
          rw [List.getElem?_eq_getElem hq1, List.getElem?_eq_getElem (by omega)] at this
          exact Option.some.inj this
        have hR0 : R[j + 1 + q] = l[j + 1 + q]'(by omega) := by
          have := congrArg (·[0]?) g5
          simp only [List.getElem?_drop, Nat.add_zero] at this
          rw [List.getElem?_eq_getElem hq0, List.getElem?_eq_getElem (by omega)] at this
          exact Option.some.inj this
        have hct2 := compL_take l (j + 1 + q) (by omega)
        repeat' first
          | (refine dL (d := 38) _ (fun _ hs => D_loadRA (i := j + 1 + q + 1) rfl (hs.trans hr2) dC_len hq1 he1) rfl ?_)
          | (refine dL (d := 43) _ (fun _ hs => D_loadRA (i := j + 1 + q) rfl (hs.trans hr2) dC_len hq0 he0) rfl ?_)
          | (refine p1L (d := 50) (D_loadRA (i := j + 1 + q + 1) rfl hr2 dC_len hq1 he1) rfl ?_)
          | (refine pS (S_storeR (i := k) (a := R[j + 1 + q + 1]) rfl rfl hr2 dC_len rfl hkR hek) ?_)
          | (apply p1 (hd := rfl); case hop => first | (apply D_move; rfl) | (apply D_assign; rfl) | (apply D_add1; rfl; rfl; omega) | (apply D_ixRn; rfl; rfl; (first | omega | (simp; done))))
          | refine W_seq ?_
          | refine W_region ?_
          | (refine idC ?_; refine cs rfl (fun _ => ?_) (fun _ => ?_))
          | refine WL_nil ?_
          | refine tn ?_
          | refine bn ?_
          | refine W_skip ?_
          | (apply d1 (hd := rfl); case hop => first | (apply D_move; rfl) | (apply D_sub1; rfl; rfl; omega) | (apply D_ixRn; rfl; rfl; (first | omega | (simp; done))) | exact D_neA rfl rfl rfl rfl rfl rfl rfl)
          | refine WD_nil (by first | decide +kernel | kernel_rfl | rfl) ?_
          | fail
        · rename_i hne
          have hxy : l[j + 1 + q]'(by omega) ≠ l[j + 1 + q + 1]'(by omega) := fun e => hne (by rw [hR1, hR0, e])
          rw [if_neg hxy, g4] at hct2
          refine ⟨rfl, (k + 1, q + 1, R.set k R[j + 1 + q + 1]), ⟨by dsimp only; omega, by simp [g2], by dsimp only; omega, ?_, ?_⟩, by dsimp only; omega, ⟨rfl, rfl, rfl, rfl, trivial⟩, by rw [List.set_set]⟩
          · dsimp only
            rw [show j + 1 + (q + 1) + 1 = j + 1 + q + 2 by omega, hct2, List.take_succ_eq_append_getElem (by simpa using hkR), List.take_set_of_le (Nat.le_refl _), List.getElem_set_self, hR1]
          · dsimp only
            rw [List.drop_set_of_lt (by omega), show j + 1 + (q + 1) = (j + 1 + q) + 1 by omega, ← List.drop_drop, g5, List.drop_drop]
        · rename_i heq
          have hxy : l[j + 1 + q]'(by omega) = l[j + 1 + q + 1]'(by omega) := by rw [← hR1, ← hR0]; exact (encD_inj heq).symm
          rw [if_pos hxy, List.append_nil, g4] at hct2
          refine ⟨rfl, (k, q + 1, R), ⟨by dsimp only; omega, g2, by dsimp only; omega, ?_, ?_⟩, by dsimp only; omega, ⟨rfl, rfl, rfl, rfl, trivial⟩, rfl⟩
          · dsimp only
            rw [show j + 1 + (q + 1) + 1 = j + 1 + q + 2 by omega, hct2]
          · dsimp only
            rw [show j + 1 + (q + 1) = (j + 1 + q) + 1 by omega, ← List.drop_drop, g5, List.drop_drop]
      · have hend : j + 1 + q + 1 = l.length := by omega
        rw [hend, List.take_length] at g4
        have hkl : k ≤ R.length := by omega
        have hlen : (compL l).length = k := by rw [g4, List.length_take]; omega
        have hcl := row_len (l := R) (f := dC) (k := 9) dC_len sp
        repeat' first
          | (refine pS (S_clear (k := 9) rfl hr2 rfl (by decide) ?_) ?_; focus (rw [hcl]; have := Nat.mul_le_mul_right 3 hkl; omega))
          | (apply p1 (hd := rfl); case hop => first | (apply D_move; rfl) | (apply D_assign; rfl) | (apply D_slRh; rfl; rfl; all_goals first | omega | ((repeat rw [w64 _ (by omega) (by omega)]); omega) | decide))
          | refine W_seq ?_
          | refine W_region ?_
          | refine WL_nil ?_
          | refine tn ?_
          | refine tr ?_
          | refine br ?_
          | refine W_ret ?_
          | fail
        refine retK1 (.inl rfl) rfl rfl (ResO.tmp rfl) ⟨?_, ?_, ?_⟩
        rotate_left 1
        · rw [hlen]; rfl
        rw [List.set_set]
        refine congrArg (fun x => h.set r (AObj.cells x)) ?_
        rw [List.append_assoc]
        refine congrArg (fun x : List AV => x ++ _) ?_
        show ((R.map dC).flatten ++ sp).take (0 + k * 9) = _
        rw [Nat.zero_add, row_take dC_len sp k hkl, g4]
    · rename_i hne
      have hxy : l[j] ≠ l[j + 1] := fun e => hne (by rw [e])
      rw [if_neg hxy, hcj] at hct
      refine ⟨rfl, j + 1, ⟨by omega, ?_⟩, by omega, ⟨rfl, rfl, trivial⟩, rfl⟩
      rw [show j + 1 + 1 = j + 2 by omega, hct]
      exact (List.take_succ_eq_append_getElem hi1).symm
  · have hend : j + 1 = l.length := by omega
    rw [hend, List.take_length] at hcj
    exact retK1 (.inl rfl) rfl rfl (ResO.tmp rfl) ⟨sp, by rw [hcj], by rw [hcj]; exact (set_self hr).symm⟩
theorem compactD_ac' [GlobF Tryz.prog] {h : List AObj} {r n : Nat} {l : List Dat} {sp : List AV} (hn : l.length = n) (hr : h[r]? = some (.cells ((l.map dC).flatten ++ sp))) (hl : l.length < 4611686018427387904) :
    AC Tryz.prog 75 [.mr r 0 n] h (fun v h' => ∃ sp', v = .mr r 0 (compL l).length ∧ h' = h.set r (.cells (((compL l).map dC).flatten ++ sp'))) := by
  subst hn; exact compactD_ac hr hl
theorem indexI_cases (p : Dat → Bool) (l : List Dat) : (indexI p l = -1 ∧ l.filter p = l) ∨ ∃ n : Nat, n < l.length ∧ indexI p l = n ∧ (l.take (n + 1)).filter p = l.take n := by
  induction l with
  | nil => exact .inl ⟨rfl, rfl⟩
  | cons x t ih =>
    cases hp : p x with
    | false => exact .inr ⟨0, by simp, by simp [indexI, hp], by simp [hp]⟩
    | true =>
      rcases ih with ⟨h1, h2⟩ | ⟨n, h1, h2, h3⟩
      · exact .inl ⟨by simp [indexI, hp, h1], by rw [List.filter_cons, hp, if_pos rfl, h2]⟩
      · refine .inr ⟨n + 1, by simpa using h1, ?_, ?_⟩
        · simp only [indexI]; rw [if_pos hp, h2, if_neg (by omega)]; omega
        · rw [List.take_succ_cons, List.filter_cons, hp, if_pos rfl, h3]; rfl
set_option maxHeartbeats 16000000 in
theorem deleteD_ac [GlobF Tryz.prog] {h : List AObj} {r : Nat} {l : List Dat} {sp : List AV} (o : Int) (hr : h[r]? = some (.cells ((l.map dC).flatten ++ sp))) (hl : l.length < 4611686018427387904) :
    AC Tryz.prog 55 [.mr r 0 l.length, .fn (.func 70) [] [.ep [.sc (.int .i64 o)]]] h (fun v h' => ∃ sp', v = .mr r 0 (l.filter (hasB o)).length ∧ h' = h.set r (.cells (((l.filter (hasB o)).map dC).flatten ++ sp'))) := by
  have hx := indexD_ac o hr hl
  rcases indexI_cases (hasB o) l with ⟨e, hf⟩ | ⟨n, hn, e, hf⟩
  · rw [e] at hx
    refine AC.of_body Tryz.func55 Tryz.ntmps55 rfl rfl rfl ?_
    repeat' first
      | (apply p1 (hd := rfl); case hop => first | (apply D_move; rfl) | (apply D_assign; rfl) | (apply D_int; rfl; rfl; rfl))
      | refine W_seq ?_
      | refine W_region ?_
      | (refine idC ?_; refine cs rfl (fun _ => ?_) (fun _ => ?_))
      | refine WL_nil ?_
      | refine tn ?_
      | refine tr ?_
      | refine W_skip ?_
      | refine W_block ?_
      | refine W_ret ?_
      | (refine m_call (d := 10) hx rfl rfl rfl ?_; rintro _ h2 ⟨rfl, hh⟩; have hh := hh.symm; subst hh)
      | fail
    · exact retK1 (.inl rfl) rfl rfl (ResO.tmp rfl) ⟨sp, by rw [hf], by rw [hf]; exact (set_self hr).symm⟩
    all_goals (rename_i h1; exact absurd h1 (by simp))
  rw [e] at hx
  refine AC.of_body Tryz.func55 Tryz.ntmps55 rfl rfl rfl ?_
  repeat' first
    | (apply p1 (hd := rfl); case hop => first | (apply D_move; rfl) | (apply D_assign; rfl) | (apply D_add1; rfl; rfl; omega) | (apply D_int; rfl; rfl; rfl))
    | refine W_seq ?_
    | refine W_region ?_
    | (refine idC ?_; refine cs rfl (fun _ => ?_) (fun _ => ?_))
    | refine WL_nil ?_
    | refine tn ?_
    | refine tr ?_
    | refine W_skip ?_
    | refine W_block ?_
    | refine W_ret ?_
    | (refine m_call (d := 10) hx rfl rfl rfl ?_; rintro _ h2 ⟨rfl, hh⟩; have hh := hh.symm; subst hh)
    | fail
  · exfalso; omega
  refine W_loopL (X := Nat × Nat × List Dat) (fun x => [(0, .mr r 0 l.length), (1, .fn (.func 70) [] [.ep [.sc (.int .i64 o)]]), (5, .sc (.int .i64 (x.1 : Int))), (6, .sc (.int .i64 ((x.2.1 + 1 : Nat) : Int)))]) (fun x => h.set r (.cells ((x.2.2.map dC).flatten ++ sp)))
    (fun x => x.2.1 + 1 ≤ l.length ∧ x.2.2.length = l.length ∧ x.1 ≤ x.2.1 ∧ (l.take (x.2.1 + 1)).filter (hasB o) = x.2.2.take x.1 ∧ x.2.2.drop (x.2.1 + 1) = l.drop (x.2.1 + 1)) (fun x => l.length - x.2.1) (n, n, l) ⟨by dsimp only; omega, rfl, Nat.le_refl _, hf, rfl⟩ ⟨rfl, rfl, rfl, rfl, trivial⟩ (set_self hr) ?_
  rintro ⟨k, q, R⟩ ⟨g1, g2, g3, g4, g5⟩
  dsimp only at g1 g2 g3 g4 g5 ⊢
  have hr2 : (h.set r (.cells ((R.map dC).flatten ++ sp)))[r]? = some (.cells ((R.map dC).flatten ++ sp)) := get_set hr
  repeat' first
    | (apply p1 (hd := rfl); case hop => first | (apply D_move; rfl) | (apply D_int; rfl; rfl; rfl) | (apply D_lenR; rfl) | (apply D_ixRn; rfl; rfl; (first | omega | (simp; done))) | (apply D_slRl; rfl; rfl; all_goals first | omega | ((repeat rw [w64 _ (by omega) (by omega)]); omega) | decide))
    | refine W_seq ?_
    | refine W_region ?_
    | (refine idC ?_; refine cs rfl (fun _ => ?_) (fun _ => ?_))
    | refine WL_nil ?_
    | refine tn ?_
    | refine te ?_
    | (refine idB ?_; refine bh rfl ?_)
    | refine W_skip ?_
    | refine W_block ?_
    | refine W_exit ?_
    | fail
  · have hq1 : q + 1 < R.length := by omega
    have hq2 : q + 1 < l.length := by omega
    have hkR : k < R.length := by omega
    have he1 : 0 + (q + 1) * 9 = (q + 1) * 9 := Nat.zero_add _
    have hek : 0 + k * 9 = k * 9 := Nat.zero_add _
    have hR1 : R[q + 1] = l[q + 1] := by
      have := congrArg (·[0]?) g5
      simp only [List.getElem?_drop, Nat.add_zero] at this
      rw [List.getElem?_eq_getElem hq1, List.getElem?_eq_getElem (by omega)] at this
      exact Option.some.inj this
    have hft := filt_succ (hasB o) l (q + 1) hq2
    rw [g4, ← hR1] at hft
    repeat' first
      | (refine p1L (d := 25) (D_loadRA (i := q + 1) rfl hr2 dC_len hq1 he1) rfl ?_)
      | (refine pS (S_storeR (i := k) (a := R[q + 1]) rfl rfl hr2 dC_len rfl hkR hek) ?_)
      | (apply p1 (hd := rfl); case hop => first | (apply D_move; rfl) | (apply D_assign; rfl) | (apply D_add1; rfl; rfl; omega) | (apply D_pcC (ys := [eD R[q + 1]]) (ys' := [.ep [.sc (.int .i64 o)]]) (dele_pc o R[q + 1]); rfl; exact .same rfl .nil; exact ⟨Le.of_eq rfl, trivial⟩) | (apply D_not; rfl) | (apply D_loadW; rfl; rfl) | (apply D_ixRn; rfl; rfl; (first | omega | (simp; done))))
      | refine W_seq ?_
      | refine W_region ?_
      | (refine idC ?_; refine cs rfl (fun _ => ?_) (fun _ => ?_))
      | refine WL_nil ?_
      | refine tn ?_
      | refine bn ?_
      | refine W_skip ?_
      | (refine idA ?_; refine m_var rfl rfl rfl rfl rfl rfl rfl ?_)
      | fail
    · rename_i hx
      have hx' : hasB o R[q + 1] = true := by simpa using hx
      rw [hx', if_pos rfl] at hft
      refine ⟨rfl, (k + 1, q + 1, R.set k R[q + 1]), ⟨by dsimp only; omega, by simp [g2], by dsimp only; omega, ?_, ?_⟩, by dsimp only; omega, ⟨rfl, rfl, rfl, rfl, trivial⟩, by rw [List.set_set]⟩
      · dsimp only
        rw [hft, List.take_succ_eq_append_getElem (by simpa using hkR), List.take_set_of_le (Nat.le_refl _), List.getElem_set_self]
      · dsimp only
        rw [List.drop_set_of_lt (by omega), ← List.drop_drop, g5, List.drop_drop]
    · rename_i hx
      have hx' : hasB o R[q + 1] = false := by simpa using hx
      rw [hx'] at hft
      simp only [Bool.false_eq_true, if_false, List.append_nil] at hft
      refine ⟨rfl, (k, q + 1, R), ⟨by dsimp only; omega, g2, by dsimp only; omega, hft, ?_⟩, by dsimp only; omega, ⟨rfl, rfl, rfl, rfl, trivial⟩, rfl⟩
      dsimp only
      rw [← List.drop_drop, g5, List.drop_drop]
  · have hend : q + 1 = l.length := by omega
    rw [hend, List.take_length] at g4
    have hkl : k ≤ R.length := by omega
    have hlen : (l.filter (hasB o)).length = k := by rw [g4, List.length_take]; omega
    have hcl := row_len (l := R) (f := dC) (k := 9) dC_len sp
    repeat' first
      | (refine pS (S_clear (k := 9) rfl hr2 rfl (by decide) ?_) ?_; focus (rw [hcl]; have := Nat.mul_le_mul_right 9 hkl; omega))
      | (apply p1 (hd := rfl); case hop => first | (apply D_move; rfl) | (apply D_assign; rfl) | (apply D_slRh; rfl; rfl; all_goals first | omega | ((repeat rw [w64 _ (by omega) (by omega)]); omega) | decide))
      | refine W_seq ?_
      | refine W_region ?_
      | refine WL_nil ?_
      | refine tn ?_
      | refine W_ret ?_
      | fail
    refine retK1 (.inl rfl) rfl rfl (ResO.tmp rfl) ⟨?_, ?_, ?_⟩
    rotate_left 1
    · rw [hlen]; rfl
    rw [List.set_set]
    refine congrArg (fun x => h.set r (AObj.cells x)) ?_
    rw [List.append_assoc]
    refine congrArg (fun x : List AV => x ++ _) ?_
    show ((R.map dC).flatten ++ sp).take (0 + k * 9) = _
    rw [Nat.zero_add, row_take dC_len sp k hkl, g4]
theorem dC_row {l : List Dat} : ∀ e, e ∈ l.map dC → e.length = 9 := fun e he => by obtain ⟨a, _, rfl⟩ := List.mem_map.1 he; rfl
theorem sortD0_pc [GlobF Tryz.prog] (o : Int) : PC Tryz.prog 72 [.sl none 9 [], .fn (.func 73) [] [.ep [.sc (.int .i64 o)]]] (.tu []) := sort_none_pc Tryz.laysSD 9 _
set_option maxHeartbeats 4000000 in
theorem cloneD0_pc [GlobF Tryz.prog] : PC Tryz.prog 56 [.sl none 9 []] (.sl none 9 []) := by
  refine PC.of_body Tryz.func56 Tryz.ntmps56 rfl rfl rfl ?_
  repeat' first
    | (refine m_slnil rfl rfl ?_; rintro b hb)
    | refine m_lit (d := 5) rfl rfl rfl rfl rfl rfl ?_
    | (apply p1 (hd := rfl); case hop => first | (apply D_move; rfl) | (apply D_assign; rfl))
    | refine W_seq ?_
    | refine W_region ?_
    | (refine idC ?_; refine cs rfl (fun _ => ?_) (fun _ => ?_))
    | refine WL_nil ?_
    | refine tn ?_
    | refine tr ?_
    | refine W_skip ?_
    | refine W_ret ?_
    | (refine idR ?_; refine ret1 rfl rfl rfl ?_)
    | (refine idAp ?_; refine m_app rfl rfl (by first | rfl | assumption | exact get_set (by assumption) | exact get_set (get_set (by assumption)) | exact get_set (get_set (get_set (by assumption))) | ((repeat first | assumption | exact get_last | (refine get_last2 ?_; focus (simp; done)) | apply get_set | apply get_app | (apply get_ne; focus omega)); done)) ?_ rfl rfl ?_ ?_ rfl ?_; (first | rfl | focus (simp only [List.length_map, List.length_append, List.length_cons, List.length_nil]; omega) | focus (simp; done) | focus (simp; omega)); (first | focus (simp only [List.length_map, List.length_append, List.length_cons, List.length_nil]; omega) | focus (simp; done) | focus (simp; omega)); (first | focus (simp only [List.length_map, List.length_append, List.length_cons, List.length_nil]; omega) | focus (simp; done) | focus (simp; omega)))
    | fail
  all_goals first
    | exact Le.nil rfl
    | exact Le.tokq rfl
set_option maxHeartbeats 4000000 in
theorem indexD0_pc [GlobF Tryz.prog] (F : AV) : PC Tryz.prog 89 [.sl none 9 [], F] (.sc (.int .i64 (-1))) := by
  refine PC.of_body Tryz.func89 Tryz.ntmps89 rfl rfl rfl ?_
  repeat' first
    | (apply p1 (hd := rfl); case hop => first | (apply D_move; rfl) | (apply D_assign; rfl) | (apply D_len_sl; rfl))
    | refine W_seq ?_
    | refine W_region ?_
    | refine WL_nil ?_
    | refine tn ?_
    | refine W_block ?_
    | fail
  refine W_rounds 1 ?_
  repeat' first
    | (refine cs rfl ?_ (fun _ => ?_); focus (intro h; exfalso; revert h; decide))
    | (apply p1 (hd := rfl); case hop => first | (apply D_assign; rfl) | (apply D_int; rfl; rfl; rfl))
    | refine W_seq ?_
    | refine W_region ?_
    | refine WL_nil ?_
    | refine tn ?_
    | refine te ?_
    | (refine idB ?_; refine bh rfl ?_)
    | refine W_exit ?_
    | refine W_ret ?_
    | (refine idR ?_; refine ret1 rfl rfl rfl ?_)
    | refine Le.int ?_
    | fail
  all_goals rfl
set_option maxHeartbeats 4000000 in
theorem deleteD0_pc [GlobF Tryz.prog] (o : Int) : PC Tryz.prog 55 [.sl none 9 [], .fn (.func 70) [] [.ep [.sc (.int .i64 o)]]] (.sl none 9 []) := by
  refine PC.of_body Tryz.func55 Tryz.ntmps55 rfl rfl rfl ?_
  repeat' first
    | (apply p1 (hd := rfl); case hop => first | (apply D_move; rfl) | (apply D_assign; rfl) | (apply D_pc (indexD0_pc (.fn (.func 70) [] [.ep [.sc (.int .i64 o)]])); rfl; exact .same rfl (.cons rfl (Le.of_eq rfl) .nil)) | (apply D_int; rfl; rfl; rfl))
    | refine W_seq ?_
    | refine W_region ?_
    | (refine idC ?_; refine cs rfl (fun _ => ?_) (fun _ => ?_))
    | refine WL_nil ?_
    | refine tn ?_
    | refine tr ?_
    | refine W_skip ?_
    | refine W_block ?_
    | refine W_ret ?_
    | (refine idR ?_; refine ret1 rfl rfl rfl ?_)
    | fail
  all_goals first
    | exact Le.of_eq rfl
    | (exfalso; rename_i hx; exact absurd hx (by simp))
set_option maxHeartbeats 4000000 in
theorem compactD0_pc [GlobF Tryz.prog] : PC Tryz.prog 75 [.sl none 9 []] (.sl none 9 []) := by
  refine PC.of_body Tryz.func75 Tryz.ntmps75 rfl rfl rfl ?_
  repeat' first
    | (apply p1 (hd := rfl); case hop => first | (apply D_move; rfl) | (apply D_assign; rfl) | (apply D_int; rfl; rfl; rfl) | (apply D_len_sl; rfl))
    | refine W_seq ?_
    | refine W_region ?_
    | (refine idC ?_; refine cs rfl (fun _ => ?_) (fun _ => ?_))
    | refine WL_nil ?_
    | refine tn ?_
    | refine tr ?_
    | refine W_skip ?_
    | refine W_block ?_
    | refine W_ret ?_
    | (refine idR ?_; refine ret1 rfl rfl rfl ?_)
    | fail
  all_goals first
    | exact Le.of_eq rfl
    | (exfalso; rename_i hx; exact absurd hx (by decide))
    | skip
open Classical in
noncomputable def dsortL (o : Int) (l : List Dat) : List Dat := if 1 ≤ o ∧ o ≤ 4 then sortC (cmpD o) (l.filter (hasB o)) else []
theorem sortC_nil {α : Type} (c : α → α → Int) : sortC c [] = [] := List.length_eq_zero_iff.1 (Nat.le_zero.1 (sortC_len c []))
theorem dsortL_len (o : Int) (l : List Dat) : (dsortL o l).length ≤ l.length := by
  unfold dsortL
  split
  · exact Nat.le_trans (sortC_len _ _) (List.length_filter_le _ _)
  · exact Nat.zero_le _
set_option maxHeartbeats 4000000 in
theorem dsort_pc [GlobF Tryz.prog] (o : Int) (l : List Dat) (hl : l.length < 1759218604500) : PC Tryz.prog 40 [.sc (.int .i64 o), .sl none 9 (l.map dC)] (.sl none 9 ((dsortL o l).map dC)) := by
  by_cases ho : 1 ≤ o ∧ o ≤ 4
  rotate_left 1
  · rw [dsortL, if_neg ho]
    refine PC.of_body Tryz.func40 Tryz.ntmps40 rfl rfl rfl ?_
    repeat' first
      | (apply p1 (hd := rfl); case hop => first | (apply D_move; rfl) | (apply D_assign; rfl) | (apply D_pc (is_pc o); rfl; exact .same rfl .nil) | (apply D_load1; rfl) | (apply D_not; rfl) | (apply D_box; rfl; rfl))
      | refine W_seq ?_
      | refine W_region ?_
      | (refine idC ?_; refine cs rfl (fun _ => ?_) (fun _ => ?_))
      | refine WL_nil ?_
      | refine tn ?_
      | refine tr ?_
      | refine W_skip ?_
      | refine W_ret ?_
      | (refine idR ?_; refine ret1 rfl rfl rfl ?_)
      | fail
    all_goals first
      | exact Le.nil rfl
      | (exfalso; apply ho; assumption)
      | (exfalso; rename_i hx; exact ho (by simpa using hx))
  rw [dsortL, if_pos ho]
  rcases Nat.eq_zero_or_pos l.length with h0 | h0
  · have e : l = [] := List.length_eq_zero_iff.1 h0
    subst e
    rw [show ([] : List Dat).filter (hasB o) = [] from rfl, sortC_nil]
    refine PC.of_body Tryz.func40 Tryz.ntmps40 rfl rfl rfl ?_
    repeat' first
      | (apply p1 (hd := rfl); case hop => first | (apply D_move; rfl) | (apply D_assign; rfl) | (apply D_pc (is_pc o); rfl; exact .same rfl .nil) | (apply D_pc cloneD0_pc; rfl; exact .same rfl .nil) | (apply D_pc (deleteD0_pc o); rfl; exact .same rfl (.cons rfl (Le.of_eq rfl) .nil)) | (apply D_pc (sortD0_pc o); rfl; exact .same rfl (.cons rfl (Le.of_eq rfl) .nil)) | (apply D_pc compactD0_pc; rfl; exact .same rfl .nil) | (apply D_load1; rfl) | (apply D_not; rfl) | (apply D_box; rfl; rfl) | exact D_mkfn rfl)
      | refine W_seq ?_
      | refine W_region ?_
      | (refine idC ?_; refine cs rfl (fun _ => ?_) (fun _ => ?_))
      | refine WL_nil ?_
      | refine tn ?_
      | refine tr ?_
      | refine W_skip ?_
      | refine W_ret ?_
      | (refine idR ?_; refine ret1 rfl rfl rfl ?_)
      | fail
    all_goals first
      | exact Le.of_eq rfl
      | (exfalso; rename_i hx; exact hx ho)
  · have hfl : (l.filter (hasB o)).length ≤ l.length := List.length_filter_le _ _
    have hms : ((l.filter (hasB o)).mergeSort fun x y => !(ltOf (cmpD o) y x)).length = (l.filter (hasB o)).length := List.length_mergeSort _
    refine PC.of_body Tryz.func40 Tryz.ntmps40 rfl rfl rfl ?_
    repeat' first
      | (apply p1 (hd := rfl); case hop => first | (apply D_move; rfl) | (apply D_assign; rfl) | (apply D_pc (is_pc o); rfl; exact .same rfl .nil) | (apply D_load1; rfl) | (apply D_not; rfl) | (apply D_box; rfl; rfl) | exact D_mkfn rfl)
      | refine W_seq ?_
      | refine W_region ?_
      | (refine idC ?_; refine cs rfl (fun _ => ?_) (fun _ => ?_))
      | refine WL_nil ?_
      | refine tn ?_
      | refine tr ?_
      | refine W_skip ?_
      | refine W_ret ?_
      | (refine idR ?_; refine ret1 rfl rfl rfl ?_)
      | (refine m_call (d := 10) (cloneD_ac l h0 hl) rfl rfl rfl ?_; rintro _ _ ⟨sp, rfl, rfl⟩)
      | (refine m_call (d := 12) (deleteD_ac (l := l) o rfl (by omega)) rfl rfl rfl ?_; rintro _ _ ⟨sp, rfl, rfl⟩)
      | (refine m_call (d := 15) (sortD_ac' (l := l.filter (hasB o)) o ho rfl rfl (by omega)) rfl rfl rfl ?_; rintro _ _ ⟨rfl, rfl⟩)
      | (refine m_call (d := 17) (compactD_ac' (l := (l.filter (hasB o)).mergeSort fun x y => !(ltOf (cmpD o) y x)) hms rfl (by omega)) rfl rfl rfl ?_; rintro _ _ ⟨sp', rfl, rfl⟩; refine WL_frz 17 1 9 (els := (compL ((l.filter (hasB o)).mergeSort fun x y => !(ltOf (cmpD o) y x))).map dC) (sp := sp') rfl rfl (by simp) dC_row ?_)
      | fail
    · exfalso; rename_i hx; exact hx ho
    · rw [take_map_len]; exact Le.of_eq rfl
noncomputable instance : DecidableEq Dat := fun _ _ => Classical.propDecidable _
end Go.Proofs
