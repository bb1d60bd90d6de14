/- Arrays compared cell by cell. No condition. -/
import Derived.Test.YtjojdiefnhbglaaGreatOps7
import Derived.ChangeKeysEq
set_option linter.all false
namespace Go.AL
section
variable {P : Program}
theorem eqItems_run {e m : Nat} {l : LK} (he : EqF P e [l] m) {d : Nat} (hd : m ≤ d) (w : World) (xs ys : List Value) : ∀ n j : Nat,lksB (List.replicate n l) (xs.drop j) = true → lksB (List.replicate n l) (ys.drop j) = true →
    (Op.eqItems d e 1 xs.toArray ys.toArray (List.range' j n)).run P w = .ok (lEq (xs.drop j) (ys.drop j)) w
  | 0,j,hx,hy=>by
    have e : ∀ {l : List Value},lksB [] l = true → l = []:=fun {l} h=>by cases l <;> simp [lksB] at h ⊢
    rw [e hx,e hy]
    have : lEq [] [] = true:=by rw [lEq_t]
    rw [this];rfl
  | n + 1,j,hx,hy=>by
    obtain ⟨x1,x2⟩:=lksB_app (L:=[l]) hx
    obtain ⟨y1,y2⟩:=lksB_app (L:=[l]) hy
    obtain ⟨a,b,p1,p2,p3⟩:=he.h w xs ys j x1 y1
    have p3':=p3 d hd
    rw [List.drop_drop] at x2 y2
    have ih:=eqItems_run he hd w xs ys n (j + 1) x2 y2
    have split : ∀ (l : List Value),l.drop j = (l.drop j).take 1 ++ l.drop (j + 1):=fun l=>by
      rw [← List.drop_drop,List.take_append_drop]
    have hl : ((xs.drop j).take [l].length).length = ((ys.drop j).take [l].length).length:=by rw [lksB_len x1,lksB_len y1]
    have key : lEq (xs.drop j) (ys.drop j) = (lEq ((xs.drop j).take [l].length) ((ys.drop j).take [l].length) && lEq (xs.drop (j + 1)) (ys.drop (j + 1))):=by
      refine (lEq_iff ?_).symm
      rw [Bool.and_eq_true,lEq_t,lEq_t]
      constructor
      · rintro ⟨h1,h2⟩;rw [split xs,split ys,h2];exact congrArg (· ++ _) h1
      · intro h
        rw [split xs,split ys] at h
        exact List.append_inj h hl
    rw [key,List.range'_succ]
    simp only [Op.eqItems,Nat.mul_one,Sem.run_bind,p1,p2,p3',Result.andThen_ok]
    cases lEq ((xs.drop j).take [l].length) ((ys.drop j).take [l].length)
    · simp
    · simpa using ih
theorem eqf_arr {t e n m : Nat} {l : LK} (hu : P.underlying t = some (.array n e)) (hi : (P.info? e).isSome = true) (hc : P.cellsOf e = 1) (hag : ∀ w,(isAgg t).run P w = .ok true w) (hs : ∀ w,(sizeOf t).run P w = .ok n w) (he : EqF P e [l] m) : EqF P t (List.replicate n l) (m + 1):=⟨fun w xs ys off hx hy=>by
  obtain ⟨i,hi⟩:=Option.isSome_iff_exists.1 hi
  rw [List.length_replicate] at hx hy ⊢
  have ex : ∀ (l : List Value),l.toArray.extract off (off + n) = ((l.drop off).take n).toArray:=fun l=>by
    apply Array.ext'
    rw [Array.toList_extract]
    simp [List.extract]
  refine ⟨.agg ((xs.drop off).take n).toArray,.agg ((ys.drop off).take n).toArray,by simp [part,hag w,hs w],by simp [part,hag w,hs w],fun d hd=>?_⟩
  obtain ⟨d,rfl⟩ : ∃ d',d = d' + 1:=⟨d - 1,by omega⟩
  rw [run_equalIn_array w d _ _ hu hi,hc,List.range_eq_range']
  have:=eqItems_run he (d:=d) (by omega) w ((xs.drop off).take n) ((ys.drop off).take n) n 0 (by simpa using hx) (by simpa using hy)
  simpa using this⟩
end
end Go.AL
