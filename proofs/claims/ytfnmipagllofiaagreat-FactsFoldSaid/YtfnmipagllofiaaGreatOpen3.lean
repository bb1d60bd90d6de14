/- How long an argument may be: a slice's bytes are within the form's reach. No condition. -/
import Derived.Test.YtfnmipagllofiaaGreatOpen
import Derived.SizedLaws
namespace Go.AL
theorem sl_len {G : Gh} {a : Option Addr} {len cap k : Nat} {tok : Option Nat} {els : List (List AV)} (h : Conc G (.slice a len cap) (.sl tok k els)) : els.length = len := by
  cases h <;> rfl
theorem sized_arg {H : Type} {en : TypeId × Value → H} {P : Program} {w : World} {t e : TypeId} {d : DataW H} {ps : List MemPlace} {base : Nat} {held : Bool} {a : Option Addr} {len cap k b : Nat} {tok : Option Nat} {els : List (List AV)} {G : Gh} {ts : List TypeId} {ds : List (DataW H)}
    (ht : P.underlying t = some (.slice e)) (hb : P.bytesOf e = b) (h : DataW.Trod en P w base (fun _ => true) held t (.slice a len cap) d ps) (hc : Conc G (.slice a len cap) (.sl tok k els))
    (hz : (DataW.weightsEach P ts ds).all (· ≤ reachBytes) = true) (j : Nat) (hts : ts[j]? = some t) (hds : ds[j]? = some d) : els.length * b ≤ 140737488355328 := by
  subst hb
  rw [sl_len hc]
  obtain ⟨fuel, hf⟩ := h
  rcases Go.Deep.open_slice ht hf with ⟨h1, _⟩ | ⟨a', len', cap', m, n, D, Pl, h1, hb, hl, hm, hmm, hx, _⟩
  · cases h1; rw [Nat.zero_mul]; exact Nat.zero_le _
  · have e1 : len = len' := by cases h1; rfl
    have hd : d = .slice ((List.range len').map D) ((List.range (m - len')).map fun j => D (len' + j)) := congrArg Prod.fst hx
    subst hd
    have := sized_slice hz hts hds ht
    simp only [List.length_map, List.length_range] at this
    have h2 : len * P.bytesOf e ≤ (len' + (m - len')) * P.bytesOf e := Nat.mul_le_mul_right _ (by omega)
    have h3 := reachBytes_lt
    omega
theorem sized_argM {H α : Type} {en : TypeId × Value → H} {P : Program} {w : World} {t e : TypeId} {d : DataW H} {ps : List MemPlace} {base : Nat} {held : Bool} {a : Option Addr} {len cap k b : Nat} {tok : Option Nat} {l : List α} {f : α → List AV} {G : Gh} {ts : List TypeId} {ds : List (DataW H)}
    (ht : P.underlying t = some (.slice e)) (hb : P.bytesOf e = b) (h : DataW.Trod en P w base (fun _ => true) held t (.slice a len cap) d ps) (hc : Conc G (.slice a len cap) (.sl tok k (l.map f)))
    (hz : (DataW.weightsEach P ts ds).all (· ≤ reachBytes) = true) (j : Nat) (hts : ts[j]? = some t) (hds : ds[j]? = some d) : l.length * b ≤ 140737488355328 := by
  have := sized_arg ht hb h hc hz j hts hds
  rwa [List.length_map] at this
end Go.AL
