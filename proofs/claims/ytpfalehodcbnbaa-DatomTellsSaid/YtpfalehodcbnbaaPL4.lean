/- The plain law of keys read: a key's datom is told by its key. No program in sight. -/
import Derived.Test.YtpfalehodcbnbaaPL3
namespace Go.Proofs
open Go.AL

theorem datI_of_parts {o : Int} {l : List Prt} (hl : l.length = 7) (hi : ∀ p, p ∈ l → prtI p) : datI (datOf o l) := by
  obtain ⟨q0, q1, q2, q3, q4, q5, q6, rfl⟩ := seven hl
  have h0 := hi q0 (by simp)
  have h1 := hi q1 (by simp)
  have h2 := hi q2 (by simp)
  have h3 := hi q3 (by simp)
  have h5 := hi q5 (by simp)
  have h6 := hi q6 (by simp)
  simp only [datOf]
  split
  · exact ⟨h0.1, h1.1, h2.2, h3.1, h5.1, h6.1⟩
  · split
    · exact ⟨h1.1, h0.1, h2.2, h3.1, h5.1, h6.1⟩
    · split
      · exact ⟨h2.1, h0.1, h1.2, h3.1, h5.1, h6.1⟩
      · exact ⟨h2.1, h1.1, h0.2, h3.1, h5.1, h6.1⟩
theorem drd_iff {o : Int} {b : List UInt8} (ho : 1 ≤ o ∧ o ≤ 4) (hok : rdOK (kindsO o) b) : drdP o b ↔ dkeyE o (datOf o (rdL (kindsO o) b)) = 0 ∧ dkeyB o (datOf o (rdL (kindsO o) b)) = b := by
  have hL : rdL (kindsO o) b = (rdAll (kindsO o) (b, false)).1 := by rw [rdL, if_pos hok]
  constructor
  · intro h
    have hE : drdE o b = 0 := by rw [drdE, if_pos ho, if_pos h]
    have hD : drdD o b = datOf o (rdL (kindsO o) b) := by rw [drdD, if_pos h]
    rw [← hD]; exact read_key hE
  · rintro ⟨h1, h2⟩
    obtain ⟨_, g2, g3, g4⟩ := dkey_ok h1
    obtain ⟨k1, k2, k3⟩ := key_rdAll (kindsO o) b hok.1
    rw [← hL] at k2 k3
    have hl : (rdL (kindsO o) b).length = 7 := by
      have := congrArg List.length k2
      simpa [kindsO, part7_len] using this
    have hI := datI_of_parts (o := o) hl fun p hp => (k3 p hp).2.1
    have hr := rdAll_key (part7 o (datOf o (rdL (kindsO o) b))) [] fun p hp => ⟨part7_P g2.2.2.2.2.1 p hp, part7_I hI p hp, part7_can p hp⟩
    rw [List.append_nil, part7_val, ← g4, h2] at hr
    have hL' : rdL (kindsO o) b = part7 o (datOf o (rdL (kindsO o) b)) := by
      conv => lhs; rw [hL, hr]
    exact ⟨ho, hok, g2, g3, (congrArg fourN hL').trans rfl⟩
end Go.Proofs
