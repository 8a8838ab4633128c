/- plain law: a hap that was read has bytes. -/
import Derived.Test.YtffepmoicpphfaaP1
namespace Go.Proofs.Ytffepmoicpphfaa
set_option linter.unusedSimpArgs false
set_option linter.unusedVariables false
open Go.RowKit
theorem textR_len (r : Rdr) (mod : Nat) (h : 0 < mod) : (textR r mod).2.length < mod := by
  unfold textR
  rw [takeR_len]
  exact Nat.mod_lt _ h
theorem numR_low (r : Rdr) (m : Nat) : (numR r m).2 < 256 ^ m := by
  have := leNum_lt (takeR r m).2
  rw [takeR_len] at this
  exact this
theorem hapR_has (r : Rdr) : hasBytes (hapR r).2 = true ∧ KeyIn (hapR r).2 := by
  have n1 := fun r => numR_low r 1
  have n2 := fun r => numR_low r 2
  have n8 := fun r => numR_low r 8
  have t64 := fun r => textR_len r 64 (by omega)
  have t256 := fun r => textR_len r 256 (by omega)
  have t8 := fun r => textR_len r 8 (by omega)
  unfold hapR
  dsimp only
  split
  · simp only [hapR1]
    refine ⟨?_, ?_, ?_⟩
    · have e : ∀ h : HapC, h.kind = 1 → h.n = 0 → h.picks = [] → hasBytes h = fits h := by
        rintro ⟨k, cl, c, n, p⟩ h1 h2 h3
        dsimp only at h1 h2 h3
        subst h1 h2 h3
        simp [hasBytes, bareHap, sameHap_refl]
      rw [e _ rfl rfl rfl]
      simp only [fits, fitsCall, inB, if_true, Bool.and_eq_true, decide_eq_true_eq]
      generalize (numR r 1).1 = r1
      have q2 := n1 r1
      generalize numR r1 1 = q at *
      obtain ⟨r2, m2⟩ := q
      have q3 := n1 r2
      dsimp only
      generalize numR r2 1 = q at *
      obtain ⟨r3, m3⟩ := q
      dsimp only
      have q4 := t64 r3
      generalize textR r3 64 = q at *
      obtain ⟨r4, m4⟩ := q
      dsimp only
      have q5 := t64 r4
      generalize textR r4 64 = q at *
      obtain ⟨r5, m5⟩ := q
      dsimp only
      have q6 := n2 r5
      generalize numR r5 2 = q at *
      obtain ⟨r6, m6⟩ := q
      dsimp only
      have q7 := n2 r6
      generalize numR r6 2 = q at *
      obtain ⟨r7, m7⟩ := q
      dsimp only
      have q8 := n8 r7
      generalize numR r7 8 = q at *
      obtain ⟨r8, m8⟩ := q
      dsimp only
      have q9 := t256 r8
      generalize textR r8 256 = q at *
      obtain ⟨r9, m9⟩ := q
      dsimp only at *
      simp at q6 q7
      refine ⟨⟨?_, ?_⟩, ⟨⟨⟨⟨⟨?_, ?_⟩, ?_⟩, ?_⟩, ?_, ?_⟩, ?_, ?_⟩, ?_⟩ <;> omega
    · dsimp only; omega
    · dsimp only
      exact Int.ofNat_lt.2 (n8 _)
  · split
    · refine ⟨?_, by simp [KeyIn, zeroCall]⟩
      simp [hasBytes, bareHap, sameHap_refl, fits, inB]
      omega
    · split
      · refine ⟨?_, by simp [KeyIn, zeroCall]⟩
        have := n2 (numR r 1).1
        simp [hasBytes, bareHap, sameHap_refl, fits, inB]
        simp at this
        omega
      · split
        · refine ⟨?_, by simp [KeyIn, zeroCall]⟩
          have := t8 (numR r 1).1
          simp [hasBytes, bareHap, sameHap_refl, fits]
          omega
        · refine ⟨?_, by simp [KeyIn, zeroCall]⟩
          have := n1 (numR r 1).1
          simp [hasBytes, bareHap, sameHap_refl, fits]
          simp at this
          omega
theorem hapR_len (r : Rdr) : (hapR r).2.call.bytes.length ≤ 9223372036854775807 ∧ (hapR r).2.picks.length ≤ 9223372036854775807 := by
  have t256 := fun r => textR_len r 256 (by omega)
  have t8 := fun r => textR_len r 8 (by omega)
  unfold hapR
  dsimp only
  split
  · simp only [hapR1]
    exact ⟨Nat.le_trans (Nat.le_of_lt (t256 _)) (by omega), by simp⟩
  · split
    · simp [zeroCall]
    · split
      · simp [zeroCall]
      · split
        · exact ⟨by simp [zeroCall], Nat.le_trans (Nat.le_of_lt (t8 _)) (by omega)⟩
        · simp [zeroCall]
theorem hapsF_len' : ∀ (n len : Nat) (r : Rdr), ∀ x ∈ hapsF n len r, x.1.call.bytes.length ≤ 9223372036854775807 ∧ x.1.picks.length ≤ 9223372036854775807
  | 0, _, _, x, h => by cases h
  | n + 1, len, r, x, h => by
    rw [hapsF] at h
    split at h
    · cases h
    · split at h
      · cases h
      · rcases List.mem_cons.1 h with rfl | h
        · exact hapR_len r
        · exact hapsF_len' n len _ x h
theorem hapsOf_lens (raw : List UInt8) : ∀ h ∈ hapsOf raw, h.call.bytes.length ≤ 9223372036854775807 ∧ h.picks.length ≤ 9223372036854775807 := by
  intro h hh
  obtain ⟨x, hx, rfl⟩ := List.mem_map.1 hh
  exact hapsF_len' _ _ _ x hx
theorem hapsF_has : ∀ (n len : Nat) (r : Rdr), ∀ x ∈ hapsF n len r, hasBytes x.1 = true ∧ KeyIn x.1
  | 0, _, _, x, h => by cases h
  | n + 1, len, r, x, h => by
    rw [hapsF] at h
    split at h
    · cases h
    · split at h
      · cases h
      · rcases List.mem_cons.1 h with rfl | h
        · exact hapR_has r
        · exact hapsF_has n len _ x h
theorem hapsOf_has (raw : List UInt8) : ∀ h ∈ hapsOf raw, hasBytes h = true ∧ KeyIn h := by
  intro h hh
  obtain ⟨x, hx, rfl⟩ := List.mem_map.1 hh
  exact hapsF_has _ _ _ x hx
end Go.Proofs.Ytffepmoicpphfaa
