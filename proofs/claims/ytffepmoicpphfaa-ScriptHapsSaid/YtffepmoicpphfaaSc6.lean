/- script: bare, walked. -/
import Derived.Test.YtffepmoicpphfaaSc5
namespace Go.Proofs.Ytffepmoicpphfaa
set_option linter.unusedSimpArgs false
set_option linter.unusedVariables false
open Go.RowKit
variable {Z : Nat}
set_option maxRecDepth 100000 in
set_option maxHeartbeats 1000000 in
theorem scBare (h : HapC) (a : HapA) (w : World) (hA : RH Z w h a) :
    Calls Try.prog 19 #[hapV h a] w (Bared Z w h) := by
  have hb0 := ext3 w
  obtain ⟨k, cl, c, n, p⟩ := h
  by_cases k1 : k = 1
  · subst k1
    go_enter Try.func19, Try.ntmps19
    go_wp2
    go_region
    all_goals go_wp2
    all_goals refine bodyPost_ret (v := hapV (bareHap ⟨1, cl, c, n, p⟩) ⟨a.A, a.ca, none, 0⟩) (by simp [results, Try.results19, go_sem, bareHap, strOf]) rfl ⟨_, rfl, ⟨hA.b.ext ?_, RB.nil _ _⟩, ?_⟩
    all_goals first | exact hb0 _ _ _ | exact (hb0 _ _ _).drew
  by_cases k2 : k = 2
  · subst k2
    go_enter Try.func19, Try.ntmps19
    go_wp2
    all_goals refine bodyPost_ret (v := hapV (bareHap ⟨2, cl, c, n, p⟩) ⟨none, 0, none, 0⟩) (by simp [results, Try.results19, go_sem, bareHap, strOf, zeroCall]) rfl ⟨_, rfl, ⟨RB.nil _ _, RB.nil _ _⟩, ?_⟩
    all_goals exact hb0 _ _ _
  by_cases k3 : k = 3
  · subst k3
    go_enter Try.func19, Try.ntmps19
    go_wp2
    all_goals refine bodyPost_ret (v := hapV (bareHap ⟨3, cl, c, n, p⟩) ⟨none, 0, none, 0⟩) (by simp [results, Try.results19, go_sem, bareHap, strOf, zeroCall]) rfl ⟨_, rfl, ⟨RB.nil _ _, RB.nil _ _⟩, ?_⟩
    all_goals exact hb0 _ _ _
  by_cases k5 : k = 5
  · subst k5
    go_enter Try.func19, Try.ntmps19
    go_wp2
    all_goals refine bodyPost_ret (v := hapV (bareHap ⟨5, cl, c, n, p⟩) ⟨none, 0, none, 0⟩) (by simp [results, Try.results19, go_sem, bareHap, strOf, zeroCall]) rfl ⟨_, rfl, ⟨RB.nil _ _, RB.nil _ _⟩, ?_⟩
    all_goals exact hb0 _ _ _
  by_cases k4 : k = 4
  · subst k4
    go_enter Try.func19, Try.ntmps19
    go_wp2
    all_goals refine bodyPost_ret (v := hapV (bareHap ⟨4, cl, c, n, p⟩) ⟨none, 0, a.P, a.cp⟩) (by simp [results, Try.results19, go_sem, bareHap, strOf, zeroCall]) rfl ⟨_, rfl, ⟨RB.nil _ _, hA.p.ext (hb0 _ _ _)⟩, ?_⟩
    all_goals exact hb0 _ _ _
  have n1 : (k == 1) = false := by simpa using k1
  have n2 : (k == 2) = false := by simpa using k2
  have n3 : (k == 3) = false := by simpa using k3
  have n5 : (k == 5) = false := by simpa using k5
  have n4 : (k == 4) = false := by simpa using k4
  have hf : bareHap ⟨k, cl, c, n, p⟩ = ⟨k, 0, zeroCall, 0, []⟩ := by simp [bareHap, k1, k2, k3, k4, k5]
  have HF := Lib.hid hf
  clear hf k1 k2 k3 k4 k5
  go_enter Try.func19, Try.ntmps19
  go_wp2
  refine bodyPost_ret (v := hapV ⟨k, 0, zeroCall, 0, []⟩ ⟨none, 0, none, 0⟩) (by simp [results, Try.results19, go_sem, strOf, zeroCall]) rfl ⟨⟨none, 0, none, 0⟩, ?_, ?_, hb0 _ _ _⟩
  · rw [HF.out]
  · rw [HF.out]; exact ⟨RB.nil _ _, RB.nil _ _⟩
end Go.Proofs.Ytffepmoicpphfaa
