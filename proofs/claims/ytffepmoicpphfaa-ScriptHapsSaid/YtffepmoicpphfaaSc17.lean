/- script: what next defers, walked. -/
import Derived.Test.YtffepmoicpphfaaSc15
import Derived.Recover
namespace Go.Proofs.Ytffepmoicpphfaa
set_option linter.unusedSimpArgs false
set_option linter.unusedVariables false
open Go.RowKit
variable {Z : Nat}
def zeroHap : HapC := ⟨0, 0, zeroCall, 0, []⟩
def nilA : HapA := ⟨none, 0, none, 0⟩
theorem only_set {a w : World} {b o : Nat} (h : a.grownBy w (some b)) (v : Value) : a.grownBy (w.setCell ⟨b, o, none⟩ v) (some b) :=
  ⟨h.os, h.tape, h.output, by simpa [World.setCell] using h.size, fun i hi hne => (Below.heap_setCell w ⟨b, o, none⟩ v i (by intro e; dsimp only at e; exact hne (by rw [e]))).trans (h.block i hi hne)⟩
set_option maxRecDepth 100000 in
set_option maxHeartbeats 1000000 in
theorem next1 (b : Nat) (h : HapC) (a : HapA) (w : World) (hB : Boxed Z w b h a) (hb : Z ≤ b) :
    Calls Try.prog 59 #[pt b] w fun e w' => e = .returned (.tuple #[]) ∧ w.grownBy w' (some b) ∧ Boxed Z w' b zeroHap nilA := by
  have hfz := hB.fz
  obtain ⟨q0, q1, q2, q3, q4, q5, q6, q7, q8, q9, q10⟩ := hB.box
  go_enter Try.func59, Try.ntmps59
  go_wp2
  go_end0
  refine ⟨rfl, ?_, ⟨?_, ?_, ?_, ⟨RB.nil _ _, RB.nil _ _⟩⟩⟩
  · repeat refine only_set ?_ _
    exact World.grownBy.refl w _
  · simp [HapBox, zeroHap, zeroCall, nilA, strOf, go_sem, q0, q1, q2, q3, q4, q5, q6, q7, q8, q9, q10]
  · intro o
    simp only [World.frozen?_setCell]
    exact hfz o
  · repeat refine Typ.set ?_ _ _
    exact hB.ty
theorem run_assert (v : Value) (t : TypeId) (w : World) : (Instr.typeAssert (.iface 26 v) t 26 true).run Try.prog w = .ok (.tuple #[v, .bool true]) w := by
  simp [Instr.typeAssert, run_underlying Try.underlying26, Result.andThen]
set_option maxRecDepth 100000 in
set_option maxHeartbeats 1000000 in
theorem caughtPanic (b eb : Nat) (h : HapC) (a : HapA) (w : World) (hB : Boxed Z w b h a) (hb : Z ≤ b) (he : w.cell? ⟨eb, 0, none⟩ = some (.int .i64 0)) (hf : w.frozen? ⟨eb, 0, none⟩ = false) (hne : eb ≠ b) :
    CallsD Try.prog 58 #[pt eb, .func (.func 59) #[] #[pt b]] (.panicking errHap) w fun e u' w' => e = .returned (.tuple #[]) ∧ u' = .panicking [{ v := .iface 26 (.int .i64 400), recovered := true }] ∧ w'.cell? ⟨eb, 0, none⟩ = some (.int .i64 400) ∧ Boxed Z w' b zeroHap nilA ∧ G2 w w' eb b := by
  refine callsD_of_wpS Try.func58 rfl fun c₀ cs hu => ?_
  apply wpS_seq
  apply wpS_region
  generalize hQ : Exit.thenS _ _ = QQ
  simp [wpOpsS, go_sem, recoverD, hu, Try.ntmps58]
  subst hQ
  simp only [Exit.thenS]
  refine wpS_of_wp ?_
  have HN := Lib.hid (next1 b h a w hB hb)
  have HU := Lib.hid hu
  clear hu
  generalize hR : (fun e a' w' => bodyPostS Try.prog Try.f58 c₀ cs _ e a' _ w') = RR
  have HR := Lib.hid hR
  clear hR
  have hta := run_assert
  simp only [Array.replicate, List.replicate]
  go_wp2_with (go_at_call 59; (with_reducible refine HN.out.mono ?_); rintro e w1 ⟨rfl, hg1, hB1⟩; have e1 := hg1.cell he (by intro e; injection e with e; exact hne e); have ef := (hg1.frozen_far ⟨eb, 0, none⟩ (World.block_lt_of_cell? w _ he) (by intro e; injection e with e; exact hne e)).trans hf)
  have hs := Below.heap_setCell w1 ⟨eb, 0, none⟩ (.int .i64 400) b (fun e => hne e.symm)
  have hbx : HapBox (w1.setCell ⟨eb, 0, none⟩ (.int .i64 400)) b zeroHap nilA := by
    have hx := hB1.box
    have hc := fun o => World.cell?_of_block (w := w1) (w' := w1.setCell ⟨eb, 0, none⟩ (.int .i64 400)) (a := ⟨b, o, none⟩) hs
    unfold HapBox at hx ⊢
    simpa only [hc] using hx
  rw [← HR.out]
  refine ⟨rfl, _, rfl, .tuple #[], by simp [results, Try.results58, go_sem], rfl, rfl, by simp [go_sem, e1], ⟨hbx, fun o => ?_, hB1.ty.set _ _, ⟨RB.nil _ _, RB.nil _ _⟩⟩, ?_⟩
  · rw [World.frozen?_setCell]; exact hB1.fz o
  · exact ⟨hg1.os, hg1.tape, hg1.output, by simpa [World.setCell] using hg1.size, fun i h1 h2 h3 => (Below.heap_setCell w1 ⟨eb, 0, none⟩ _ i h2).trans (hg1.block i h1 (by intro e; injection e with e; exact h3 e))⟩
set_option maxRecDepth 100000 in
set_option maxHeartbeats 1000000 in
theorem caughtIdle (b eb : Nat) (w : World) :
    CallsD Try.prog 58 #[pt eb, .func (.func 59) #[] #[pt b]] .returning w fun e u' w' => e = .returned (.tuple #[]) ∧ u' = .returning ∧ w' = w := by
  refine callsD_of_wpS Try.func58 rfl fun c₀ cs hu => ?_
  apply wpS_seq
  apply wpS_region
  generalize hQ : Exit.thenS _ _ = QQ
  simp [wpOpsS, go_sem, recoverD, hu, Try.ntmps58]
  subst hQ
  simp only [Exit.thenS]
  refine wpS_of_wp ?_
  generalize hR : (fun e a' w' => bodyPostS Try.prog Try.f58 c₀ cs _ e a' _ w') = RR
  have HR := Lib.hid hR
  have HU := Lib.hid hu
  clear hR hu
  simp only [Array.replicate, List.replicate]
  go_wp2
  rw [← HR.out]
  cases c₀
  exact ⟨rfl, _, by have := HU.out; subst this; rfl, .tuple #[], by simp [results, Try.results58, go_sem], rfl, rfl, rfl⟩
end Go.Proofs.Ytffepmoicpphfaa
