/- script: the makers of parts, walked. -/
import Derived.Test.YtffepmoicpphfaaSc7
import Derived.Laws.EntriesVeiled
namespace Go.Proofs.Ytffepmoicpphfaa
set_option linter.unusedSimpArgs false
set_option linter.unusedVariables false
open Go.RowKit
variable {Z : Nat}
theorem makes (fn : Fn) (first cap : Array Value) (w : World) : (Instr.makeFunc fn first cap).run Try.prog w = .ok (.func fn first cap) w := rfl
@[reducible] def pt (c : Nat) : Value := .pointer (some ⟨c, 0, none⟩)
@[reducible] def clientPart : Array Value := #[.func (.func 60) #[] #[], .func (.func 61) #[] #[], .func (.func 62) #[] #[]]
@[reducible] def kindPart : Array Value := #[.func (.func 31) #[] #[], .func (.func 33) #[] #[], .func (.func 34) #[] #[]]
@[reducible] def keyPart : Array Value := #[.func (.func 42) #[] #[], .func (.func 43) #[] #[], .func (.func 45) #[] #[]]
@[reducible] def wordsPart (c : Nat) : Array Value := #[.func (.func 64) #[] #[pt (c + 1), pt c], .func (.func 65) #[] #[pt (c + 1)], .func (.func 67) #[] #[pt c, pt (c + 1)]]
@[reducible] def somePart (c : Nat) : Array Value := #[.func (.func 72) #[] #[pt (c + 1), pt c], .func (.func 73) #[] #[pt (c + 1)], .func (.func 75) #[] #[pt c, pt (c + 1)]]
@[reducible] def numberPart (c : Nat) : Array Value := #[.func (.func 69) #[] #[pt (c + 3), pt (c + 1), pt (c + 2)], .func (.func 70) #[] #[pt (c + 3), pt (c + 1), pt c], .func (.func 71) #[] #[pt c, pt (c + 1), pt (c + 3)]]
@[reducible] def fv (k : Nat) : Value := .func (.func k) #[] #[]
set_option maxRecDepth 100000 in
set_option maxHeartbeats 1000000 in
theorem scClient (w : World) : Calls Try.prog 30 #[] w fun e w' => e = .returned (.agg clientPart) ∧ Ext w w' := by
  have hmf := makes
  go_enter Try.func30, Try.ntmps30
  go_wp2
  exact bodyPost_ret (v := .agg clientPart) (by simp [results, Try.results30, go_sem]) rfl ⟨rfl, ext1 _ _⟩
set_option maxRecDepth 100000 in
set_option maxHeartbeats 1000000 in
theorem scWords (mod : Int) (k : Nat) (w : World) : Calls Try.prog 36 #[.int .i64 mod, fv k] w fun e w' => e = .returned (.agg (wordsPart w.heap.size)) ∧ Ext w w' ∧ w'.cell? ⟨w.heap.size, 0, none⟩ = some (.int .i64 mod) ∧ w'.cell? ⟨w.heap.size + 1, 0, none⟩ = some (fv k) := by
  have hmf := makes
  go_enter Try.func36, Try.ntmps36
  go_wp2
  exact bodyPost_ret (v := .agg (wordsPart w.heap.size)) (by simp [results, Try.results36, go_sem]) rfl ⟨rfl, ext3 _ _ _ _, by simp [go_sem], by simp [go_sem]⟩
set_option maxRecDepth 100000 in
set_option maxHeartbeats 1000000 in
theorem scSome (mod : Int) (k : Nat) (w : World) : Calls Try.prog 46 #[.int .i64 mod, fv k] w fun e w' => e = .returned (.agg (somePart w.heap.size)) ∧ Ext w w' ∧ w'.cell? ⟨w.heap.size, 0, none⟩ = some (.int .i64 mod) ∧ w'.cell? ⟨w.heap.size + 1, 0, none⟩ = some (fv k) := by
  have hmf := makes
  go_enter Try.func46, Try.ntmps46
  go_wp2
  exact bodyPost_ret (v := .agg (somePart w.heap.size)) (by simp [results, Try.results46, go_sem]) rfl ⟨rfl, ext3 _ _ _ _, by simp [go_sem], by simp [go_sem]⟩
set_option maxRecDepth 100000 in
set_option maxHeartbeats 1000000 in
theorem scNumber (many least most : Int) (k : Nat) (w : World) : Calls Try.prog 39 #[.int .i64 many, .int .i64 least, .int .i64 most, fv k] w fun e w' => e = .returned (.agg (numberPart w.heap.size)) ∧ Ext w w' ∧ w'.cell? ⟨w.heap.size, 0, none⟩ = some (.int .i64 many) ∧ w'.cell? ⟨w.heap.size + 1, 0, none⟩ = some (.int .i64 least) ∧ w'.cell? ⟨w.heap.size + 2, 0, none⟩ = some (.int .i64 most) ∧ w'.cell? ⟨w.heap.size + 3, 0, none⟩ = some (fv k) := by
  have hmf := makes
  go_enter Try.func39, Try.ntmps39
  go_wp2
  exact bodyPost_ret (v := .agg (numberPart w.heap.size)) (by simp [results, Try.results39, go_sem]) rfl ⟨rfl, (ext4 _ _ _ _ _).alloc _, by simp [go_sem], by simp [go_sem], by simp [go_sem], by simp [go_sem]⟩
end Go.Proofs.Ytffepmoicpphfaa
