/- script: what kinds gives, said of any kind. -/
import Derived.Test.YtffepmoicpphfaaSc14
namespace Go.Proofs.Ytffepmoicpphfaa
set_option linter.unusedSimpArgs false
set_option linter.unusedVariables false
open Go.RowKit
/-- the parts of a kind -/
def kindsL (k : Int) : List PartS :=
  if k = 1 then [clientS, kindS, pathS, toS, atS, manyS, keyS, bytesS] else if k = 2 then [clientS] else if k = 3 then [nS] else if k = 4 then [picksS] else if k = 5 then [mountS] else []
/-- a row of parts -/
def PartsAt (lo : Nat) (W : World) (g : Nat) (ps : List PartS) : Prop :=
  lo ≤ g ∧ ∀ i (h : i < ps.length), ∃ f1 f2 f3, W.cell? ⟨g, i * 3, none⟩ = some f1 ∧ W.cell? ⟨g, i * 3 + 1, none⟩ = some f2 ∧ W.cell? ⟨g, i * 3 + 2, none⟩ = some f3 ∧ PartOK lo W ps[i] f1 f2 f3
theorem cell_of {W : World} {g : Nat} {vs : Array Value} {t : TypeId} (h : W.heap[g]? = some (.cells vs t)) (j : Nat) : W.cell? ⟨g, j, none⟩ = vs[j]? := by simp [World.cell?, h]
theorem partsAt_cons {lo : Nat} {W : World} {g : Nat} {vs : Array Value} {t : TypeId} (h : W.heap[g]? = some (.cells vs t)) (hg : lo ≤ g) (ps : List PartS)
    (hp : ∀ i (hi : i < ps.length), ∃ f1 f2 f3, vs[i * 3]? = some f1 ∧ vs[i * 3 + 1]? = some f2 ∧ vs[i * 3 + 2]? = some f3 ∧ PartOK lo W ps[i] f1 f2 f3) : PartsAt lo W g ps :=
  ⟨hg, fun i hi => by simpa only [cell_of h] using hp i hi⟩
/-- what kinds gives -/
def KindsOK (lo : Nat) (W : World) (m : Nat) : Prop := ∀ (k : Int) (w : World), Kept lo W w → ∃ A : Option Addr,
  (∀ ok, (Instr.lookup 54 (.map (some m)) (.int .i64 k) ok).run Try.prog w = .ok (if ok then .tuple #[.slice A (kindsL k).length (kindsL k).length, .bool (decide (1 ≤ k) && decide (k ≤ 5))] else .slice A (kindsL k).length (kindsL k).length) w) ∧
  (kindsL k ≠ [] → ∃ g, A = some ⟨g, 0, none⟩ ∧ PartsAt lo W g (kindsL k))
theorem find1 (k : Int) (a b c d e : Value) (n0 n1 n2 n3 n4 : Nat) : Instr.findNow (.int .i64) (.int .i64 k) [⟨.int .i64 1, a, n0⟩, ⟨.int .i64 2, b, n1⟩, ⟨.int .i64 3, c, n2⟩, ⟨.int .i64 4, d, n3⟩, ⟨.int .i64 5, e, n4⟩] 0 =
    some (if k = 1 then some (0, a) else if k = 2 then some (1, b) else if k = 3 then some (2, c) else if k = 4 then some (3, d) else if k = 5 then some (4, e) else none) := by
  by_cases h1 : k = 1
  · subst h1; simp [Instr.findNow, Instr.sameNow]
  by_cases h2 : k = 2
  · subst h2; simp [Instr.findNow, Instr.sameNow]
  by_cases h3 : k = 3
  · subst h3; simp [Instr.findNow, Instr.sameNow]
  by_cases h4 : k = 4
  · subst h4; simp [Instr.findNow, Instr.sameNow]
  by_cases h5 : k = 5
  · subst h5; simp [Instr.findNow, Instr.sameNow]
  have e1 : (k == 1) = false := by simp [h1]
  have e2 : (k == 2) = false := by simp [h2]
  have e3 : (k == 3) = false := by simp [h3]
  have e4 : (k == 4) = false := by simp [h4]
  have e5 : (k == 5) = false := by simp [h5]
  simp [Instr.findNow, Instr.sameNow, h1, h2, h3, h4, h5, e1, e2, e3, e4, e5]
theorem one_part {lo : Nat} {W : World} {sp : PartS} {vs : Array Value} {f1 f2 f3 : Value} (h0 : vs[0]? = some f1) (h1 : vs[1]? = some f2) (h2 : vs[2]? = some f3) (ok : PartOK lo W sp f1 f2 f3) :
    ∀ i (hi : i < [sp].length), ∃ f1 f2 f3, vs[i * 3]? = some f1 ∧ vs[i * 3 + 1]? = some f2 ∧ vs[i * 3 + 2]? = some f3 ∧ PartOK lo W [sp][i] f1 f2 f3 := by
  intro i hi
  obtain rfl : i = 0 := by simp at hi; omega
  exact ⟨_, _, _, h0, h1, h2, ok⟩
theorem Kinds.all {lo : Nat} {W : World} {m : Nat} {g : Fin 5 → Nat} {c : Fin 8 → Nat} (K : Kinds lo W m g c) : KindsOK lo W m := by
  intro k w hk
  have hmw : w.heap[m]? = _ := (hk.2 m K.lm (Array.getElem?_eq_some_iff.1 K.mp).1).trans K.mp
  have hf := find1 k (sl (g 0) 8) (sl (g 1) 1) (sl (g 2) 1) (sl (g 3) 1) (sl (g 4) 1) 0 1 2 3 4
  by_cases h1 : k = 1
  · subst h1
    refine ⟨some ⟨g 0, 0, none⟩, fun ok => run_find w m 5 _ 1 (sl (g 0) 8) 0 ok hmw hf, fun _ => ⟨_, rfl, partsAt_cons K.r0 (K.lg 0) _ ?_⟩⟩
    intro i hi
    have hi8 : i < 8 := hi
    match i, hi8 with
    | 0, _ => exact ⟨_, _, _, rfl, rfl, rfl, ok_clientS lo W⟩
    | 1, _ => exact ⟨_, _, _, rfl, rfl, rfl, ok_kindS lo W⟩
    | 2, _ => exact ⟨_, _, _, rfl, rfl, rfl, ok_pathS lo W _ K.b0⟩
    | 3, _ => exact ⟨_, _, _, rfl, rfl, rfl, ok_toS lo W _ K.b1⟩
    | 4, _ => exact ⟨_, _, _, rfl, rfl, rfl, ok_atS lo W _ K.b2⟩
    | 5, _ => exact ⟨_, _, _, rfl, rfl, rfl, ok_manyS lo W _ K.b3⟩
    | 6, _ => exact ⟨_, _, _, rfl, rfl, rfl, ok_keyS lo W⟩
    | 7, _ => exact ⟨_, _, _, rfl, rfl, rfl, ok_bytesS lo W _ K.b4⟩
    | n + 8, h => exact absurd h (by omega)
  by_cases h2 : k = 2
  · subst h2
    exact ⟨some ⟨g 1, 0, none⟩, fun ok => run_find w m 5 _ 2 (sl (g 1) 1) 1 ok hmw hf, fun _ => ⟨_, rfl, partsAt_cons K.r1 (K.lg 1) _ (one_part rfl rfl rfl (ok_clientS lo W))⟩⟩
  by_cases h3 : k = 3
  · subst h3
    exact ⟨some ⟨g 2, 0, none⟩, fun ok => run_find w m 5 _ 3 (sl (g 2) 1) 2 ok hmw hf, fun _ => ⟨_, rfl, partsAt_cons K.r2 (K.lg 2) _ (one_part rfl rfl rfl (ok_nS lo W _ K.b5))⟩⟩
  by_cases h4 : k = 4
  · subst h4
    exact ⟨some ⟨g 3, 0, none⟩, fun ok => run_find w m 5 _ 4 (sl (g 3) 1) 3 ok hmw hf, fun _ => ⟨_, rfl, partsAt_cons K.r3 (K.lg 3) _ (one_part rfl rfl rfl (ok_picksS lo W _ K.b6))⟩⟩
  by_cases h5 : k = 5
  · subst h5
    exact ⟨some ⟨g 4, 0, none⟩, fun ok => run_find w m 5 _ 5 (sl (g 4) 1) 4 ok hmw hf, fun _ => ⟨_, rfl, partsAt_cons K.r4 (K.lg 4) _ (one_part rfl rfl rfl (ok_mountS lo W _ K.b7))⟩⟩
  have hl : kindsL k = [] := by simp [kindsL, h1, h2, h3, h4, h5]
  have hb : (decide (1 ≤ k) && decide (k ≤ 5)) = false := by
    simp only [Bool.and_eq_false_iff, decide_eq_false_iff_not]; omega
  rw [hl, hb]
  simp only [h1, h2, h3, h4, h5, if_false] at hf
  exact ⟨none, fun ok => run_miss w m 5 _ k ok hmw hf, fun h => absurd rfl h⟩
end Go.Proofs.Ytffepmoicpphfaa
