/- the law's works, walked. -/
import Derived.Test.YtffepmoicpphfaaL1
namespace Go.Proofs.Ytffepmoicpphfaa
set_option linter.unusedSimpArgs false
set_option linter.unusedVariables false
open Go.RowKit
variable {Z : Nat}
def hapPick : HapC := ⟨2, 2, zeroCall, 0, []⟩
def hapEvict : HapC := ⟨3, 0, zeroCall, 300, []⟩
def hapMount (n : Int) : HapC := ⟨5, 0, zeroCall, n, []⟩
theorem works_raw : rawB [hapPick, hapEvict, hapMount 1] = [1, 2, 2, 44, 1, 4, 0] := by rfl
theorem works_all : [hapPick, hapEvict, hapMount 1].all hasBytes = true := by rfl
theorem works_none : [hapMount 0].all hasBytes = false := by rfl
theorem works_haps : hapsOf [6, 10, 3, 2, 1] = [hapPick] := by rfl
@[reducible] def lit3 : Obj := .cells #[.int .i64 2, .int .i64 2, .int .i64 0, .string ⟨#[]⟩, .string ⟨#[]⟩, .int .i64 0, .int .i64 0, .int .u64 0, .slice none 0 0, .int .i64 0, .slice none 0 0, .int .i64 3, .int .i64 0, .int .i64 0, .string ⟨#[]⟩, .string ⟨#[]⟩, .int .i64 0, .int .i64 0, .int .u64 0, .slice none 0 0, .int .i64 300, .slice none 0 0, .int .i64 5, .int .i64 0, .int .i64 0, .string ⟨#[]⟩, .string ⟨#[]⟩, .int .i64 0, .int .i64 0, .int .u64 0, .slice none 0 0, .int .i64 1, .slice none 0 0] 35
@[reducible] def litP : Obj := .cells #[.int .i64 2, .int .i64 2, .int .i64 0, .string ⟨#[]⟩, .string ⟨#[]⟩, .int .i64 0, .int .i64 0, .int .u64 0, .slice none 0 0, .int .i64 0, .slice none 0 0] 35
@[reducible] def litM : Obj := .cells #[.int .i64 5, .int .i64 0, .int .i64 0, .string ⟨#[]⟩, .string ⟨#[]⟩, .int .i64 0, .int .i64 0, .int .u64 0, .slice none 0 0, .int .i64 0, .slice none 0 0] 35
@[reducible] def litB : Obj := .cells #[.int .u8 6, .int .u8 10, .int .u8 3, .int .u8 2, .int .u8 1] 5
theorem rh_nil (w : World) (k cl n : Int) : RH Z w ⟨k, cl, zeroCall, n, []⟩ nilA := ⟨RB.nil _ _, RB.nil _ _⟩
theorem rhs3 (w : World) : RHs Z (w.alloc lit3) (some ⟨w.heap.size, 0, none⟩) [(hapPick, nilA), (hapEvict, nilA), (hapMount 1, nilA)] := fun _ => ⟨_, _, rfl, fun i hi => by
  match i, hi with
  | 0, _ => exact ⟨by simp [HapAt, go_sem, hapPick, zeroCall, nilA, strOf], rh_nil _ _ _ _⟩
  | 1, _ => exact ⟨by simp [HapAt, go_sem, hapEvict, zeroCall, nilA, strOf], rh_nil _ _ _ _⟩
  | 2, _ => exact ⟨by simp [HapAt, go_sem, hapMount, zeroCall, nilA, strOf], rh_nil _ _ _ _⟩
  | n + 3, h => exact absurd h (by simp)⟩
theorem rhsP (w : World) : RHs Z (w.alloc litP) (some ⟨w.heap.size, 0, none⟩) [(hapPick, nilA)] := fun _ => ⟨_, _, rfl, fun i hi => by
  obtain rfl : i = 0 := by simp at hi; omega
  exact ⟨by simp [HapAt, go_sem, hapPick, zeroCall, nilA, strOf], rh_nil _ _ _ _⟩⟩
theorem rhsM (w : World) : RHs Z (w.alloc litM) (some ⟨w.heap.size, 0, none⟩) [(hapMount 0, nilA)] := fun _ => ⟨_, _, rfl, fun i hi => by
  obtain rfl : i = 0 := by simp at hi; omega
  exact ⟨by simp [HapAt, go_sem, hapMount, zeroCall, nilA, strOf], rh_nil _ _ _ _⟩⟩
theorem rsB (w : World) : RS Z (w.alloc litB) ⟨some ⟨w.heap.size, 0, none⟩, 5⟩ [6, 10, 3, 2, 1] := ⟨rb_lit _ _ _ _ rfl rfl, Nat.le_refl _, (by decide : 5 ≤ maxLen)⟩
theorem raw3 (A : Option Addr) (c : Nat) (w : World) (hA : RHs Z w A [(hapPick, nilA), (hapEvict, nilA), (hapMount 1, nilA)]) :
    Calls Try.prog 10 #[.slice A 3 c] w fun e w' => Ext w w' ∧ ∃ A' c', e = .returned (.tuple #[.slice A' 7 c', .int .i64 0]) ∧ RB Z w' A' [1, 2, 2, 44, 1, 4, 0] := by
  refine (scRaw _ A c w hA (by simp) ?_ ?_).mono ?_
  · intro x hx; simp at hx; rcases hx with rfl | rfl | rfl <;> exact ⟨by decide, by decide⟩
  · intro x hx; simp at hx; rcases hx with rfl | rfl | rfl <;> exact ⟨by decide, by decide⟩
  · rintro e w' ⟨hx, (⟨_, v, rfl, ho⟩ | ⟨h, _⟩)⟩
    · rw [show ([(hapPick, nilA), (hapEvict, nilA), (hapMount 1, nilA)].map (·.1)) = [hapPick, hapEvict, hapMount 1] from rfl, works_raw] at ho
      obtain ⟨A', c', rfl, _, _, hr⟩ := OB.rb (Z := Z) ho
      exact ⟨hx, A', c', rfl, hr⟩
    · exact absurd (h.symm.trans works_all) (by decide)
theorem rawM (A : Option Addr) (c : Nat) (w : World) (hA : RHs Z w A [(hapMount 0, nilA)]) :
    Calls Try.prog 10 #[.slice A 1 c] w fun e w' => Ext w w' ∧ e = .returned (.tuple #[.slice none 0 0, .int .i64 400]) := by
  refine (scRaw _ A c w hA (by simp) ?_ ?_).mono ?_
  · intro x hx; simp at hx; subst hx; exact ⟨by decide, by decide⟩
  · intro x hx; simp at hx; subst hx; exact ⟨by decide, by decide⟩
  · rintro e w' ⟨hx, (⟨h, _⟩ | ⟨_, rfl⟩)⟩
    · exact absurd (h.symm.trans works_none) (by decide)
    · exact ⟨hx, rfl⟩
theorem hapsB (s : SA) (w : World) (hs : RS Z w s [6, 10, 3, 2, 1]) (hZ : Z ≤ w.heap.size) :
    Calls Try.prog 13 #[.slice s.A 5 s.c] w fun e w' => Ext w w' ∧ ∃ a A c, e = .returned (.slice A 1 c) ∧ RHs Z w' A [(hapPick, a)] := by
  refine (scHaps s [6, 10, 3, 2, 1] w hs (by decide) hZ).mono ?_
  rintro e w' ⟨az, v, h1, rfl, ho, hr, hx⟩
  rw [works_haps] at h1 ho hr
  obtain ⟨a, rfl⟩ : ∃ a, az = [a] := by
    match az, h1 with
    | [a], _ => exact ⟨a, rfl⟩
  obtain ⟨A, c, rfl, _, _, hR⟩ := OHs.rhs ho hr
  exact ⟨hx, a, A, c, rfl, hR⟩
theorem sameP (a : HapA) (A B : Option Addr) (c d : Nat) (w : World) (hA : RHs Z w A [(hapPick, a)]) (hB : RHs Z w B [(hapPick, nilA)]) :
    Calls Try.prog 12 #[.slice A 1 c, .slice B 1 d] w fun e w' => e = .returned (.bool true) ∧ Ext w w' := by
  refine (r30SameAll [(hapPick, a)] [(hapPick, nilA)] A B c d w hA hB (by simp) (by simp)).mono ?_
  rintro e w' ⟨rfl, hx⟩
  exact ⟨rfl, hx⟩
set_option maxRecDepth 100000 in
set_option maxHeartbeats 2000000 in
theorem l30works (w : World) : Calls Try.prog 6 #[] w fun e w' => e = .returned (.bool true) ∧ Ext w w' := by
  go_enter Try.func6, Try.ntmps6
  go_wp2_with (first | (go_at_call 10; (with_reducible refine (raw3 (Z := 0) _ _ _ (rhs3 w)).mono ?_); rintro e w1 ⟨hx1, A1, c1, rfl, hr1⟩) | (go_at_call 13; refine (hapsB (Z := 0) ⟨_, 5⟩ _ (rsB w1) (Nat.zero_le _)).mono ?_; rintro e w2 ⟨hx2, a2, A2, c2, rfl, hR2⟩) | (go_at_call 10; (with_reducible refine (rawM (Z := 0) _ _ _ (rhsM w2)).mono ?_); rintro e w3 ⟨hx3, rfl⟩; have x13 := Lib.hid (((ext1 w1 litB).trans hx2).trans ((ext1 w2 litM).trans hx3)); have x23 := Lib.hid ((ext1 w2 litM).trans hx3); have hcs : (Go.convert 31 9 (.slice A1 7 c1)).run Try.prog w3 = .ok (.string ⟨#[1, 2, 2, 44, 1, 4, 0]⟩) w3 := RB_str (P := Try.prog) (RB.ext hr1 x13.out) 31 5 Try.underlying31 Try.underlying5 7 c1 rfl 9 Try.underlying9) | (go_at_call 12; (with_reducible refine (sameP (Z := 0) a2 _ _ _ _ _ (RHs.ext (RHs.ext hR2 x23.out) (ext1 w3 litP)) (rhsP w3)).mono ?_); rintro e w5 ⟨rfl, hx5⟩) | (go_at_call 7; (with_reducible refine (l30num _ _).mono ?_); rintro e w4 ⟨rfl, rfl⟩))
  exact bodyPost_ret (v := .bool true) (by simp [results, Try.results6, go_sem]) rfl ⟨rfl, ((((ext1 w lit3).trans hx1).trans x13.out).trans ((ext1 w3 litP).trans hx5))⟩
end Go.Proofs.Ytffepmoicpphfaa
