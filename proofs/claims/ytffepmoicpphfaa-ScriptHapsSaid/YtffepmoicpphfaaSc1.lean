/- script: in, slices.Equal over bytes, call, same, bare, walked. -/
import Derived.Test.YtffepmoicpphfaaR30c
namespace Go.Proofs.Ytffepmoicpphfaa
set_option linter.unusedSimpArgs false
set_option linter.unusedVariables false
open Go.RowKit
variable {Z : Nat}
theorem scIn (n least most : Int) (w : World) :
    Calls Try.prog 32 #[.int .i64 n, .int .i64 least, .int .i64 most] w fun e w' => e = .returned (.bool (decide (least ≤ n) && decide (n ≤ most))) ∧ w = w' := by
  by_cases h : least ≤ n
  · go_enter Try.func32, Try.ntmps32
    go_wp2
    go_ret
    exact ⟨by simp; try omega, rfl⟩
  · go_enter Try.func32, Try.ntmps32
    go_wp2
    go_ret
    exact ⟨by simp; try omega, rfl⟩

set_option maxRecDepth 100000 in
set_option maxHeartbeats 400000 in
theorem eqBytes (l m : List UInt8) (A B : Option Addr) (ca cb : Nat) (w : World) (hA : RB Z w A l) (hB : RB Z w B m) (hl : l.length ≤ 9223372036854775807) :
    Calls Try.prog 51 #[.slice A l.length ca, .slice B m.length cb] w fun e w' => e = .returned (.bool (l == m)) ∧ Ext w w' := by
  by_cases hn : l.length = m.length
  · have hnb : ((l.length : Int) != (m.length : Int)) = false := by simp [hn]
    have HN := Lib.hid hn
    clear hn
    go_enter Try.func51, Try.ntmps51
    go_wp2
    go_loopw [13] (fun i wr => ∃ k : Nat, k ≤ l.length ∧ i = .int .i64 k ∧ Hid (∀ (j : Nat) (h1 : j < l.length) (h2 : j < m.length), j < k → l[j] = m[j]) ∧ Ext w wr) (fun i _ => l.length - (intOf i).toNat)
    case atStart => exact ⟨0, by omega, rfl, fun j _ _ h => absurd h (by omega), Ext.refl _⟩
    case round =>
      obtain ⟨k, hk, rfl, hs, hx⟩ := hrel
      by_cases hlt : k < l.length
      · obtain ⟨b1, o1, rfl, _, hc1⟩ := hA (by intro h; simp [h] at hlt)
        obtain ⟨b2, o2, rfl, _, hc2⟩ := hB (by intro h; have := HN.out; rw [h, List.length_nil] at this; omega)
        have hkm : k < m.length := by have := HN.out; omega
        have a1 := hx.cell (hc1 k hlt)
        have a2 := hx.cell (hc2 k hkm)
        have hlti : (k : Int) < l.length := by omega
        have hltm : (k : Int) < m.length := by omega
        clear hc1 hc2 hA hB
        by_cases he : l[k] = m[k]
        · have hb : ((l[k].toNat : Int) != (m[k].toNat : Int)) = false := by simp [he]
          have HE := Lib.hid he
          clear he
          generalize l[k].toNat = x at *
          generalize m[k].toNat = y at *
          go_wp2_with fail
          go_quiet (fail)
          go_wp2
          go_roundw
          case rel =>
            refine ⟨k + 1, by omega, by go_num, ?_, hx.drewN _⟩
            intro j h1 h2 hj
            by_cases hjk : j < k
            · exact hs.out j h1 h2 hjk
            · obtain rfl : j = k := by omega
              exact HE.out
          case measure => simp [intOf]; omega
        · have hb : ((l[k].toNat : Int) != (m[k].toNat : Int)) = true := by
            simp only [bne_iff_ne, ne_eq]
            intro h
            exact he (UInt8.toNat_inj.1 (by omega))
          have hfin : (l == m) = false := by
            rw [beq_eq_false_iff_ne]
            rintro rfl
            exact he rfl
          have HF := Lib.hid hfin
          clear hfin he
          generalize l[k].toNat = x at *
          generalize m[k].toNat = y at *
          go_wp2_with fail
          go_quiet (fail)
          go_wp2
          go_ret
          exact ⟨ret_bool HF.out.symm, hx.drewN _⟩
      · have hfin : (l == m) = true := by
          rw [beq_iff_eq]
          exact List.ext_getElem HN.out (fun j h1 h2 => hs.out j h1 h2 (by omega))
        have HF := Lib.hid hfin
        clear hfin hs
        go_wp2
        go_ret
        exact ⟨ret_bool HF.out.symm, hx⟩
  · have hnb : ((l.length : Int) != (m.length : Int)) = true := by simp; omega
    have hfin : (l == m) = false := by
      rw [beq_eq_false_iff_ne]
      rintro rfl
      exact hn rfl
    have HF := Lib.hid hfin
    clear hfin
    go_enter Try.func51, Try.ntmps51
    go_wp2
    go_ret
    exact ⟨ret_bool HF.out.symm, Ext.refl _⟩

set_option maxRecDepth 100000 in
set_option maxHeartbeats 400000 in
theorem scCall (a b : CallC) (A B : Option Addr) (ca cb : Nat) (w : World) (hA : RB Z w A a.bytes) (hB : RB Z w B b.bytes) (hl : a.bytes.length ≤ 9223372036854775807) :
    Calls Try.prog 52 #[callV a A ca, callV b B cb] w fun e w' => e = .returned (.bool (sameCall a b)) ∧ Ext w w' := by
  have h3 := strOf_toList
  have hb0 := ext2 w
  go_enter Try.func52, Try.ntmps52
  go_wp2_with (go_at_call 51; (with_reducible refine (eqBytes a.bytes b.bytes A B ca cb _ (hA.ext (hb0 _ _)) (hB.ext (hb0 _ _)) hl).mono ?_); rintro e w1 ⟨rfl, hb1⟩; have hb2 := (hb0 _ _).trans hb1)
  all_goals go_ret
  all_goals exact ⟨by simp [sameCall, *], by first | assumption | exact hb0 _ _⟩

set_option maxRecDepth 100000 in
set_option maxHeartbeats 1000000 in
theorem scSame (h g : HapC) (a b : HapA) (w : World) (hA : RH Z w h a) (hB : RH Z w g b) (hl : h.call.bytes.length ≤ 9223372036854775807) (hl' : h.picks.length ≤ 9223372036854775807) :
    Calls Try.prog 18 #[hapV h a, hapV g b] w fun e w' => e = .returned (.bool (sameHap h g)) ∧ Ext w w' := by
  have hb0 := ext2 w
  go_enter Try.func18, Try.ntmps18
  go_wp2_with (first
    | (go_at_call 51; (with_reducible refine (eqBytes h.picks g.picks a.P b.P a.cp b.cp _ (hA.p.ext (hb0 _ _)) (hB.p.ext (hb0 _ _)) hl').mono ?_); rintro e w1 ⟨rfl, hb1⟩; have hb2 := (hb0 _ _).trans hb1; obtain ⟨hc, hf⟩ := hb1.cells)
    | (go_at_call 52; (with_reducible refine (scCall h.call g.call a.A b.A a.ca b.ca _ (hA.b.ext hb2) (hB.b.ext hb2) hl).mono ?_); rintro e w2 ⟨rfl, hb3⟩; have hb4 := hb2.trans hb3))
  all_goals go_ret
  all_goals exact ⟨by simp only [sameHap]; simp [*], by first | assumption | exact hb0 _ _⟩
end Go.Proofs.Ytffepmoicpphfaa
