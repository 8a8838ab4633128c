/- the law's few, num, walked. -/
import Derived.Test.YtffepmoicpphfaaSc22
import Derived.Test.YtffepmoicpphfaaSc19
namespace Go.Proofs.Ytffepmoicpphfaa
set_option linter.unusedSimpArgs false
set_option linter.unusedVariables false
open Go.RowKit
variable {Z : Nat}
theorem l30num (n : Int) (w : World) : Calls Try.prog 7 #[.int .i64 n] w fun e w' => e = .returned (.int .i64 n) ∧ w = w' := by
  go_enter Try.func7, Try.ntmps7
  go_wp2
  go_ret
  exact ⟨rfl, rfl⟩
def fewH (h : HapC) : Bool := decide (h.call.path.length ≤ 300) && decide (h.call.to_.length ≤ 300) && decide (h.call.bytes.length ≤ 300) && decide (h.picks.length ≤ 300)
def fewB (l : List HapC) (many : Nat) : Bool := decide (l.length ≤ many) && l.all fewH
set_option maxRecDepth 100000 in
set_option maxHeartbeats 2000000 in
theorem l30few (l : List (HapC × HapA)) (A : Option Addr) (c many : Nat) (w : World) (hA : RHs Z w A l) (hm : many ≤ 1000) :
    Calls Try.prog 5 #[.slice A l.length c, .int .i64 many] w fun e w' => e = .returned (.bool (fewB (l.map (·.1)) many)) ∧ Ext w w' := by
  by_cases hl : l.length ≤ many
  · have hli : ¬ (many : Int) < l.length := by omega
    have hli' : (l.length : Int) ≤ many := by omega
    go_enter Try.func5, Try.ntmps5
    go_wp2
    go_loopw [5] (fun i wr => ∃ j : Nat, j ≤ l.length ∧ i = .int .i64 j ∧ Hid (((l.map (·.1)).take j).all fewH = true) ∧ Ext w wr) (fun i _ => l.length - (intOf i).toNat)
    case atStart => exact ⟨0, by omega, rfl, (by simp : ((l.map (·.1)).take 0).all fewH = true), Ext.refl _⟩
    case round =>
      obtain ⟨j, hj, rfl, hall, hx⟩ := hrel
      by_cases hlt : j < l.length
      · obtain ⟨b1, o1, rfl, hc1⟩ := hA (by intro h; simp [h] at hlt)
        have ha := (hc1 j hlt).1.ext hx
        have hlti : (j : Int) < l.length := by omega
        have E1 : l[j]? = some l[j] := List.getElem?_eq_getElem hlt
        clear hc1 hA
        generalize l[j] = x1 at *
        obtain ⟨⟨k, cl, ⟨ck, pa, to_, at_, mny, key, bytes⟩, n, p⟩, a⟩ := x1
        have HE := Lib.hid E1
        clear E1
        dsimp only at ha
        have hx5 := ext1 wr (callObj ⟨ck, pa, to_, at_, mny, key, bytes⟩ a.A a.ca)
        have hb := ha.ext hx5
        have HX5 := Lib.hid (hx.trans hx5)
        unfold HapAt at ha hb
        clear hx5
        have hz1 := strOf_size pa
        have hz2 := strOf_size to_
        have hrow : ∀ b, fewH ⟨k, cl, ⟨ck, pa, to_, at_, mny, key, bytes⟩, n, p⟩ = b → ((decide (300 < (pa.length : Int)) || decide (300 < (to_.length : Int)) || decide (300 < (bytes.length : Int))) || decide (300 < (p.length : Int))) = !b := by
          intro b hb
          rw [← hb]
          simp only [fewH, Bool.not_and, decide_not, Int.not_le, Nat.not_le]
          congr 1
          · congr 1
            · congr 1 <;> (rw [← decide_not]; exact decide_eq_decide.2 (by omega))
            · rw [← decide_not]; exact decide_eq_decide.2 (by omega)
          · rw [← decide_not]; exact decide_eq_decide.2 (by omega)
        cases hf : fewH ⟨k, cl, ⟨ck, pa, to_, at_, mny, key, bytes⟩, n, p⟩
        · have hr := hrow _ hf
          simp only [Bool.not_false] at hr
          have HF := Lib.hid hf
          clear hrow hf
          have hff : fewB (l.map (·.1)) many = false := by
            have : (l.map (·.1)).all fewH = false := by
              rw [List.all_eq_false]
              exact ⟨_, List.mem_map.2 ⟨_, List.mem_of_getElem? HE.out, rfl⟩, by rw [HF.out]; simp⟩
            simp [fewB, this]
          have HFF := Lib.hid hff
          clear hff
          go_wp2
          all_goals exact bodyPost_ret (v := .bool false) (by simp [results, Try.results5, go_sem]) rfl ⟨by rw [HFF.out], HX5.out⟩
        · have hr := hrow _ hf
          have HF := Lib.hid hf
          simp only [fewH, Bool.and_eq_true, decide_eq_true_eq] at hf
          obtain ⟨⟨⟨f1, f2⟩, f3⟩, f4⟩ := hf
          have g1 : ¬ (300 : Int) < pa.length := by omega
          have g2 : ¬ (300 : Int) < to_.length := by omega
          have g3 : ¬ (300 : Int) < bytes.length := by omega
          have g4 : ¬ (300 : Int) < p.length := by omega
          have d1 : decide ((300 : Int) < pa.length) = false := by simp; omega
          have d2 : decide ((300 : Int) < to_.length) = false := by simp; omega
          have d3 : decide ((300 : Int) < bytes.length) = false := by simp; omega
          have d4 : decide ((300 : Int) < p.length) = false := by simp; omega
          clear hrow hr
          go_wp2
          go_roundw
          case rel =>
            refine ⟨j + 1, by omega, by go_num, ?_, HX5.out⟩
            show ((l.map (·.1)).take (j + 1)).all fewH = true
            have hmt : (l.map (·.1)).take (j + 1) = (l.map (·.1)).take j ++ [⟨k, cl, ⟨ck, pa, to_, at_, mny, key, bytes⟩, n, p⟩] := by
              rw [List.take_add_one]
              simp [HE.out]
            have h0 : ((l.map (·.1)).take j).all fewH = true := hall
            rw [hmt, List.all_append, h0]
            simp [HF.out]
          case measure => simp [intOf]; omega
      · obtain rfl : j = l.length := by omega
        have h0 : ((l.map (·.1)).take l.length).all fewH = true := hall
        rw [List.take_of_length_le (by simp)] at h0
        have HF := Lib.hid h0
        clear hall h0
        go_wp2
        exact bodyPost_ret (v := .bool true) (by simp [results, Try.results5, go_sem]) rfl ⟨by simp [fewB, HF.out, hl], hx⟩
  · have hli : (many : Int) < l.length := by omega
    go_enter Try.func5, Try.ntmps5
    go_wp2
    exact bodyPost_ret (v := .bool false) (by simp [results, Try.results5, go_sem]) rfl ⟨by simp [fewB, hl], Ext.refl _⟩
end Go.Proofs.Ytffepmoicpphfaa
