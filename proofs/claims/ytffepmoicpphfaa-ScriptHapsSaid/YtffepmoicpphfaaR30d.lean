/- hedgerowref30: low, text, walked. -/
import Derived.Test.YtffepmoicpphfaaR30c
import Derived.Test.YtffepmoicpphfaaApp
namespace Go.Proofs.Ytffepmoicpphfaa
set_option linter.unusedSimpArgs false
set_option linter.unusedVariables false
open Go.RowKit
variable {Z : Nat}
/-- a number's lowest bytes, the lowest first -/
def lowB : Nat → Nat → List UInt8
  | _, 0 => []
  | n, k + 1 => UInt8.ofNat n :: lowB (n / 256) k
theorem lowB_length (k : Nat) : ∀ n, (lowB n k).length = k := by
  induction k with
  | zero => intro n; rfl
  | succ k ih => intro n; simp [lowB, ih]
theorem lowB_snoc (k : Nat) : ∀ n, lowB n (k + 1) = lowB n k ++ [UInt8.ofNat (n / 256 ^ k)] := by
  induction k with
  | zero => intro n; simp [lowB]
  | succ k ih =>
    intro n
    rw [lowB, ih (n / 256), lowB, List.cons_append, Nat.div_div_eq_div_mul, Nat.pow_succ, Nat.mul_comm 256]
/-- bytes of the call's own, handed back -/
def GivesB (w : World) (l : List UInt8) (e : Ending) (w' : World) : Prop := ∃ v, e = .returned v ∧ OB w' w.heap.size v l ∧ Ext w w'

set_option maxRecDepth 100000 in
set_option maxHeartbeats 1000000 in
theorem r30low (n many : Nat) (w : World) (hn : n < 18446744073709551616) (hm : many ≤ 64) :
    Calls Try.prog 55 #[.int .u64 n, .int .i64 many] w (GivesB w (lowB n many)) := by
  have HN := Lib.hid hn
  clear hn
  go_enter Try.func55, Try.ntmps55
  go_wp2
  go_loopw [0, 5, 6] (fun x v i wr => ∃ k : Nat, k ≤ many ∧ i = .int .i64 k ∧ x = .int .u64 (n / 256 ^ k : Nat) ∧ OB wr w.heap.size v (lowB n k) ∧ Ext w wr) (fun _ _ i _ => many - (intOf i).toNat)
  case atStart => exact ⟨0, by omega, rfl, by simp, OB.nil _ _, Ext.refl _⟩
  case round =>
    obtain ⟨k, hk, rfl, hx, hob, hext⟩ := hrel
    have hlen := lowB_length k n
    obtain ⟨y, hy⟩ : ∃ y, y = n / 256 ^ k := ⟨_, rfl⟩
    have hyb : y < 18446744073709551616 := by rw [hy]; exact Nat.lt_of_le_of_lt (Nat.div_le_self _ _) HN.out
    rw [← hy] at hx
    subst hx
    have hs1 : lowB n (k + 1) = lowB n k ++ [UInt8.ofNat y] := by rw [hy]; exact lowB_snoc k n
    have hs2 : n / 256 ^ (k + 1) = y / 256 := by rw [hy, Nat.pow_succ, Nat.div_div_eq_div_mul]
    have HS1 := Lib.hid hs1
    have HS2 := Lib.hid hs2
    have HL := Lib.hid hlen
    clear hs1 hs2 hy hlen
    have hz := hext.size
    by_cases hlt : k < many
    · have c1 := Lib.hid (show ((y : Int) % 256) = ((UInt8.ofNat y).toNat : Int) by simp)
      have c2 := Lib.hid (show (lowB n k).length + [UInt8.ofNat y].length ≤ 140737488355328 by rw [HL.out]; simp; omega)
      go_wp2_with (at_builtin; go_loud (refine wpl_bytes rfl (.tmp 12) (.tmp 16) 31 rfl w.heap.size Try.underlying31 u5 (lowB n k) rfl (hob.alloc _) (some ⟨wr.heap.size, 0, none⟩) 1 1 [UInt8.ofNat y] rfl rfl (rb_new (Z := 0) _ _ _ c1.out) c2.out (hext.alloc _).size ?_); intro v' w1 hob1 hg1 _; have hext1 := (hext.alloc (.cells #[.int .u8 ((y : Int) % 256)] 5)).own hg1 (hob.alloc _); clear hg1)
      go_roundw
      case rel => exact ⟨k + 1, by omega, by go_num, by rw [HS2.out]; go_num, by rw [HS1.out]; exact hob1, hext1⟩
      case measure => simp [intOf]; omega
    · obtain rfl : k = many := by omega
      go_wp2
      go_ret
      exact ⟨u5, rfl, hob, hext⟩

set_option maxRecDepth 100000 in
set_option maxHeartbeats 1000000 in
theorem r30text (l : List UInt8) (A : Option Addr) (c : Nat) (w : World) (hr : RB Z w A l) (hl : l.length ≤ 1048576) :
    Calls Try.prog 54 #[.slice A l.length c] w (GivesB w (UInt8.ofNat l.length :: l)) := by
  have c1 := Lib.hid (show ((l.length : Int) % 256) = ((UInt8.ofNat l.length).toNat : Int) by simp)
  have c2 := Lib.hid (show [UInt8.ofNat l.length].length + l.length ≤ 140737488355328 by simp; omega)
  go_enter Try.func54, Try.ntmps54
  go_wp2_with (at_builtin; go_loud (refine wpl_bytes rfl (.tmp 6) (.tmp 7) 31 rfl w.heap.size Try.underlying31 _ [UInt8.ofNat l.length] rfl (ob_new _ _ _ _ c1.out (Nat.le_refl _)) A l.length c l rfl rfl (hr.ext (ext1 _ _)) c2.out (ext1 _ _).size ?_); intro v' w1 hob1 hg1 _; have hext1 := (ext1 w (.cells #[.int .u8 ((l.length : Int) % 256)] 5)).own hg1 (ob_new w _ _ _ c1.out (Nat.le_refl _)); clear hg1)
  go_ret
  exact ⟨v', rfl, hob1, hext1⟩
end Go.Proofs.Ytffepmoicpphfaa
