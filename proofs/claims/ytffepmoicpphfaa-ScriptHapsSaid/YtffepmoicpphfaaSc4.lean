/- script: the tape's number, texts, walked. -/
import Derived.Test.YtffepmoicpphfaaSc3
namespace Go.Proofs.Ytffepmoicpphfaa
set_option linter.unusedSimpArgs false
set_option linter.unusedVariables false
open Go.RowKit
variable {Z : Nat}
theorem leNum_snoc : ∀ (l : List UInt8) (x : UInt8), leNum (l ++ [x]) = leNum l + 256 ^ l.length * x.toNat
  | [], x => by simp [leNum]
  | y :: l, x => by
    rw [List.cons_append, leNum, leNum_snoc l x, leNum, List.length_cons, Nat.pow_succ]
    rw [Nat.mul_add, Nat.add_assoc, Nat.mul_comm (256 ^ l.length) 256, Nat.mul_assoc]
theorem or_byte (a y k : Nat) (ha : a < 256 ^ k) (hy : y < 256) (hk : k < 8) : bits .or .u64 (a : Int) (IntKind.u64.wrap ((y : Int) * 2 ^ (8 * k))) = ((a + 256 ^ k * y : Nat) : Int) := by
  have e : (256 : Nat) ^ k = 2 ^ (8 * k) := by rw [Nat.pow_mul]
  have hp : (2 : Nat) ^ (8 * k) ≤ 72057594037927936 := by rw [show (72057594037927936 : Nat) = 2 ^ 56 by rfl]; exact Nat.pow_le_pow_right (by omega) (by omega)
  have hb : 2 ^ (8 * k) * y < 18446744073709551616 := by
    have := Nat.mul_le_mul hp (show y ≤ 255 by omega)
    omega
  have ew : IntKind.u64.wrap ((y : Int) * 2 ^ (8 * k)) = ((2 ^ (8 * k) * y : Nat) : Int) := by
    have h1 : ((y : Int) * 2 ^ (8 * k)) = ((2 ^ (8 * k) * y : Nat) : Int) := by rw [Int.natCast_mul, Int.natCast_pow]; rw [Int.mul_comm]; rfl
    rw [h1]
    generalize 2 ^ (8 * k) * y = z at *
    simp only [IntKind.wrap_u64]
    omega
  rw [ew, u64_or_nat _ _ (by rw [e] at ha; omega) hb, e, Nat.or_comm, ← Nat.two_pow_add_eq_or_of_lt (by rw [← e]; exact ha), Nat.add_comm]
set_option maxRecDepth 100000 in
set_option maxHeartbeats 1000000 in
theorem tapeNumberOk (X : Nat) (s : SA) (l : List UInt8) (at_ many : Nat) (w : World) (ht : Tape Z w X s l at_) (hm : at_ + many ≤ l.length) (hl : l.length ≤ 1048576) (h8 : many ≤ 8) :
    Calls Try.prog 35 #[.pointer (some ⟨X, 0, none⟩), .int .i64 many] w fun e w' => e = .returned (.int .u64 (leNum ((l.drop at_).take many) : Nat)) ∧ Tape Z w' X s l (at_ + many) ∧ w.grownBy w' (some X) := by
  have hcon := tapeTakeOk X s l at_ many w ht hm hl
  have hbl : ((l.drop at_).take many).length = many := by simp; omega
  have hle := ht.le
  clear ht
  generalize (l.drop at_).take many = b at *
  go_enter Try.func35, Try.ntmps35
  go_wp2_with (go_at_call 63; (with_reducible refine hcon.mono ?_); clear hcon; rintro e w1 ⟨t, rfl, hrb, ht1, hg1⟩)
  have HB := Lib.hid hbl
  have HT := Lib.hid ht1
  have HG := Lib.hid hg1
  clear hbl ht1 hg1
  go_loop [4, 11] (fun x i => ∃ k : Nat, k ≤ many ∧ i = .int .i64 k ∧ x = .int .u64 (leNum (b.take k) : Nat)) (fun _ i => many - (intOf i).toNat)
  case atStart => exact ⟨0, by omega, rfl, by simp [leNum]⟩
  case round =>
    obtain ⟨k, hk, rfl, rfl⟩ := hrel
    by_cases hlt : k < many
    · have hkb : k < b.length := by rw [HB.out]; omega
      obtain ⟨bb, oo, rfl, _, hcell⟩ := hrb (by intro h; rw [h] at hkb; simp at hkb)
      have hc := hcell k hkb
      have hlti : (k : Int) < (many : Int) := by omega
      have hby := b[k].toNat_lt
      have hL : leNum (b.take k) < 256 ^ k := by
        have := leNum_lt (b.take k)
        rwa [List.length_take, Nat.min_eq_left (by omega)] at this
      have hS : leNum (b.take (k + 1)) = leNum (b.take k) + 256 ^ k * b[k].toNat := by
        rw [List.take_succ_eq_append_getElem hkb, leNum_snoc, List.length_take, Nat.min_eq_left (by omega)]
      have HL := Lib.hid hL
      have HS := Lib.hid hS
      clear hcell hrb hL hS
      generalize b[k].toNat = y at *
      go_wp2
      go_round
      case rel => 
        refine ⟨k + 1, by omega, by go_num, ?_⟩
        rw [or_byte _ _ _ HL.out hby (by omega), HS.out]
      case measure => simp [intOf]; omega
    · obtain rfl : k = many := by omega
      have hT : b.take k = b := List.take_of_length_le (by rw [HB.out]; exact Nat.le_refl _)
      have HTT := Lib.hid hT
      clear hT
      go_wp2
      go_ret
      exact ⟨by rw [HTT.out]; rfl, HT.out, HG.out⟩

set_option maxRecDepth 100000 in
set_option maxHeartbeats 1000000 in
theorem tapeNumberBad (X : Nat) (s : SA) (l : List UInt8) (at_ many : Nat) (w : World) (ht : Tape Z w X s l at_) (hm : l.length < at_ + many) (hl : l.length ≤ 1048576) (hmm : many ≤ 1048576) :
    Calls Try.prog 35 #[.pointer (some ⟨X, 0, none⟩), .int .i64 many] w fun e w' => e = .panicked errHap ∧ Ext w w' := by
  have hcon := tapeTakeBad X s l at_ many w ht hm hl hmm
  clear ht
  go_enter Try.func35, Try.ntmps35
  go_wp2_with (go_at_call 63; (with_reducible refine hcon.mono ?_); clear hcon; rintro e w1 ⟨rfl, hx1⟩)
  exact ⟨rfl, rfl, hx1⟩

set_option maxRecDepth 100000 in
set_option maxHeartbeats 1000000 in
theorem cloneBytes (l : List UInt8) (A : Option Addr) (c : Nat) (w : World) (hr : RB Z w A l) (hl : l.length ≤ 1048576) :
    Calls Try.prog 78 #[.slice A l.length c] w fun e w' => ∃ t k, e = .returned (.slice t l.length k) ∧ l.length ≤ k ∧ RB Z w' t l ∧ Ext w w' := by
  have hnil := fun (A : Option Addr) (n c : Nat) (W : World) => Lib.run_eql_slice_nil (P := Try.prog) W 31 5 A n c 0 0 Try.underlying31
  cases A with
  | none =>
    have hl0 : l = [] := by
      by_cases h : l = []
      · exact h
      · obtain ⟨b, o, e, _⟩ := hr h
        cases e
    subst hl0
    go_enter Try.func78, Try.ntmps78
    go_wp2
    go_ret
    exact ⟨none, 0, rfl, Nat.le_refl _, RB.nil _ _, Ext.refl _⟩
  | some a =>
    go_enter Try.func78, Try.ntmps78
    have c1 := Lib.hid (show ([] : List UInt8).length + l.length ≤ 140737488355328 by simp; omega)
    go_wp2_with (at_builtin; go_loud (refine wpl_bytes rfl (.tmp 5) (.tmp 6) 31 rfl w.heap.size Try.underlying31 _ [] (by rfl) (ob_lit w _ [] #[] 0 _ rfl rfl rfl (Nat.le_refl _) (by decide)) (some a) l.length c l rfl rfl (hr.ext (ext1 _ _)) c1.out (ext1 _ _).size ?_); intro v1 w1 hob1 hg1 _; have hx := (ext1 w (.cells #[] 5)).own hg1 (ob_lit w w.heap.size [] #[] 0 _ rfl rfl rfl (Nat.le_refl _) (by decide)))
    go_ret
    obtain ⟨t, k, rfl, hk, _, hrb⟩ := hob1.rb (Z := Z)
    exact ⟨t, k, rfl, hk, hrb, hx⟩
end Go.Proofs.Ytffepmoicpphfaa
