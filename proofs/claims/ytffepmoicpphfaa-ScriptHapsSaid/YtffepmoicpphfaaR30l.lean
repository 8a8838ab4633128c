/- hedgerowref30: bytes at the kinds 2 to 5, walked. (Printed by wip/gen/gen_bytes.py.) -/
import Derived.Test.YtffepmoicpphfaaSc19
namespace Go.Proofs.Ytffepmoicpphfaa
set_option linter.unusedSimpArgs false
set_option linter.unusedVariables false
open Go.RowKit
variable {Z : Nat}
theorem GivesB.of {w w1 : World} {v : Value} {l : List UInt8} (ho : OB w1 w.heap.size v l) (hx : Ext w w1) : GivesB w l (.returned v) w1 := ⟨v, rfl, ho, hx⟩
theorem r30low2 (n : Nat) (w : World) (hn : n < 18446744073709551616) : Calls Try.prog 55 #[.int .u64 n, .int .i64 2] w (GivesB w (lowB n 2)) := r30low n 2 w hn (by omega)
theorem r30low8 (n : Nat) (w : World) (hn : n < 18446744073709551616) : Calls Try.prog 55 #[.int .u64 n, .int .i64 8] w (GivesB w (lowB n 8)) := r30low n 8 w hn (by omega)
theorem lowB1 (n : Nat) : lowB n 1 = [UInt8.ofNat n] := rfl
set_option maxRecDepth 100000 in
set_option maxHeartbeats 2000000 in
theorem r30bytes2 (cl n : Int) (c : CallC) (p : List UInt8) (a : HapA) (w : World) (hA : RB Z w a.P p) (hc0 : 0 ≤ cl) (hc1 : cl ≤ 7) :
    Calls Try.prog 25 #[hapV ⟨2, cl, c, n, p⟩ a] w (GivesB w (hapB ⟨2, cl, c, n, p⟩)) := by
  have hsp : hapB ⟨2, cl, c, n, p⟩ = [UInt8.ofNat 1] ++ lowB cl.toNat 1 := by
    simp [hapB, layB, kindsL, clientS, nS, picksS, mountS, lowB1]
  rw [hsp]
  have HSP := Lib.hid hsp
  clear hsp
  obtain ⟨m, rfl⟩ := Int.eq_ofNat_of_zero_le hc0
  have c2 := Lib.hid (show #[Value.int .u8 (m : Int)].toList = bvals (lowB (m : Int).toNat 1) by simp [bvals, lowB1]; omega)
  have hl1 := lowB_length 1 (m : Int).toNat
  have c1 := Lib.hid (show #[Value.int .u8 1].toList = bvals [UInt8.ofNat 1] by simp [bvals])

  go_enter Try.func25, Try.ntmps25
  go_wp2_with (first | (at_builtin; go_loud (refine wpl_bytes (Z := Z) rfl (.tmp 58) (.tmp 62) 31 rfl w.heap.size Try.underlying31 (.slice (some ⟨w.heap.size + 1, 0, none⟩) 1 1) [UInt8.ofNat 1] (by rfl) (((ob_lit _ _ _ _ 1 _ (by simp) c1.out rfl (by omega) (by decide)).alloc _).alloc _) _ 1 1 (lowB (m : Int).toNat 1) (by rfl) rfl (rb_lit _ _ _ _ (by simp) c2.out) (by simp [lowB_length]) (by simp; try omega) ?_); intro v1 w1 hob1 hg1 hat1))
  have hx1 : Ext w w1 := Ext.grown ((ext3 w _ _ _).alloc _) hg1 (by intro k hk; simp [Value.ownBlock] at hk; omega)
  exact bodyPost_ret (v := v1) (by simp [results, Try.results25, go_sem]) rfl (GivesB.of hob1 hx1)
set_option maxRecDepth 100000 in
set_option maxHeartbeats 2000000 in
theorem r30bytes5 (cl n : Int) (c : CallC) (p : List UInt8) (a : HapA) (w : World) (hA : RB Z w a.P p) (hc0 : 1 ≤ n) (hc1 : n ≤ 256) :
    Calls Try.prog 25 #[hapV ⟨5, cl, c, n, p⟩ a] w (GivesB w (hapB ⟨5, cl, c, n, p⟩)) := by
  have hsp : hapB ⟨5, cl, c, n, p⟩ = [UInt8.ofNat 4] ++ lowB (n - 1).toNat 1 := by
    simp [hapB, layB, kindsL, clientS, nS, picksS, mountS, lowB1]
  rw [hsp]
  have HSP := Lib.hid hsp
  clear hsp
  obtain ⟨m, hm⟩ := Int.eq_ofNat_of_zero_le (show 0 ≤ n - 1 by omega)
  have hwr : IntKind.i64.wrap (n - 1) = (m : Int) := by rw [hm]; exact IntWalk.i64_in _ (by omega)
  have hm2 : (n - 1).toNat = m := by rw [hm]; rfl
  rw [hm2]
  have hm7 : m < 256 := by omega
  have c2 := Lib.hid (show #[Value.int .u8 (m : Int)].toList = bvals (lowB m 1) by simp [bvals, lowB1]; omega)
  have hl1 := lowB_length 1 m
  clear hm hm2
  have c1 := Lib.hid (show #[Value.int .u8 4].toList = bvals [UInt8.ofNat 4] by simp [bvals])

  go_enter Try.func25, Try.ntmps25
  go_wp2_with (first | (at_builtin; go_loud (refine wpl_bytes (Z := Z) rfl (.tmp 79) (.tmp 84) 31 rfl w.heap.size Try.underlying31 (.slice (some ⟨w.heap.size + 1, 0, none⟩) 1 1) [UInt8.ofNat 4] (by rfl) (((ob_lit _ _ _ _ 1 _ (by simp) c1.out rfl (by omega) (by decide)).alloc _).alloc _) _ 1 1 (lowB m 1) (by rfl) rfl (rb_lit _ _ _ _ (by simp) c2.out) (by simp [lowB_length]) (by simp; try omega) ?_); intro v1 w1 hob1 hg1 hat1))
  have hx1 : Ext w w1 := Ext.grown ((ext3 w _ _ _).alloc _) hg1 (by intro k hk; simp [Value.ownBlock] at hk; omega)
  exact bodyPost_ret (v := v1) (by simp [results, Try.results25, go_sem]) rfl (GivesB.of hob1 hx1)
set_option maxRecDepth 100000 in
set_option maxHeartbeats 2000000 in
theorem r30bytes3 (cl n : Int) (c : CallC) (p : List UInt8) (a : HapA) (w : World) (hA : RB Z w a.P p) (hc0 : 0 ≤ n) (hc1 : n ≤ 65535) :
    Calls Try.prog 25 #[hapV ⟨3, cl, c, n, p⟩ a] w (GivesB w (hapB ⟨3, cl, c, n, p⟩)) := by
  have hsp : hapB ⟨3, cl, c, n, p⟩ = [UInt8.ofNat 2] ++ lowB n.toNat 2 := by
    simp [hapB, layB, kindsL, clientS, nS, picksS, mountS, lowB1]
  rw [hsp]
  have HSP := Lib.hid hsp
  clear hsp
  obtain ⟨m, rfl⟩ := Int.eq_ofNat_of_zero_le hc0
  have hm : m < 18446744073709551616 := by omega
  have hx0 := Lib.hid (ext3 w (hapObj ⟨3, cl, c, m, p⟩ a) (.cells #[.int .u8 2] 5) (callObj c a.A a.ca))
  have c1 := Lib.hid (show #[Value.int .u8 2].toList = bvals [UInt8.ofNat 2] by simp [bvals])
  have HOB0 := Lib.hid (show OB (((w.alloc (hapObj ⟨3, cl, c, m, p⟩ a)).alloc (.cells #[.int .u8 2] 5)).alloc (callObj c a.A a.ca)) w.heap.size (.slice (some ⟨w.heap.size + 1, 0, none⟩) 1 1) [UInt8.ofNat 2] from (ob_lit _ _ _ _ 1 _ (by simp) c1.out rfl (by omega) (by decide)).alloc _)
  go_enter Try.func25, Try.ntmps25
  go_wp2_with (first | (go_at_call 55; (with_reducible refine (r30low2 m _ hm).mono ?_); rintro e w5 ⟨v5, rfl, ho5, hx5⟩; obtain ⟨A5, c5, rfl, hl5, hm5, hr5⟩ := OB.rb (Z := Z) ho5) | (at_builtin; go_loud (refine wpl_bytes (Z := Z) rfl (.tmp 66) (.tmp 70) 31 rfl w.heap.size Try.underlying31 (.slice (some ⟨w.heap.size + 1, 0, none⟩) 1 1) [UInt8.ofNat 2] (by rfl) (HOB0.out.ext hx5) _ _ c5 (lowB m 2) (by rfl) rfl (hr5) (by simp [lowB_length]) (by have := (hx0.out.trans hx5).size; exact this) ?_); intro v1 w1 hob1 hg1 hat1))
  have hx1 : Ext w w1 := Ext.grown (hx0.out.trans hx5) hg1 (by intro k hk; simp [Value.ownBlock] at hk; omega)
  exact bodyPost_ret (v := v1) (by simp [results, Try.results25, go_sem]) rfl (GivesB.of hob1 hx1)
set_option maxRecDepth 100000 in
set_option maxHeartbeats 2000000 in
theorem r30bytes4 (cl n : Int) (c : CallC) (p : List UInt8) (a : HapA) (w : World) (hA : RB Z w a.P p) (hc0 : p.length < 8) :
    Calls Try.prog 25 #[hapV ⟨4, cl, c, n, p⟩ a] w (GivesB w (hapB ⟨4, cl, c, n, p⟩)) := by
  have hsp : hapB ⟨4, cl, c, n, p⟩ = [UInt8.ofNat 3] ++ (UInt8.ofNat p.length :: p) := by
    simp [hapB, layB, kindsL, clientS, nS, picksS, mountS, lowB1]
  rw [hsp]
  have HSP := Lib.hid hsp
  clear hsp
  have hx0 := Lib.hid (ext3 w (hapObj ⟨4, cl, c, n, p⟩ a) (.cells #[.int .u8 3] 5) (callObj c a.A a.ca))
  have hA0 := Lib.hid (hA.ext hx0.out)
  have hp : p.length ≤ 1048576 := by omega
  have c1 := Lib.hid (show #[Value.int .u8 3].toList = bvals [UInt8.ofNat 3] by simp [bvals])
  have HOB0 := Lib.hid (show OB (((w.alloc (hapObj ⟨4, cl, c, n, p⟩ a)).alloc (.cells #[.int .u8 3] 5)).alloc (callObj c a.A a.ca)) w.heap.size (.slice (some ⟨w.heap.size + 1, 0, none⟩) 1 1) [UInt8.ofNat 3] from (ob_lit _ _ _ _ 1 _ (by simp) c1.out rfl (by omega) (by decide)).alloc _)
  go_enter Try.func25, Try.ntmps25
  go_wp2_with (first | (go_at_call 54; (with_reducible refine (r30text (Z := Z) p _ _ _ hA0.out hp).mono ?_); rintro e w5 ⟨v5, rfl, ho5, hx5⟩; obtain ⟨A5, c5, rfl, hl5, hm5, hr5⟩ := OB.rb (Z := Z) ho5) | (at_builtin; go_loud (refine wpl_bytes (Z := Z) rfl (.tmp 74) (.tmp 77) 31 rfl w.heap.size Try.underlying31 (.slice (some ⟨w.heap.size + 1, 0, none⟩) 1 1) [UInt8.ofNat 3] (by rfl) (HOB0.out.ext hx5) _ _ c5 (UInt8.ofNat p.length :: p) (by rfl) rfl (hr5) (by simp [lowB_length]; omega) (by have := (hx0.out.trans hx5).size; exact this) ?_); intro v1 w1 hob1 hg1 hat1))
  have hx1 : Ext w w1 := Ext.grown (hx0.out.trans hx5) hg1 (by intro k hk; simp [Value.ownBlock] at hk; omega)
  exact bodyPost_ret (v := v1) (by simp [results, Try.results25, go_sem]) rfl (GivesB.of hob1 hx1)
end Go.Proofs.Ytffepmoicpphfaa
