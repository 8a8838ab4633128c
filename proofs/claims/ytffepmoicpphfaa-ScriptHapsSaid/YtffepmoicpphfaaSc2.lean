/- script: low, text, walked. -/
import Derived.Test.YtffepmoicpphfaaR30d
namespace Go.Proofs.Ytffepmoicpphfaa
set_option linter.unusedSimpArgs false
set_option linter.unusedVariables false
open Go.RowKit
variable {Z : Nat}
/-- a row of bytes that was handed in has grown -/
def GrowsB (w : World) (base : Nat) (v : Value) (l : List UInt8) (e : Ending) (w' : World) : Prop :=
  ∃ v', e = .returned v' ∧ OB w' base v' l ∧ w.grownBy w' v.ownBlock ∧ (v'.ownBlock = v.ownBlock ∨ ∃ g, v'.ownBlock = some g ∧ w.heap.size ≤ g)
theorem grown_then {w w1 w2 : World} {v v1 : Value} (h : w.grownBy w1 v.ownBlock) (ha : v1.ownBlock = v.ownBlock ∨ ∃ g, v1.ownBlock = some g ∧ w.heap.size ≤ g) (k : w1.grownBy w2 v1.ownBlock) : w.grownBy w2 v.ownBlock :=
  ⟨k.os.trans h.os, k.tape.trans h.tape, k.output.trans h.output, Nat.le_trans h.size k.size, fun i hi hne => (k.block i (Nat.lt_of_lt_of_le hi h.size) (by
    rcases ha with e | ⟨g, e, hg⟩ <;> rw [e]
    · exact hne
    · intro e'; injection e' with e'; omega)).trans (h.block i hi hne)⟩
theorem at_then {n n1 : Nat} {v v1 v2 : Value} (hn : n ≤ n1) (ha : v1.ownBlock = v.ownBlock ∨ ∃ g, v1.ownBlock = some g ∧ n ≤ g) (hb : v2.ownBlock = v1.ownBlock ∨ ∃ g, v2.ownBlock = some g ∧ n1 ≤ g) : v2.ownBlock = v.ownBlock ∨ ∃ g, v2.ownBlock = some g ∧ n ≤ g := by
  rcases hb with e | ⟨g, e, hg⟩
  · rcases ha with e' | ⟨g, e', hg⟩
    · exact .inl (e.trans e')
    · exact .inr ⟨g, e.trans e', hg⟩
  · exact .inr ⟨g, e, by omega⟩
theorem at_new {n : Nat} {v v1 : Value} (h : v1.ownBlock = v.ownBlock ∨ v1.ownBlock = some n) : v1.ownBlock = v.ownBlock ∨ ∃ g, v1.ownBlock = some g ∧ n ≤ g := by
  rcases h with e | e
  · exact .inl e
  · exact .inr ⟨n, e, Nat.le_refl _⟩
theorem grown_alloc {w w1 : World} {row : Option Nat} (h : w.grownBy w1 row) (o : Obj) : w.grownBy (w1.alloc o) row :=
  ⟨h.os, h.tape, h.output, Nat.le_trans h.size (by simp), fun i hi hne => (Below.heap_alloc w1 o i (Nat.lt_of_lt_of_le hi h.size)).trans (h.block i hi hne)⟩

/-- bytes that lie in another block than a row -/
def RBn (Z : Nat) (w : World) (row : Option Nat) (A : Option Addr) (l : List UInt8) : Prop :=
  l ≠ [] → ∃ b o, A = some ⟨b, o, none⟩ ∧ some b ≠ row ∧ OldOr Z w b ∧ ∀ j (h : j < l.length), w.cell? ⟨b, o + j, none⟩ = some (.int .u8 (l[j].toNat : Int))
theorem RBn.rb {w row A l} (h : RBn Z w row A l) : RB Z w A l := fun hl => let ⟨b, o, hA, _, ht, hc⟩ := h hl; ⟨b, o, hA, ht, hc⟩
theorem RBn.ext {w w' : World} {row A l} (h : RBn Z w row A l) (hb : Ext w w') : RBn Z w' row A l := fun hl =>
  let ⟨b, o, hA, hn, ht, hc⟩ := h hl; ⟨b, o, hA, hn, ht.ext hb, fun j hj => hb.cell (hc j hj)⟩
theorem RBn.grown {w w' : World} {row A l} (h : RBn Z w row A l) (hg : w.grownBy w' row) : RBn Z w' row A l := fun hl => by
  obtain ⟨b, o, hA, hn, ht, hc⟩ := h hl
  have hbl : b < w.heap.size := World.block_lt_of_cell? w _ (hc 0 (List.length_pos_iff.2 hl))
  refine ⟨b, o, hA, hn, ?_, fun j hj => hg.cell (hc j hj) hn⟩
  rcases ht with ht | ⟨cs, fr, ht⟩
  · exact .inl ht
  · exact .inr ⟨cs, fr, (hg.block b hbl hn).trans ht⟩
set_option maxRecDepth 100000 in
set_option maxHeartbeats 1000000 in
theorem lowInt (v : Value) (l : List UInt8) (base n many : Nat) (w : World) (ho : OB w base v l) (hb : base ≤ w.heap.size) (hn : n < 9223372036854775808) (hm : many ≤ 64) (hl : l.length ≤ 1048576) :
    Calls Try.prog 24 #[v, .int .i64 n, .int .i64 many] w (GrowsB w base v (l ++ lowB n many)) := by
  have HN := Lib.hid hn
  clear hn
  go_enter Try.func24, Try.ntmps24
  go_wp2
  go_loopw [0, 1, 8] (fun u x i wr => ∃ k : Nat, k ≤ many ∧ i = .int .i64 k ∧ x = .int .i64 (n / 256 ^ k : Nat) ∧ OB wr base u (l ++ lowB n k) ∧ w.grownBy wr v.ownBlock ∧ (u.ownBlock = v.ownBlock ∨ ∃ g, u.ownBlock = some g ∧ w.heap.size ≤ g)) (fun _ _ i _ => many - (intOf i).toNat)
  case atStart => exact ⟨0, by omega, rfl, by simp, by simpa [lowB] using ho, World.grownBy.refl w _, .inl rfl⟩
  case round =>
    obtain ⟨k, hk, rfl, hx, hob, hgr, hat⟩ := hrel
    have hlen := lowB_length k n
    obtain ⟨y, hy⟩ : ∃ y, y = n / 256 ^ k := ⟨_, rfl⟩
    have hyb : y < 9223372036854775808 := by rw [hy]; exact Nat.lt_of_le_of_lt (Nat.div_le_self _ _) HN.out
    rw [← hy] at hx
    subst hx
    have hs1 : lowB n (k + 1) = lowB n k ++ [UInt8.ofNat y] := by rw [hy]; exact lowB_snoc k n
    have hs2 : n / 256 ^ (k + 1) = y / 256 := by rw [hy, Nat.pow_succ, Nat.div_div_eq_div_mul]
    have HS1 := Lib.hid hs1
    have HS2 := Lib.hid hs2
    have HL := Lib.hid hlen
    clear hs1 hs2 hy hlen
    have hz := hgr.size
    by_cases hlt : k < many
    · have c1 := Lib.hid (show ((y : Int) % 256) = ((UInt8.ofNat y).toNat : Int) by simp)
      have c2 := Lib.hid (show (l ++ lowB n k).length + [UInt8.ofNat y].length ≤ 140737488355328 by rw [List.length_append, HL.out]; simp; omega)
      go_wp2_with (at_builtin; go_loud (refine wpl_bytes rfl (.tmp 10) (.tmp 13) 65 rfl base Try.underlying65 u0 (l ++ lowB n k) rfl (hob.alloc _) (some ⟨wr.heap.size, 0, none⟩) 1 1 [UInt8.ofNat y] rfl rfl (rb_new (Z := 0) _ _ _ c1.out) c2.out (by simp; omega) ?_); intro v' w1 hob1 hg1 hat1; have hgr1 := grown_then (grown_alloc hgr (.cells #[.int .u8 ((y : Int) % 256)] 5)) hat hg1; have hat2 := at_then (by simp; omega : w.heap.size ≤ (wr.alloc (.cells #[.int .u8 ((y : Int) % 256)] 5)).heap.size) hat (at_new hat1); clear hg1)
      go_roundw
      case rel => exact ⟨k + 1, by omega, by go_num, by rw [HS2.out]; first | go_num | (simp [bits, Int.shiftRight_eq_div_pow]; done) | trace_state, by rw [HS1.out, ← List.append_assoc]; exact hob1, hgr1, hat2⟩
      case measure => simp [intOf]; omega
    · obtain rfl : k = many := by omega
      go_wp2
      go_ret
      exact ⟨u0, rfl, hob, hgr, hat⟩
set_option maxRecDepth 100000 in
set_option maxHeartbeats 1000000 in
theorem lowU64 (v : Value) (l : List UInt8) (base n many : Nat) (w : World) (ho : OB w base v l) (hb : base ≤ w.heap.size) (hn : n < 18446744073709551616) (hm : many ≤ 64) (hl : l.length ≤ 1048576) :
    Calls Try.prog 44 #[v, .int .u64 n, .int .i64 many] w (GrowsB w base v (l ++ lowB n many)) := by
  have HN := Lib.hid hn
  clear hn
  go_enter Try.func44, Try.ntmps44
  go_wp2
  go_loopw [0, 1, 8] (fun u x i wr => ∃ k : Nat, k ≤ many ∧ i = .int .i64 k ∧ x = .int .u64 (n / 256 ^ k : Nat) ∧ OB wr base u (l ++ lowB n k) ∧ w.grownBy wr v.ownBlock ∧ (u.ownBlock = v.ownBlock ∨ ∃ g, u.ownBlock = some g ∧ w.heap.size ≤ g)) (fun _ _ i _ => many - (intOf i).toNat)
  case atStart => exact ⟨0, by omega, rfl, by simp, by simpa [lowB] using ho, World.grownBy.refl w _, .inl rfl⟩
  case round =>
    obtain ⟨k, hk, rfl, hx, hob, hgr, hat⟩ := hrel
    have hlen := lowB_length k n
    obtain ⟨y, hy⟩ : ∃ y, y = n / 256 ^ k := ⟨_, rfl⟩
    have hyb : y < 18446744073709551616 := by rw [hy]; exact Nat.lt_of_le_of_lt (Nat.div_le_self _ _) HN.out
    rw [← hy] at hx
    subst hx
    have hs1 : lowB n (k + 1) = lowB n k ++ [UInt8.ofNat y] := by rw [hy]; exact lowB_snoc k n
    have hs2 : n / 256 ^ (k + 1) = y / 256 := by rw [hy, Nat.pow_succ, Nat.div_div_eq_div_mul]
    have HS1 := Lib.hid hs1
    have HS2 := Lib.hid hs2
    have HL := Lib.hid hlen
    clear hs1 hs2 hy hlen
    have hz := hgr.size
    by_cases hlt : k < many
    · have c1 := Lib.hid (show ((y : Int) % 256) = ((UInt8.ofNat y).toNat : Int) by simp)
      have c2 := Lib.hid (show (l ++ lowB n k).length + [UInt8.ofNat y].length ≤ 140737488355328 by rw [List.length_append, HL.out]; simp; omega)
      go_wp2_with (at_builtin; go_loud (refine wpl_bytes rfl (.tmp 10) (.tmp 13) 65 rfl base Try.underlying65 u0 (l ++ lowB n k) rfl (hob.alloc _) (some ⟨wr.heap.size, 0, none⟩) 1 1 [UInt8.ofNat y] rfl rfl (rb_new (Z := 0) _ _ _ c1.out) c2.out (by simp; omega) ?_); intro v' w1 hob1 hg1 hat1; have hgr1 := grown_then (grown_alloc hgr (.cells #[.int .u8 ((y : Int) % 256)] 5)) hat hg1; have hat2 := at_then (by simp; omega : w.heap.size ≤ (wr.alloc (.cells #[.int .u8 ((y : Int) % 256)] 5)).heap.size) hat (at_new hat1); clear hg1)
      go_roundw
      case rel => exact ⟨k + 1, by omega, by go_num, by rw [HS2.out]; first | go_num | (simp [bits, Int.shiftRight_eq_div_pow]; done) | trace_state, by rw [HS1.out, ← List.append_assoc]; exact hob1, hgr1, hat2⟩
      case measure => simp [intOf]; omega
    · obtain rfl : k = many := by omega
      go_wp2
      go_ret
      exact ⟨u0, rfl, hob, hgr, hat⟩

set_option maxRecDepth 100000 in
set_option maxHeartbeats 1000000 in
theorem textBytes (v : Value) (l m : List UInt8) (base : Nat) (A : Option Addr) (c : Nat) (w : World) (ho : OB w base v l) (hb : base ≤ w.heap.size) (hr : RBn Z w v.ownBlock A m) (hm : m.length ≤ 1048576) (hl : l.length ≤ 1048576) :
    Calls Try.prog 74 #[v, .slice A m.length c] w (GrowsB w base v (l ++ UInt8.ofNat m.length :: m)) := by
  have c1 := Lib.hid (show ((m.length : Int) % 256) = ((UInt8.ofNat m.length).toNat : Int) by simp)
  have c2 := Lib.hid (show l.length + [UInt8.ofNat m.length].length ≤ 140737488355328 by simp; omega)
  have c3 := Lib.hid (show (l ++ [UInt8.ofNat m.length]).length + m.length ≤ 140737488355328 by simp; omega)
  go_enter Try.func74, Try.ntmps74
  go_wp2_with (first
    | (at_builtin; refine wpl_bytes rfl (.tmp 5) (.tmp 9) 65 rfl base Try.underlying65 v l rfl (ho.alloc _) (some ⟨w.heap.size, 0, none⟩) 1 1 [UInt8.ofNat m.length] rfl rfl (rb_new (Z := 0) _ _ _ c1.out) c2.out (by simp; omega) ?_; intro v1 w1 hob1 hg1 hat1; have hr1 := (hr.ext (ext1 _ _)).grown hg1)
    | (at_builtin; refine wpl_bytesx rfl (.tmp 10) (.tmp 11) 65 31 5 rfl base Try.underlying65 Try.underlying31 v1 _ rfl hob1 A m.length c m rfl rfl hr1.rb c3.out (Nat.le_trans hb (Nat.le_trans (by simp) hg1.size)) ?_; intro v2 w2 hob2 hg2 hat2))
  go_ret
  have g1 := grown_alloc (World.grownBy.refl w v.ownBlock) (.cells #[.int .u8 ((m.length : Int) % 256)] 5)
  have g2 := grown_then g1 (.inl rfl) hg1
  have a1 := at_then (v := v) (v1 := v) (by simp : w.heap.size ≤ (w.alloc (.cells #[.int .u8 ((m.length : Int) % 256)] 5)).heap.size) (.inl rfl) (at_new hat1)
  exact ⟨v2, rfl, by simpa using hob2, grown_then g2 a1 hg2, at_then g2.size a1 (at_new hat2)⟩

set_option maxRecDepth 100000 in
set_option maxHeartbeats 1000000 in
theorem textStr (v : Value) (l m : List UInt8) (base : Nat) (w : World) (ho : OB w base v l) (hb : base ≤ w.heap.size) (hm : m.length ≤ 1048576) (hl : l.length ≤ 1048576) :
    Calls Try.prog 66 #[v, .string (strOf m)] w (GrowsB w base v (l ++ UInt8.ofNat m.length :: m)) := by
  have c1 := Lib.hid (show ((m.length : Int) % 256) = ((UInt8.ofNat m.length).toNat : Int) by simp)
  have c2 := Lib.hid (show l.length + [UInt8.ofNat m.length].length ≤ 140737488355328 by simp; omega)
  have c3 := Lib.hid (show (l ++ [UInt8.ofNat m.length]).length + m.length ≤ 140737488355328 by simp; omega)
  have h3 := strOf_size
  go_enter Try.func66, Try.ntmps66
  go_wp2_with (first
    | (at_builtin; refine wpl_bytes rfl (.tmp 5) (.tmp 9) 65 rfl base Try.underlying65 v l rfl (ho.alloc _) (some ⟨w.heap.size, 0, none⟩) 1 1 [UInt8.ofNat m.length] rfl rfl (rb_new (Z := 0) _ _ _ c1.out) c2.out (by simp; omega) ?_; intro v1 w1 hob1 hg1 hat1)
    | (at_builtin; refine wpl_str rfl (.tmp 10) (.tmp 11) 65 9 rfl base Try.underlying65 Try.underlying9 v1 _ rfl hob1 m rfl c3.out (Nat.le_trans hb (Nat.le_trans (by simp) hg1.size)) ?_; intro v2 w2 hob2 hg2 hat2))
  go_ret
  have g1 := grown_alloc (World.grownBy.refl w v.ownBlock) (.cells #[.int .u8 ((m.length : Int) % 256)] 5)
  have g2 := grown_then g1 (.inl rfl) hg1
  have a1 := at_then (v := v) (v1 := v) (by simp : w.heap.size ≤ (w.alloc (.cells #[.int .u8 ((m.length : Int) % 256)] 5)).heap.size) (.inl rfl) (at_new hat1)
  exact ⟨v2, rfl, by simpa using hob2, grown_then g2 a1 hg2, at_then g2.size a1 (at_new hat2)⟩
end Go.Proofs.Ytffepmoicpphfaa
