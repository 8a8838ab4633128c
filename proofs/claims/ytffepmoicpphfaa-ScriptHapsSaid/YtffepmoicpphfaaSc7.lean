/- script: the closures of client, and those of kinds that capture nothing, walked. -/
import Derived.Test.YtffepmoicpphfaaSc1
import Derived.Test.YtffepmoicpphfaaSc6
namespace Go.Proofs.Ytffepmoicpphfaa
set_option linter.unusedSimpArgs false
set_option linter.unusedVariables false
open Go.RowKit
variable {Z : Nat}

theorem lowInt1 (v : Value) (l : List UInt8) (base n : Nat) (w : World) (ho : OB w base v l) (hb : base ≤ w.heap.size) (hn : n < 9223372036854775808) (hl : l.length ≤ 1048576) :
    Calls Try.prog 24 #[v, .int .i64 n, .int .i64 1] w (GrowsB w base v (l ++ lowB n 1)) := lowInt v l base n 1 w ho hb hn (by omega) hl
theorem lowU648 (v : Value) (l : List UInt8) (base n : Nat) (w : World) (ho : OB w base v l) (hb : base ≤ w.heap.size) (hn : n < 18446744073709551616) (hl : l.length ≤ 1048576) :
    Calls Try.prog 44 #[v, .int .u64 n, .int .i64 8] w (GrowsB w base v (l ++ lowB n 8)) := lowU64 v l base n 8 w ho hb hn (by omega) hl
theorem tapeNumber8 (X : Nat) (s : SA) (l : List UInt8) (r : Rdr) (w : World) (ht : TR Z w X s l r) (hl : l.length ≤ 1048576) :
    Calls Try.prog 35 #[.pointer (some ⟨X, 0, none⟩), .int .i64 8] w (Reads Z w X s l (numR r 8) fun _ n v => v = .int .u64 (n : Nat)) := tapeNumber X s l r 8 w ht hl (by omega)
theorem only_under {w w0 w1 : World} {row : Option Nat} (hx : Ext w w0) (h : w0.grownBy w1 row) (hr : ∀ g, row = some g → g < w.heap.size ∨ w0.heap.size ≤ g) : w.grownBy w1 row :=
  ⟨h.os.trans hx.os, h.tape.trans hx.tape, h.output.trans hx.output, Nat.le_trans hx.size h.size, fun i hi hne => (h.block i (Nat.lt_of_lt_of_le hi hx.size) hne).trans (hx.block i hi)⟩
/-- a row of bytes that grew behind new blocks has grown -/
theorem GrowsB.under {w w0 : World} {base : Nat} {v : Value} {l l0 : List UInt8} {e : Ending} {w1 : World} (ho : OB w base v l0) (hx : Ext w w0) (h : GrowsB w0 base v l e w1) : GrowsB w base v l e w1 := by
  obtain ⟨v', he, ho', hg, hat⟩ := h
  refine ⟨v', he, ho', only_under hx hg (fun g hg => .inl (World.ownsRow.lt ho g hg).2), ?_⟩
  · rcases hat with e | ⟨g, e, hg⟩
    · exact .inl e
    · exact .inr ⟨g, e, Nat.le_trans hx.size hg⟩
theorem OB.le {w : World} {base base' : Nat} {v : Value} {l : List UInt8} (h : OB w base v l) (hb : base' ≤ base) : OB w base' v l := ⟨h.1, h.2.imp id fun ⟨g, cap, cur, e, hg, h⟩ => ⟨g, cap, cur, e, Nat.le_trans hb hg, h⟩⟩

set_option maxRecDepth 100000 in
set_option maxHeartbeats 1000000 in
theorem client1 (h : HapC) (a : HapA) (w : World) :
    Calls Try.prog 60 #[hapV h a] w fun e w' => e = .returned (.bool (inB h.client 7)) ∧ Ext w w' := by
  obtain ⟨k, cl, c, n, p⟩ := h
  go_enter Try.func60, Try.ntmps60
  go_wp2_with (go_at_call 32; (with_reducible refine (scIn _ 0 7 _).mono ?_); rintro e w1 ⟨rfl, rfl⟩)
  exact bodyPost_ret (v := .bool (inB cl 7)) (by simp [results, Try.results60, go_sem, inB]) rfl ⟨rfl, ext1 _ _⟩
set_option maxRecDepth 100000 in
set_option maxHeartbeats 1000000 in
theorem kinds1 (h : HapC) (a : HapA) (w : World) :
    Calls Try.prog 31 #[hapV h a] w fun e w' => e = .returned (.bool (inB h.call.kind 14)) ∧ Ext w w' := by
  obtain ⟨k, cl, ⟨ck, pa, to_, at_, many, key, bytes⟩, n, p⟩ := h
  go_enter Try.func31, Try.ntmps31
  go_wp2_with (go_at_call 32; (with_reducible refine (scIn _ 0 14 _).mono ?_); rintro e w1 ⟨rfl, rfl⟩)
  exact bodyPost_ret (v := .bool (inB ck 14)) (by simp [results, Try.results31, go_sem, inB]) rfl ⟨rfl, ext1 _ _⟩
set_option maxRecDepth 100000 in
set_option maxHeartbeats 1000000 in
theorem kinds8 (h : HapC) (a : HapA) (w : World) :
    Calls Try.prog 42 #[hapV h a] w fun e w' => e = .returned (.bool true) ∧ Ext w w' := by
  obtain ⟨k, cl, ⟨ck, pa, to_, at_, many, key, bytes⟩, n, p⟩ := h
  go_enter Try.func42, Try.ntmps42
  go_wp2
  exact bodyPost_ret (v := .bool true) (by simp [results, Try.results42, go_sem]) rfl ⟨rfl, ext1 _ _⟩

set_option maxRecDepth 100000 in
set_option maxHeartbeats 1000000 in
theorem client2 (v : Value) (l : List UInt8) (base cl : Nat) (k n : Int) (c : CallC) (p : List UInt8) (a : HapA) (w : World) (ho : OB w base v l) (hb : base ≤ w.heap.size) (hn : cl < 9223372036854775808) (hl : l.length ≤ 1048576) :
    Calls Try.prog 61 #[v, hapV ⟨k, cl, c, n, p⟩ a] w (GrowsB w base v (l ++ lowB cl 1)) := by
  go_enter Try.func61, Try.ntmps61
  go_wp2_with (go_at_call 24; (with_reducible refine (lowInt1 _ l base cl _ (ho.alloc _) (by simp; omega) hn hl).mono ?_); intro e w1 H1; have H2 := H1.under ho (ext1 _ _); clear H1; obtain ⟨v1, rfl, ho1, hg1, hat1⟩ := H2)
  exact bodyPost_ret (v := v1) (by simp [results, Try.results61, go_sem]) rfl ⟨v1, rfl, ho1, hg1, hat1⟩
set_option maxRecDepth 100000 in
set_option maxHeartbeats 1000000 in
theorem kinds2 (v : Value) (l : List UInt8) (base ck : Nat) (k cl n at_ many key : Int) (pa to_ bytes p : List UInt8) (a : HapA) (w : World) (ho : OB w base v l) (hb : base ≤ w.heap.size) (hn : ck < 9223372036854775808) (hl : l.length ≤ 1048576) :
    Calls Try.prog 33 #[v, hapV ⟨k, cl, ⟨ck, pa, to_, at_, many, key, bytes⟩, n, p⟩ a] w (GrowsB w base v (l ++ lowB ck 1)) := by
  go_enter Try.func33, Try.ntmps33
  go_wp2_with (go_at_call 24; (with_reducible refine (lowInt1 _ l base ck _ (ho.alloc _) (by simp; omega) hn hl).mono ?_); intro e w1 H1; have H2 := H1.under ho (ext1 _ _); clear H1; obtain ⟨v1, rfl, ho1, hg1, hat1⟩ := H2)
  exact bodyPost_ret (v := v1) (by simp [results, Try.results33, go_sem]) rfl ⟨v1, rfl, ho1, hg1, hat1⟩
set_option maxRecDepth 100000 in
set_option maxHeartbeats 1000000 in
theorem kinds9 (v : Value) (l : List UInt8) (base key : Nat) (k cl n ck at_ many : Int) (pa to_ bytes p : List UInt8) (a : HapA) (w : World) (ho : OB w base v l) (hb : base ≤ w.heap.size) (hn : key < 18446744073709551616) (hl : l.length ≤ 1048576) :
    Calls Try.prog 43 #[v, hapV ⟨k, cl, ⟨ck, pa, to_, at_, many, key, bytes⟩, n, p⟩ a] w (GrowsB w base v (l ++ lowB key 8)) := by
  go_enter Try.func43, Try.ntmps43
  go_wp2_with (go_at_call 44; (with_reducible refine (lowU648 _ l base key _ (ho.alloc _) (by simp; omega) hn hl).mono ?_); intro e w1 H1; have H2 := H1.under ho (ext1 _ _); clear H1; obtain ⟨v1, rfl, ho1, hg1, hat1⟩ := H2)
  exact bodyPost_ret (v := v1) (by simp [results, Try.results43, go_sem]) rfl ⟨v1, rfl, ho1, hg1, hat1⟩

/-- what a part's reading ends with: one cell of the hap's box is set, or it gives up -/
def SetsBox {α : Type} (Z : Nat) (w : World) (X : Nat) (s : SA) (l : List UInt8) (b o : Nat) (p : Rdr × α) (V : World → α → Value → Prop) (e : Ending) (w' : World) : Prop :=
  ∃ w1, w.grownBy w1 (some X) ∧ ((p.1.bad = false ∧ e = .returned (.tuple #[]) ∧ ∃ v, V w1 p.2 v ∧ TR Z w1 X s l p.1 ∧ w' = w1.setCell ⟨b, o, none⟩ v) ∨ (p.1.bad = true ∧ e = .panicked errHap ∧ w' = w1))
/-- a pointer to a cell of a box, which is there and can be written -/
def Cellar (w : World) (b o : Nat) : Prop := (∃ u, w.cell? ⟨b, o, none⟩ = some u) ∧ w.frozen? ⟨b, o, none⟩ = false
theorem Cellar.grown {w w' : World} {b o X : Nat} (h : Cellar w b o) (hg : w.grownBy w' (some X)) (hne : b ≠ X) : Cellar w' b o := by
  obtain ⟨⟨u, h1⟩, h2⟩ := h
  have hl : b < w.heap.size := World.block_lt_of_cell? w _ h1
  have hb := hg.block b hl (by intro e; injection e with e; exact hne e)
  exact ⟨⟨u, (World.cell?_of_block (w := w) (w' := w') (a := ⟨b, o, none⟩) hb).trans h1⟩, (World.frozen?_of_block (w := w) (w' := w') (a := ⟨b, o, none⟩) hb).trans h2⟩
theorem numR8_lt (r : Rdr) : (numR r 8).2 < 18446744073709551616 := by
  have := leNum_lt (takeR r 8).2
  rw [takeR_len] at this
  simpa [numR] using this
set_option maxRecDepth 100000 in
set_option maxHeartbeats 1000000 in
theorem client3 (X b : Nat) (s : SA) (l : List UInt8) (r : Rdr) (w : World) (ht : TR Z w X s l r) (hl : l.length ≤ 1048576) (hc : Cellar w b 1) (hne : b ≠ X) :
    Calls Try.prog 62 #[.pointer (some ⟨X, 0, none⟩), .pointer (some ⟨b, 0, none⟩)] w (SetsBox Z w X s l b 1 ((numR r 1).1, (numR r 1).2 % 8) fun _ n v => v = .int .i64 (n : Nat)) := by
  have hcon := fun W (hW : TR Z W X s l r) => tapeNumber1 X s l r W hW hl
  have hnl := numR_lt r
  generalize numR r 1 = p at *
  obtain ⟨r1, n⟩ := p
  dsimp only at hnl ⊢
  have HP := Lib.hid hcon
  clear hcon
  go_enter Try.func62, Try.ntmps62
  go_wp2_with (go_at_call 35; (with_reducible refine (HP.out _ ht).mono ?_); rintro e w1 ⟨hg1, (⟨hb1, v, rfl, rfl, ht1⟩ | ⟨hb1, rfl⟩)⟩; obtain ⟨⟨u0, hu0⟩, hf0⟩ := hc.grown hg1 hne)
  · go_end0
    exact ⟨w1, hg1, .inl ⟨hb1, rfl, _, by first | rfl | (simp; done) | trace_state, ht1, rfl⟩⟩
  · exact ⟨rfl, w1, hg1, .inr ⟨hb1, rfl, rfl⟩⟩
set_option maxRecDepth 100000 in
set_option maxHeartbeats 1000000 in
theorem kinds3 (X b : Nat) (s : SA) (l : List UInt8) (r : Rdr) (w : World) (ht : TR Z w X s l r) (hl : l.length ≤ 1048576) (hc : Cellar w b 2) (hne : b ≠ X) :
    Calls Try.prog 34 #[.pointer (some ⟨X, 0, none⟩), .pointer (some ⟨b, 0, none⟩)] w (SetsBox Z w X s l b 2 ((numR r 1).1, (numR r 1).2 % 15) fun _ n v => v = .int .i64 (n : Nat)) := by
  have hcon := fun W (hW : TR Z W X s l r) => tapeNumber1 X s l r W hW hl
  have hnl := numR_lt r
  generalize numR r 1 = p at *
  obtain ⟨r1, n⟩ := p
  dsimp only at hnl ⊢
  have HP := Lib.hid hcon
  clear hcon
  go_enter Try.func34, Try.ntmps34
  go_wp2_with (go_at_call 35; (with_reducible refine (HP.out _ ht).mono ?_); rintro e w1 ⟨hg1, (⟨hb1, v, rfl, rfl, ht1⟩ | ⟨hb1, rfl⟩)⟩; obtain ⟨⟨u0, hu0⟩, hf0⟩ := hc.grown hg1 hne)
  · go_end0
    exact ⟨w1, hg1, .inl ⟨hb1, rfl, _, by first | rfl | (simp; done) | trace_state, ht1, rfl⟩⟩
  · exact ⟨rfl, w1, hg1, .inr ⟨hb1, rfl, rfl⟩⟩
set_option maxRecDepth 100000 in
set_option maxHeartbeats 1000000 in
theorem kinds10 (X b : Nat) (s : SA) (l : List UInt8) (r : Rdr) (w : World) (ht : TR Z w X s l r) (hl : l.length ≤ 1048576) (hc : Cellar w b 7) (hne : b ≠ X) :
    Calls Try.prog 45 #[.pointer (some ⟨X, 0, none⟩), .pointer (some ⟨b, 0, none⟩)] w (SetsBox Z w X s l b 7 ((numR r 8).1, (numR r 8).2) fun _ n v => v = .int .u64 (n : Nat)) := by
  have hcon := fun W (hW : TR Z W X s l r) => tapeNumber8 X s l r W hW hl
  have hnl := numR8_lt r
  generalize numR r 8 = p at *
  obtain ⟨r1, n⟩ := p
  dsimp only at hnl ⊢
  have HP := Lib.hid hcon
  clear hcon
  go_enter Try.func45, Try.ntmps45
  go_wp2_with (go_at_call 35; (with_reducible refine (HP.out _ ht).mono ?_); rintro e w1 ⟨hg1, (⟨hb1, v, rfl, rfl, ht1⟩ | ⟨hb1, rfl⟩)⟩; obtain ⟨⟨u0, hu0⟩, hf0⟩ := hc.grown hg1 hne)
  · go_end0
    exact ⟨w1, hg1, .inl ⟨hb1, rfl, _, by first | rfl | (simp; done) | trace_state, ht1, rfl⟩⟩
  · exact ⟨rfl, w1, hg1, .inr ⟨hb1, rfl, rfl⟩⟩

/-- a function of a hap's pointer that gives the pointer to its cell o -/
@[reducible] def AtFn (k o : Nat) : Prop := ∀ (b : Nat) (w : World), Calls Try.prog k #[.pointer (some ⟨b, 0, none⟩)] w fun e w' => e = .returned (.pointer (some ⟨b, o, none⟩)) ∧ w = w'
theorem kinds4 : AtFn 37 3 := by
  intro b w
  go_enter Try.func37, Try.ntmps37
  go_wp2
  go_ret
  exact ⟨rfl, rfl⟩
theorem kinds5 : AtFn 38 4 := by
  intro b w
  go_enter Try.func38, Try.ntmps38
  go_wp2
  go_ret
  exact ⟨rfl, rfl⟩
theorem kinds6 : AtFn 40 5 := by
  intro b w
  go_enter Try.func40, Try.ntmps40
  go_wp2
  go_ret
  exact ⟨rfl, rfl⟩
theorem kinds7 : AtFn 41 6 := by
  intro b w
  go_enter Try.func41, Try.ntmps41
  go_wp2
  go_ret
  exact ⟨rfl, rfl⟩
theorem kinds11 : AtFn 47 8 := by
  intro b w
  go_enter Try.func47, Try.ntmps47
  go_wp2
  go_ret
  exact ⟨rfl, rfl⟩
theorem kinds12 : AtFn 48 9 := by
  intro b w
  go_enter Try.func48, Try.ntmps48
  go_wp2
  go_ret
  exact ⟨rfl, rfl⟩
theorem kinds13 : AtFn 49 10 := by
  intro b w
  go_enter Try.func49, Try.ntmps49
  go_wp2
  go_ret
  exact ⟨rfl, rfl⟩
theorem kinds14 : AtFn 50 9 := by
  intro b w
  go_enter Try.func50, Try.ntmps50
  go_wp2
  go_ret
  exact ⟨rfl, rfl⟩
end Go.Proofs.Ytffepmoicpphfaa
