/- script: the tape's next, walked. -/
import Derived.Test.YtffepmoicpphfaaSc16
import Derived.Test.YtffepmoicpphfaaSc17
import Derived.Test.YtffepmoicpphfaaR30j
namespace Go.Proofs.Ytffepmoicpphfaa
set_option linter.unusedSimpArgs false
set_option linter.unusedVariables false
open Go.RowKit
variable {Z : Nat}
/-- the parts read one behind the other -/
def readL : List PartS → Rdr → HapC → Rdr × HapC
  | [], r, h => (r, h)
  | p :: ps, r, h => readL ps (p.read r h).1 (p.read r h).2
def kindOf (r : Rdr) : Int := (((numR r 1).2 % 5 + 1 : Nat) : Int)
theorem hapR_parts (r : Rdr) : hapR r = readL (kindsL (kindOf r)) (numR r 1).1 { zeroHap with kind := kindOf r } := by
  have hm : (numR r 1).2 % 5 < 5 := Nat.mod_lt _ (by omega)
  unfold hapR kindOf
  generalize numR r 1 = q at *
  obtain ⟨q, n⟩ := q
  dsimp only at hm ⊢
  generalize n % 5 = k at *
  match k, hm with
  | 0, _ => simp [kindsL, readL, hapR1, clientS, kindS, pathS, toS, atS, manyS, keyS, bytesS, zeroHap]
  | 1, _ => simp [kindsL, readL, clientS, zeroHap, zeroCall]
  | 2, _ => simp [kindsL, readL, nS, zeroHap, zeroCall]
  | 3, _ => simp [kindsL, readL, picksS, zeroHap, zeroCall]
  | 4, _ => simp [kindsL, readL, mountS, zeroHap, zeroCall]; omega
  | n + 5, h => exact absurd h (by omega)
def Sticky (p : PartS) : Prop := ∀ r h, r.bad = true → (p.read r h).1.bad = true
theorem numR_bad (r : Rdr) (m : Nat) (h : r.bad = true) : (numR r m).1.bad = true := takeR_bad r m h
theorem textR_bad (r : Rdr) (m : Nat) (h : r.bad = true) : (textR r m).1.bad = true := takeR_bad _ _ (numR_bad r 1 h)
theorem kinds_sticky (k : Int) : ∀ p ∈ kindsL k, Sticky p := by
  unfold kindsL
  split
  · intro p hp
    simp only [List.mem_cons, List.not_mem_nil, or_false] at hp
    rcases hp with rfl | rfl | rfl | rfl | rfl | rfl | rfl | rfl
    · exact fun r h hb => numR_bad r 1 hb
    · exact fun r h hb => numR_bad r 1 hb
    · exact fun r h hb => textR_bad r 64 hb
    · exact fun r h hb => textR_bad r 64 hb
    · exact fun r h hb => numR_bad r 2 hb
    · exact fun r h hb => numR_bad r 2 hb
    · exact fun r h hb => numR_bad r 8 hb
    · exact fun r h hb => textR_bad r 256 hb
  split
  · intro p hp
    obtain rfl := List.mem_singleton.1 hp
    exact fun r h hb => numR_bad r 1 hb
  split
  · intro p hp
    obtain rfl := List.mem_singleton.1 hp
    exact fun r h hb => numR_bad r 2 hb
  split
  · intro p hp
    obtain rfl := List.mem_singleton.1 hp
    exact fun r h hb => textR_bad r 8 hb
  split
  · intro p hp
    obtain rfl := List.mem_singleton.1 hp
    exact fun r h hb => numR_bad r 1 hb
  · intro p hp; cases hp
theorem readL_bad : ∀ (ps : List PartS), (∀ p ∈ ps, Sticky p) → ∀ r h, r.bad = true → (readL ps r h).1.bad = true
  | [], _, r, h, hb => hb
  | p :: ps, hs, r, h, hb => readL_bad ps (fun q hq => hs q (List.mem_cons_of_mem _ hq)) _ _ (hs p List.mem_cons_self r h hb)
/-- what next ends with -/
def Nexts (Z : Nat) (w : World) (X : Nat) (s : SA) (l : List UInt8) (p : Rdr × HapC) (e : Ending) (w' : World) : Prop :=
  w.grownBy w' (some X) ∧ ((p.1.bad = false ∧ ∃ a, e = .returned (.tuple #[hapV p.2 a, .int .i64 0]) ∧ RH Z w' p.2 a ∧ TR Z w' X s l p.1) ∨ (p.1.bad = true ∧ e = .returned (.tuple #[hapV zeroHap nilA, .int .i64 400])))
@[reducible] def nextDefers (b eb : Nat) : List Deferred := [{ target := .fn (.func 58) #[], args := #[pt eb, .func (.func 59) #[] #[pt b]] }]
theorem next_dies (b eb : Nat) (h : HapC) (a : HapA) (w1 : World) (tmps : Array Value) (R : Ending → World → Prop) (ht2 : tmps[2]? = some (pt b)) (ht3 : tmps[3]? = some (pt eb)) (hB : Boxed Z w1 b h a) (hb : Z ≤ b) (he : w1.cell? ⟨eb, 0, none⟩ = some (.int .i64 0)) (hf : w1.frozen? ⟨eb, 0, none⟩ = false) (hne : eb ≠ b)
    (hR : ∀ w', G2 w1 w' eb b → R (.returned (.tuple #[hapV zeroHap nilA, .int .i64 400])) w') :
    Leaves Try.prog Try.f28 tmps R (nextDefers b eb) (.panicking errHap) w1 := by
  refine leaves_cons (f := 58) (args := #[pt eb, .func (.func 59) #[] #[pt b]]) (by simp) (by simp [go_sem]) ?_
  refine (caughtPanic b eb h a w1 hB hb he hf hne).mono ?_
  rintro e u' w' ⟨rfl, rfl, hc, hB', hg⟩
  have hr := hR w' hg
  obtain ⟨q0, q1, q2, q3, q4, q5, q6, q7, q8, q9, q10⟩ := hB'.box
  simp only [Leaves, settle, List.dropWhile]
  refine ⟨.tuple #[hapV zeroHap nilA, .int .i64 400], ?_, hr⟩
  simp [results, Try.results28, go_sem, ht2, ht3, hc, q0, q1, q2, q3, q4, q5, q6, q7, q8, q9, q10]
/-- the world while next is under way: its hap's box at w's end, its error's behind it -/
structure NS (Z : Nat) (w : World) (X : Nat) (W : World) (h : HapC) (a : HapA) : Prop where
  box : Boxed Z W w.heap.size h a
  ec : W.cell? ⟨w.heap.size + 1, 0, none⟩ = some (.int .i64 0)
  ef : W.frozen? ⟨w.heap.size + 1, 0, none⟩ = false
  gr : w.grownBy W (some X)
@[reducible] def nextW0 (w : World) : World := (w.alloc (.cells #[.int .i64 0, .int .i64 0, .int .i64 0, .string ⟨#[]⟩, .string ⟨#[]⟩, .int .i64 0, .int .i64 0, .int .u64 0, .slice none 0 0, .int .i64 0, .slice none 0 0] 35)).alloc (.cells #[.int .i64 0] 26)
theorem NS.start (w : World) (X : Nat) : NS Z w X (nextW0 w) zeroHap nilA := by
  refine ⟨⟨?_, ?_, ?_, ⟨RB.nil _ _, RB.nil _ _⟩⟩, by simp [go_sem], by simp [go_sem], only_ext (ext2 _ _ _) _⟩
  · exact (HapBox.new w zeroHap nilA).ext (ext1 _ _)
  · intro o; simp [go_sem]
  · exact (show Typ (w.alloc (.cells #[.int .i64 0, .int .i64 0, .int .i64 0, .string ⟨#[]⟩, .string ⟨#[]⟩, .int .i64 0, .int .i64 0, .int .u64 0, .slice none 0 0, .int .i64 0, .slice none 0 0] 35)) w.heap.size 35 from ⟨_, _, new_block w _⟩).ext (ext1 _ _)
theorem NS.lt {w : World} {X : Nat} {W : World} {h : HapC} {a : HapA} (n : NS Z w X W h a) : w.heap.size < W.heap.size ∧ w.heap.size + 1 < W.heap.size :=
  ⟨World.block_lt_of_cell? W _ n.box.box.1, World.block_lt_of_cell? W _ n.ec⟩
theorem NS.grown {w : World} {X : Nat} {W W' : World} {h : HapC} {a : HapA} (n : NS Z w X W h a) (hg : W.grownBy W' (some X)) (hXw : X < w.heap.size) (hX : Z ≤ X) (ht : Typ W X 75) : NS Z w X W' h a :=
  ⟨n.box.grown hg (by omega) hX ht (by decide), hg.cell n.ec (by intro e; injection e with e; dsimp only at e; omega), (hg.frozen_far ⟨w.heap.size + 1, 0, none⟩ n.lt.2 (by intro e; injection e with e; dsimp only at e; omega)).trans n.ef, n.gr.trans hg⟩
theorem Boxed.ext {w w' : World} {b : Nat} {h : HapC} {a : HapA} (r : Boxed Z w b h a) (hx : Ext w w') : Boxed Z w' b h a :=
  ⟨r.box.ext hx, fun o => (hx.cells.2 b o (World.block_lt_of_cell? w _ r.box.1)).trans (r.fz o), r.ty.ext hx, r.rh.ext hx⟩
theorem NS.ext {w : World} {X : Nat} {W W' : World} {h : HapC} {a : HapA} (n : NS Z w X W h a) (hx : Ext W W') : NS Z w X W' h a :=
  ⟨n.box.ext hx, hx.cell n.ec, (hx.cells.2 _ 0 n.lt.2).trans n.ef, n.gr.trans (only_ext hx _)⟩
theorem NS.reads {w : World} {X : Nat} {W W' : World} {h h' : HapC} {a a' : HapA} (n : NS Z w X W h a) (hg : G2 W W' X w.heap.size) (hB : Boxed Z W' w.heap.size h' a') (hXw : X < w.heap.size) : NS Z w X W' h' a' := by
  have hb := hg.block (w.heap.size + 1) n.lt.2 (by omega) (by omega)
  refine ⟨hB, (World.cell?_of_block (a := ⟨w.heap.size + 1, 0, none⟩) hb).trans n.ec, (World.frozen?_of_block (a := ⟨w.heap.size + 1, 0, none⟩) hb).trans n.ef, ?_⟩
  refine ⟨hg.os.trans n.gr.os, hg.tape.trans n.gr.tape, hg.output.trans n.gr.output, Nat.le_trans n.gr.size hg.size, fun i h1 h2 => ?_⟩
  exact (hg.block i (Nat.lt_of_lt_of_le h1 n.gr.size) (by intro e; exact h2 (by rw [e])) (by omega)).trans (n.gr.block i h1 h2)
theorem NS.kind {w : World} {X : Nat} {W : World} {h : HapC} {a : HapA} (n : NS Z w X W h a) (k : Int) (hXw : X < w.heap.size) (hZ : Z ≤ w.heap.size) : NS Z w X (W.setCell ⟨w.heap.size, 0, none⟩ (.int .i64 k)) { h with kind := k } a := by
  refine n.reads ((G2.refl W X _).set _) ⟨?_, fun o => ?_, n.box.ty.set _ _, ⟨n.box.rh.b.farSet hZ n.box.ty (by decide), n.box.rh.p.farSet hZ n.box.ty (by decide)⟩⟩ hXw
  · obtain ⟨q0, q1, q2, q3, q4, q5, q6, q7, q8, q9, q10⟩ := n.box.box
    simp [HapBox, go_sem, q0, q1, q2, q3, q4, q5, q6, q7, q8, q9, q10]
  · rw [World.frozen?_setCell]; exact n.box.fz o
theorem NS.dies {w : World} {X : Nat} {W : World} {h : HapC} {a : HapA} {s : SA} {l : List UInt8} {p : Rdr × HapC} (n : NS Z w X W h a) (hZ : Z ≤ w.heap.size) (hbad : p.1.bad = true) (tmps : Array Value) (ht2 : tmps[2]? = some (pt w.heap.size)) (ht3 : tmps[3]? = some (pt (w.heap.size + 1))) :
    Leaves Try.prog Try.f28 tmps (Nexts Z w X s l p) (nextDefers w.heap.size (w.heap.size + 1)) (.panicking errHap) W := by
  refine next_dies w.heap.size (w.heap.size + 1) h a W tmps _ ht2 ht3 n.box hZ n.ec n.ef (by omega) fun w' hg => ⟨?_, .inr ⟨hbad, rfl⟩⟩
  refine ⟨hg.os.trans n.gr.os, hg.tape.trans n.gr.tape, hg.output.trans n.gr.output, Nat.le_trans n.gr.size hg.size, fun i h1 h2 => ?_⟩
  exact (hg.block i (Nat.lt_of_lt_of_le h1 n.gr.size) (by omega) (by omega)).trans (n.gr.block i h1 h2)
theorem TR.bad {w : World} {X : Nat} {s : SA} {l : List UInt8} {r : Rdr} (h : TR Z w X s l r) : r.bad = false := by obtain ⟨_, _, rfl⟩ := h; rfl
set_option maxRecDepth 100000 in
set_option maxHeartbeats 1000000 in
theorem NS.done {w : World} {X : Nat} {W : World} {h : HapC} {a : HapA} {s : SA} {l : List UInt8} {r : Rdr} (n : NS Z w X W h a) (ht : TR Z W X s l r) (hZ : Z ≤ w.heap.size) (hXw : X < w.heap.size) (tmps : Array Value) (ht2 : tmps[2]? = some (pt w.heap.size)) (ht3 : tmps[3]? = some (pt (w.heap.size + 1))) :
    Leaves Try.prog Try.f28 tmps (Nexts Z w X s l (r, h)) (nextDefers w.heap.size (w.heap.size + 1)) .returning ((((((((((((W.setCell ⟨w.heap.size, 0, none⟩ (.int .i64 h.kind)).setCell ⟨w.heap.size, 1, none⟩ (.int .i64 h.client)).setCell ⟨w.heap.size, 2, none⟩ (.int .i64 h.call.kind)).setCell ⟨w.heap.size, 3, none⟩ (.string (strOf h.call.path))).setCell ⟨w.heap.size, 4, none⟩ (.string (strOf h.call.to_))).setCell ⟨w.heap.size, 5, none⟩ (.int .i64 h.call.at_)).setCell ⟨w.heap.size, 6, none⟩ (.int .i64 h.call.many)).setCell ⟨w.heap.size, 7, none⟩ (.int .u64 h.call.key)).setCell ⟨w.heap.size, 8, none⟩ (.slice a.A h.call.bytes.length a.ca)).setCell ⟨w.heap.size, 9, none⟩ (.int .i64 h.n)).setCell ⟨w.heap.size, 10, none⟩ (.slice a.P h.picks.length a.cp)).setCell ⟨w.heap.size + 1, 0, none⟩ (.int .i64 0)) := by
  have hgb : W.grownBy (((((((((((W.setCell ⟨w.heap.size, 0, none⟩ (.int .i64 h.kind)).setCell ⟨w.heap.size, 1, none⟩ (.int .i64 h.client)).setCell ⟨w.heap.size, 2, none⟩ (.int .i64 h.call.kind)).setCell ⟨w.heap.size, 3, none⟩ (.string (strOf h.call.path))).setCell ⟨w.heap.size, 4, none⟩ (.string (strOf h.call.to_))).setCell ⟨w.heap.size, 5, none⟩ (.int .i64 h.call.at_)).setCell ⟨w.heap.size, 6, none⟩ (.int .i64 h.call.many)).setCell ⟨w.heap.size, 7, none⟩ (.int .u64 h.call.key)).setCell ⟨w.heap.size, 8, none⟩ (.slice a.A h.call.bytes.length a.ca)).setCell ⟨w.heap.size, 9, none⟩ (.int .i64 h.n)).setCell ⟨w.heap.size, 10, none⟩ (.slice a.P h.picks.length a.cp)) (some w.heap.size) := by
    repeat with_reducible refine only_set ?_ _
    exact World.grownBy.refl _ _
  have hty : Typ (((((((((((W.setCell ⟨w.heap.size, 0, none⟩ (.int .i64 h.kind)).setCell ⟨w.heap.size, 1, none⟩ (.int .i64 h.client)).setCell ⟨w.heap.size, 2, none⟩ (.int .i64 h.call.kind)).setCell ⟨w.heap.size, 3, none⟩ (.string (strOf h.call.path))).setCell ⟨w.heap.size, 4, none⟩ (.string (strOf h.call.to_))).setCell ⟨w.heap.size, 5, none⟩ (.int .i64 h.call.at_)).setCell ⟨w.heap.size, 6, none⟩ (.int .i64 h.call.many)).setCell ⟨w.heap.size, 7, none⟩ (.int .u64 h.call.key)).setCell ⟨w.heap.size, 8, none⟩ (.slice a.A h.call.bytes.length a.ca)).setCell ⟨w.heap.size, 9, none⟩ (.int .i64 h.n)).setCell ⟨w.heap.size, 10, none⟩ (.slice a.P h.picks.length a.cp)) w.heap.size 35 := by
    repeat with_reducible refine Typ.set ?_ _ _
    exact n.box.ty
  have hfz : ∀ o, (((((((((((W.setCell ⟨w.heap.size, 0, none⟩ (.int .i64 h.kind)).setCell ⟨w.heap.size, 1, none⟩ (.int .i64 h.client)).setCell ⟨w.heap.size, 2, none⟩ (.int .i64 h.call.kind)).setCell ⟨w.heap.size, 3, none⟩ (.string (strOf h.call.path))).setCell ⟨w.heap.size, 4, none⟩ (.string (strOf h.call.to_))).setCell ⟨w.heap.size, 5, none⟩ (.int .i64 h.call.at_)).setCell ⟨w.heap.size, 6, none⟩ (.int .i64 h.call.many)).setCell ⟨w.heap.size, 7, none⟩ (.int .u64 h.call.key)).setCell ⟨w.heap.size, 8, none⟩ (.slice a.A h.call.bytes.length a.ca)).setCell ⟨w.heap.size, 9, none⟩ (.int .i64 h.n)).setCell ⟨w.heap.size, 10, none⟩ (.slice a.P h.picks.length a.cp)).frozen? ⟨w.heap.size, o, none⟩ = false := by
    intro o; simp only [World.frozen?_setCell]; exact n.box.fz o
  have hbox : HapBox (((((((((((W.setCell ⟨w.heap.size, 0, none⟩ (.int .i64 h.kind)).setCell ⟨w.heap.size, 1, none⟩ (.int .i64 h.client)).setCell ⟨w.heap.size, 2, none⟩ (.int .i64 h.call.kind)).setCell ⟨w.heap.size, 3, none⟩ (.string (strOf h.call.path))).setCell ⟨w.heap.size, 4, none⟩ (.string (strOf h.call.to_))).setCell ⟨w.heap.size, 5, none⟩ (.int .i64 h.call.at_)).setCell ⟨w.heap.size, 6, none⟩ (.int .i64 h.call.many)).setCell ⟨w.heap.size, 7, none⟩ (.int .u64 h.call.key)).setCell ⟨w.heap.size, 8, none⟩ (.slice a.A h.call.bytes.length a.ca)).setCell ⟨w.heap.size, 9, none⟩ (.int .i64 h.n)).setCell ⟨w.heap.size, 10, none⟩ (.slice a.P h.picks.length a.cp)) w.heap.size h a := by
    obtain ⟨q0, q1, q2, q3, q4, q5, q6, q7, q8, q9, q10⟩ := n.box.box
    simp [HapBox, go_sem, q0, q1, q2, q3, q4, q5, q6, q7, q8, q9, q10]
  generalize (((((((((((W.setCell ⟨w.heap.size, 0, none⟩ (.int .i64 h.kind)).setCell ⟨w.heap.size, 1, none⟩ (.int .i64 h.client)).setCell ⟨w.heap.size, 2, none⟩ (.int .i64 h.call.kind)).setCell ⟨w.heap.size, 3, none⟩ (.string (strOf h.call.path))).setCell ⟨w.heap.size, 4, none⟩ (.string (strOf h.call.to_))).setCell ⟨w.heap.size, 5, none⟩ (.int .i64 h.call.at_)).setCell ⟨w.heap.size, 6, none⟩ (.int .i64 h.call.many)).setCell ⟨w.heap.size, 7, none⟩ (.int .u64 h.call.key)).setCell ⟨w.heap.size, 8, none⟩ (.slice a.A h.call.bytes.length a.ca)).setCell ⟨w.heap.size, 9, none⟩ (.int .i64 h.n)).setCell ⟨w.heap.size, 10, none⟩ (.slice a.P h.picks.length a.cp)) = V at *
  have hB : Boxed Z V w.heap.size h a := ⟨hbox, hfz, hty, ⟨n.box.rh.b.far hgb hZ n.box.ty (by decide), n.box.rh.p.far hgb hZ n.box.ty (by decide)⟩⟩
  have hg : G2 W V X w.heap.size := ⟨hgb.os, hgb.tape, hgb.output, hgb.size, fun i h1 _ h3 => hgb.block i h1 (by intro e; injection e with e; exact h3 e)⟩
  have hT : TR Z V X s l r := by
    obtain ⟨k, t, hr⟩ := ht
    have he : V.heap[X]? = W.heap[X]? := hgb.block X (by have := n.lt; omega) (by intro e; injection e with e; omega)
    have hne : V.heap[X]? = W.heap[X]? := he
    refine ⟨k, ⟨(World.cell?_of_block (a := ⟨X, 0, none⟩) he).trans t.c0, (World.cell?_of_block (a := ⟨X, 1, none⟩) he).trans t.c1, fun o' => (World.frozen?_of_block (a := ⟨X, o', none⟩) he).trans (t.fz o'), ⟨t.rs.rb.far hgb hZ n.box.ty (by decide), t.rs.le, t.rs.ml⟩, t.le, ?_⟩, hr⟩
    obtain ⟨cs, fr, hty⟩ := t.ty
    exact ⟨cs, fr, he.trans hty⟩
  have m := n.reads hg hB hXw
  clear hg hB n hgb hty hfz hbox ht
  have hgr : w.grownBy (V.setCell ⟨w.heap.size + 1, 0, none⟩ (.int .i64 0)) (some X) :=
    ⟨m.gr.os, m.gr.tape, m.gr.output, by simpa [World.setCell] using m.gr.size, fun i h1 h2 => (Below.heap_setCell V ⟨w.heap.size + 1, 0, none⟩ _ i (by dsimp only; omega)).trans (m.gr.block i h1 h2)⟩
  have hx0 : ∀ k, V.cell? ⟨w.heap.size + 1, 0, none⟩ ≠ some (.int .u8 k) := by intro k; rw [m.ec]; simp
  have hrh : RH Z (V.setCell ⟨w.heap.size + 1, 0, none⟩ (.int .i64 0)) h a := ⟨m.box.rh.b.set' _ hx0, m.box.rh.p.set' _ hx0⟩
  have htr : TR Z (V.setCell ⟨w.heap.size + 1, 0, none⟩ (.int .i64 0)) X s l r := by
    obtain ⟨k, t, hr⟩ := hT
    have he := Below.heap_setCell V ⟨w.heap.size + 1, 0, none⟩ (.int .i64 0) X (by dsimp only; omega)
    exact ⟨k, ⟨(World.cell?_of_block (a := ⟨X, 0, none⟩) he).trans t.c0, (World.cell?_of_block (a := ⟨X, 1, none⟩) he).trans t.c1, fun o' => (World.frozen?_of_block (a := ⟨X, o', none⟩) he).trans (t.fz o'), t.rs.set' _ hx0, t.le, t.ty.set _ _⟩, hr⟩
  have hc : (V.setCell ⟨w.heap.size + 1, 0, none⟩ (.int .i64 0)).cell? ⟨w.heap.size + 1, 0, none⟩ = some (.int .i64 0) := by simp [go_sem, m.ec]
  have hbx : HapBox (V.setCell ⟨w.heap.size + 1, 0, none⟩ (.int .i64 0)) w.heap.size h a := by
    have hx := m.box.box
    have hh := Below.heap_setCell V ⟨w.heap.size + 1, 0, none⟩ (.int .i64 0) w.heap.size (by dsimp only; omega)
    have hcc := fun o => World.cell?_of_block (w := V) (w' := V.setCell ⟨w.heap.size + 1, 0, none⟩ (.int .i64 0)) (a := ⟨w.heap.size, o, none⟩) hh
    unfold HapBox at hx ⊢
    simpa only [hcc] using hx
  generalize V.setCell ⟨w.heap.size + 1, 0, none⟩ (.int .i64 0) = V2 at *
  refine leaves_cons (f := 58) (args := #[pt (w.heap.size + 1), .func (.func 59) #[] #[pt w.heap.size]]) (by simp) (by simp [go_sem]) ?_
  refine (caughtIdle w.heap.size (w.heap.size + 1) V2).mono ?_
  rintro e u' w' ⟨rfl, rfl, rfl⟩
  obtain ⟨q0, q1, q2, q3, q4, q5, q6, q7, q8, q9, q10⟩ := hbx
  simp only [Leaves, settle]
  refine ⟨.tuple #[hapV h a, .int .i64 0], ?_, hgr, .inl ⟨htr.bad, a, rfl, hrh, htr⟩⟩
  simp [results, Try.results28, go_sem, ht2, ht3, hc, q0, q1, q2, q3, q4, q5, q6, q7, q8, q9, q10]
set_option maxRecDepth 100000 in
set_option maxHeartbeats 2000000 in
theorem tapeNext (X : Nat) (s : SA) (l : List UInt8) (r : Rdr) (w : World) (ht : TR Z w X s l r) (hl : l.length ≤ 1048576) (hX : Z ≤ X) :
    Calls Try.prog 28 #[pt X] w (Nexts Z w X s l (hapR r)) := by
  have hXw : X < w.heap.size := (ht.ty).elim fun _ h => h.elim fun _ h => (Array.getElem?_eq_some_iff.1 h).1
  have hZ : Z ≤ w.heap.size := by omega
  have hN0 := NS.start (Z := Z) w X
  have hT0 := ht.ext (ext2 w (.cells #[.int .i64 0, .int .i64 0, .int .i64 0, .string ⟨#[]⟩, .string ⟨#[]⟩, .int .i64 0, .int .i64 0, .int .u64 0, .slice none 0 0, .int .i64 0, .slice none 0 0] 35) (.cells #[.int .i64 0] 26))
  rw [hapR_parts r]
  have hst := kinds_sticky (kindOf r)
  have hkd : kindOf r = (((numR r 1).2 % 5 + 1 : Nat) : Int) := rfl
  have hcon := tapeNumber1 X s l r (nextW0 w) hT0 hl
  have hnl := numR_lt r
  generalize kindOf r = kd at *
  generalize numR r 1 = q at *
  obtain ⟨r1, n⟩ := q
  dsimp only at hnl hkd hcon hst ⊢
  have HP := Lib.hid hcon
  have HN0 := Lib.hid hN0
  have HT0 := Lib.hid hT0
  have HST := Lib.hid hst
  have HKD := Lib.hid hkd
  have hm5 : n % 5 < 5 := Nat.mod_lt _ (by omega)
  clear hcon hN0 hT0 hst hkd ht
  have hmf := makes
  go_enter_defers Try.func28, Try.ntmps28
  go_wp2_with (go_at_call 35; (with_reducible refine HP.out.mono ?_); rintro e w1 ⟨hg1, (⟨hb1, v, rfl, rfl, ht1⟩ | ⟨hb1, rfl⟩)⟩; have HN1 := Lib.hid (NS.grown HN0.out hg1 hXw hX (TR.ty HT0.out)); have HT1 := Lib.hid ht1; have q0 := HN1.out.box.box.1; have qf := HN1.out.box.fz; clear hg1 ht1)
  · have hkk : (n : Int) % 5 + 1 = kd := by rw [HKD.out]; omega
    rw [hkk]
    have HN2 := Lib.hid (HN1.out.kind kd hXw hZ)
    have HT2 := Lib.hid (TR.farSet (o := 0) (v := .int .i64 kd) HT1.out (Nat.ne_of_gt hXw) hZ HN1.out.box.ty (by decide))
    clear HN1 HT1 q0 qf hkk HP
    generalize w1.setCell ⟨w.heap.size, 0, none⟩ (.int .i64 kd) = W2 at *
    have K0 := Lib.hid HN2.out.box.box.1
    go_region_held3 (fun w' => w'.cell? ⟨w.heap.size, 0, none⟩ = some (.int .i64 kd)) (first | exact K0.out | with_reducible exact K1.out) (first | (go_at_call 17; (with_reducible refine (scKinds _).mono ?_); rintro e w3 ⟨m, g, c, rfl, hK, hx3⟩; have HX3 := Lib.hid hx3.undrew; clear hx3; have K1 := Lib.hid (HX3.out.cell K0.out); obtain ⟨A, hlook, hA1⟩ := hK.all kd w3 (Kept.refl _ _); have HA1 := Lib.hid hA1; clear hA1 hK; have hlk := hlook false; clear hlook; simp only [Bool.false_eq_true, if_false] at hlk))
    have HN3 := Lib.hid (HN2.out.ext HX3.out)
    have HT3 := Lib.hid (TR.ext HT2.out HX3.out)
    have hlt3 := HN2.out.lt
    have hlen := kindsL_len kd
    generalize kindsL kd = ps at *
    generalize hfin : readL ps r1 _ = fin at *
    have HF := Lib.hid hfin
    clear hfin
    go_wp2_with fail
    go_loopw [18] (fun i wr => ∃ j : Nat, j ≤ ps.length ∧ i = .int .i64 j ∧ ∃ r2 h2 a2, Hid (readL (ps.drop j) r2 h2 = fin) ∧ Hid (TR Z wr X s l r2) ∧ Hid (NS Z w X wr h2 a2) ∧ Hid (Kept W2.drew.heap.size w3 wr)) (fun i _ => ps.length - (intOf i).toNat)
    case atStart => exact ⟨0, by omega, rfl, r1, _, _, HF.out, HT3.out, HN3.out, Kept.refl _ _⟩
    case round =>
      obtain ⟨j, hj, rfl, r2, h2, a2, HR2, HT, HN, HKp⟩ := hrel
      by_cases hlt : j < ps.length
      · obtain ⟨g, rfl, hP⟩ := HA1.out (by intro e; simp [e] at hlt)
        obtain ⟨f1, f2, f3, e1, e2, e3, ok⟩ := hP.2 j hlt
        have c1 := HKp.out.cell hP.1 e1
        have c2 := HKp.out.cell hP.1 e2
        have c3 := HKp.out.cell hP.1 e3
        obtain ⟨k1, cap1, rfl, _⟩ := ok.may
        obtain ⟨k2, cap2, rfl, _⟩ := ok.lay
        obtain ⟨k3, cap3, rfl, hen, hrd⟩ := ok.read
        have hen' : ∀ args W, (callFunc k3 args).run Try.prog W = .ok (.enter k3 args) W := hen
        have hlti : (j : Int) < ps.length := by omega
        have HRD := Lib.hid (fun W (hx : Ext wr W) => hrd Z X w.heap.size s l r2 h2 a2 W (HKp.out.ext hx) (TR.ext HT.out hx) hl (HN.out.ext hx).box (Nat.ne_of_gt hXw) hX hZ (.inl (by have : W2.drew.heap.size = W2.heap.size := rfl; omega)) (.inl (by have : W2.drew.heap.size = W2.heap.size := rfl; omega)))
        clear hP ok e1 e2 e3 hen hrd
        go_wp2_with (first | ((with_reducible refine (HRD.out _ ?hx).mono ?_); (case hx => exact ext1 _ _); rintro e w5 ⟨hg5, h5, a5, hB5, (⟨hb5, rfl, rfl, ht5⟩ | ⟨hb5, rfl⟩)⟩))
        · go_roundw
          case rel =>
            refine ⟨j + 1, by omega, by go_num, _, _, _, ?_, ht5, (HN.out.ext (ext1 _ _)).reads hg5 hB5 hXw, (HKp.out.ext (ext1 _ _)).g2 hg5 (.inl (by have : W2.drew.heap.size = W2.heap.size := rfl; omega)) (.inl (by have : W2.drew.heap.size = W2.heap.size := rfl; omega))⟩
            have := HR2.out
            rw [List.drop_eq_getElem_cons hlt] at this
            exact this
          case measure => simp [intOf]; omega
        · refine ((HN.out.ext (ext1 _ _)).reads hg5 hB5 hXw).dies hZ ?_ _ rfl rfl
          have := HR2.out
          rw [List.drop_eq_getElem_cons hlt] at this
          rw [← this]
          exact readL_bad _ (fun q hq => HST.out q (List.mem_of_mem_drop hq)) _ _ hb5
      · obtain rfl : j = ps.length := by omega
        have hR := HR2.out
        rw [List.drop_length] at hR
        subst hR
        obtain ⟨q0, q1, q2, q3, q4, q5, q6, q7, q8, q9, q10⟩ := HN.out.box.box
        have qf := HN.out.box.fz
        have ec := HN.out.ec
        have ef := HN.out.ef
        go_wp2
        exact HN.out.done HT.out hZ hXw _ rfl rfl
  · exact (NS.grown HN0.out hg1 hXw hX (TR.ty HT0.out)).dies hZ (readL_bad _ HST.out _ _ hb1) _ rfl rfl
end Go.Proofs.Ytffepmoicpphfaa
