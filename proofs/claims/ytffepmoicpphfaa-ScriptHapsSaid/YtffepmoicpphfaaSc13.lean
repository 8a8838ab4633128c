/- script: what the parts of a kind do, said once for all of them. -/
import Derived.Test.YtffepmoicpphfaaSc12
import Derived.Shelf.Abstract
namespace Go.Proofs.Ytffepmoicpphfaa
set_option linter.unusedSimpArgs false
set_option linter.unusedVariables false
open Go.RowKit
variable {Z : Nat}
/-- what was laid between lo and W's end is as it was -/
def Kept (lo : Nat) (W w : World) : Prop := W.heap.size ≤ w.heap.size ∧ ∀ i, lo ≤ i → i < W.heap.size → w.heap[i]? = W.heap[i]?
theorem Kept.refl (lo : Nat) (W : World) : Kept lo W W := ⟨Nat.le_refl _, fun _ _ _ => rfl⟩
theorem Kept.ext {lo : Nat} {W w w' : World} (h : Kept lo W w) (hx : Ext w w') : Kept lo W w' :=
  ⟨Nat.le_trans h.1 hx.size, fun i h1 h2 => (Below.block hx i (Nat.lt_of_lt_of_le h2 h.1)).trans (h.2 i h1 h2)⟩
theorem Kept.grown {lo : Nat} {W w w' : World} {row : Option Nat} (h : Kept lo W w) (hg : w.grownBy w' row) (hr : ∀ g, row = some g → g < lo ∨ W.heap.size ≤ g) : Kept lo W w' :=
  ⟨Nat.le_trans h.1 hg.size, fun i h1 h2 => (hg.block i (Nat.lt_of_lt_of_le h2 h.1) (fun e => by have := hr i e.symm; omega)).trans (h.2 i h1 h2)⟩
theorem Kept.cell {lo : Nat} {W w : World} {b o : Nat} {u : Value} (h : Kept lo W w) (hb : lo ≤ b) (hc : W.cell? ⟨b, o, none⟩ = some u) : w.cell? ⟨b, o, none⟩ = some u :=
  (World.cell?_of_block (a := ⟨b, o, none⟩) (h.2 b hb (World.block_lt_of_cell? W ⟨b, o, none⟩ hc))).trans hc
/-- what a part does -/
structure PartS where
  may : HapC → Bool
  lay : HapC → List UInt8
  read : Rdr → HapC → Rdr × HapC
def KeyIn (h : HapC) : Prop := 0 ≤ h.call.key ∧ h.call.key < 18446744073709551616
def MayOK (lo : Nat) (W : World) (m : HapC → Bool) (f : Value) : Prop :=
  ∃ (k : Nat) (cap : Array Value), f = .func (.func k) #[] cap ∧ Enters Try.prog k ∧ ∀ (h : HapC) (a : HapA) (w : World), Kept lo W w → Calls Try.prog k (#[hapV h a] ++ cap) w fun e w' => e = .returned (.bool (m h)) ∧ Ext w w'
def LayOK (lo : Nat) (W : World) (m : HapC → Bool) (ly : HapC → List UInt8) (f : Value) : Prop :=
  ∃ (k : Nat) (cap : Array Value), f = .func (.func k) #[] cap ∧ Enters Try.prog k ∧ ∀ (Z : Nat) (v : Value) (l : List UInt8) (base : Nat) (h : HapC) (a : HapA) (w : World), Kept lo W w → OB w base v l → base ≤ w.heap.size → l.length ≤ 1048576 →
    (∀ g, v.ownBlock = some g → g < lo ∨ W.heap.size ≤ g) → RBn Z w v.ownBlock a.A h.call.bytes → RBn Z w v.ownBlock a.P h.picks → KeyIn h → m h = true → Calls Try.prog k (#[v, hapV h a] ++ cap) w (GrowsB w base v (l ++ ly h))
/-- a hap's box that can be written -/
structure Boxed (Z : Nat) (w : World) (b : Nat) (h : HapC) (a : HapA) : Prop where
  box : HapBox w b h a
  fz : ∀ o, w.frozen? ⟨b, o, none⟩ = false
  ty : Typ w b 35
  rh : RH Z w h a
/-- all but two blocks is as it was -/
structure G2 (w w' : World) (X b : Nat) : Prop where
  os : w'.os = w.os
  tape : w'.tape = w.tape
  output : w'.output = w.output
  size : w.heap.size ≤ w'.heap.size
  block : ∀ i, i < w.heap.size → i ≠ X → i ≠ b → w'.heap[i]? = w.heap[i]?
theorem G2.refl (w : World) (X b : Nat) : G2 w w X b := ⟨rfl, rfl, rfl, Nat.le_refl _, fun _ _ _ _ => rfl⟩
theorem G2.trans {w w1 w2 : World} {X b : Nat} (h : G2 w w1 X b) (k : G2 w1 w2 X b) : G2 w w2 X b :=
  ⟨k.os.trans h.os, k.tape.trans h.tape, k.output.trans h.output, Nat.le_trans h.size k.size, fun i h1 h2 h3 => (k.block i (Nat.lt_of_lt_of_le h1 h.size) h2 h3).trans (h.block i h1 h2 h3)⟩
theorem G2.of {w w' : World} {X : Nat} (h : w.grownBy w' (some X)) (b : Nat) : G2 w w' X b :=
  ⟨h.os, h.tape, h.output, h.size, fun i h1 h2 _ => h.block i h1 (by intro e; injection e with e; exact h2 e)⟩
theorem G2.ext {w w' : World} (h : Ext w w') (X b : Nat) : G2 w w' X b := ⟨h.os, h.tape, h.output, h.size, fun i h1 _ _ => h.block i h1⟩
theorem G2.set {w w' : World} {X b o : Nat} (h : G2 w w' X b) (v : Value) : G2 w (w'.setCell ⟨b, o, none⟩ v) X b :=
  ⟨h.os, h.tape, h.output, by simpa [World.setCell] using h.size, fun i h1 h2 h3 => (Below.heap_setCell w' ⟨b, o, none⟩ v i h3).trans (h.block i h1 h2 h3)⟩
theorem Kept.g2 {lo : Nat} {W w w' : World} {X b : Nat} (h : Kept lo W w) (hg : G2 w w' X b) (hX : X < lo ∨ W.heap.size ≤ X) (hb : b < lo ∨ W.heap.size ≤ b) : Kept lo W w' :=
  ⟨Nat.le_trans h.1 hg.size, fun i h1 h2 => (hg.block i (Nat.lt_of_lt_of_le h2 h.1) (by omega) (by omega)).trans (h.2 i h1 h2)⟩
/-- what a part's reading ends with -/
def ReadsBox (Z : Nat) (w : World) (X : Nat) (s : SA) (l : List UInt8) (b : Nat) (p : Rdr × HapC) (e : Ending) (w' : World) : Prop :=
  G2 w w' X b ∧ ∃ h' a', Boxed Z w' b h' a' ∧ ((p.1.bad = false ∧ e = .returned (.tuple #[]) ∧ h' = p.2 ∧ TR Z w' X s l p.1) ∨ (p.1.bad = true ∧ e = .panicked errHap))
def ReadOK (lo : Nat) (W : World) (rd : Rdr → HapC → Rdr × HapC) (f : Value) : Prop :=
  ∃ (k : Nat) (cap : Array Value), f = .func (.func k) #[] cap ∧ Enters Try.prog k ∧ ∀ (Z X b : Nat) (s : SA) (l : List UInt8) (r : Rdr) (h : HapC) (a : HapA) (w : World), Kept lo W w → TR Z w X s l r → l.length ≤ 1048576 → Boxed Z w b h a → b ≠ X → Z ≤ X → Z ≤ b →
    (X < lo ∨ W.heap.size ≤ X) → (b < lo ∨ W.heap.size ≤ b) → Calls Try.prog k (#[pt X, pt b] ++ cap) w (ReadsBox Z w X s l b (rd r h))
theorem OldOr.not {Z : Nat} {w : World} {b X : Nat} {t : TypeId} (h : OldOr Z w b) (hX : Z ≤ X) (ht : Typ w X t) (hne : t ≠ 5) : b ≠ X := by
  rintro rfl
  rcases h with h | ⟨cs, fr, h⟩
  · omega
  · obtain ⟨cs', fr', h'⟩ := ht
    rw [h] at h'
    injection h' with h'
    injection h' with _ h'
    exact hne h'.symm
theorem RB.move {Z : Nat} {w w' : World} {A l} (h : RB Z w A l) (hb : ∀ b, OldOr Z w b → b < w.heap.size → w'.heap[b]? = w.heap[b]?) : RB Z w' A l := fun hl => by
  obtain ⟨b, o, hA, ht, hc⟩ := h hl
  have hlt : b < w.heap.size := World.block_lt_of_cell? w _ (hc 0 (List.length_pos_iff.2 hl))
  have he := hb b ht hlt
  refine ⟨b, o, hA, ?_, fun j hj => (World.cell?_of_block (a := ⟨b, o + j, none⟩) he).trans (hc j hj)⟩
  rcases ht with ht | ⟨cs, fr, ht⟩
  · exact .inl ht
  · exact .inr ⟨cs, fr, he.trans ht⟩
theorem RB.far {Z : Nat} {w w' : World} {A l} {X : Nat} {t : TypeId} (h : RB Z w A l) (hg : w.grownBy w' (some X)) (hX : Z ≤ X) (ht : Typ w X t) (hne : t ≠ 5) : RB Z w' A l :=
  h.move fun b ho hlt => hg.block b hlt (by intro e; injection e with e; exact ho.not hX ht hne e)
theorem RB.farSet {Z : Nat} {w : World} {A l} {b o : Nat} {v : Value} {t : TypeId} (h : RB Z w A l) (hb : Z ≤ b) (ht : Typ w b t) (hne : t ≠ 5) : RB Z (w.setCell ⟨b, o, none⟩ v) A l :=
  h.move fun i ho _ => Below.heap_setCell w ⟨b, o, none⟩ v i (ho.not hb ht hne)
theorem Typ.grown {w w' : World} {b X : Nat} {t : TypeId} (h : Typ w b t) (hg : w.grownBy w' (some X)) (hne : b ≠ X) : Typ w' b t := by
  obtain ⟨cs, fr, h⟩ := h
  exact ⟨cs, fr, (hg.block b (Array.getElem?_eq_some_iff.1 h).1 (by intro e; injection e with e; exact hne e)).trans h⟩
theorem Boxed.grown {Z : Nat} {w w' : World} {b : Nat} {h : HapC} {a : HapA} {X : Nat} {t : TypeId} (r : Boxed Z w b h a) (hg : w.grownBy w' (some X)) (hbX : b ≠ X) (hX : Z ≤ X) (ht : Typ w X t) (hne : t ≠ 5) : Boxed Z w' b h a := by
  have hl : b < w.heap.size := World.block_lt_of_cell? w _ r.box.1
  refine ⟨r.box.grown hg (by intro e; injection e with e; exact hbX e), fun o => ?_, r.ty.grown hg hbX, ⟨r.rh.b.far hg hX ht hne, r.rh.p.far hg hX ht hne⟩⟩
  exact (World.frozen?_of_block (a := ⟨b, o, none⟩) (hg.block b hl (by intro e; injection e with e; exact hbX e))).trans (r.fz o)
theorem TR.ty {Z : Nat} {w : World} {X s l r} (h : TR Z w X s l r) : Typ w X 75 := by obtain ⟨_, h, _⟩ := h; exact h.ty
theorem TR.farSet {Z : Nat} {w : World} {X s l r} {b o : Nat} {v : Value} {t : TypeId} (h : TR Z w X s l r) (hbX : b ≠ X) (hb : Z ≤ b) (ht : Typ w b t) (hne : t ≠ 5) : TR Z (w.setCell ⟨b, o, none⟩ v) X s l r := by
  obtain ⟨n, h, hr⟩ := h
  have he := Below.heap_setCell w ⟨b, o, none⟩ v X (fun e => hbX e.symm)
  refine ⟨n, ⟨(World.cell?_of_block (a := ⟨X, 0, none⟩) he).trans h.c0, (World.cell?_of_block (a := ⟨X, 1, none⟩) he).trans h.c1, fun o' => (World.frozen?_of_block (a := ⟨X, o', none⟩) he).trans (h.fz o'), ⟨h.rs.rb.farSet hb ht hne, h.rs.le, h.rs.ml⟩, h.le, h.ty.set _ _⟩, hr⟩
theorem SetsBox.reads {α : Type} {Z : Nat} {w : World} {X : Nat} {s : SA} {l : List UInt8} {b o : Nat} {p : Rdr × α} {V : World → α → Value → Prop} {e : Ending} {w' : World} {h : HapC} {a : HapA} {r : Rdr} (hs : SetsBox Z w X s l b o p V e w') (ht : TR Z w X s l r) (hB : Boxed Z w b h a) (hbX : b ≠ X) (hX : Z ≤ X) (hb : Z ≤ b) (F : HapC)
    (hF : ∀ w1 v, HapBox w1 b h a → V w1 p.2 v → ∃ a', HapBox (w1.setCell ⟨b, o, none⟩ v) b F a' ∧ ∀ w2, RH Z w2 h a → (∀ A m, RB Z w1 A m → RB Z w2 A m) → RH Z w2 F a') : ReadsBox Z w X s l b (p.1, F) e w' := by
  obtain ⟨w1, hg, (⟨hbad, rfl, v, hV, ht1, rfl⟩ | ⟨hbad, rfl, rfl⟩)⟩ := hs
  · have hB1 := hB.grown hg hbX hX ht.ty (by decide)
    obtain ⟨a', hb', hrh⟩ := hF w1 v hB1.box hV
    refine ⟨(G2.of hg b).set v, F, a', ⟨hb', fun o' => ?_, hB1.ty.set _ _, hrh _ ⟨hB1.rh.b.farSet hb hB1.ty (by decide), hB1.rh.p.farSet hb hB1.ty (by decide)⟩ fun A m hr => hr.farSet hb hB1.ty (by decide)⟩, .inl ⟨hbad, rfl, rfl, ht1.farSet hbX hb hB1.ty (by decide)⟩⟩
    rw [World.frozen?_setCell]; exact hB1.fz o'
  · exact ⟨G2.of hg b, h, a, hB.grown hg hbX hX ht.ty (by decide), .inr ⟨hbad, rfl⟩⟩
theorem Boxed.cellar {Z : Nat} {w : World} {b o : Nat} {h : HapC} {a : HapA} (r : Boxed Z w b h a) (hc : ∃ u, w.cell? ⟨b, o, none⟩ = some u) : Cellar w b o := ⟨hc, r.fz o⟩
end Go.Proofs.Ytffepmoicpphfaa
