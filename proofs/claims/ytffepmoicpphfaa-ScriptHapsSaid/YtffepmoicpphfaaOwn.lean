/- General words on memory for this seat's walks: slices that read as lists, strings of bytes. -/
import Derived.Test.YtffepmoicpphfaaProg
import Derived.WalkKit
import Derived.WalkSpells
import Derived.WalkLawsBesides
import Derived.Laws.BytesArg
import Derived.Lib.Hide
import Derived.Maps.AppendAt
import Derived.Deep.AppendLies
import Derived.Deep.Draws
import Derived.Deep.RegionHeld3
import Derived.Deep.QuietTactic
import Derived.BigQuiet
import Derived.Deep.RegionWith
namespace Go.Proofs.Ytffepmoicpphfaa
set_option linter.unusedSimpArgs false
set_option linter.unusedVariables false
open Go.RowKit
variable {Z : Nat}

/-- a block that lay there from the start (below Z), or one of bytes -/
def OldOr (Z : Nat) (w : World) (b : Nat) : Prop := b < Z ∨ ∃ cs fr, w.heap[b]? = some (.cells cs 5 fr)
/-- the bytes that lie at a slice's address -/
def RB (Z : Nat) (w : World) (A : Option Addr) (l : List UInt8) : Prop :=
  l ≠ [] → ∃ b o, A = some ⟨b, o, none⟩ ∧ OldOr Z w b ∧ ∀ j (h : j < l.length), w.cell? ⟨b, o + j, none⟩ = some (.int .u8 (l[j].toNat : Int))
theorem RB.nil (w : World) (A : Option Addr) : RB Z w A [] := fun h => (h rfl).elim
def strOf (l : List UInt8) : ByteArray := ⟨l.toArray⟩
theorem RB_str {P : Program} {w : World} {A l} (h : RB Z w A l) (src e : TypeId) (hs : P.underlying src = some (.slice e)) (he : P.underlying e = some (.int .u8)) (n c : Nat) (hn : n = l.length) :
    ∀ dst, P.underlying dst = some .string → (Go.convert src dst (.slice A n c)).run P w = .ok (.string (strOf l)) w := by
  subst hn
  intro dst hd
  by_cases hl : l = []
  · subst hl
    rw [run_convert_bytes_string w src dst e _ _ c hs he hd]
    cases A <;> simp [Conv.bytesToString, strOf, loadCells, loadCellsFrom, ByteArray.empty, ByteArray.emptyWithCapacity] <;> rfl
  · obtain ⟨b, o, rfl, _, hc⟩ := h hl
    have := run_convert_bytes_arg (P := P) w src e hs he b o l.length c (l.map fun x => (x.toNat : Int)) (by simp) (fun i hi => by
      rw [hc i hi]; simp [List.getD, hi]) dst hd
    rw [this]
    have hm : List.map ((fun n : Int => UInt8.ofNat n.toNat) ∘ fun x : UInt8 => (x.toNat : Int)) l = l := by
      rw [show ((fun n : Int => UInt8.ofNat n.toNat) ∘ fun x : UInt8 => (x.toNat : Int)) = id from funext fun x => by simp]; simp
    simp [strOfNums, strOf, hm]
theorem toList_loop (bs : ByteArray) : ∀ (n i : Nat) (r : List UInt8), bs.size - i = n → ByteArray.toList.loop bs i r = r.reverse ++ bs.data.toList.drop i := by
  intro n
  induction n with
  | zero =>
    intro i r h
    unfold ByteArray.toList.loop
    rw [if_neg (by omega), List.drop_eq_nil_of_le (by have : bs.data.toList.length = bs.size := rfl; omega)]
    simp
  | succ n ih =>
    intro i r h
    unfold ByteArray.toList.loop
    have hi : i < bs.data.size := by have : bs.data.size = bs.size := rfl; omega
    rw [if_pos (by omega), ih (i + 1) _ (by omega), List.drop_eq_getElem_cons (i := i) (by simpa using hi)]
    simp only [ByteArray.get!, List.reverse_cons, List.append_assoc, List.singleton_append]
    rw [getElem!_pos bs.data i hi]
    simp
theorem strOf_toList (l : List UInt8) : (strOf l).toList = l := by
  unfold ByteArray.toList
  rw [toList_loop _ _ 0 [] rfl]
  simp [strOf]
theorem strOf_size (l : List UInt8) : (strOf l).size = l.length := by simp [strOf, ByteArray.size]
/-- w' is w with more in it: what was there is as it was. -/
def Ext (w w' : World) : Prop := Below w.heap.size w w'
theorem Ext.refl (w : World) : Ext w w := Below.refl _ w
theorem Ext.trans {w w1 w2 : World} (h : Ext w w1) (k : Ext w1 w2) : Ext w w2 := Below.trans h (Below.mono k (Below.size h))
theorem Ext.drew {w w1 : World} (h : Ext w w1) : Ext w w1.drew := Below.drew h
theorem Ext.drewN {w w1 : World} (h : Ext w w1) (n : Nat) : Ext w (w1.drewN n) := ⟨h.os, h.tape, h.output, h.size, h.block⟩
theorem Ext.undrew {w w1 : World} (h : Ext w.drew w1) : Ext w w1 := ⟨h.os, h.tape, h.output, h.size, h.block⟩
theorem Ext.undrewN {w w1 : World} {n : Nat} (h : Ext (w.drewN n) w1) : Ext w w1 := ⟨h.os, h.tape, h.output, h.size, h.block⟩
theorem Ext.alloc {w w1 : World} (h : Ext w w1) (o : Obj) : Ext w (w1.alloc o) := Below.alloc h (Below.size h) o
theorem Ext.setCell {w w1 : World} (h : Ext w w1) {p : Addr} (hp : w.heap.size ≤ p.block) (u : Value) : Ext w (w1.setCell p u) := Below.setCell h hp u
theorem Ext.grown {w w1 w2 : World} {row : Option Nat} (h : Ext w w1) (hg : w1.grownBy w2 row) (hr : ∀ k, row = some k → w.heap.size ≤ k) : Ext w w2 := Below.grown h hg (Below.size h) hr
theorem Ext.size {w w1 : World} (h : Ext w w1) : w.heap.size ≤ w1.heap.size := Below.size h
theorem Ext.below {w w1 : World} (h : Ext w w1) : Below w.heap.size w w1 := h
theorem Ext.of {w w1 : World} (h : Below w.heap.size w w1) : Ext w w1 := h
theorem Ext.cells {W w1 : World} (hb : Ext W w1) : (∀ b o, b < W.heap.size → w1.cell? ⟨b, o, none⟩ = W.cell? ⟨b, o, none⟩) ∧ (∀ b o, b < W.heap.size → w1.frozen? ⟨b, o, none⟩ = W.frozen? ⟨b, o, none⟩) :=
  ⟨fun b o h => Below.cell hb (p := ⟨b, o, none⟩) h, fun b o h => Below.frozen hb (p := ⟨b, o, none⟩) h⟩
theorem Ext.cell {w w1 : World} (h : Ext w w1) {p : Addr} {v : Value} (hc : w.cell? p = some v) : w1.cell? p = some v := (Below.cell h (World.block_lt_of_cell? w _ hc)).trans hc
theorem ext1 (w : World) (o1 : Obj) : Ext w (w.alloc o1) := (Ext.refl w).alloc o1
theorem ext2 (w : World) (o1 o2 : Obj) : Ext w ((w.alloc o1).alloc o2) := (ext1 w o1).alloc o2
theorem ext3 (w : World) (o1 o2 o3 : Obj) : Ext w (((w.alloc o1).alloc o2).alloc o3) := (ext2 w o1 o2).alloc o3
theorem ext4 (w : World) (o1 o2 o3 o4 : Obj) : Ext w ((((w.alloc o1).alloc o2).alloc o3).alloc o4) := (ext3 w o1 o2 o3).alloc o4
theorem ret_bool {a b : Bool} (h : a = b) : Ending.returned (.bool a) = .returned (.bool b) := by rw [h]
theorem ret_int {k : IntKind} {a b : Int} (h : a = b) : Ending.returned (.int k a) = .returned (.int k b) := by rw [h]
theorem OldOr.ext {w w' : World} {b : Nat} (h : OldOr Z w b) (hb : Ext w w') : OldOr Z w' b := by
  rcases h with h | ⟨cs, fr, h⟩
  · exact .inl h
  · exact .inr ⟨cs, fr, (Below.block hb b (Array.getElem?_eq_some_iff.1 h).1).trans h⟩
theorem OldOr.set {w : World} {b : Nat} (h : OldOr Z w b) (p : Addr) (v : Value) : OldOr Z (w.setCell p v) b := by
  rcases h with h | ⟨cs, fr, h⟩
  · exact .inl h
  · refine .inr ?_
    by_cases e : p.block = b
    · subst e
      exact ⟨_, _, by simp [World.setCell, Array.getElem?_modify, h]; exact ⟨rfl, rfl⟩⟩
    · exact ⟨cs, fr, (Below.heap_setCell w p v b (fun x => e x.symm)).trans h⟩
theorem RB.ext {w w' : World} {A l} (h : RB Z w A l) (hb : Ext w w') : RB Z w' A l := fun hl => by
  obtain ⟨b, o, hA, ht, hc⟩ := h hl
  exact ⟨b, o, hA, ht.ext hb, fun j hj => hb.cell (hc j hj)⟩
/-- two lists are alike, thing by thing -/
def eqAll {α : Type} (r : α → α → Bool) : List α → List α → Bool
  | [], [] => true
  | a :: l, b :: m => r a b && eqAll r l m
  | _, _ => false
theorem eqAll_len {α : Type} (r : α → α → Bool) : ∀ (l m : List α), l.length ≠ m.length → eqAll r l m = false
  | [], [], h => absurd rfl h
  | [], _ :: _, _ => rfl
  | _ :: _, [], _ => rfl
  | a :: l, b :: m, h => by
    rw [eqAll, eqAll_len r l m (fun e => h (by simp [e])), Bool.and_false]
theorem eqAll_at {α : Type} (r : α → α → Bool) : ∀ (l m : List α) (k : Nat) (a b : α), l[k]? = some a → m[k]? = some b → r a b = false → eqAll r l m = false
  | [], _, k, a, b, h, _, _ => by simp at h
  | _ :: _, [], k, a, b, _, h, _ => by simp at h
  | x :: l, y :: m, 0, a, b, h1, h2, h => by
    simp at h1 h2; subst h1; subst h2; simp [eqAll, h]
  | x :: l, y :: m, k + 1, a, b, h1, h2, h => by
    simp at h1 h2
    rw [eqAll, eqAll_at r l m k a b h1 h2 h, Bool.and_false]
theorem eqAll_true {α : Type} (r : α → α → Bool) : ∀ (l m : List α), l.length = m.length → (∀ (k : Nat) a b, l[k]? = some a → m[k]? = some b → r a b = true) → eqAll r l m = true
  | [], [], _, _ => rfl
  | [], _ :: _, h, _ => by simp at h
  | _ :: _, [], h, _ => by simp at h
  | a :: l, b :: m, h, hk => by
    rw [eqAll, hk 0 a b rfl rfl, Bool.true_and]
    exact eqAll_true r l m (by simpa using h) (fun k x y hx hy => hk (k + 1) x y (by simpa using hx) (by simpa using hy))
end Go.Proofs.Ytffepmoicpphfaa
