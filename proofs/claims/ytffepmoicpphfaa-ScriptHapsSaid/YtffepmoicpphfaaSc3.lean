/- script: must, the tape's take, number, texts, walked. -/
import Derived.Test.YtffepmoicpphfaaSc2
import Derived.Test.YtffepmoicpphfaaR30g
import Derived.RegionDies
namespace Go.Proofs.Ytffepmoicpphfaa
set_option linter.unusedSimpArgs false
set_option linter.unusedVariables false
open Go.RowKit
variable {Z : Nat}
/-- what a hap that can't be gives up with -/
@[reducible] def errHap : List PanicEntry := [{ v := .iface 26 (.int .i64 400), recovered := false }]
theorem scMustT (w : World) : Calls Try.prog 77 #[.bool true] w fun e w' => e = .returned (.tuple #[]) ∧ w = w' := by
  go_enter Try.func77, Try.ntmps77
  go_wp2
  go_end0
  exact ⟨rfl, rfl⟩
theorem scMustF (w : World) : Calls Try.prog 77 #[.bool false] w fun e w' => e = .panicked errHap ∧ w = w' := by
  go_enter Try.func77, Try.ntmps77
  go_wp2
  exact ⟨rfl, rfl, rfl⟩
/-- a block of cells of an element type -/
def Typ (w : World) (b : Nat) (t : TypeId) : Prop := ∃ cs fr, w.heap[b]? = some (.cells cs t fr)
theorem Typ.ext {w w' : World} {b t} (h : Typ w b t) (hx : Ext w w') : Typ w' b t := by
  obtain ⟨cs, fr, h⟩ := h
  exact ⟨cs, fr, (Below.block hx b (Array.getElem?_eq_some_iff.1 h).1).trans h⟩
theorem Typ.set {w : World} {b t} (h : Typ w b t) (p : Addr) (v : Value) : Typ (w.setCell p v) b t := by
  obtain ⟨cs, fr, h⟩ := h
  by_cases e : p.block = b
  · subst e
    exact ⟨_, _, by simp [World.setCell, Array.getElem?_modify, h]; exact ⟨rfl, rfl⟩⟩
  · exact ⟨cs, fr, (Below.heap_setCell w p v b (fun x => e x.symm)).trans h⟩
/-- a tape's box: its bytes, how many were read -/
structure Tape (Z : Nat) (w : World) (X : Nat) (s : SA) (l : List UInt8) (at_ : Nat) : Prop where
  c0 : w.cell? ⟨X, 0, none⟩ = some (.slice s.A l.length s.c)
  c1 : w.cell? ⟨X, 1, none⟩ = some (.int .i64 at_)
  fz : ∀ o, w.frozen? ⟨X, o, none⟩ = false
  rs : RS Z w s l
  le : at_ ≤ l.length
  ty : Typ w X 75
theorem RB_nil' {w : World} {A : Option Addr} {l : List UInt8} (h : l = []) : RB Z w A l := by subst h; exact RB.nil _ _
theorem only_drewN' {a w : World} {row : Option Nat} (h : a.grownBy w row) (n : Nat) : a.grownBy (w.drewN n) row := ⟨h.os, h.tape, h.output, h.size, h.block⟩
set_option maxRecDepth 100000 in
set_option maxHeartbeats 1000000 in
theorem tapeTakeOk (X : Nat) (s : SA) (l : List UInt8) (at_ many : Nat) (w : World) (ht : Tape Z w X s l at_) (hm : at_ + many ≤ l.length) (hl : l.length ≤ 1048576) :
    Calls Try.prog 63 #[.pointer (some ⟨X, 0, none⟩), .int .i64 many] w fun e w' => ∃ t, e = .returned (.slice t many many) ∧ RB Z w' t ((l.drop at_).take many) ∧ Tape Z w' X s l (at_ + many) ∧ w.grownBy w' (some X) := by
  have c0 := ht.c0
  have c1 := ht.c1
  have fz := ht.fz
  have hle := ht.le
  have HT := Lib.hid ht
  clear ht
  have hmi : (many : Int) ≤ (l.length : Int) - (at_ : Int) := by omega
  have hwr : IntKind.i64.wrap ((l.length : Int) - (at_ : Int)) = (l.length : Int) - (at_ : Int) := IntWalk.i64_in _ (by omega)
  obtain ⟨e, he⟩ : ∃ e : Nat, e = at_ + many := ⟨_, rfl⟩
  have hc : (at_ : Int) + (many : Int) = (e : Int) := by omega
  have hwr3 : IntKind.i64.wrap ((e : Int) - (many : Int)) = (at_ : Int) := by rw [show (e : Int) - (many : Int) = (at_ : Int) by omega]; exact IntWalk.i64_in _ (by omega)
  have hel : e ≤ l.length := by omega
  have hls := HT.out.rs.le
  have b1 : (at_ : Int) ≤ (e : Int) := by omega
  have b2 : (e : Int) ≤ (s.c : Int) := by omega
  have HE := Lib.hid he
  clear he
  go_enter Try.func63, Try.ntmps63
  go_wp2_with fail
  go_quiet ((go_at_call 77; exact Calls.quiet_of_same ((scMustT _).mono fun e w' h => ⟨h.1, h.2.symm⟩)))
  go_wp2
  have d0 : ((w.drewN nq).setCell ⟨X, 1, none⟩ (.int .i64 (e : Int))).cell? ⟨X, 0, none⟩ = some (.slice s.A l.length s.c) := by
    have c0' : (w.drewN nq).cell? ⟨X, 0, none⟩ = some (.slice s.A l.length s.c) := c0
    simp [go_sem, c0']
  have d1 : ((w.drewN nq).setCell ⟨X, 1, none⟩ (.int .i64 (e : Int))).cell? ⟨X, 1, none⟩ = some (.int .i64 (e : Int)) := by
    have c1' : (w.drewN nq).cell? ⟨X, 1, none⟩ = some (.int .i64 at_) := c1
    simp [go_sem, c1']
  have df : ∀ o, ((w.drewN nq).setCell ⟨X, 1, none⟩ (.int .i64 (e : Int))).frozen? ⟨X, o, none⟩ = false := fun o => by
    rw [World.frozen?_setCell]; exact fz o
  have hgr : w.grownBy ((w.drewN nq).setCell ⟨X, 1, none⟩ (.int .i64 (e : Int))) (some X) :=
    ⟨rfl, rfl, rfl, by simp [World.setCell], fun k _ hne => (Below.heap_setCell (w.drewN nq) _ _ k (fun x => hne (by rw [x]))).trans rfl⟩
  have hrs : RS Z ((w.drewN nq).setCell ⟨X, 1, none⟩ (.int .i64 (e : Int))) s l := (HT.out.rs.ext ((Ext.refl w).drewN nq)).set' _ (by intro n; rw [show (w.drewN nq).cell? ⟨X, 1, none⟩ = w.cell? ⟨X, 1, none⟩ from rfl, c1]; simp)
  have dt : Typ ((w.drewN nq).setCell ⟨X, 1, none⟩ (.int .i64 (e : Int))) X 75 := (HT.out.ty.ext ((Ext.refl w).drewN nq)).set _ _
  generalize hW : (w.drewN nq).setCell ⟨X, 1, none⟩ (.int .i64 (e : Int)) = W2 at *
  clear hW c0 c1 fz
  by_cases hme : e = at_
  · have hm0 : many = 0 := by have := HE.out; omega
    subst hm0
    have hwr4 : IntKind.i64.wrap (e : Int) = (e : Int) := IntWalk.i64_in _ (by omega)
    subst hme
    go_quiet (fail)
    go_wp2
    go_ret
    refine ⟨_, by simp; rfl, RB_nil' (by simp), ?_, ?_⟩
    · exact ⟨d0, d1, df, hrs.ext ((Ext.refl _).drewN _), hel, dt.ext ((Ext.refl _).drewN _)⟩
    · exact only_drewN' hgr _
  · have hd := hrs.rb.drop at_ s.c hrs.le
    rw [if_neg (by omega)] at hd
    have HD := Lib.hid (hd.take many)
    have hsz : e - at_ = many := by have := HE.out; omega
    have HZ := Lib.hid hsz
    clear hd hsz
    go_quiet (fail)
    go_wp2
    go_ret
    refine ⟨s.A.map (·.add at_), ?_, (HD.out).ext ((Ext.refl _).drewN _), ?_, only_drewN' hgr _⟩
    · have := HZ.out; simp; omega
    · rw [← HE.out]; exact ⟨d0, d1, df, hrs.ext ((Ext.refl _).drewN _), hel, dt.ext ((Ext.refl _).drewN _)⟩

set_option maxRecDepth 100000 in
set_option maxHeartbeats 1000000 in
theorem tapeTakeBad (X : Nat) (s : SA) (l : List UInt8) (at_ many : Nat) (w : World) (ht : Tape Z w X s l at_) (hm : l.length < at_ + many) (hl : l.length ≤ 1048576) (hmm : many ≤ 1048576) :
    Calls Try.prog 63 #[.pointer (some ⟨X, 0, none⟩), .int .i64 many] w fun e w' => e = .panicked errHap ∧ Ext w w' := by
  have c0 := ht.c0
  have c1 := ht.c1
  have hle := ht.le
  clear ht
  have hmi : ¬ (many : Int) ≤ (l.length : Int) - (at_ : Int) := by omega
  have hmi' : (l.length : Int) - (at_ : Int) < (many : Int) := by omega
  have hwr : IntKind.i64.wrap ((l.length : Int) - (at_ : Int)) = (l.length : Int) - (at_ : Int) := IntWalk.i64_in _ (by omega)
  go_enter Try.func63, Try.ntmps63
  go_wp2_with fail
  go_region_dies
  all_goals
    rw [show decide ((many : Int) ≤ (l.length : Int) - (at_ : Int)) = false by simp; omega]
    refine (scMustF _).mono ?_
    rintro e w' ⟨rfl, rfl⟩
    exact ⟨rfl, rfl, (Ext.refl w).drew⟩

theorem Tape.ext {w w' : World} {X s l at_} (h : Tape Z w X s l at_) (hx : Ext w w') : Tape Z w' X s l at_ :=
  ⟨hx.cell h.c0, hx.cell h.c1, fun o => (hx.cells.2 X o (show X < w.heap.size from World.block_lt_of_cell? w ⟨X, 0, none⟩ h.c0)).trans (h.fz o), h.rs.ext hx, h.le, h.ty.ext hx⟩
theorem only_trans {a b c : World} {X : Option Nat} (h : a.grownBy b X) (k : b.grownBy c X) : a.grownBy c X := h.trans k
theorem only_ext {a b : World} (h : Ext a b) (X : Option Nat) : a.grownBy b X := ⟨h.os, h.tape, h.output, h.size, fun i hi _ => h.block i hi⟩
end Go.Proofs.Ytffepmoicpphfaa
