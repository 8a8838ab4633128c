/- hedgerowref30: Reader.hap, walked. -/
import Derived.Test.YtffepmoicpphfaaR30g
namespace Go.Proofs.Ytffepmoicpphfaa
set_option linter.unusedSimpArgs false
set_option linter.unusedVariables false
open Go.RowKit
variable {Z : Nat}
def hapR1 (r : Rdr) : Rdr × HapC :=
  let q1 := numR r 1
  let q2 := numR q1.1 1
  let q3 := textR q2.1 64
  let q4 := textR q3.1 64
  let q5 := numR q4.1 2
  let q6 := numR q5.1 2
  let q7 := numR q6.1 8
  let q8 := textR q7.1 256
  (q8.1, ⟨1, (q1.2 % 8 : Nat), ⟨(q2.2 % 15 : Nat), q3.2, q4.2, q5.2, q6.2, q7.2, q8.2⟩, 0, []⟩)
def hapR (r : Rdr) : Rdr × HapC :=
  let q := numR r 1
  if q.2 % 5 = 0 then hapR1 q.1
  else if q.2 % 5 = 1 then ((numR q.1 1).1, ⟨2, ((numR q.1 1).2 % 8 : Nat), zeroCall, 0, []⟩)
  else if q.2 % 5 = 2 then ((numR q.1 2).1, ⟨3, 0, zeroCall, (numR q.1 2).2, []⟩)
  else if q.2 % 5 = 3 then ((textR q.1 8).1, ⟨4, 0, zeroCall, 0, (textR q.1 8).2⟩)
  else ((numR q.1 1).1, ⟨5, 0, zeroCall, (numR q.1 1).2 + 1, []⟩)
def HapsR (Z : Nat) (w : World) (p : Rdr × HapC) (e : Ending) (w' : World) : Prop :=
  ∃ s a, e = .returned (.tuple #[(.agg #[.slice s.A p.1.B.length s.c, .bool p.1.bad]), hapV p.2 a]) ∧ RS Z w' s p.1.B ∧ RH Z w' p.2 a ∧ Ext w w'

/-- the boxes under way in hap: the reader's at b, the results' at c (a reader) and d (a hap), the hap's at hb -/
structure HS (Z b c d hb : Nat) (r : Rdr) (s : SA) (h : HapC) (a : HapA) (W : World) : Prop where
  c0 : W.cell? ⟨b, 0, none⟩ = some (.slice s.A r.B.length s.c)
  c1 : W.cell? ⟨b, 1, none⟩ = some (.bool r.bad)
  fb : ∀ o, W.frozen? ⟨b, o, none⟩ = false
  box : HapBox W hb h a
  fh : ∀ o, W.frozen? ⟨hb, o, none⟩ = false
  d0 : W.cell? ⟨c, 0, none⟩ = some (.slice none 0 0)
  d1 : W.cell? ⟨c, 1, none⟩ = some (.bool false)
  fc : ∀ o, W.frozen? ⟨c, o, none⟩ = false
  res : HapBox W d ⟨0, 0, zeroCall, 0, []⟩ ⟨none, 0, none, 0⟩
  fd : ∀ o, W.frozen? ⟨d, o, none⟩ = false
  rs : RS Z W s r.B
  rh : RH Z W h a
  n1 : b ≠ hb
  n2 : b ≠ c
  n3 : b ≠ d
  n4 : hb ≠ c
  n5 : hb ≠ d
  n6 : c ≠ d
theorem HS.ext {b c d hb r s h a W W'} (H : HS Z b c d hb r s h a W) (hx : Ext W W') : HS Z b c d hb r s h a W' := by
  have l1 := World.block_lt_of_cell? W _ H.c0
  have l2 := World.block_lt_of_cell? W _ H.box.1
  have l3 := World.block_lt_of_cell? W _ H.d0
  have l4 := World.block_lt_of_cell? W _ H.res.1
  exact ⟨hx.cell H.c0, hx.cell H.c1, fun o => (hx.cells.2 _ o l1).trans (H.fb o), H.box.ext hx, fun o => (hx.cells.2 _ o l2).trans (H.fh o), hx.cell H.d0, hx.cell H.d1, fun o => (hx.cells.2 _ o l3).trans (H.fc o), H.res.ext hx, fun o => (hx.cells.2 _ o l4).trans (H.fd o), H.rs.ext hx, H.rh.ext hx, H.n1, H.n2, H.n3, H.n4, H.n5, H.n6⟩
theorem HapBox.far {W : World} {b h a} (H : HapBox W b h a) {p : Addr} (v : Value) (hp : p.block ≠ b) : HapBox (W.setCell p v) b h a := by
  have hc := fun o => World.cell?_setCell_far W p ⟨b, o, none⟩ v hp
  unfold HapBox at H ⊢
  simpa only [hc] using H
theorem RH.set {W : World} {h a} (H : RH Z W h a) {p : Addr} (v : Value) (hp : ∀ n, W.cell? p ≠ some (.int .u8 n)) : RH Z (W.setCell p v) h a := ⟨H.b.set' v hp, H.p.set' v hp⟩
theorem far_cell {W : World} {b o b' o' : Nat} {u v : Value} (h : W.cell? ⟨b, o, none⟩ = some u) (hn : b' ≠ b) : (W.setCell ⟨b', o', none⟩ v).cell? ⟨b, o, none⟩ = some u := (World.cell?_setCell_far W ⟨b', o', none⟩ ⟨b, o, none⟩ v hn).trans h
/-- the reader's box is stored anew -/
theorem HS.rd {b c d hb r s h a W} (H : HS Z b c d hb r s h a W) (r' : Rdr) (s' : SA) (hr : RS Z W s' r'.B) :
    HS Z b c d hb r' s' h a ((W.setCell ⟨b, 0, none⟩ (.slice s'.A r'.B.length s'.c)).setCell ⟨b, 1, none⟩ (.bool r'.bad)) := by
  have e0 : ∀ n, W.cell? ⟨b, 0, none⟩ ≠ some (.int .u8 n) := by intro n; simp [H.c0]
  have e1 : (W.setCell ⟨b, 0, none⟩ (.slice s'.A r'.B.length s'.c)).cell? ⟨b, 1, none⟩ = some (.bool r.bad) := by simp [go_sem, H.c1]
  have e2 : ∀ n, (W.setCell ⟨b, 0, none⟩ (.slice s'.A r'.B.length s'.c)).cell? ⟨b, 1, none⟩ ≠ some (.int .u8 n) := by intro n; simp [e1]
  refine ⟨by simp [go_sem, H.c0], by simp [go_sem, H.c1], fun o => by simp [H.fb], (H.box.far _ H.n1).far _ H.n1, fun o => by simp [H.fh], far_cell (far_cell H.d0 H.n2) H.n2, far_cell (far_cell H.d1 H.n2) H.n2, fun o => by simp [H.fc], (H.res.far _ H.n3).far _ H.n3, fun o => by simp [H.fd], (hr.set' _ e0).set' _ e2, (H.rh.set _ e0).set _ e2, H.n1, H.n2, H.n3, H.n4, H.n5, H.n6⟩
theorem HS.client {b c d hb r s h a W} (H : HS Z b c d hb r s h a W) (x : Int) : HS Z b c d hb r s { h with client := x } a (W.setCell ⟨hb, 1, none⟩ (.int .i64 x)) := by
  obtain ⟨q0, q1, q2, q3, q4, q5, q6, q7, q8, q9, q10⟩ := H.box
  have e0 : ∀ n, W.cell? ⟨hb, 1, none⟩ ≠ some (.int .u8 n) := by intro n; simp [q1]
  refine ⟨far_cell H.c0 (Ne.symm H.n1), far_cell H.c1 (Ne.symm H.n1), fun o => by simp [H.fb], ?_, fun o => by simp [H.fh], far_cell H.d0 H.n4, far_cell H.d1 H.n4, fun o => by simp [H.fc], H.res.far _ H.n5, fun o => by simp [H.fd], H.rs.set' _ e0, ⟨H.rh.b.set' _ e0, H.rh.p.set' _ e0⟩, H.n1, H.n2, H.n3, H.n4, H.n5, H.n6⟩
  simp [HapBox, go_sem, q0, q1, q2, q3, q4, q5, q6, q7, q8, q9, q10]
theorem HS.ckind {b c d hb r s h a W} (H : HS Z b c d hb r s h a W) (x : Int) : HS Z b c d hb r s { h with call := { h.call with kind := x } } a (W.setCell ⟨hb, 2, none⟩ (.int .i64 x)) := by
  obtain ⟨q0, q1, q2, q3, q4, q5, q6, q7, q8, q9, q10⟩ := H.box
  have e0 : ∀ n, W.cell? ⟨hb, 2, none⟩ ≠ some (.int .u8 n) := by intro n; simp [q2]
  refine ⟨far_cell H.c0 (Ne.symm H.n1), far_cell H.c1 (Ne.symm H.n1), fun o => by simp [H.fb], ?_, fun o => by simp [H.fh], far_cell H.d0 H.n4, far_cell H.d1 H.n4, fun o => by simp [H.fc], H.res.far _ H.n5, fun o => by simp [H.fd], H.rs.set' _ e0, ⟨H.rh.b.set' _ e0, H.rh.p.set' _ e0⟩, H.n1, H.n2, H.n3, H.n4, H.n5, H.n6⟩
  simp [HapBox, go_sem, q0, q1, q2, q3, q4, q5, q6, q7, q8, q9, q10]
theorem HS.path {b c d hb r s h a W} (H : HS Z b c d hb r s h a W) (x : List UInt8) : HS Z b c d hb r s { h with call := { h.call with path := x } } a (W.setCell ⟨hb, 3, none⟩ (.string (strOf x))) := by
  obtain ⟨q0, q1, q2, q3, q4, q5, q6, q7, q8, q9, q10⟩ := H.box
  have e0 : ∀ n, W.cell? ⟨hb, 3, none⟩ ≠ some (.int .u8 n) := by intro n; simp [q3]
  refine ⟨far_cell H.c0 (Ne.symm H.n1), far_cell H.c1 (Ne.symm H.n1), fun o => by simp [H.fb], ?_, fun o => by simp [H.fh], far_cell H.d0 H.n4, far_cell H.d1 H.n4, fun o => by simp [H.fc], H.res.far _ H.n5, fun o => by simp [H.fd], H.rs.set' _ e0, ⟨H.rh.b.set' _ e0, H.rh.p.set' _ e0⟩, H.n1, H.n2, H.n3, H.n4, H.n5, H.n6⟩
  simp [HapBox, go_sem, q0, q1, q2, q3, q4, q5, q6, q7, q8, q9, q10]
theorem HS.to_ {b c d hb r s h a W} (H : HS Z b c d hb r s h a W) (x : List UInt8) : HS Z b c d hb r s { h with call := { h.call with to_ := x } } a (W.setCell ⟨hb, 4, none⟩ (.string (strOf x))) := by
  obtain ⟨q0, q1, q2, q3, q4, q5, q6, q7, q8, q9, q10⟩ := H.box
  have e0 : ∀ n, W.cell? ⟨hb, 4, none⟩ ≠ some (.int .u8 n) := by intro n; simp [q4]
  refine ⟨far_cell H.c0 (Ne.symm H.n1), far_cell H.c1 (Ne.symm H.n1), fun o => by simp [H.fb], ?_, fun o => by simp [H.fh], far_cell H.d0 H.n4, far_cell H.d1 H.n4, fun o => by simp [H.fc], H.res.far _ H.n5, fun o => by simp [H.fd], H.rs.set' _ e0, ⟨H.rh.b.set' _ e0, H.rh.p.set' _ e0⟩, H.n1, H.n2, H.n3, H.n4, H.n5, H.n6⟩
  simp [HapBox, go_sem, q0, q1, q2, q3, q4, q5, q6, q7, q8, q9, q10]
theorem HS.at_ {b c d hb r s h a W} (H : HS Z b c d hb r s h a W) (x : Int) : HS Z b c d hb r s { h with call := { h.call with at_ := x } } a (W.setCell ⟨hb, 5, none⟩ (.int .i64 x)) := by
  obtain ⟨q0, q1, q2, q3, q4, q5, q6, q7, q8, q9, q10⟩ := H.box
  have e0 : ∀ n, W.cell? ⟨hb, 5, none⟩ ≠ some (.int .u8 n) := by intro n; simp [q5]
  refine ⟨far_cell H.c0 (Ne.symm H.n1), far_cell H.c1 (Ne.symm H.n1), fun o => by simp [H.fb], ?_, fun o => by simp [H.fh], far_cell H.d0 H.n4, far_cell H.d1 H.n4, fun o => by simp [H.fc], H.res.far _ H.n5, fun o => by simp [H.fd], H.rs.set' _ e0, ⟨H.rh.b.set' _ e0, H.rh.p.set' _ e0⟩, H.n1, H.n2, H.n3, H.n4, H.n5, H.n6⟩
  simp [HapBox, go_sem, q0, q1, q2, q3, q4, q5, q6, q7, q8, q9, q10]
theorem HS.many {b c d hb r s h a W} (H : HS Z b c d hb r s h a W) (x : Int) : HS Z b c d hb r s { h with call := { h.call with many := x } } a (W.setCell ⟨hb, 6, none⟩ (.int .i64 x)) := by
  obtain ⟨q0, q1, q2, q3, q4, q5, q6, q7, q8, q9, q10⟩ := H.box
  have e0 : ∀ n, W.cell? ⟨hb, 6, none⟩ ≠ some (.int .u8 n) := by intro n; simp [q6]
  refine ⟨far_cell H.c0 (Ne.symm H.n1), far_cell H.c1 (Ne.symm H.n1), fun o => by simp [H.fb], ?_, fun o => by simp [H.fh], far_cell H.d0 H.n4, far_cell H.d1 H.n4, fun o => by simp [H.fc], H.res.far _ H.n5, fun o => by simp [H.fd], H.rs.set' _ e0, ⟨H.rh.b.set' _ e0, H.rh.p.set' _ e0⟩, H.n1, H.n2, H.n3, H.n4, H.n5, H.n6⟩
  simp [HapBox, go_sem, q0, q1, q2, q3, q4, q5, q6, q7, q8, q9, q10]
theorem HS.key {b c d hb r s h a W} (H : HS Z b c d hb r s h a W) (x : Int) : HS Z b c d hb r s { h with call := { h.call with key := x } } a (W.setCell ⟨hb, 7, none⟩ (.int .u64 x)) := by
  obtain ⟨q0, q1, q2, q3, q4, q5, q6, q7, q8, q9, q10⟩ := H.box
  have e0 : ∀ n, W.cell? ⟨hb, 7, none⟩ ≠ some (.int .u8 n) := by intro n; simp [q7]
  refine ⟨far_cell H.c0 (Ne.symm H.n1), far_cell H.c1 (Ne.symm H.n1), fun o => by simp [H.fb], ?_, fun o => by simp [H.fh], far_cell H.d0 H.n4, far_cell H.d1 H.n4, fun o => by simp [H.fc], H.res.far _ H.n5, fun o => by simp [H.fd], H.rs.set' _ e0, ⟨H.rh.b.set' _ e0, H.rh.p.set' _ e0⟩, H.n1, H.n2, H.n3, H.n4, H.n5, H.n6⟩
  simp [HapBox, go_sem, q0, q1, q2, q3, q4, q5, q6, q7, q8, q9, q10]
theorem HS.bytes {b c d hb r s h a W} (H : HS Z b c d hb r s h a W) (x : List UInt8) (A : Option Addr) (c' : Nat) (hx : RB Z W A x) : HS Z b c d hb r s { h with call := { h.call with bytes := x } } { a with A := A, ca := c' } (W.setCell ⟨hb, 8, none⟩ (.slice A x.length c')) := by
  obtain ⟨q0, q1, q2, q3, q4, q5, q6, q7, q8, q9, q10⟩ := H.box
  have e0 : ∀ n, W.cell? ⟨hb, 8, none⟩ ≠ some (.int .u8 n) := by intro n; simp [q8]
  refine ⟨far_cell H.c0 (Ne.symm H.n1), far_cell H.c1 (Ne.symm H.n1), fun o => by simp [H.fb], ?_, fun o => by simp [H.fh], far_cell H.d0 H.n4, far_cell H.d1 H.n4, fun o => by simp [H.fc], H.res.far _ H.n5, fun o => by simp [H.fd], H.rs.set' _ e0, ⟨hx.set' _ e0, H.rh.p.set' _ e0⟩, H.n1, H.n2, H.n3, H.n4, H.n5, H.n6⟩
  simp [HapBox, go_sem, q0, q1, q2, q3, q4, q5, q6, q7, q8, q9, q10]
theorem HS.n {b c d hb r s h a W} (H : HS Z b c d hb r s h a W) (x : Int) : HS Z b c d hb r s { h with n := x } a (W.setCell ⟨hb, 9, none⟩ (.int .i64 x)) := by
  obtain ⟨q0, q1, q2, q3, q4, q5, q6, q7, q8, q9, q10⟩ := H.box
  have e0 : ∀ n, W.cell? ⟨hb, 9, none⟩ ≠ some (.int .u8 n) := by intro n; simp [q9]
  refine ⟨far_cell H.c0 (Ne.symm H.n1), far_cell H.c1 (Ne.symm H.n1), fun o => by simp [H.fb], ?_, fun o => by simp [H.fh], far_cell H.d0 H.n4, far_cell H.d1 H.n4, fun o => by simp [H.fc], H.res.far _ H.n5, fun o => by simp [H.fd], H.rs.set' _ e0, ⟨H.rh.b.set' _ e0, H.rh.p.set' _ e0⟩, H.n1, H.n2, H.n3, H.n4, H.n5, H.n6⟩
  simp [HapBox, go_sem, q0, q1, q2, q3, q4, q5, q6, q7, q8, q9, q10]
theorem HS.picks {b c d hb r s h a W} (H : HS Z b c d hb r s h a W) (x : List UInt8) (A : Option Addr) (c' : Nat) (hx : RB Z W A x) : HS Z b c d hb r s { h with picks := x } { a with P := A, cp := c' } (W.setCell ⟨hb, 10, none⟩ (.slice A x.length c')) := by
  obtain ⟨q0, q1, q2, q3, q4, q5, q6, q7, q8, q9, q10⟩ := H.box
  have e0 : ∀ n, W.cell? ⟨hb, 10, none⟩ ≠ some (.int .u8 n) := by intro n; simp [q10]
  refine ⟨far_cell H.c0 (Ne.symm H.n1), far_cell H.c1 (Ne.symm H.n1), fun o => by simp [H.fb], ?_, fun o => by simp [H.fh], far_cell H.d0 H.n4, far_cell H.d1 H.n4, fun o => by simp [H.fc], H.res.far _ H.n5, fun o => by simp [H.fd], H.rs.set' _ e0, ⟨H.rh.b.set' _ e0, hx.set' _ e0⟩, H.n1, H.n2, H.n3, H.n4, H.n5, H.n6⟩
  simp [HapBox, go_sem, q0, q1, q2, q3, q4, q5, q6, q7, q8, q9, q10]
theorem HS.rb_rd {b c d hb r s h a W} (H : HS Z b c d hb r s h a W) (r' : Rdr) (s' : SA) {A l} (hr : RB Z W A l) : RB Z ((W.setCell ⟨b, 0, none⟩ (.slice s'.A r'.B.length s'.c)).setCell ⟨b, 1, none⟩ (.bool r'.bad)) A l := by
  have e0 : ∀ n, W.cell? ⟨b, 0, none⟩ ≠ some (.int .u8 n) := by intro n; simp [H.c0]
  have e1 : (W.setCell ⟨b, 0, none⟩ (.slice s'.A r'.B.length s'.c)).cell? ⟨b, 1, none⟩ = some (.bool r.bad) := by simp [go_sem, H.c1]
  exact (hr.set' _ e0).set' _ (by intro n; simp [e1])
theorem HS.init {w w1 : World} {s : SA} {r : Rdr} (hx : Ext (((w.alloc (.cells #[.slice s.A r.B.length s.c, .bool r.bad] 69)).alloc (.cells #[.slice none 0 0, .bool false] 69)).alloc (hapObj ⟨0, 0, zeroCall, 0, []⟩ ⟨none, 0, none, 0⟩)) w1)
    {r1 : Rdr} {s1 : SA} (hs1 : RS Z w1 s1 r1.B) (k : Int) : HS Z w.heap.size (w.heap.size + 1) (w.heap.size + 1 + 1) w1.heap.size r1 s1 ⟨k, 0, zeroCall, 0, []⟩ ⟨none, 0, none, 0⟩
      (((w1.setCell ⟨w.heap.size, 0, none⟩ (.slice s1.A r1.B.length s1.c)).setCell ⟨w.heap.size, 1, none⟩ (.bool r1.bad)).alloc (hapObj ⟨k, 0, zeroCall, 0, []⟩ ⟨none, 0, none, 0⟩)) := by
  obtain ⟨hc, hf⟩ := hx.cells
  have hz := hx.size
  simp only [World.size_alloc] at hz hc hf
  have a0 : w1.cell? ⟨w.heap.size, 0, none⟩ = some (.slice s.A r.B.length s.c) := by rw [hc _ _ (by omega)]; simp [go_sem]
  have a1 : w1.cell? ⟨w.heap.size, 1, none⟩ = some (.bool r.bad) := by rw [hc _ _ (by omega)]; simp [go_sem]
  have a2 : w1.cell? ⟨w.heap.size + 1, 0, none⟩ = some (.slice none 0 0) := by rw [hc _ _ (by omega)]; simp [go_sem]
  have a3 : w1.cell? ⟨w.heap.size + 1, 1, none⟩ = some (.bool false) := by rw [hc _ _ (by omega)]; simp [go_sem]
  have f0 : ∀ o, w1.frozen? ⟨w.heap.size, o, none⟩ = false := fun o => by rw [hf _ _ (by omega)]; simp [go_sem]
  have f1 : ∀ o, w1.frozen? ⟨w.heap.size + 1, o, none⟩ = false := fun o => by rw [hf _ _ (by omega)]; simp [go_sem]
  have f2 : ∀ o, w1.frozen? ⟨w.heap.size + 1 + 1, o, none⟩ = false := fun o => by rw [hf _ _ (by omega)]; simp [go_sem]
  have hres : HapBox w1 (w.heap.size + 1 + 1) ⟨0, 0, zeroCall, 0, []⟩ ⟨none, 0, none, 0⟩ := by
    have hc' := fun o => hc (w.heap.size + 1 + 1) o (by omega)
    simp [HapBox, go_sem, hc', zeroCall]
  have e0 : ∀ n, w1.cell? ⟨w.heap.size, 0, none⟩ ≠ some (.int .u8 n) := by intro n; simp [a0]
  have e1 : (w1.setCell ⟨w.heap.size, 0, none⟩ (.slice s1.A r1.B.length s1.c)).cell? ⟨w.heap.size, 1, none⟩ = some (.bool r.bad) := by simp [go_sem, a1]
  have e2 : ∀ n, (w1.setCell ⟨w.heap.size, 0, none⟩ (.slice s1.A r1.B.length s1.c)).cell? ⟨w.heap.size, 1, none⟩ ≠ some (.int .u8 n) := by intro n; simp [e1]
  have hn : w.heap.size ≠ w.heap.size + 1 + 1 := by omega

  have l0 : w.heap.size < w1.heap.size := by omega
  have l1 : w.heap.size + 1 < w1.heap.size := by omega
  have l2 : w.heap.size + 1 + 1 < w1.heap.size := by omega
  have hX : HapBox ((w1.setCell ⟨w.heap.size, 0, none⟩ (.slice s1.A r1.B.length s1.c)).setCell ⟨w.heap.size, 1, none⟩ (.bool r1.bad)) (w.heap.size + 1 + 1) ⟨0, 0, zeroCall, 0, []⟩ ⟨none, 0, none, 0⟩ := (hres.far _ hn).far _ hn
  have hnew := HapBox.new ((w1.setCell ⟨w.heap.size, 0, none⟩ (.slice s1.A r1.B.length s1.c)).setCell ⟨w.heap.size, 1, none⟩ (.bool r1.bad)) ⟨k, 0, zeroCall, 0, []⟩ ⟨none, 0, none, 0⟩
  simp only [World.size_setCell] at hnew
  exact ⟨by simp [go_sem, a0, l0], by simp [go_sem, a1, l0], fun o => by simp [go_sem, f0, l0], hnew, fun o => by simp [go_sem], by simp [go_sem, l1]; exact a2,
    by simp [go_sem, l1]; exact a3, fun o => by simp [go_sem, f1, l1], hX.ext (ext1 _ _), fun o => by simp [go_sem, f2, l2], ((hs1.set' _ e0).set' _ e2).ext (ext1 _ _), ⟨RB.nil _ _, RB.nil _ _⟩, by omega, by omega, by omega, by omega, by omega, by omega⟩
theorem RB.drew {w : World} {A l} (h : RB Z w A l) : RB Z w.drew A l := h.ext (Ext.refl _).drew
theorem Ext.set13 {w W : World} (h : Ext w W) {c d : Nat} (hc : w.heap.size ≤ c) (hd : w.heap.size ≤ d) (u v x0 x1 x2 x3 x4 x5 x6 x7 x8 x9 x10 : Value) : Ext w (((((((((((((W.setCell ⟨c, 0, none⟩ u).setCell ⟨c, 1, none⟩ v).setCell ⟨d, 0, none⟩ x0).setCell ⟨d, 1, none⟩ x1).setCell ⟨d, 2, none⟩ x2).setCell ⟨d, 3, none⟩ x3).setCell ⟨d, 4, none⟩ x4).setCell ⟨d, 5, none⟩ x5).setCell ⟨d, 6, none⟩ x6).setCell ⟨d, 7, none⟩ x7).setCell ⟨d, 8, none⟩ x8).setCell ⟨d, 9, none⟩ x9).setCell ⟨d, 10, none⟩ x10) := by
  have hc' : ∀ o, w.heap.size ≤ (⟨c, o, none⟩ : Addr).block := fun _ => hc
  have hd' : ∀ o, w.heap.size ≤ (⟨d, o, none⟩ : Addr).block := fun _ => hd
  exact (((((((((((((h.setCell (hc' _) _).setCell (hc' _) _).setCell (hd' _) _).setCell (hd' _) _).setCell (hd' _) _).setCell (hd' _) _).setCell (hd' _) _).setCell (hd' _) _).setCell (hd' _) _).setCell (hd' _) _).setCell (hd' _) _).setCell (hd' _) _).setCell (hd' _) _)
theorem HS.init' {w w1 : World} {s : SA} {r : Rdr} (hx : Ext (((w.alloc (.cells #[.slice s.A r.B.length s.c, .bool r.bad] 69)).alloc (.cells #[.slice none 0 0, .bool false] 69)).alloc (.cells #[.int .i64 0, .int .i64 0, .int .i64 0, .string ⟨#[]⟩, .string ⟨#[]⟩, .int .i64 0, .int .i64 0, .int .u64 0, .slice none 0 0, .int .i64 0, .slice none 0 0] 35)) w1)
    {r1 : Rdr} {s1 : SA} (hs1 : RS Z w1 s1 r1.B) (k : Int) : HS Z w.heap.size (w.heap.size + 1) (w.heap.size + 1 + 1) w1.heap.size r1 s1 ⟨k, 0, zeroCall, 0, []⟩ ⟨none, 0, none, 0⟩
      (((w1.setCell ⟨w.heap.size, 0, none⟩ (.slice s1.A r1.B.length s1.c)).setCell ⟨w.heap.size, 1, none⟩ (.bool r1.bad)).alloc (.cells #[.int .i64 k, .int .i64 0, .int .i64 0, .string ⟨#[]⟩, .string ⟨#[]⟩, .int .i64 0, .int .i64 0, .int .u64 0, .slice none 0 0, .int .i64 0, .slice none 0 0] 35)) := HS.init hx hs1 k
theorem cell_drew (W : World) (a : Addr) : W.drew.cell? a = W.cell? a := rfl
theorem HapBox.drew {W : World} {b h a} (H : HapBox W b h a) : HapBox W.drew b h a := by
  unfold HapBox at H ⊢
  simpa only [cell_drew] using H
theorem HS.keep1 {b c d hb r s h a W} (H : HS Z b c d hb r s h a W) (u v : Value) :
    ((W.setCell ⟨c, 0, none⟩ u).setCell ⟨c, 1, none⟩ v).drew.cell? ⟨b, 0, none⟩ = some (.slice s.A r.B.length s.c) ∧ ((W.setCell ⟨c, 0, none⟩ u).setCell ⟨c, 1, none⟩ v).drew.cell? ⟨b, 1, none⟩ = some (.bool r.bad) ∧
      HapBox ((W.setCell ⟨c, 0, none⟩ u).setCell ⟨c, 1, none⟩ v).drew hb h a :=
  ⟨far_cell (far_cell H.c0 (Ne.symm H.n2)) (Ne.symm H.n2), far_cell (far_cell H.c1 (Ne.symm H.n2)) (Ne.symm H.n2), show HapBox ((W.setCell ⟨c, 0, none⟩ u).setCell ⟨c, 1, none⟩ v) hb h a from (H.box.far _ (Ne.symm H.n4)).far _ (Ne.symm H.n4)⟩
theorem HS.keep2 {b c d hb r s h a W} (H : HS Z b c d hb r s h a W) (u v x0 x1 x2 x3 x4 x5 x6 x7 x8 x9 x10 : Value) :
    (((((((((((((W.setCell ⟨c, 0, none⟩ u).setCell ⟨c, 1, none⟩ v).setCell ⟨d, 0, none⟩ x0).setCell ⟨d, 1, none⟩ x1).setCell ⟨d, 2, none⟩ x2).setCell ⟨d, 3, none⟩ x3).setCell ⟨d, 4, none⟩ x4).setCell ⟨d, 5, none⟩ x5).setCell ⟨d, 6, none⟩ x6).setCell ⟨d, 7, none⟩ x7).setCell ⟨d, 8, none⟩ x8).setCell ⟨d, 9, none⟩ x9).setCell ⟨d, 10, none⟩ x10).drew.cell? ⟨b, 0, none⟩ = some (.slice s.A r.B.length s.c) ∧ (((((((((((((W.setCell ⟨c, 0, none⟩ u).setCell ⟨c, 1, none⟩ v).setCell ⟨d, 0, none⟩ x0).setCell ⟨d, 1, none⟩ x1).setCell ⟨d, 2, none⟩ x2).setCell ⟨d, 3, none⟩ x3).setCell ⟨d, 4, none⟩ x4).setCell ⟨d, 5, none⟩ x5).setCell ⟨d, 6, none⟩ x6).setCell ⟨d, 7, none⟩ x7).setCell ⟨d, 8, none⟩ x8).setCell ⟨d, 9, none⟩ x9).setCell ⟨d, 10, none⟩ x10).drew.cell? ⟨b, 1, none⟩ = some (.bool r.bad) ∧ HapBox (((((((((((((W.setCell ⟨c, 0, none⟩ u).setCell ⟨c, 1, none⟩ v).setCell ⟨d, 0, none⟩ x0).setCell ⟨d, 1, none⟩ x1).setCell ⟨d, 2, none⟩ x2).setCell ⟨d, 3, none⟩ x3).setCell ⟨d, 4, none⟩ x4).setCell ⟨d, 5, none⟩ x5).setCell ⟨d, 6, none⟩ x6).setCell ⟨d, 7, none⟩ x7).setCell ⟨d, 8, none⟩ x8).setCell ⟨d, 9, none⟩ x9).setCell ⟨d, 10, none⟩ x10).drew hb h a :=
  ⟨(cell_drew _ _).trans (far_cell (far_cell (far_cell (far_cell (far_cell (far_cell (far_cell (far_cell (far_cell (far_cell (far_cell (far_cell (far_cell H.c0 (Ne.symm H.n2)) (Ne.symm H.n2)) (Ne.symm H.n3)) (Ne.symm H.n3)) (Ne.symm H.n3)) (Ne.symm H.n3)) (Ne.symm H.n3)) (Ne.symm H.n3)) (Ne.symm H.n3)) (Ne.symm H.n3)) (Ne.symm H.n3)) (Ne.symm H.n3)) (Ne.symm H.n3)), (cell_drew _ _).trans (far_cell (far_cell (far_cell (far_cell (far_cell (far_cell (far_cell (far_cell (far_cell (far_cell (far_cell (far_cell (far_cell H.c1 (Ne.symm H.n2)) (Ne.symm H.n2)) (Ne.symm H.n3)) (Ne.symm H.n3)) (Ne.symm H.n3)) (Ne.symm H.n3)) (Ne.symm H.n3)) (Ne.symm H.n3)) (Ne.symm H.n3)) (Ne.symm H.n3)) (Ne.symm H.n3)) (Ne.symm H.n3)) (Ne.symm H.n3)), HapBox.drew (((((((((((((H.box.far _ (Ne.symm H.n4)).far _ (Ne.symm H.n4)).far _ (Ne.symm H.n5)).far _ (Ne.symm H.n5)).far _ (Ne.symm H.n5)).far _ (Ne.symm H.n5)).far _ (Ne.symm H.n5)).far _ (Ne.symm H.n5)).far _ (Ne.symm H.n5)).far _ (Ne.symm H.n5)).far _ (Ne.symm H.n5)).far _ (Ne.symm H.n5)).far _ (Ne.symm H.n5))⟩
theorem HS.fin {b c d hb r s h a W} (H : HS Z b c d hb r s h a W) (u v x0 x1 x2 x3 x4 x5 x6 x7 x8 x9 x10 : Value) :
    (((((((((((((W.setCell ⟨c, 0, none⟩ u).setCell ⟨c, 1, none⟩ v).setCell ⟨d, 0, none⟩ x0).setCell ⟨d, 1, none⟩ x1).setCell ⟨d, 2, none⟩ x2).setCell ⟨d, 3, none⟩ x3).setCell ⟨d, 4, none⟩ x4).setCell ⟨d, 5, none⟩ x5).setCell ⟨d, 6, none⟩ x6).setCell ⟨d, 7, none⟩ x7).setCell ⟨d, 8, none⟩ x8).setCell ⟨d, 9, none⟩ x9).setCell ⟨d, 10, none⟩ x10).cell? ⟨c, 0, none⟩ = some u ∧ (((((((((((((W.setCell ⟨c, 0, none⟩ u).setCell ⟨c, 1, none⟩ v).setCell ⟨d, 0, none⟩ x0).setCell ⟨d, 1, none⟩ x1).setCell ⟨d, 2, none⟩ x2).setCell ⟨d, 3, none⟩ x3).setCell ⟨d, 4, none⟩ x4).setCell ⟨d, 5, none⟩ x5).setCell ⟨d, 6, none⟩ x6).setCell ⟨d, 7, none⟩ x7).setCell ⟨d, 8, none⟩ x8).setCell ⟨d, 9, none⟩ x9).setCell ⟨d, 10, none⟩ x10).cell? ⟨c, 1, none⟩ = some v ∧ (((((((((((((W.setCell ⟨c, 0, none⟩ u).setCell ⟨c, 1, none⟩ v).setCell ⟨d, 0, none⟩ x0).setCell ⟨d, 1, none⟩ x1).setCell ⟨d, 2, none⟩ x2).setCell ⟨d, 3, none⟩ x3).setCell ⟨d, 4, none⟩ x4).setCell ⟨d, 5, none⟩ x5).setCell ⟨d, 6, none⟩ x6).setCell ⟨d, 7, none⟩ x7).setCell ⟨d, 8, none⟩ x8).setCell ⟨d, 9, none⟩ x9).setCell ⟨d, 10, none⟩ x10).cell? ⟨d, 0, none⟩ = some x0 ∧ (((((((((((((W.setCell ⟨c, 0, none⟩ u).setCell ⟨c, 1, none⟩ v).setCell ⟨d, 0, none⟩ x0).setCell ⟨d, 1, none⟩ x1).setCell ⟨d, 2, none⟩ x2).setCell ⟨d, 3, none⟩ x3).setCell ⟨d, 4, none⟩ x4).setCell ⟨d, 5, none⟩ x5).setCell ⟨d, 6, none⟩ x6).setCell ⟨d, 7, none⟩ x7).setCell ⟨d, 8, none⟩ x8).setCell ⟨d, 9, none⟩ x9).setCell ⟨d, 10, none⟩ x10).cell? ⟨d, 1, none⟩ = some x1 ∧ (((((((((((((W.setCell ⟨c, 0, none⟩ u).setCell ⟨c, 1, none⟩ v).setCell ⟨d, 0, none⟩ x0).setCell ⟨d, 1, none⟩ x1).setCell ⟨d, 2, none⟩ x2).setCell ⟨d, 3, none⟩ x3).setCell ⟨d, 4, none⟩ x4).setCell ⟨d, 5, none⟩ x5).setCell ⟨d, 6, none⟩ x6).setCell ⟨d, 7, none⟩ x7).setCell ⟨d, 8, none⟩ x8).setCell ⟨d, 9, none⟩ x9).setCell ⟨d, 10, none⟩ x10).cell? ⟨d, 2, none⟩ = some x2 ∧ (((((((((((((W.setCell ⟨c, 0, none⟩ u).setCell ⟨c, 1, none⟩ v).setCell ⟨d, 0, none⟩ x0).setCell ⟨d, 1, none⟩ x1).setCell ⟨d, 2, none⟩ x2).setCell ⟨d, 3, none⟩ x3).setCell ⟨d, 4, none⟩ x4).setCell ⟨d, 5, none⟩ x5).setCell ⟨d, 6, none⟩ x6).setCell ⟨d, 7, none⟩ x7).setCell ⟨d, 8, none⟩ x8).setCell ⟨d, 9, none⟩ x9).setCell ⟨d, 10, none⟩ x10).cell? ⟨d, 3, none⟩ = some x3 ∧ (((((((((((((W.setCell ⟨c, 0, none⟩ u).setCell ⟨c, 1, none⟩ v).setCell ⟨d, 0, none⟩ x0).setCell ⟨d, 1, none⟩ x1).setCell ⟨d, 2, none⟩ x2).setCell ⟨d, 3, none⟩ x3).setCell ⟨d, 4, none⟩ x4).setCell ⟨d, 5, none⟩ x5).setCell ⟨d, 6, none⟩ x6).setCell ⟨d, 7, none⟩ x7).setCell ⟨d, 8, none⟩ x8).setCell ⟨d, 9, none⟩ x9).setCell ⟨d, 10, none⟩ x10).cell? ⟨d, 4, none⟩ = some x4 ∧ (((((((((((((W.setCell ⟨c, 0, none⟩ u).setCell ⟨c, 1, none⟩ v).setCell ⟨d, 0, none⟩ x0).setCell ⟨d, 1, none⟩ x1).setCell ⟨d, 2, none⟩ x2).setCell ⟨d, 3, none⟩ x3).setCell ⟨d, 4, none⟩ x4).setCell ⟨d, 5, none⟩ x5).setCell ⟨d, 6, none⟩ x6).setCell ⟨d, 7, none⟩ x7).setCell ⟨d, 8, none⟩ x8).setCell ⟨d, 9, none⟩ x9).setCell ⟨d, 10, none⟩ x10).cell? ⟨d, 5, none⟩ = some x5 ∧ (((((((((((((W.setCell ⟨c, 0, none⟩ u).setCell ⟨c, 1, none⟩ v).setCell ⟨d, 0, none⟩ x0).setCell ⟨d, 1, none⟩ x1).setCell ⟨d, 2, none⟩ x2).setCell ⟨d, 3, none⟩ x3).setCell ⟨d, 4, none⟩ x4).setCell ⟨d, 5, none⟩ x5).setCell ⟨d, 6, none⟩ x6).setCell ⟨d, 7, none⟩ x7).setCell ⟨d, 8, none⟩ x8).setCell ⟨d, 9, none⟩ x9).setCell ⟨d, 10, none⟩ x10).cell? ⟨d, 6, none⟩ = some x6 ∧ (((((((((((((W.setCell ⟨c, 0, none⟩ u).setCell ⟨c, 1, none⟩ v).setCell ⟨d, 0, none⟩ x0).setCell ⟨d, 1, none⟩ x1).setCell ⟨d, 2, none⟩ x2).setCell ⟨d, 3, none⟩ x3).setCell ⟨d, 4, none⟩ x4).setCell ⟨d, 5, none⟩ x5).setCell ⟨d, 6, none⟩ x6).setCell ⟨d, 7, none⟩ x7).setCell ⟨d, 8, none⟩ x8).setCell ⟨d, 9, none⟩ x9).setCell ⟨d, 10, none⟩ x10).cell? ⟨d, 7, none⟩ = some x7 ∧ (((((((((((((W.setCell ⟨c, 0, none⟩ u).setCell ⟨c, 1, none⟩ v).setCell ⟨d, 0, none⟩ x0).setCell ⟨d, 1, none⟩ x1).setCell ⟨d, 2, none⟩ x2).setCell ⟨d, 3, none⟩ x3).setCell ⟨d, 4, none⟩ x4).setCell ⟨d, 5, none⟩ x5).setCell ⟨d, 6, none⟩ x6).setCell ⟨d, 7, none⟩ x7).setCell ⟨d, 8, none⟩ x8).setCell ⟨d, 9, none⟩ x9).setCell ⟨d, 10, none⟩ x10).cell? ⟨d, 8, none⟩ = some x8 ∧ (((((((((((((W.setCell ⟨c, 0, none⟩ u).setCell ⟨c, 1, none⟩ v).setCell ⟨d, 0, none⟩ x0).setCell ⟨d, 1, none⟩ x1).setCell ⟨d, 2, none⟩ x2).setCell ⟨d, 3, none⟩ x3).setCell ⟨d, 4, none⟩ x4).setCell ⟨d, 5, none⟩ x5).setCell ⟨d, 6, none⟩ x6).setCell ⟨d, 7, none⟩ x7).setCell ⟨d, 8, none⟩ x8).setCell ⟨d, 9, none⟩ x9).setCell ⟨d, 10, none⟩ x10).cell? ⟨d, 9, none⟩ = some x9 ∧ (((((((((((((W.setCell ⟨c, 0, none⟩ u).setCell ⟨c, 1, none⟩ v).setCell ⟨d, 0, none⟩ x0).setCell ⟨d, 1, none⟩ x1).setCell ⟨d, 2, none⟩ x2).setCell ⟨d, 3, none⟩ x3).setCell ⟨d, 4, none⟩ x4).setCell ⟨d, 5, none⟩ x5).setCell ⟨d, 6, none⟩ x6).setCell ⟨d, 7, none⟩ x7).setCell ⟨d, 8, none⟩ x8).setCell ⟨d, 9, none⟩ x9).setCell ⟨d, 10, none⟩ x10).cell? ⟨d, 10, none⟩ = some x10 := by
  have hn := Ne.symm H.n6
  have g0 : (W.setCell ⟨c, 0, none⟩ u).cell? ⟨c, 0, none⟩ = some u := by simp [go_sem, H.d0]
  have g1 : ((W.setCell ⟨c, 0, none⟩ u).setCell ⟨c, 1, none⟩ v).cell? ⟨c, 0, none⟩ = some u := by simp [go_sem, g0]
  have g2 : ((W.setCell ⟨c, 0, none⟩ u).setCell ⟨c, 1, none⟩ v).cell? ⟨c, 1, none⟩ = some v := by simp [go_sem, H.d1]
  have hr := (H.res.far (p := ⟨c, 0, none⟩) u H.n6).far (p := ⟨c, 1, none⟩) v H.n6
  generalize (W.setCell ⟨c, 0, none⟩ u).setCell ⟨c, 1, none⟩ v = X at *
  obtain ⟨q0, q1, q2, q3, q4, q5, q6, q7, q8, q9, q10⟩ := hr
  refine ⟨(far_cell (far_cell (far_cell (far_cell (far_cell (far_cell (far_cell (far_cell (far_cell (far_cell (far_cell g1 hn) hn) hn) hn) hn) hn) hn) hn) hn) hn) hn), (far_cell (far_cell (far_cell (far_cell (far_cell (far_cell (far_cell (far_cell (far_cell (far_cell (far_cell g2 hn) hn) hn) hn) hn) hn) hn) hn) hn) hn) hn), ?_⟩
  simp [go_sem, q0, q1, q2, q3, q4, q5, q6, q7, q8, q9, q10]
theorem HS.last {b c d hb r s h a W} (H : HS Z b c d hb r s h a W) (u v x0 x1 x2 x3 x4 x5 x6 x7 x8 x9 x10 : Value) {A l} (hr : RB Z W A l) : RB Z (((((((((((((W.setCell ⟨c, 0, none⟩ u).setCell ⟨c, 1, none⟩ v).setCell ⟨d, 0, none⟩ x0).setCell ⟨d, 1, none⟩ x1).setCell ⟨d, 2, none⟩ x2).setCell ⟨d, 3, none⟩ x3).setCell ⟨d, 4, none⟩ x4).setCell ⟨d, 5, none⟩ x5).setCell ⟨d, 6, none⟩ x6).setCell ⟨d, 7, none⟩ x7).setCell ⟨d, 8, none⟩ x8).setCell ⟨d, 9, none⟩ x9).setCell ⟨d, 10, none⟩ x10) A l := by
  have e0 : ∀ n, W.cell? ⟨c, 0, none⟩ ≠ some (.int .u8 n) := by intro n; simp [H.d0]
  have e1 : ∀ n, (W.setCell ⟨c, 0, none⟩ u).cell? ⟨c, 1, none⟩ ≠ some (.int .u8 n) := by intro n; simp [go_sem, H.d1]
  have h2 := (hr.set' u e0).set' v e1
  have hx := (H.res.far (p := ⟨c, 0, none⟩) u H.n6).far (p := ⟨c, 1, none⟩) v H.n6
  generalize (W.setCell ⟨c, 0, none⟩ u).setCell ⟨c, 1, none⟩ v = X at *
  obtain ⟨q0, q1, q2, q3, q4, q5, q6, q7, q8, q9, q10⟩ := hx
  simp only [zeroCall] at q0 q1 q2 q3 q4 q5 q6 q7 q8 q9 q10
  repeat (refine RB.set' ?_ _ (by intro n; simp [go_sem, q0, q1, q2, q3, q4, q5, q6, q7, q8, q9, q10]))
  exact h2
end Go.Proofs.Ytffepmoicpphfaa
