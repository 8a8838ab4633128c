/- script: kinds, walked. -/
import Derived.Test.YtffepmoicpphfaaSc11
import Derived.MapFrom
namespace Go.Proofs.Ytffepmoicpphfaa
set_option linter.unusedSimpArgs false
set_option linter.unusedVariables false
open Go.RowKit
variable {Z : Nat}
theorem run_ins (w : World) (b c : Nat) (es : Array MapEntry) (k : Int) (v : Value) (hb : w.heap[b]? = some (.map es c)) (hf : Instr.findNow (.int .i64) (.int .i64 k) es.toList 0 = some none) :
    (Instr.mapUpdate 54 (.map (some b)) (.int .i64 k) v).run Try.prog w = .ok () { w with heap := w.heap.setIfInBounds b (.map (es.push ⟨.int .i64 k, v, c⟩) (c + 1)) } := by
  have hc : (Instr.checkKey false 10000 28 (.int .i64 k)).run Try.prog w = .ok () w := MapKept.run_checkKey (k := .int .i64 k) Try.underlying28 (by simp [MapKept.IsKey]) false 9999
  simp [Instr.mapUpdate, run_underlying Try.underlying54, MapKept.run_getObj_map hb, hc, MapKept.run_findKey Try.underlying28 hf, MapKept.run_setObj_map _ hb, Result.andThen]
theorem wpl_ins {w : World} {ops : Array Oper} {rest : List Oper} {o : Oper} {a : Act} {Q : Exit → Act → World → Prop} (hgd : o.guard = none) (m x : Operand) (k : Int)
    (ho : o.op = .insert 54 m (.const (.int .i64 k)) x) (b c : Nat) (es : Array MapEntry) (v : Value) (hm : a.eval m = .map (some b)) (hx : a.eval x = v)
    (hb : w.heap[b]? = some (.map es c)) (hf : Instr.findNow (.int .i64) (.int .i64 k) es.toList 0 = some none)
    (h : ∀ w', w'.heap[b]? = some (.map (es.push ⟨.int .i64 k, v, c⟩) (c + 1)) → w.grownBy w' (some b) → wpList Try.prog ops Q rest (a.put o.dst undef) w') : wpList Try.prog ops Q (o :: rest) a w := by
  refine wpList_plain hgd fun K hK => ?_
  have hrun := run_ins w b c es k v hb hf
  have hk : a.eval (.const (.int .i64 k)) = .int .i64 k := rfl
  unfold Oper.wp
  simp [execOp, ho, hm, hx, hk, hrun, Result.andThen]
  refine hK _ _ (h _ ?_ ⟨rfl, rfl, rfl, by simp, fun i _ hne => ?_⟩)
  · have := (Array.getElem?_eq_some_iff.1 hb).1
    simp [Array.getElem?_setIfInBounds, this]
  · simp only [Array.getElem?_setIfInBounds]
    rw [if_neg (fun e => hne (by rw [e]))]
theorem run_find (w : World) (b c : Nat) (es : Array MapEntry) (k : Int) (v : Value) (i : Nat) (ok : Bool) (hb : w.heap[b]? = some (.map es c)) (hf : Instr.findNow (.int .i64) (.int .i64 k) es.toList 0 = some (some (i, v))) :
    (Instr.lookup 54 (.map (some b)) (.int .i64 k) ok).run Try.prog w = .ok (if ok then .tuple #[v, .bool true] else v) w := by
  have hc : ∀ e, (Instr.checkKey e 10000 28 (.int .i64 k)).run Try.prog w = .ok () w := fun e => MapKept.run_checkKey (k := .int .i64 k) Try.underlying28 (by simp [MapKept.IsKey]) e 9999
  simp [Instr.lookup, run_underlying Try.underlying54, MapKept.run_getObj_map hb, hc, MapKept.run_findKey Try.underlying28 hf, Result.andThen]
theorem run_miss (w : World) (b c : Nat) (es : Array MapEntry) (k : Int) (ok : Bool) (hb : w.heap[b]? = some (.map es c)) (hf : Instr.findNow (.int .i64) (.int .i64 k) es.toList 0 = some none) :
    (Instr.lookup 54 (.map (some b)) (.int .i64 k) ok).run Try.prog w = .ok (if ok then .tuple #[.slice none 0 0, .bool false] else .slice none 0 0) w := by
  have hc : ∀ e, (Instr.checkKey e 10000 28 (.int .i64 k)).run Try.prog w = .ok () w := fun e => MapKept.run_checkKey (k := .int .i64 k) Try.underlying28 (by simp [MapKept.IsKey]) e 9999
  simp [Instr.lookup, run_underlying Try.underlying54, MapKept.run_getObj_map hb, hc, MapKept.run_findKey Try.underlying28 hf, Result.andThen, go_sem]
/-- what a words or some part has captured -/
def WordsBox (lo : Nat) (w : World) (c mod k : Nat) : Prop := lo ≤ c ∧ w.cell? ⟨c, 0, none⟩ = some (.int .i64 mod) ∧ w.cell? ⟨c + 1, 0, none⟩ = some (fv k)
/-- what a number part has captured -/
def NumBox (lo : Nat) (w : World) (c many least most k : Nat) : Prop := lo ≤ c ∧ w.cell? ⟨c, 0, none⟩ = some (.int .i64 many) ∧ w.cell? ⟨c + 1, 0, none⟩ = some (.int .i64 least) ∧ w.cell? ⟨c + 2, 0, none⟩ = some (.int .i64 most) ∧ w.cell? ⟨c + 3, 0, none⟩ = some (fv k)
@[reducible] def sl (g n : Nat) : Value := .slice (some ⟨g, 0, none⟩) n n
@[reducible] def row1 (c2 c3 c4 c5 c6 : Nat) : Array Value := #[.func (.func 60) #[] #[], .func (.func 61) #[] #[], .func (.func 62) #[] #[], .func (.func 31) #[] #[], .func (.func 33) #[] #[], .func (.func 34) #[] #[], .func (.func 64) #[] #[pt (c2 + 1), pt c2], .func (.func 65) #[] #[pt (c2 + 1)], .func (.func 67) #[] #[pt c2, pt (c2 + 1)], .func (.func 64) #[] #[pt (c3 + 1), pt c3], .func (.func 65) #[] #[pt (c3 + 1)], .func (.func 67) #[] #[pt c3, pt (c3 + 1)], .func (.func 69) #[] #[pt (c4 + 3), pt (c4 + 1), pt (c4 + 2)], .func (.func 70) #[] #[pt (c4 + 3), pt (c4 + 1), pt c4], .func (.func 71) #[] #[pt c4, pt (c4 + 1), pt (c4 + 3)], .func (.func 69) #[] #[pt (c5 + 3), pt (c5 + 1), pt (c5 + 2)], .func (.func 70) #[] #[pt (c5 + 3), pt (c5 + 1), pt c5], .func (.func 71) #[] #[pt c5, pt (c5 + 1), pt (c5 + 3)], .func (.func 42) #[] #[], .func (.func 43) #[] #[], .func (.func 45) #[] #[], .func (.func 72) #[] #[pt (c6 + 1), pt c6], .func (.func 73) #[] #[pt (c6 + 1)], .func (.func 75) #[] #[pt c6, pt (c6 + 1)]]
/-- the parts of each kind, as kinds lays them -/
structure Kinds (lo : Nat) (w : World) (m : Nat) (g : Fin 5 → Nat) (c : Fin 8 → Nat) : Prop where
  mp : w.heap[m]? = some (.map #[⟨.int .i64 1, sl (g 0) 8, 0⟩, ⟨.int .i64 2, sl (g 1) 1, 1⟩, ⟨.int .i64 3, sl (g 2) 1, 2⟩, ⟨.int .i64 4, sl (g 3) 1, 3⟩, ⟨.int .i64 5, sl (g 4) 1, 4⟩] 5)
  lm : lo ≤ m
  lg : ∀ i, lo ≤ g i
  r0 : w.heap[g 0]? = some (.cells (row1 (c 0) (c 1) (c 2) (c 3) (c 4)) 62)
  r1 : w.heap[g 1]? = some (.cells clientPart 62)
  r2 : w.heap[g 2]? = some (.cells (numberPart (c 5)) 62)
  r3 : w.heap[g 3]? = some (.cells (somePart (c 6)) 62)
  r4 : w.heap[g 4]? = some (.cells (numberPart (c 7)) 62)
  b0 : WordsBox lo w (c 0) 64 37
  b1 : WordsBox lo w (c 1) 64 38
  b2 : NumBox lo w (c 2) 2 0 65535 40
  b3 : NumBox lo w (c 3) 2 0 65535 41
  b4 : WordsBox lo w (c 4) 256 47
  b5 : NumBox lo w (c 5) 2 0 65535 48
  b6 : WordsBox lo w (c 6) 8 49
  b7 : NumBox lo w (c 7) 1 1 256 50
theorem new_block (w : World) (o : Obj) : (w.alloc o).heap[w.heap.size]? = some o := by
  show (w.heap.push o)[w.heap.size]? = some o
  simp
theorem WordsBox.grown {lo : Nat} {w w' : World} {c mod k m : Nat} (h : WordsBox lo w c mod k) (hg : w.grownBy w' (some m)) (hm : m < lo ∨ w.heap.size ≤ m ∨ (m ≠ c ∧ m ≠ c + 1)) : WordsBox lo w' c mod k := by
  obtain ⟨h0, h1, h2⟩ := h
  have l1 := World.block_lt_of_cell? w _ h1
  have l2 := World.block_lt_of_cell? w _ h2
  dsimp only at l1 l2
  exact ⟨h0, hg.cell h1 (by intro e; injection e with e; dsimp only at e; omega), hg.cell h2 (by intro e; injection e with e; dsimp only at e; omega)⟩
theorem NumBox.grown {lo : Nat} {w w' : World} {c many least most k m : Nat} (h : NumBox lo w c many least most k) (hg : w.grownBy w' (some m)) (hm : m < lo ∨ w.heap.size ≤ m ∨ (m ≠ c ∧ m ≠ c + 1 ∧ m ≠ c + 2 ∧ m ≠ c + 3)) : NumBox lo w' c many least most k := by
  obtain ⟨h0, h1, h2, h3, h4⟩ := h
  have l1 := World.block_lt_of_cell? w _ h1
  have l2 := World.block_lt_of_cell? w _ h2
  have l3 := World.block_lt_of_cell? w _ h3
  have l4 := World.block_lt_of_cell? w _ h4
  dsimp only at l1 l2 l3 l4
  exact ⟨h0, hg.cell h1 (by intro e; injection e with e; dsimp only at e; omega), hg.cell h2 (by intro e; injection e with e; dsimp only at e; omega), hg.cell h3 (by intro e; injection e with e; dsimp only at e; omega), hg.cell h4 (by intro e; injection e with e; dsimp only at e; omega)⟩
theorem grown_under {w w1 : World} {o : Obj} {row : Option Nat} (h : (w.alloc o).grownBy w1 row) : w.grownBy w1 row :=
  ⟨h.os, h.tape, h.output, Nat.le_trans (by simp) h.size, fun i hi hne => (h.block i (by simp; omega) hne).trans (Below.heap_alloc w o i hi)⟩
set_option maxRecDepth 100000 in
set_option maxHeartbeats 1000000 in
theorem scKinds (w : World) : Calls Try.prog 17 #[] w fun e w' => ∃ m g c, e = .returned (.map (some m)) ∧ Kinds w.heap.size w' m g c ∧ Ext w w' := by
  have hmf := makes
  have hmm := @run_makeMap Try.prog
  have h0 := Lib.hid (new_block w (.map #[] 0))
  go_enter Try.func17, Try.ntmps17
  go_wp2_with (first
    | (go_at_call 30; (with_reducible refine (scClient (w.alloc (Obj.map #[] 0))).mono ?_); rintro e w1 ⟨rfl, x1⟩)
    | (go_at_call 36; (with_reducible refine (scWords _ 37 _).mono ?_); rintro e w2 ⟨rfl, x2, a2, b2⟩)
    | (go_at_call 36; (with_reducible refine (scWords _ 38 _).mono ?_); rintro e w3 ⟨rfl, x3, a3, b3⟩)
    | (go_at_call 39; (with_reducible refine (scNumber _ _ _ 40 _).mono ?_); rintro e w4 ⟨rfl, x4, a4, b4, c4, d4⟩)
    | (go_at_call 39; (with_reducible refine (scNumber _ _ _ 41 _).mono ?_); rintro e w5 ⟨rfl, x5, a5, b5, c5, d5⟩)
    | (go_at_call 46; (with_reducible refine (scSome _ 47 _).mono ?_); rintro e w6 ⟨rfl, x6, a6, b6⟩)
    | (refine wpl_ins rfl (.tmp 1) (.tmp 10) 1 rfl w.heap.size 0 #[] _ rfl rfl (Eq.trans (Below.block (((((((x1.trans x2).trans x3).trans x4).trans x5).trans x6).alloc _)) _ (by simp)) h0.out) rfl ?_; intro w7 h7 g7)
    | (go_at_call 30; (with_reducible refine (scClient w7).mono ?_); rintro e w8 ⟨rfl, x8⟩)
    | (refine wpl_ins rfl (.tmp 1) (.tmp 12) 2 rfl w.heap.size 1 _ _ rfl rfl (Eq.trans (Below.block (x8.alloc _) _ (Array.getElem?_eq_some_iff.1 h7).1) h7) rfl ?_; intro w9 h9 g9)
    | (go_at_call 39; (with_reducible refine (scNumber _ _ _ 48 _).mono ?_); rintro e w10 ⟨rfl, x10, a10, b10, c10, d10⟩)
    | (refine wpl_ins rfl (.tmp 1) (.tmp 14) 3 rfl w.heap.size 2 _ _ rfl rfl (Eq.trans (Below.block (x10.alloc _) _ (Array.getElem?_eq_some_iff.1 h9).1) h9) rfl ?_; intro w11 h11 g11)
    | (go_at_call 46; (with_reducible refine (scSome _ 49 _).mono ?_); rintro e w12 ⟨rfl, x12, a12, b12⟩)
    | (refine wpl_ins rfl (.tmp 1) (.tmp 16) 4 rfl w.heap.size 3 _ _ rfl rfl (Eq.trans (Below.block (x12.alloc _) _ (Array.getElem?_eq_some_iff.1 h11).1) h11) rfl ?_; intro w13 h13 g13)
    | (go_at_call 39; (with_reducible refine (scNumber _ _ _ 50 _).mono ?_); rintro e w14 ⟨rfl, x14, a14, b14, c14, d14⟩)
    | (refine wpl_ins rfl (.tmp 1) (.tmp 18) 5 rfl w.heap.size 4 _ _ rfl rfl (Eq.trans (Below.block (x14.alloc _) _ (Array.getElem?_eq_some_iff.1 h13).1) h13) rfl ?_; intro w15 h15 g15))
  have z1 : w.heap.size + 1 ≤ w1.heap.size := by simpa using x1.size
  have z2 := Ext.size x2
  have z3 := Ext.size x3
  have z4 := Ext.size x4
  have z5 := Ext.size x5
  have z6 := Ext.size x6
  have z7 : w6.heap.size + 1 ≤ w7.heap.size := by simpa using g7.size
  have z8 := Ext.size x8
  have z9 : w8.heap.size + 1 ≤ w9.heap.size := by simpa using g9.size
  have z10 := Ext.size x10
  have z11 : w10.heap.size + 1 ≤ w11.heap.size := by simpa using g11.size
  have z12 := Ext.size x12
  have z13 : w12.heap.size + 1 ≤ w13.heap.size := by simpa using g13.size
  have z14 := Ext.size x14
  have z15 : w14.heap.size + 1 ≤ w15.heap.size := by simpa using g15.size
  have G15 := World.grownBy.refl w15 (some w.heap.size)
  have H14 := g15.trans G15
  have G14 := grown_under H14
  have G13 := (only_ext x14 (some w.heap.size)).trans G14
  have H12 := g13.trans G13
  have G12 := grown_under H12
  have G11 := (only_ext x12 (some w.heap.size)).trans G12
  have H10 := g11.trans G11
  have G10 := grown_under H10
  have G9 := (only_ext x10 (some w.heap.size)).trans G10
  have H8 := g9.trans G9
  have G8 := grown_under H8
  have G7 := (only_ext x8 (some w.heap.size)).trans G8
  have H6 := g7.trans G7
  have G6 := grown_under H6
  have G5 := (only_ext x6 (some w.heap.size)).trans G6
  have G4 := (only_ext x5 (some w.heap.size)).trans G5
  have G3 := (only_ext x4 (some w.heap.size)).trans G4
  have G2 := (only_ext x3 (some w.heap.size)).trans G3
  have G1 := (only_ext x2 (some w.heap.size)).trans G2
  have G0 := (only_ext x1 (some w.heap.size)).trans G1
  refine bodyPost_ret (v := .map (some w.heap.size)) (by simp [results, Try.results17, go_sem]) rfl ⟨w.heap.size, fun | 0 => w6.heap.size | 1 => w8.heap.size | 2 => w10.heap.size | 3 => w12.heap.size | 4 => w14.heap.size,
    fun | 0 => w1.heap.size | 1 => w2.heap.size | 2 => w3.heap.size | 3 => w4.heap.size | 4 => w5.heap.size | 5 => w9.heap.size | 6 => w11.heap.size | 7 => w13.heap.size, rfl, ⟨?_, Nat.le_refl _, ?_, ?_, ?_, ?_, ?_, ?_, ?_, ?_, ?_, ?_, ?_, ?_, ?_, ?_⟩, (ext1 w _).grown G0 (by intro k e; injection e with e; omega)⟩
  · exact h15
  · intro i; match i with
    | 0 => dsimp only; omega
    | 1 => dsimp only; omega
    | 2 => dsimp only; omega
    | 3 => dsimp only; omega
    | 4 => dsimp only; omega
  · dsimp only; exact (H6.block _ (by simp) (by intro e; injection e with e; omega)).trans (new_block w6 _)
  · dsimp only; exact (H8.block _ (by simp) (by intro e; injection e with e; omega)).trans (new_block w8 _)
  · dsimp only; exact (H10.block _ (by simp) (by intro e; injection e with e; omega)).trans (new_block w10 _)
  · dsimp only; exact (H12.block _ (by simp) (by intro e; injection e with e; omega)).trans (new_block w12 _)
  · dsimp only; exact (H14.block _ (by simp) (by intro e; injection e with e; omega)).trans (new_block w14 _)
  · exact WordsBox.grown (c := w1.heap.size) ⟨by omega, a2, b2⟩ G2 (by omega)
  · exact WordsBox.grown (c := w2.heap.size) ⟨by omega, a3, b3⟩ G3 (by omega)
  · exact NumBox.grown (c := w3.heap.size) ⟨by omega, a4, b4, c4, d4⟩ G4 (by omega)
  · exact NumBox.grown (c := w4.heap.size) ⟨by omega, a5, b5, c5, d5⟩ G5 (by omega)
  · exact WordsBox.grown (c := w5.heap.size) ⟨by omega, a6, b6⟩ G6 (by omega)
  · exact NumBox.grown (c := w9.heap.size) ⟨by omega, a10, b10, c10, d10⟩ G10 (by omega)
  · exact WordsBox.grown (c := w11.heap.size) ⟨by omega, a12, b12⟩ G12 (by omega)
  · exact NumBox.grown (c := w13.heap.size) ⟨by omega, a14, b14, c14, d14⟩ G14 (by omega)
end Go.Proofs.Ytffepmoicpphfaa
