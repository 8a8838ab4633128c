/- script: a loop over Each; Each and Haps, walked. -/
import Derived.Test.YtffepmoicpphfaaSc20
namespace Go.Proofs.Ytffepmoicpphfaa
set_option linter.unusedSimpArgs false
set_option linter.unusedVariables false
open Go.RowKit
variable {Z : Nat}
attribute [local go_sem] Oper.semAt_some
/-- what a round of the loop leaves as it was -/
structure Rounds (Z rb : Nat) (s : SA) (raw : List UInt8) (A B : World) : Prop where
  others : KeepsOthers A B
  tapes : ∀ i, Typ A i 75 → B.heap[i]? = A.heap[i]?
  box : B.heap[rb]? = A.heap[rb]?
  raw : RB Z A s.A raw → RB Z B s.A raw
/-- how a round may be left -/
def roundEnd (Z rb : Nat) (s : SA) (raw : List UInt8) (I : World → Prop) (Ix : Code → World → Prop) (A : World) : Exit → Act → World → Prop
  | .normal, _, B => Rounds Z rb s raw A B ∧ I B
  | .ret, _, B => KeepsOthers A B ∧ Ix .ret B
  | .exit id, _, B => KeepsOthers A B ∧ Ix (.exit id) B
  | _, _, _ => False
theorem each_ent : Enters Try.prog 27 := enters_of Try.func27 (by kernel_rfl) rfl
theorem Typ.cells {w : World} {b : Nat} {t : TypeId} (h : Typ w b t) : ∃ o, w.heap[b]? = some o ∧ o.isCells = true := by
  obtain ⟨cs, fr, h⟩ := h
  exact ⟨_, h, rfl⟩
theorem RB.putObj {w : World} {A : Option Addr} {l : List UInt8} {L : Nat} {o : Obj} (h : RB Z w A l) (hL : w.heap[L]? = some o) (ho : o.isCells = false) (hZ : Z ≤ L) (o' : Obj) : RB Z (w.putObj L o') A l :=
  h.move fun b hb _ => World.putObj_heap_other (by
    rintro rfl
    rcases hb with hb | ⟨cs, fr, hb⟩
    · omega
    · rw [hL] at hb; injection hb with hb; subst hb; cases ho)
/-- a loop 'for from, h := range Each(raw)': what its caller owes -/
theorem range_each {g : Operand} {ps : Array Tmp} {assign body : Code} {Q : Exit → Act → World → Prop} {a : Act} {w : World} {rb : Nat} {s : SA} {raw : List UInt8}
    (hg : a.eval g = .func (.func 27) #[] #[pt rb]) (hps : ps.size = 2) (hrs : RS Z w s raw) (hl : raw.length ≤ 1048576) (hrb : w.cell? ⟨rb, 0, none⟩ = some (.slice s.A raw.length s.c)) (hZ : Z ≤ w.heap.size)
    (I : Nat → World → Prop) (Ix : Code → World → Prop)
    (hIe : ∀ k A B, I k A → Ext A B → I k B)
    (hI : ∀ k A B X, w.heap.size ≤ X → I k A → A.grownBy B (some X) → (Typ A X 75 ∨ ∃ o, A.heap[X]? = some o ∧ o.isCells = false) → I k B)
    (hIx : ∀ c A l o o', w.heap.size ≤ l → Ix c A → A.heap[l]? = some o → o.isCells = false → Ix c (A.putObj l o'))
    (h0 : I 0 w)
    (hround : ∀ (L k : Nat) (A : World) (x : HapA) (hk : k < (hapsL raw).length), w.heap.size ≤ L → (∃ o, A.heap[L]? = some o ∧ o.isCells = false) → I k A → RH Z A (hapsL raw)[k].1 x →
      assign.wpIn (Fence.wide.inRound L) 2 Try.prog (Exit.then (fun a1 A1 => Ext A A1 ∧ ∀ o', I k (A1.putObj L o') → body.wpIn (Fence.wide.inRound L) 2 Try.prog (roundEnd Z rb s raw (I (k + 1)) Ix (A1.putObj L o')) a1 (A1.putObj L o')) (fun _ _ _ => False))
        { tmps := (ps.zip #[.int .i64 ((hapsL raw)[k].2 : Nat), hapV (hapsL raw)[k].1 x]).foldl (fun t (p, v) => t.setIfInBounds p v) a.tmps, defers := [] } A)
    (hdone : ∀ D W, w.heap.size ≤ D → I (hapsL raw).length W → W.heap[D]? = some (.deferred (some [])) → Q .normal { a with defers := { target := .collected D, args := #[] } :: a.defers } W)
    (hstop : ∀ D c W, w.heap.size ≤ D → Ix c W → W.heap[D]? = some (.deferred (some [])) → c.wpIn Fence.wide 4 Try.prog Q { a with defers := { target := .collected D, args := #[] } :: a.defers } W) :
    (Code.rangeFunc g ps assign body).wpIn Fence.wide 4 Try.prog Q a w := by
  have hrbl : rb < w.heap.size := World.block_lt_of_cell? w _ hrb
  refine wpIn_rangeFunc fun fn _ => ?_
  let lp : LoopState → Option Code → Loop := fun st pe => { state := st, pending := pe, fn, tmps := a.tmps, params := ps, assign, body, defers := w.heap.size }
  obtain ⟨W1, hW1⟩ : ∃ W1, (w.alloc (.deferred (some []))).alloc (.loop (lp .ready none)) = W1 := ⟨_, rfl⟩
  have hx1 : Ext w W1 := by rw [← hW1]; exact ext2 _ _ _
  have hs1 : W1.heap.size = w.heap.size + 1 + 1 := by rw [← hW1]; simp
  have hL1 : W1.heap[w.heap.size + 1]? = some (.loop (lp .ready none)) := by
    rw [← hW1]
    have := new_block (w.alloc (.deferred (some []))) (.loop (lp .ready none))
    rwa [World.size_alloc] at this
  have hK1 : W1.heap[w.heap.size]? = some (.deferred (some [])) := by
    rw [← hW1]; exact (Below.heap_alloc _ _ _ (by simp)).trans (new_block w _)
  refine ⟨w.heap.size + 1, [{ target := .collected w.heap.size, args := #[] }], W1, { target := .fn (.func 27) #[pt rb], args := #[.func (.yield (w.heap.size + 1)) #[] #[]] }, W1, 27,
    #[.func (.yield (w.heap.size + 1)) #[] #[]] ++ #[pt rb], W1, ?_, ?_, ?_, ?_, ?_, ?_⟩
  · rw [← hW1]; exact run_enterLoop_outer _ _ _ _ _
  · simp only [resolve, hg]
    simp [go_sem]
  · intro f' _; trivial
  · have := each_ent
    unfold Enters at this
    simp [invoke, go_sem]
  · intro h; cases h
  have hkeep : ∀ {A B : World} {X b : Nat} {o : Obj}, A.grownBy B (some X) → (Typ A X 75) → A.heap[b]? = some o → o.isCells = false → B.heap[b]? = some o := by
    intro A B X b o hg ht hb ho
    refine (hg.block b (Array.getElem?_eq_some_iff.1 hb).1 ?_).trans hb
    intro e; injection e with e; subst e
    obtain ⟨o', h1, h2⟩ := ht.cells
    rw [hb] at h1; injection h1 with h1; subst h1; rw [ho] at h2; cases h2
  refine (each1 (Z := Z) (w.heap.size + 1) rb s raw W1 (hrs.ext hx1) hl (hx1.cell hrb) (Nat.le_trans hZ hx1.size)
    (fun k W => I k W ∧ W.heap[w.heap.size + 1]? = some (.loop (lp .ready none)) ∧ W.heap[w.heap.size]? = some (.deferred (some [])))
    (fun W => ∃ c, Ix c W ∧ W.heap[w.heap.size + 1]? = some (.loop (lp .done (some c))) ∧ W.heap[w.heap.size]? = some (.deferred (some []))) ?_ ?_ ?_ ⟨hIe _ _ _ h0 hx1, hL1, hK1⟩).mono ?_
  · rintro k A B ⟨h1, h2, h3⟩ hx
    exact ⟨hIe _ _ _ h1 hx, (Below.block hx _ (Array.getElem?_eq_some_iff.1 h2).1).trans h2, (Below.block hx _ (Array.getElem?_eq_some_iff.1 h3).1).trans h3⟩
  · rintro k A B ⟨h1, h2, h3⟩ ht hg
    exact ⟨hI k A B _ hx1.size h1 hg (.inl ht), hkeep hg ht h2 rfl, hkeep hg ht h3 rfl⟩
  · rintro k A x hk ⟨h1, h2, h3⟩ hr hty
    have hy := run_yield (P := Try.prog) (args := #[.int .i64 ((hapsL raw)[k].2 : Nat), hapV (hapsL raw)[k].1 x]) h2 (by simp only [lp, hps]; rfl)
    refine ⟨fn, _, assign, body, hy, roundIn_of_wpIn trivial (wpIn_mono (hround (w.heap.size + 1) k A x hk (Nat.le_succ _) ⟨_, h2, rfl⟩ h1 hr) ?_)⟩
    rintro e a1 A1 hp
    cases e with
    | normal =>
      obtain ⟨hxA, hb⟩ := hp
      have h2' := (Below.block hxA _ (Array.getElem?_eq_some_iff.1 h2).1).trans h2
      have h3' := (Below.block hxA _ (Array.getElem?_eq_some_iff.1 h3).1).trans h3
      have hlt1 := (Array.getElem?_eq_some_iff.1 h2').1
      refine ⟨_, run_beginRound h2' rfl, ?_⟩
      have hb2 : (A1.putObj (w.heap.size + 1) (.loop { lp .ready none with state := .busy })).heap[w.heap.size + 1]? = some (.loop { lp .ready none with state := .busy }) := World.putObj_heap_same hlt1
      have hb3 : (A1.putObj (w.heap.size + 1) (.loop { lp .ready none with state := .busy })).heap[w.heap.size]? = some (.deferred (some [])) := (World.putObj_heap_other (by omega)).trans h3'
      have hIb := hI k A1 _ (w.heap.size + 1) (Nat.le_succ _) (hIe _ _ _ h1 hxA) (grownBy_putObj' A1 (w.heap.size + 1) (.loop { lp .ready none with state := .busy })) (.inr ⟨_, h2', rfl⟩)
      refine wpIn_mono (hb _ hIb) ?_
      rintro e a3 B hq
      have fin : ∀ jump, KeepsOthers (A1.putObj (w.heap.size + 1) (.loop { lp .ready none with state := .busy })) B →
          (Instr.endRound (w.heap.size + 1) jump).run Try.prog B = .ok (.bool jump.isNone) (B.putObj (w.heap.size + 1) (.loop (lp (if jump.isNone then .ready else .done) jump))) ∧ B.heap[w.heap.size + 1]? = some (.loop { lp .ready none with state := .busy }) ∧
          (B.putObj (w.heap.size + 1) (.loop (lp (if jump.isNone then .ready else .done) jump))).heap[w.heap.size + 1]? = some (.loop (lp (if jump.isNone then .ready else .done) jump)) ∧
          (B.putObj (w.heap.size + 1) (.loop (lp (if jump.isNone then .ready else .done) jump))).heap[w.heap.size]? = some (.deferred (some [])) := fun jump hko => by
        have q2 := hko.same _ _ hb2 rfl
        exact ⟨run_endRound jump q2, q2, World.putObj_heap_same (Array.getElem?_eq_some_iff.1 q2).1, (World.putObj_heap_other (by omega)).trans (hko.same _ _ hb3 rfl)⟩
      cases e with
      | normal =>
        obtain ⟨hR, hi⟩ := hq
        obtain ⟨r1, r2, r3, r4⟩ := fin none hR.others
        refine ⟨_, _, r1, .inl ⟨rfl, ⟨hI (k + 1) B _ (w.heap.size + 1) (Nat.le_succ _) hi (grownBy_putObj' B _ _) (.inr ⟨_, r2, rfl⟩), r3, r4⟩, ?_⟩⟩
        have hX : W1.heap.size ≠ w.heap.size + 1 := by omega
        have hr1 : rb ≠ w.heap.size + 1 := by omega
        have htA : Typ (A1.putObj (w.heap.size + 1) (.loop { lp .ready none with state := .busy })) W1.heap.size 75 := by
          obtain ⟨cs, fr, h⟩ := hty.ext hxA
          exact ⟨cs, fr, (World.putObj_heap_other hX).trans h⟩
        refine ⟨Nat.le_trans hxA.size (Nat.le_trans (by simp) (Nat.le_trans hR.others.size (by simp))), ?_, ?_, ?_⟩
        · exact (World.putObj_heap_other hX).trans ((hR.tapes _ htA).trans ((World.putObj_heap_other hX).trans (Below.block hxA _ (hty.cells.elim fun _ h => (Array.getElem?_eq_some_iff.1 h.1).1))))
        · have hlA : rb < A.heap.size := by have := (Array.getElem?_eq_some_iff.1 h2).1; omega
          exact (World.putObj_heap_other hr1).trans (hR.box.trans ((World.putObj_heap_other hr1).trans (Below.block hxA _ hlA)))
        · intro hb0
          refine RB.putObj (hR.raw (RB.putObj (hb0.ext hxA) h2' rfl (by omega) _)) r2 rfl (by omega) _
      | ret =>
        obtain ⟨hko, hi⟩ := hq
        obtain ⟨r1, r2, r3, r4⟩ := fin (some .ret) hko
        exact ⟨_, _, r1, .inr ⟨rfl, .ret, hIx _ _ _ _ _ (Nat.le_succ _) hi r2 rfl, r3, r4⟩⟩
      | exit id =>
        obtain ⟨hko, hi⟩ := hq
        obtain ⟨r1, r2, r3, r4⟩ := fin (some (.exit id)) hko
        exact ⟨_, _, r1, .inr ⟨rfl, .exit id, hIx _ _ _ _ _ (Nat.le_succ _) hi r2 rfl, r3, r4⟩⟩
      | goto t => exact hq.elim
      | panic ch => exact hq.elim
      | outgrown => exact hq.elim
    | exit id => exact hp.elim
    | goto t => exact hp.elim
    | ret => exact hp.elim
    | panic ch => exact hp.elim
    | outgrown => exact hp.elim
  · rintro e W2 ⟨⟨v, rfl⟩, (⟨hi, h2, h3⟩ | ⟨c, hi, h2, h3⟩)⟩
    · refine ⟨none, _, run_endLoop h2 (by simp [lp]), hdone w.heap.size _ (Nat.le_refl _) (hI _ _ _ (w.heap.size + 1) (Nat.le_succ _) hi (grownBy_putObj' W2 _ _) (.inr ⟨_, h2, rfl⟩)) ((World.putObj_heap_other (by omega)).trans h3)⟩
    · refine ⟨some c, _, run_endLoop h2 (by simp [lp]), hstop w.heap.size c _ (Nat.le_refl _) (hIx _ _ _ _ _ (Nat.le_succ _) hi h2 rfl) ((World.putObj_heap_other (by omega)).trans h3)⟩
end Go.Proofs.Ytffepmoicpphfaa
