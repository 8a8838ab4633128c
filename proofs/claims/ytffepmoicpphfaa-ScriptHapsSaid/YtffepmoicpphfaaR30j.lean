/- hedgerowref30: Haps, walked: rows of haps of the call's own. -/
import Derived.Test.YtffepmoicpphfaaR30i
import Derived.Deep.RegionLaw
namespace Go.Proofs.Ytffepmoicpphfaa
set_option linter.unusedSimpArgs false
set_option linter.unusedVariables false
open Go.RowKit
variable {Z : Nat}
def hapCells (h : HapC) (a : HapA) : List Value :=
  [.int .i64 h.kind, .int .i64 h.client, .int .i64 h.call.kind, .string (strOf h.call.path), .string (strOf h.call.to_), .int .i64 h.call.at_, .int .i64 h.call.many, .int .u64 h.call.key, .slice a.A h.call.bytes.length a.ca, .int .i64 h.n, .slice a.P h.picks.length a.cp]
def rowsOf (l : List (HapC × HapA)) : List Value := l.flatMap fun x => hapCells x.1 x.2
theorem hapCells_length (h a) : (hapCells h a).length = 11 := rfl
theorem hapCells_one (h a) : ∀ u ∈ hapCells h a, u.oneCell' = true := by
  intro u hu
  simp only [hapCells, List.mem_cons, List.not_mem_nil, or_false] at hu
  rcases hu with h | h | h | h | h | h | h | h | h | h | h <;> subst h <;> rfl
theorem rowsOf_length (l : List (HapC × HapA)) : (rowsOf l).length = l.length * 11 := by
  induction l with
  | nil => rfl
  | cons x l ih => simp only [rowsOf, List.flatMap_cons, List.length_append, List.length_cons] at ih ⊢; rw [ih, hapCells_length]; omega
theorem rowsOf_snoc (l : List (HapC × HapA)) (x) : rowsOf (l ++ [x]) = rowsOf l ++ hapCells x.1 x.2 := by simp [rowsOf]
theorem rowsOf_at : ∀ (l : List (HapC × HapA)) (i : Nat) (hi : i < l.length) (j : Nat), j < 11 → (rowsOf l)[i * 11 + j]? = (hapCells l[i].1 l[i].2)[j]? := by
  intro l
  induction l with
  | nil => intro i hi; simp at hi
  | cons x l ih =>
    intro i hi j hj
    cases i with
    | zero => simp only [rowsOf, List.flatMap_cons, Nat.zero_mul, Nat.zero_add, List.getElem_cons_zero]; rw [List.getElem?_append_left (by rw [hapCells_length]; exact hj)]
    | succ i =>
      have := ih i (by simpa using hi) j hj
      simp only [rowsOf, List.flatMap_cons, List.getElem_cons_succ] at this ⊢
      rw [List.getElem?_append_right (by rw [hapCells_length]; omega), hapCells_length, show (i + 1) * 11 + j - 11 = i * 11 + j from by omega]
      exact this
/-- a row of haps of the call's own -/
def OHs (w : World) (base : Nat) (v : Value) (l : List (HapC × HapA)) : Prop := w.ownsRow base 35 11 v l.length (rowsOf l)
theorem OHs.nil (w : World) (base : Nat) : OHs w base (.slice none 0 0) [] := World.ownsRow_nil w base _ 11
theorem OHs.rhs {w : World} {base v l} (h : OHs w base v l) (hr : ∀ x ∈ l, RH Z w x.1 x.2) : ∃ A c, v = .slice A l.length c ∧ l.length ≤ c ∧ c ≤ maxLen ∧ RHs Z w A l := by
  have hh := h
  obtain ⟨A, c, hv, hc, hrv⟩ := own_rv h
  have hm : c ≤ maxLen := by
    rcases hh.2 with ⟨e, _⟩ | ⟨g, cap, cur, e, _, _, _, hm, _⟩
    · rw [hv] at e; injection e with _ _ e; subst e; exact Nat.zero_le _
    · rw [hv] at e; injection e with _ _ e; subst e; exact hm
  refine ⟨A, c, hv, hc, hm, fun hl => ?_⟩
  have hne : rowsOf l ≠ [] := by
    intro e
    have := rowsOf_length l
    rw [e] at this
    have := List.length_pos_iff.2 hl
    simp at *
    omega
  obtain ⟨b, o, hA, hcell⟩ := hrv hne
  refine ⟨b, o, hA, fun i hi => ⟨?_, hr _ (List.getElem_mem hi)⟩⟩
  have hat := fun (j : Nat) (u : Value) (hj : j < 11) (hu : (hapCells l[i].1 l[i].2)[j]? = some u) => hcell (i * 11 + j) u ((rowsOf_at l i hi j hj).trans hu)
  unfold HapAt
  simp only [Nat.add_assoc]
  exact ⟨hat 0 _ (by omega) rfl, hat 1 _ (by omega) rfl, hat 2 _ (by omega) rfl, hat 3 _ (by omega) rfl, hat 4 _ (by omega) rfl, hat 5 _ (by omega) rfl, hat 6 _ (by omega) rfl, hat 7 _ (by omega) rfl, hat 8 _ (by omega) rfl, hat 9 _ (by omega) rfl, hat 10 _ (by omega) rfl⟩
/-- ints of the call's own -/
def OIs (w : World) (base : Nat) (v : Value) (l : List Int) : Prop := w.ownsRow base 3 1 v l.length (l.map (Value.int .i64))
/-- the reader takes bytes away, if it is well -/
theorem takeR_ok (r : Rdr) (m : Nat) (h : (takeR r m).1.bad = false) : r.bad = false ∧ (takeR r m).1.B.length + m = r.B.length := by
  unfold takeR at h ⊢
  split
  · rename_i hc; rw [if_pos hc] at h; simp at h
  · rename_i hc
    simp at hc
    exact ⟨hc.1, by simp; omega⟩
theorem numR_ok (r : Rdr) (m : Nat) (h : (numR r m).1.bad = false) : r.bad = false ∧ (numR r m).1.B.length + m = r.B.length := takeR_ok r m h
theorem textR_ok (r : Rdr) (m : Nat) (h : (textR r m).1.bad = false) : r.bad = false ∧ (textR r m).1.B.length + 1 ≤ r.B.length := by
  obtain ⟨h1, h2⟩ := takeR_ok _ _ h
  obtain ⟨h3, h4⟩ := numR_ok _ _ h1
  exact ⟨h3, by unfold textR; omega⟩
theorem hapR_ok (r : Rdr) (h : (hapR r).1.bad = false) : r.bad = false ∧ (hapR r).1.B.length < r.B.length := by
  unfold hapR at h ⊢
  dsimp only at h ⊢
  split at h
  · rename_i e
    rw [if_pos e]
    simp only [hapR1] at h ⊢
    obtain ⟨h, a⟩ := textR_ok _ _ h
    obtain ⟨h, b⟩ := numR_ok _ _ h
    obtain ⟨h, c⟩ := numR_ok _ _ h
    obtain ⟨h, d⟩ := numR_ok _ _ h
    obtain ⟨h, e⟩ := textR_ok _ _ h
    obtain ⟨h, f⟩ := textR_ok _ _ h
    obtain ⟨h, g⟩ := numR_ok _ _ h
    obtain ⟨h, i⟩ := numR_ok _ _ h
    obtain ⟨h, j⟩ := numR_ok _ _ h
    exact ⟨h, by omega⟩
  · rename_i e1
    rw [if_neg e1]
    split at h
    · rename_i e2
      rw [if_pos e2]
      obtain ⟨h, a⟩ := numR_ok _ _ h
      obtain ⟨h, b⟩ := numR_ok _ _ h
      exact ⟨h, by dsimp only; omega⟩
    · rename_i e2
      rw [if_neg e2]
      split at h
      · rename_i e3
        rw [if_pos e3]
        obtain ⟨h, a⟩ := numR_ok _ _ h
        obtain ⟨h, b⟩ := numR_ok _ _ h
        exact ⟨h, by dsimp only; omega⟩
      · rename_i e3
        rw [if_neg e3]
        split at h
        · rename_i e4
          rw [if_pos e4]
          obtain ⟨h, a⟩ := textR_ok _ _ h
          obtain ⟨h, b⟩ := numR_ok _ _ h
          exact ⟨h, by dsimp only; omega⟩
        · rename_i e4
          rw [if_neg e4]
          obtain ⟨h, a⟩ := numR_ok _ _ h
          obtain ⟨h, b⟩ := numR_ok _ _ h
          exact ⟨h, by dsimp only; omega⟩
/-- the haps that are read, and where, of so many bytes -/
def hapsF : Nat → Nat → Rdr → List (HapC × Nat)
  | 0, _, _ => []
  | k + 1, len, r => if r.B.length = 0 then [] else if (hapR r).1.bad = true then [] else ((hapR r).2, len - r.B.length) :: hapsF k len (hapR r).1
theorem hapsF_enough (len : Nat) : ∀ (k m : Nat) (r : Rdr), r.B.length ≤ k → r.B.length ≤ m → hapsF k len r = hapsF m len r := by
  intro k
  induction k with
  | zero => intro m r h _; cases m <;> simp [hapsF, Nat.le_zero.1 h]
  | succ k ih =>
    intro m r h hm
    cases m with
    | zero => simp [hapsF, Nat.le_zero.1 hm]
    | succ m =>
      simp only [hapsF]
      split
      · rfl
      · split
        · rfl
        · rename_i hb
          have := (hapR_ok r (by simpa using hb)).2
          rw [ih m _ (by omega) (by omega)]
def hapsL (raw : List UInt8) : List (HapC × Nat) := hapsF raw.length raw.length ⟨raw, false⟩
theorem own_ext {w w' : World} {base : Nat} {e : TypeId} {size n : Nat} {v : Value} {xs : List Value} (h : w.ownsRow base e size v n xs) (hx : Ext w w') : w'.ownsRow base e size v n xs := by
  refine World.ownsRow.kept h (row := none) ⟨hx.os, hx.tape, hx.output, hx.size, fun k hk _ => hx.block k hk⟩ ?_
  cases v.ownBlock <;> simp
theorem own_ne {w : World} {base base' : Nat} {e e' : TypeId} {size size' n n' : Nat} {v v' : Value} {xs xs' : List Value} (h : w.ownsRow base e size v n xs) (h' : w.ownsRow base' e' size' v' n' xs') (hne : e ≠ e') : v.ownBlock = none ∨ v.ownBlock ≠ v'.ownBlock := by
  rcases h.2 with ⟨rfl, _⟩ | ⟨g, cap, cur, rfl, _, hg, _⟩
  · exact .inl rfl
  · refine .inr fun e0 => ?_
    rcases h'.2 with ⟨rfl, _⟩ | ⟨g', cap', cur', rfl, _, hg', _⟩
    · simp [Value.ownBlock] at e0
    · have : g = g' := by simpa [Value.ownBlock] using e0
      subst this
      rw [hg] at hg'
      injection hg' with hg'
      injection hg' with _ hg'
      exact hne hg'
theorem RV.drew {w : World} {A xs} (h : RV w A xs) : RV w.drew A xs := h.ext (Ext.refl _).drew
theorem RV.alloc {w : World} {A xs} (h : RV w A xs) (o : Obj) : RV (w.alloc o) A xs := h.ext (ext1 _ _)
theorem RV.grown {w w' : World} {A xs} {row : Option Nat} (h : RV w A xs) (hg : w.grownBy w' row) (hne : ∀ b o, A = some ⟨b, o, none⟩ → some b ≠ row) : RV w' A xs := fun hl => by
  obtain ⟨b, o, hA, hc⟩ := h hl
  exact ⟨b, o, hA, fun j u hj => hg.cell (hc j u hj) (hne b o hA)⟩
theorem RH.grown {w w' : World} {h a} (r : RH Z w h a) {base : Nat} {e : TypeId} {size n : Nat} {v : Value} {xs : List Value} (hown : w.ownsRow base e size v n xs) (he : e ≠ 5) (hb : Z ≤ base) (hg : w.grownBy w' v.ownBlock) : RH Z w' h a := ⟨r.b.grown hown he hb hg, r.p.grown hown he hb hg⟩
theorem RS.grown {w w' : World} {s l} (r : RS Z w s l) {base : Nat} {e : TypeId} {size n : Nat} {v : Value} {xs : List Value} (hown : w.ownsRow base e size v n xs) (he : e ≠ 5) (hb : Z ≤ base) (hg : w.grownBy w' v.ownBlock) : RS Z w' s l := ⟨r.rb.grown hown he hb hg, r.le, r.ml⟩
/-- what stands in a cell below a row's base stays where the row grows -/
theorem low_cell {w w' : World} {base : Nat} {e : TypeId} {size n : Nat} {v u : Value} {xs : List Value} {b o : Nat} (hc : w.cell? ⟨b, o, none⟩ = some u) (hown : w.ownsRow base e size v n xs) (hb : b < base) (hg : w.grownBy w' v.ownBlock) : w'.cell? ⟨b, o, none⟩ = some u :=
  hg.cell hc (fun e' => by have := (hown.lt b e'.symm).1; omega)
theorem low_frozen {w w' : World} {base : Nat} {e : TypeId} {size n : Nat} {v u : Value} {xs : List Value} {b o o' : Nat} (hc : w.cell? ⟨b, o', none⟩ = some u) (hf : w.frozen? ⟨b, o, none⟩ = false) (hown : w.ownsRow base e size v n xs) (hb : b < base) (hg : w.grownBy w' v.ownBlock) : w'.frozen? ⟨b, o, none⟩ = false :=
  (hg.frozen_far ⟨b, o, none⟩ (show b < w.heap.size from World.block_lt_of_cell? w ⟨b, o', none⟩ hc) (fun e' => by have := (hown.lt b e'.symm).1; omega)).trans hf
theorem own_far {w0 : World} {base : Nat} {e : TypeId} {size n : Nat} {v : Value} {xs : List Value} (hown : w0.ownsRow base e size v n xs) {b : Nat} (hb : w0.heap.size ≤ b) : some b ≠ v.ownBlock := fun e' => by
  have := (hown.lt b e'.symm).2
  omega
/-- the two lists, handed back -/
def HapsGiven (Z : Nat) (w : World) (l : List (HapC × Nat)) (e : Ending) (w' : World) : Prop :=
  ∃ (az : List HapA) (v4 v5 : Value), az.length = l.length ∧ e = .returned (.tuple #[v4, v5]) ∧ OHs w' (w.heap.size + 1) v4 ((l.map (·.1)).zip az) ∧ OIs w' (w.heap.size + 1) v5 (l.map fun x => (x.2 : Int)) ∧
    (∀ x ∈ (l.map (·.1)).zip az, RH Z w' x.1 x.2) ∧ Ext w w'
end Go.Proofs.Ytffepmoicpphfaa
