/- arguments opened: a slice of haps that came in. -/
import Derived.Test.YtffepmoicpphfaaSc19
import Derived.ProofKit
import Derived.OpenShut
import Derived.Deep.Slices
namespace Go.Proofs.Ytffepmoicpphfaa
set_option linter.unusedSimpArgs false
set_option linter.unusedVariables false
open Go.RowKit Go.WideShapes Go.ChangeShapes
section
variable {H : Type} {enc : TypeId × Value → H} {w : World} {base : Nat} {spare : Nat → Bool} {held : Bool}
/-- bytes that came in -/
theorem open_bytes {fuel : Nat} {v : Value} {x : DataW H × List MemPlace} (h : DataW.trod enc Try.prog w base spare held fuel 31 [v] = some x) :
    ∃ (A : Option Addr) (l : List UInt8) (c : Nat), v = .slice A l.length c ∧ l.length ≤ c ∧ c ≤ maxLen ∧ RB w.heap.size w A l := by
  rcases open_ints Try.underlying31 Try.underlying5 (by kernel_rfl) h with ⟨hcs, _⟩ | ⟨a, len, cap, zs, hcs, _, hl, hm, hz, _, hcell, hwz⟩
  · injection hcs with hcs
    exact ⟨none, [], 0, hcs, Nat.le_refl _, Nat.zero_le _, RB.nil _ _⟩
  · injection hcs with hcs
    have hzl : len ≤ zs.length := by
      rw [hz]; split
      · exact hl
      · exact Nat.le_refl _
    refine ⟨some a, (zs.take len).map (fun n => UInt8.ofNat n.toNat), cap, ?_, ?_, hm, fun hne => ?_⟩
    · rw [hcs, List.length_map, List.length_take, Nat.min_eq_left hzl]
    · rw [List.length_map, List.length_take, Nat.min_eq_left hzl]; exact hl
    · have h0 : 0 < len := by
        rcases Nat.eq_zero_or_pos len with h0 | h0
        · subst h0; simp at hne
        · exact h0
      obtain ⟨b, off, rfl, hc⟩ := ints_at hcell (by omega)
      refine ⟨b, off, rfl, .inl (World.block_lt_of_cell? w _ (hc 0 (by omega))), fun j hj => ?_⟩
      rw [List.length_map, List.length_take, Nat.min_eq_left hzl] at hj
      rw [hc j (by omega)]
      have hb := bounds_u8 (hwz zs[j] (List.getElem_mem (by omega)))
      simp only [List.getElem_map, List.getElem_take]
      rw [List.getD_eq_getElem?_getD, List.getElem?_eq_getElem (by omega)]
      simp only [Option.getD_some]
      congr 2
      have : (UInt8.ofNat zs[j].toNat).toNat = zs[j].toNat := by
        rw [UInt8.toNat_ofNat']
        omega
      rw [this]
      omega
theorem k28 : Try.prog.cellsOf 28 = 1 := by kernel_rfl
theorem k3 : Try.prog.cellsOf 3 = 1 := by kernel_rfl
theorem k33 : Try.prog.cellsOf 33 = 7 := by kernel_rfl
theorem k31 : Try.prog.cellsOf 31 = 1 := by kernel_rfl
theorem k29 : Try.prog.cellsOf 29 = 1 := by kernel_rfl
theorem k9 : Try.prog.cellsOf 9 = 1 := by kernel_rfl
theorem k30 : Try.prog.cellsOf 30 = 1 := by kernel_rfl
theorem k35 : Try.prog.cellsOf 35 = 11 := by kernel_rfl
theorem str_of (s : ByteArray) : s = strOf s.data.toList := by simp [strOf]
set_option maxRecDepth 100000 in
/-- one hap's cells, read -/
theorem open_hap {fuel : Nat} {cs : List Value} {x : DataW H × List MemPlace} (h : DataW.trod enc Try.prog w base spare held fuel 35 cs = some x) :
    ∃ (g : HapC) (a : HapA), cs = hapCells g a ∧ RH w.heap.size w g a ∧ KeyIn g := by
  obtain ⟨xs, n, _, _, hlen, hxl, hf⟩ := DataW.trod_struct Try.underlying35 h
  have hlen : cs.length = 11 := hlen.trans (by kernel_rfl)
  match cs, hlen with
  | [c0, c1, c2, c3, c4, c5, c6, c7, c8, c9, c10], _ =>
    match xs, hxl with
    | [y0, y1, y2, y3, y4], _ =>
      have f0 : DataW.trod enc Try.prog w base spare held n 28 [c0] = some y0 := by simpa [k28] using hf 0 _ rfl
      have f1 : DataW.trod enc Try.prog w base spare held n 3 [c1] = some y1 := by simpa [k3] using hf 1 _ rfl
      have f2 : DataW.trod enc Try.prog w base spare held n 33 [c2, c3, c4, c5, c6, c7, c8] = some y2 := by simpa [k33] using hf 2 _ rfl
      have f3 : DataW.trod enc Try.prog w base spare held n 3 [c9] = some y3 := by simpa [k3] using hf 3 _ rfl
      have f4 : DataW.trod enc Try.prog w base spare held n 31 [c10] = some y4 := by simpa [k31] using hf 4 _ rfl
      obtain ⟨n0, e0, _, _⟩ := DataW.trod_int Try.underlying28 f0
      obtain ⟨n1, e1, _, _⟩ := DataW.trod_int Try.underlying3 f1
      obtain ⟨n9, e9, _, _⟩ := DataW.trod_int Try.underlying3 f3
      obtain ⟨A4, l4, ca4, rfl, _, _, hr4⟩ := open_bytes f4
      obtain ⟨ys, n', _, _, _, hyl, hg⟩ := DataW.trod_struct Try.underlying33 f2
      match ys, hyl with
      | [z0, z1, z2, z3, z4, z5, z6], _ =>
        have g0 : DataW.trod enc Try.prog w base spare held n' 29 [c2] = some z0 := by simpa [k29] using hg 0 _ rfl
        have g1 : DataW.trod enc Try.prog w base spare held n' 9 [c3] = some z1 := by simpa [k9] using hg 1 _ rfl
        have g2 : DataW.trod enc Try.prog w base spare held n' 9 [c4] = some z2 := by simpa [k9] using hg 2 _ rfl
        have g3 : DataW.trod enc Try.prog w base spare held n' 3 [c5] = some z3 := by simpa [k3] using hg 3 _ rfl
        have g4 : DataW.trod enc Try.prog w base spare held n' 3 [c6] = some z4 := by simpa [k3] using hg 4 _ rfl
        have g5 : DataW.trod enc Try.prog w base spare held n' 30 [c7] = some z5 := by simpa [k30] using hg 5 _ rfl
        have g6 : DataW.trod enc Try.prog w base spare held n' 31 [c8] = some z6 := by simpa [k31] using hg 6 _ rfl
        obtain ⟨m0, d0, _, _⟩ := DataW.trod_int Try.underlying29 g0
        obtain ⟨s1, d1, _, _⟩ := DataW.trod_string Try.underlying9 g1
        obtain ⟨s2, d2, _, _⟩ := DataW.trod_string Try.underlying9 g2
        obtain ⟨m3, d3, _, _⟩ := DataW.trod_int Try.underlying3 g3
        obtain ⟨m4, d4, _, _⟩ := DataW.trod_int Try.underlying3 g4
        obtain ⟨m5, d5, _, w5⟩ := DataW.trod_int Try.underlying30 g5
        obtain ⟨A6, l6, ca6, rfl, _, _, hr6⟩ := open_bytes g6
        simp at e0 e1 e9 d0 d1 d2 d3 d4 d5
        subst e0 e1 e9 d0 d1 d2 d3 d4 d5
        refine ⟨⟨n0, n1, ⟨m0, s1.data.toList, s2.data.toList, m3, m4, m5, l6⟩, n9, l4⟩, ⟨A6, ca6, A4, ca4⟩, ?_, ⟨hr6, hr4⟩, ?_⟩
        · simp only [hapCells, ← str_of]
        · have := bounds_u64 w5
          exact ⟨this.1, by show m5 < _; omega⟩
/-- a slice of haps that came in -/
theorem open_haps {fuel : Nat} {v : Value} {x : DataW H × List MemPlace} (h : DataW.trod enc Try.prog w base spare held fuel 22 [v] = some x) :
    ∃ (A : Option Addr) (l : List (HapC × HapA)) (c : Nat), v = .slice A l.length c ∧ RHs w.heap.size w A l ∧ ∀ y ∈ l, KeyIn y.1 := by
  rcases Go.Deep.open_slice Try.underlying22 h with ⟨hcs, _⟩ | ⟨a, len, cap, m, n, D, Pl, hcs, _, hl, hm, hmm, _, hx⟩
  · injection hcs with hcs
    exact ⟨none, [], 0, hcs, (fun h => absurd rfl h), (fun _ h => by cases h)⟩
  · injection hcs with hcs
    have hml : len ≤ m := by
      rw [hmm]; split
      · exact hl
      · exact Nat.le_refl _
    have hall : ∀ i, i < len → ∃ y : HapC × HapA, (∀ j, j < 11 → w.cell? ((a.add (i * 11)).add j) = (hapCells y.1 y.2)[j]?) ∧ RH w.heap.size w y.1 y.2 ∧ KeyIn y.1 := by
      intro i hi
      obtain ⟨cs', hc, ht⟩ := hx i (by omega)
      rw [k35] at hc
      obtain ⟨_, _, hat⟩ := World.cells?_some hc
      obtain ⟨g, b, rfl, hr, hk⟩ := open_hap ht
      exact ⟨(g, b), hat, hr, hk⟩
    haveI : Inhabited (HapC × HapA) := ⟨(zeroHap, nilA)⟩
    obtain ⟨f, hf⟩ := Go.Deep.choose_lt (p := fun i (y : HapC × HapA) => (∀ j, j < 11 → w.cell? ((a.add (i * 11)).add j) = (hapCells y.1 y.2)[j]?) ∧ RH w.heap.size w y.1 y.2 ∧ KeyIn y.1) hall
    refine ⟨some a, (List.range len).map f, cap, by rw [hcs]; simp, fun hne => ?_, fun y hy => ?_⟩
    · have h0 : 0 < len := by
        rcases Nat.eq_zero_or_pos len with h0 | h0
        · subst h0; simp at hne
        · exact h0
      obtain ⟨b, off, spot⟩ := a
      have hc0 : w.cell? (((⟨b, off, spot⟩ : Addr).add (0 * 11)).add 0) = some (.int .i64 (f 0).1.kind) := ((hf 0 h0).1 0 (by omega)).trans rfl
      have hspot : spot = none := by simpa [Addr.add] using World.cell?_spot hc0
      subst hspot
      refine ⟨b, off, rfl, fun i hi => ?_⟩
      simp only [List.length_map, List.length_range] at hi
      obtain ⟨h1, h2, _⟩ := hf i hi
      have hat := fun (j : Nat) (u : Value) (hj : j < 11) (hu : (hapCells (f i).1 (f i).2)[j]? = some u) => show w.cell? ⟨b, off + i * 11 + j, none⟩ = some u from by
        have := (h1 j hj).trans hu
        rwa [addr_add0, addr_add0] at this
      simp only [List.getElem_map, List.getElem_range]
      refine ⟨?_, h2⟩
      unfold HapAt
      exact ⟨hat 0 _ (by omega) rfl, hat 1 _ (by omega) rfl, hat 2 _ (by omega) rfl, hat 3 _ (by omega) rfl, hat 4 _ (by omega) rfl, hat 5 _ (by omega) rfl, hat 6 _ (by omega) rfl, hat 7 _ (by omega) rfl, hat 8 _ (by omega) rfl, hat 9 _ (by omega) rfl, hat 10 _ (by omega) rfl⟩
    · obtain ⟨i, hi, rfl⟩ := List.mem_map.1 hy
      exact (hf i (List.mem_range.1 hi)).2.2
end
end Go.Proofs.Ytffepmoicpphfaa
