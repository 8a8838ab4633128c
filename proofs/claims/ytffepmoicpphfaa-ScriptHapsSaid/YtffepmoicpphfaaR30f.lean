/- hedgerowref30: the Reader, walked. -/
import Derived.Test.YtffepmoicpphfaaR30c
import Derived.Test.YtffepmoicpphfaaApp
import Derived.Deep.DeepCutAuto
namespace Go.Proofs.Ytffepmoicpphfaa
set_option linter.unusedSimpArgs false
set_option linter.unusedVariables false
open Go.RowKit
variable {Z : Nat}
structure Rdr where
  B : List UInt8
  bad : Bool
def takeR (r : Rdr) (many : Nat) : Rdr × List UInt8 :=
  if r.bad = true ∨ r.B.length < many then (⟨[], true⟩, List.replicate many 0) else (⟨r.B.drop many, false⟩, r.B.take many)
/-- where bytes lie: an address, room -/
structure SA where
  A : Option Addr
  c : Nat
/-- a slice of bytes reads so -/
structure RS (Z : Nat) (w : World) (s : SA) (l : List UInt8) : Prop where
  rb : RB Z w s.A l
  le : l.length ≤ s.c
  ml : s.c ≤ maxLen
theorem RS.ext {w w' : World} {s l} (h : RS Z w s l) (hx : Ext w w') : RS Z w' s l := ⟨h.rb.ext hx, h.le, h.ml⟩
theorem RB.take {w : World} {A l} (h : RB Z w A l) (k : Nat) : RB Z w A (l.take k) := fun hl => by
  obtain ⟨b, o, hA, ht, hc⟩ := h (by rintro rfl; simp at hl)
  exact ⟨b, o, hA, ht, fun j hj => by
    have hj' : j < l.length := by rw [List.length_take] at hj; omega
    rw [hc j hj', List.getElem_take]⟩
theorem RB.drop {w : World} {A l} (h : RB Z w A l) (k c : Nat) (hc : l.length ≤ c) : RB Z w (if c = k then A else A.map (·.add k)) (l.drop k) := fun hl => by
  have hk : k < l.length := by
    rcases Nat.lt_or_ge k l.length with h | h
    · exact h
    · exact absurd (List.drop_eq_nil_of_le h) hl
  obtain ⟨b, o, rfl, ht, hcell⟩ := h (by rintro rfl; simp at hl)
  rw [if_neg (by omega)]
  refine ⟨b, o + k, by simp [addr_add0], ht, fun j hj => ?_⟩
  have hj' : k + j < l.length := by rw [List.length_drop] at hj; omega
  rw [Nat.add_assoc, hcell (k + j) hj', List.getElem_drop]
theorem rs_zeros (w : World) (n : Nat) (hn : n ≤ maxLen) : RS Z (w.alloc (.cells (madeCells #[.int .u8 0] n) 5)) ⟨some ⟨w.heap.size, 0, none⟩, n⟩ (List.replicate n 0) := by
  refine ⟨fun _ => ⟨w.heap.size, 0, rfl, .inr ⟨_, _, heap_alloc_new w _⟩, fun j hj => ?_⟩, by simp, hn⟩
  have hj' : j < n := by simpa using hj
  rw [cell_of_row _ _ _ _ _ _ (heap_alloc_new w _)]
  simp [madeCells, hj', Nat.mod_one]
/-- a store into a cell that held no byte leaves bytes as they are -/
theorem RB.set {w : World} {A l} (h : RB Z w A l) {p : Addr} {u : Value} (v : Value) (hp : w.cell? p = some u) (hu : ∀ n, u ≠ .int .u8 n) : RB Z (w.setCell p v) A l := fun hl => by
  obtain ⟨b, o, hA, ht, hc⟩ := h hl
  refine ⟨b, o, hA, ht.set _ _, fun j hj => ?_⟩
  rw [World.cell?_setCell_other]
  · exact hc j hj
  · intro e
    have := hc j hj
    rw [← e, hp] at this
    injection this with this
    exact hu _ this
theorem RB.set' {w : World} {A l} (h : RB Z w A l) {p : Addr} (v : Value) (hp : ∀ n, w.cell? p ≠ some (.int .u8 n)) : RB Z (w.setCell p v) A l := fun hl => by
  obtain ⟨b, o, hA, ht, hc⟩ := h hl
  refine ⟨b, o, hA, ht.set _ _, fun j hj => ?_⟩
  rw [World.cell?_setCell_other]
  · exact hc j hj
  · intro e
    exact hp _ (e ▸ hc j hj)
theorem RS.set' {w : World} {s l} (h : RS Z w s l) {p : Addr} (v : Value) (hp : ∀ n, w.cell? p ≠ some (.int .u8 n)) : RS Z (w.setCell p v) s l := ⟨h.rb.set' v hp, h.le, h.ml⟩
theorem RS.set {w : World} {s l} (h : RS Z w s l) {p : Addr} {u : Value} (v : Value) (hp : w.cell? p = some u) (hu : ∀ n, u ≠ .int .u8 n) : RS Z (w.setCell p v) s l := ⟨h.rb.set v hp hu, h.le, h.ml⟩
def TakesR (Z : Nat) (w : World) (p : Rdr × List UInt8) (e : Ending) (w' : World) : Prop :=
  ∃ s t, e = .returned (.tuple #[(.agg #[.slice s.A p.1.B.length s.c, .bool p.1.bad]), (.slice t.A p.2.length t.c)]) ∧ RS Z w' s p.1.B ∧ RS Z w' t p.2 ∧ Ext w w'

set_option maxRecDepth 100000 in
set_option maxHeartbeats 1000000 in
theorem rdTake (r : Rdr) (s : SA) (many : Nat) (w : World) (hr : RS Z w s r.B) (hm : many ≤ 4096) :
    Calls Try.prog 76 #[(.agg #[.slice s.A r.B.length s.c, .bool r.bad]), .int .i64 many] w (TakesR Z w (takeR r many)) := by
  obtain ⟨hrb, hle, hml⟩ := hr
  unfold maxLen at hml
  by_cases hc : r.bad = true ∨ r.B.length < many
  · have hinfo : (Try.prog.info? 5).map (fun i => (i.zero, i.size, i.bytes)) = some (some (.int .u8 0), 1, 1) := by kernel_rfl
    obtain ⟨i0, hi0, hz0, hz1, hz2⟩ := info_parts hinfo
    have hmk := fun W : World => run_make (P := Try.prog) (w := W) 31 5 i0 _ Try.underlying31 hi0 hz0 .i64 .i64 (many : Int) (many : Int) (by omega) (by omega) (by rw [hz2]; omega) (by omega)
    simp only [hz1, Int.toNat_natCast, Nat.mul_one, Value.cells] at hmk
    clear hz0 hz1 hz2 hi0 hinfo
    have hfin : takeR r many = (⟨[], true⟩, List.replicate many 0) := by unfold takeR; rw [if_pos hc]
    have HF := Lib.hid hfin
    clear hfin
    have hmx : many ≤ maxLen := by unfold maxLen; omega
    have HM := Lib.hid hmx
    clear hmx
    obtain ⟨l, bad⟩ := r
    obtain ⟨A, c⟩ := s
    cases bad
    · have hl : l.length < many := by simpa using hc
      clear hc
      go_enter Try.func76, Try.ntmps76
      go_wp2
      go_region
      all_goals go_wp2
      all_goals refine bodyPost_ret (v := .tuple #[.agg #[.slice none 0 0, .bool true], .slice (some ⟨w.heap.size + 1 + 1, 0, none⟩) many many]) (by simp [results, Try.results76, go_sem]) rfl ?_
      all_goals
        rw [HF.out]
        refine ⟨⟨none, 0⟩, ⟨some ⟨w.heap.size + 1 + 1, 0, none⟩, many⟩, by simp, ⟨RB.nil _ _, by simp, by simp [maxLen]⟩, ?_, ?_⟩
        · have hz := rs_zeros (Z := Z) ((w.alloc (.cells #[.slice A l.length c, .bool false] 69)).alloc (.cells #[.slice none 0 0, .bool true] 69)) many HM.out
          simp only [World.size_alloc] at hz
          first | exact hz | exact hz.ext (Ext.refl _).drew
        · first | exact ext3 _ _ _ _ | exact (ext3 _ _ _ _).drew
    · clear hc
      go_enter Try.func76, Try.ntmps76
      go_wp2
      go_region
      all_goals go_wp2
      all_goals refine bodyPost_ret (v := .tuple #[.agg #[.slice none 0 0, .bool true], .slice (some ⟨w.heap.size + 1 + 1, 0, none⟩) many many]) (by simp [results, Try.results76, go_sem]) rfl ?_
      all_goals
        rw [HF.out]
        refine ⟨⟨none, 0⟩, ⟨some ⟨w.heap.size + 1 + 1, 0, none⟩, many⟩, by simp, ⟨RB.nil _ _, by simp, by simp [maxLen]⟩, ?_, ?_⟩
        · have hz := rs_zeros (Z := Z) ((w.alloc (.cells #[.slice A l.length c, .bool true] 69)).alloc (.cells #[.slice none 0 0, .bool true] 69)) many HM.out
          simp only [World.size_alloc] at hz
          first | exact hz | exact hz.ext (Ext.refl _).drew
        · first | exact ext3 _ _ _ _ | exact (ext3 _ _ _ _).drew
  · obtain ⟨l, bad⟩ := r
    obtain ⟨A, c⟩ := s
    have hb : bad = false := by cases bad <;> simp_all
    subst hb
    have hl : many ≤ l.length := by simp at hc; omega
    have hli : (many : Int) ≤ (l.length : Int) := by omega
    dsimp only at hle hml hrb
    have hci : (many : Int) ≤ (c : Int) := by omega
    have hfin : takeR ⟨l, false⟩ many = (⟨l.drop many, false⟩, l.take many) := by unfold takeR; rw [if_neg (by simp; omega)]
    have HF := Lib.hid hfin
    clear hfin hc
    have hx := fun o1 o2 => (ext2 w o1 o2).drew
    by_cases hcm : c = many
    · subst hcm
      go_enter Try.func76, Try.ntmps76
      go_wp2
      go_region
      go_wp2
      refine bodyPost_ret (v := .tuple #[.agg #[.slice A (l.length - c) 0, .bool false], .slice A c c]) (by simp [results, Try.results76, go_sem]; omega) rfl ?_
      rw [HF.out]
      have h1 := hrb.drop c c hle
      rw [if_pos rfl] at h1
      refine ⟨⟨A, 0⟩, ⟨A, c⟩, by simp [Nat.min_eq_left hl], ⟨h1.ext (hx _ _), by simp; omega, by simp [maxLen]⟩, ⟨(hrb.ext (hx _ _)).take c, by simp; omega, by simp [maxLen]; omega⟩, hx _ _⟩
    · have h1 := hrb.drop many c hle
      rw [if_neg hcm] at h1
      have H1 := Lib.hid h1
      clear h1
      go_enter Try.func76, Try.ntmps76
      go_wp2
      go_region
      go_wp2
      refine bodyPost_ret (v := .tuple #[.agg #[.slice (A.map (·.add many)) (l.length - many) (c - many), .bool false], .slice A many c]) (by simp [results, Try.results76, go_sem]) rfl ?_
      rw [HF.out]
      refine ⟨⟨A.map (·.add many), c - many⟩, ⟨A, c⟩, by simp [Nat.min_eq_left hl], ⟨H1.out.ext (hx _ _), by simp; omega, by simp [maxLen]; omega⟩, ⟨(hrb.ext (hx _ _)).take many, by simp; omega, by simp [maxLen]; omega⟩, hx _ _⟩
end Go.Proofs.Ytffepmoicpphfaa
