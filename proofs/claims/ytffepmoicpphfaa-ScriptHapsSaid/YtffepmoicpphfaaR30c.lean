/- hedgerowref30: Check, walked. -/
import Derived.Test.YtffepmoicpphfaaR30b
namespace Go.Proofs.Ytffepmoicpphfaa
set_option linter.unusedSimpArgs false
set_option linter.unusedVariables false
open Go.RowKit
variable {Z : Nat}
def inB (n most : Int) : Bool := decide (0 ≤ n) && decide (n ≤ most)
def fitsCall (c : CallC) : Bool :=
  inB c.kind 14 && decide (c.path.length < 64) && decide (c.to_.length < 64) && inB c.at_ 65535 && inB c.many 65535 && decide (c.bytes.length < 256)
def fits (h : HapC) : Bool :=
  if h.kind = 1 then inB h.client 7 && fitsCall h.call else if h.kind = 2 then inB h.client 7 else if h.kind = 3 then inB h.n 65535
  else if h.kind = 4 then decide (h.picks.length < 8) else if h.kind = 5 then decide (1 ≤ h.n) && decide (h.n ≤ 256) else false
def hasBytes (h : HapC) : Bool := sameHap h (bareHap h) && fits h
def checkHap (h : HapC) : Int := if hasBytes h then 0 else 400

/-- a hap's box -/
def HapBox (w : World) (b : Nat) (h : HapC) (a : HapA) : Prop := w.cell? ⟨b, 0, none⟩ = some (.int .i64 h.kind) ∧ w.cell? ⟨b, 1, none⟩ = some (.int .i64 h.client) ∧ w.cell? ⟨b, 2, none⟩ = some (.int .i64 h.call.kind) ∧ w.cell? ⟨b, 3, none⟩ = some (.string (strOf h.call.path)) ∧ w.cell? ⟨b, 4, none⟩ = some (.string (strOf h.call.to_)) ∧ w.cell? ⟨b, 5, none⟩ = some (.int .i64 h.call.at_) ∧ w.cell? ⟨b, 6, none⟩ = some (.int .i64 h.call.many) ∧ w.cell? ⟨b, 7, none⟩ = some (.int .u64 h.call.key) ∧ w.cell? ⟨b, 8, none⟩ = some (.slice a.A h.call.bytes.length a.ca) ∧ w.cell? ⟨b, 9, none⟩ = some (.int .i64 h.n) ∧ w.cell? ⟨b, 10, none⟩ = some (.slice a.P h.picks.length a.cp)
theorem HapBox.ext {w w' : World} {b h a} (r : HapBox w b h a) (hb : Ext w w') : HapBox w' b h a := by
  have hl : b < w.heap.size := World.block_lt_of_cell? w _ r.1
  have hc := fun o => hb.cells.1 b o hl
  unfold HapBox at r ⊢
  simpa only [hc] using r
theorem HapBox.grown {w w' : World} {b h a} {row : Option Nat} (r : HapBox w b h a) (hg : w.grownBy w' row) (hne : some b ≠ row) : HapBox w' b h a := by
  have hl : b < w.heap.size := World.block_lt_of_cell? w _ r.1
  have hc := fun o => World.cell?_of_block (w := w) (w' := w') (a := ⟨b, o, none⟩) (hg.block b hl hne)
  unfold HapBox at r ⊢
  simpa only [hc] using r
@[reducible] def hapObj (h : HapC) (a : HapA) : Obj := .cells #[.int .i64 h.kind, .int .i64 h.client, .int .i64 h.call.kind, .string (strOf h.call.path), .string (strOf h.call.to_), .int .i64 h.call.at_, .int .i64 h.call.many, .int .u64 h.call.key, .slice a.A h.call.bytes.length a.ca, .int .i64 h.n, .slice a.P h.picks.length a.cp] 35
theorem HapBox.new (w : World) (h : HapC) (a : HapA) : HapBox (w.alloc (hapObj h a)) w.heap.size h a := by
  simp [HapBox, go_sem]
theorem HapBox.later {w0 w1 w2 : World} {b h a} (r : HapBox w0 b h a) (hb : Ext w0 w1) (hb2 : Ext w1 w2) : HapBox w2 b h a := r.ext (hb.trans hb2)

def CallBox (w : World) (b : Nat) (c : CallC) (A : Option Addr) (ca : Nat) : Prop := w.cell? ⟨b, 0, none⟩ = some (.int .i64 c.kind) ∧ w.cell? ⟨b, 1, none⟩ = some (.string (strOf c.path)) ∧ w.cell? ⟨b, 2, none⟩ = some (.string (strOf c.to_)) ∧ w.cell? ⟨b, 3, none⟩ = some (.int .i64 c.at_) ∧ w.cell? ⟨b, 4, none⟩ = some (.int .i64 c.many) ∧ w.cell? ⟨b, 5, none⟩ = some (.int .u64 c.key) ∧ w.cell? ⟨b, 6, none⟩ = some (.slice A c.bytes.length ca)
theorem CallBox.ext {w w' : World} {b c A ca} (r : CallBox w b c A ca) (hb : Ext w w') : CallBox w' b c A ca := by
  have hl : b < w.heap.size := World.block_lt_of_cell? w _ r.1
  have hc := fun o => hb.cells.1 b o hl
  unfold CallBox at r ⊢
  simpa only [hc] using r
theorem CallBox.grown {w w' : World} {b c A ca} {row : Option Nat} (r : CallBox w b c A ca) (hg : w.grownBy w' row) (hne : some b ≠ row) : CallBox w' b c A ca := by
  have hl : b < w.heap.size := World.block_lt_of_cell? w _ r.1
  have hc := fun o => World.cell?_of_block (w := w) (w' := w') (a := ⟨b, o, none⟩) (hg.block b hl hne)
  unfold CallBox at r ⊢
  simpa only [hc] using r
@[reducible] def callObj (c : CallC) (A : Option Addr) (ca : Nat) : Obj := .cells #[.int .i64 c.kind, .string (strOf c.path), .string (strOf c.to_), .int .i64 c.at_, .int .i64 c.many, .int .u64 c.key, .slice A c.bytes.length ca] 33
theorem CallBox.new (w : World) (c : CallC) (A : Option Addr) (ca : Nat) : CallBox (w.alloc (callObj c A ca)) w.heap.size c A ca := by
  simp [CallBox, go_sem]
set_option maxRecDepth 100000 in
set_option maxHeartbeats 2000000 in
theorem r30Check (h : HapC) (a : HapA) (w : World) (hA : RH Z w h a) :
    Calls Try.prog 9 #[hapV h a] w fun e w' => e = .returned (.int .i64 (checkHap h)) ∧ Ext w w' := by
  have hb0 := ext2 w
  have h3 := strOf_size
  by_cases k1 : h.kind = 1
  · have b1 : (h.kind == 1) = true := by simp [k1]
    have b2 : (h.kind == 2) = false := by simp [k1]
    have b3 : (h.kind == 3) = false := by simp [k1]
    have b4 : (h.kind == 4) = false := by simp [k1]
    have b5 : (h.kind == 5) = false := by simp [k1]
    have K := Lib.hid k1
    clear k1
    go_enter Try.func9, Try.ntmps9
    go_wp2_with fail
    have H0 := fun o => (HapBox.new w h a).ext (ext1 _ o)
    go_region_held3 (fun w' => w'.cell? ⟨w.heap.size, 0, none⟩ = some (.int .i64 h.kind) ∧ w'.cell? ⟨w.heap.size, 1, none⟩ = some (.int .i64 h.client) ∧ w'.cell? ⟨w.heap.size, 2, none⟩ = some (.int .i64 h.call.kind) ∧ w'.cell? ⟨w.heap.size, 3, none⟩ = some (.string (strOf h.call.path)) ∧ w'.cell? ⟨w.heap.size, 4, none⟩ = some (.string (strOf h.call.to_)) ∧ w'.cell? ⟨w.heap.size, 5, none⟩ = some (.int .i64 h.call.at_) ∧ w'.cell? ⟨w.heap.size, 6, none⟩ = some (.int .i64 h.call.many) ∧ w'.cell? ⟨w.heap.size, 7, none⟩ = some (.int .u64 h.call.key) ∧ w'.cell? ⟨w.heap.size, 8, none⟩ = some (.slice a.A h.call.bytes.length a.ca) ∧ w'.cell? ⟨w.heap.size, 9, none⟩ = some (.int .i64 h.n) ∧ w'.cell? ⟨w.heap.size, 10, none⟩ = some (.slice a.P h.picks.length a.cp)) (first | exact H0 _ | exact H1 | exact H2) (first | (go_at_call 22; refine (r30bare h a _ (hA.ext (hb0 _ _).drew)).mono ?_; rintro e w1 ⟨a', rfl, hr1, hb1⟩; have hb1 := hb1.undrew; have H1 := (H0 _).ext hb1) | (go_at_call 16; refine (r30Same h (bareHap h) a a' _ (hA.ext ((hb0 _ _).trans hb1)) hr1).mono ?_; rintro e w2 ⟨rfl, hb2⟩; have H2 := H1.ext hb2))
    have hb12 := hb1.trans hb2
    have hbw := (hb0 _ _).trans hb12
    obtain ⟨hc, hf⟩ := hb12.cells
    clear H0 H1 H2 hb1 hb2 hb12 hr1 hA hb0
    cases hs : sameHap h (bareHap h)
    all_goals
      have HS := Lib.hid hs
      clear hs
      go_wp2_with (go_at_call 23; refine (r30in _ _ _).mono ?_; rintro e w3 ⟨rfl, rfl⟩)
      all_goals go_ret
      all_goals (try simp only [Bool.not_eq_eq_eq_not, Bool.not_true, Bool.not_false, decide_eq_true_eq, decide_eq_false_iff_not, Bool.and_eq_false_imp] at *)
      all_goals exact ⟨ret_int (by simp [checkHap, hasBytes, HS.out, fits, fitsCall, inB, K.out, *] <;> omega), hbw⟩
  by_cases k2 : h.kind = 2
  · have b1 : (h.kind == 1) = false := by simp [k2]
    have b2 : (h.kind == 2) = true := by simp [k2]
    have b3 : (h.kind == 3) = false := by simp [k2]
    have b4 : (h.kind == 4) = false := by simp [k2]
    have b5 : (h.kind == 5) = false := by simp [k2]
    have K := Lib.hid k2
    clear k1 k2
    go_enter Try.func9, Try.ntmps9
    go_wp2_with fail
    have H0 := fun o => (HapBox.new w h a).ext (ext1 _ o)
    go_region_held3 (fun w' => w'.cell? ⟨w.heap.size, 0, none⟩ = some (.int .i64 h.kind) ∧ w'.cell? ⟨w.heap.size, 1, none⟩ = some (.int .i64 h.client) ∧ w'.cell? ⟨w.heap.size, 2, none⟩ = some (.int .i64 h.call.kind) ∧ w'.cell? ⟨w.heap.size, 3, none⟩ = some (.string (strOf h.call.path)) ∧ w'.cell? ⟨w.heap.size, 4, none⟩ = some (.string (strOf h.call.to_)) ∧ w'.cell? ⟨w.heap.size, 5, none⟩ = some (.int .i64 h.call.at_) ∧ w'.cell? ⟨w.heap.size, 6, none⟩ = some (.int .i64 h.call.many) ∧ w'.cell? ⟨w.heap.size, 7, none⟩ = some (.int .u64 h.call.key) ∧ w'.cell? ⟨w.heap.size, 8, none⟩ = some (.slice a.A h.call.bytes.length a.ca) ∧ w'.cell? ⟨w.heap.size, 9, none⟩ = some (.int .i64 h.n) ∧ w'.cell? ⟨w.heap.size, 10, none⟩ = some (.slice a.P h.picks.length a.cp)) (first | exact H0 _ | exact H1 | exact H2) (first | (go_at_call 22; refine (r30bare h a _ (hA.ext (hb0 _ _).drew)).mono ?_; rintro e w1 ⟨a', rfl, hr1, hb1⟩; have hb1 := hb1.undrew; have H1 := (H0 _).ext hb1) | (go_at_call 16; refine (r30Same h (bareHap h) a a' _ (hA.ext ((hb0 _ _).trans hb1)) hr1).mono ?_; rintro e w2 ⟨rfl, hb2⟩; have H2 := H1.ext hb2))
    have hb12 := hb1.trans hb2
    have hbw := (hb0 _ _).trans hb12
    obtain ⟨hc, hf⟩ := hb12.cells
    clear H0 H1 H2 hb1 hb2 hb12 hr1 hA hb0
    cases hs : sameHap h (bareHap h)
    all_goals
      have HS := Lib.hid hs
      clear hs
      go_wp2_with (go_at_call 23; refine (r30in _ _ _).mono ?_; rintro e w3 ⟨rfl, rfl⟩)
      all_goals go_ret
      all_goals (try simp only [Bool.not_eq_eq_eq_not, Bool.not_true, Bool.not_false, decide_eq_true_eq, decide_eq_false_iff_not, Bool.and_eq_false_imp] at *)
      all_goals exact ⟨ret_int (by simp [checkHap, hasBytes, HS.out, fits, fitsCall, inB, K.out, *] <;> omega), hbw⟩
  by_cases k3 : h.kind = 3
  · have b1 : (h.kind == 1) = false := by simp [k3]
    have b2 : (h.kind == 2) = false := by simp [k3]
    have b3 : (h.kind == 3) = true := by simp [k3]
    have b4 : (h.kind == 4) = false := by simp [k3]
    have b5 : (h.kind == 5) = false := by simp [k3]
    have K := Lib.hid k3
    clear k1 k2 k3
    go_enter Try.func9, Try.ntmps9
    go_wp2_with fail
    have H0 := fun o => (HapBox.new w h a).ext (ext1 _ o)
    go_region_held3 (fun w' => w'.cell? ⟨w.heap.size, 0, none⟩ = some (.int .i64 h.kind) ∧ w'.cell? ⟨w.heap.size, 1, none⟩ = some (.int .i64 h.client) ∧ w'.cell? ⟨w.heap.size, 2, none⟩ = some (.int .i64 h.call.kind) ∧ w'.cell? ⟨w.heap.size, 3, none⟩ = some (.string (strOf h.call.path)) ∧ w'.cell? ⟨w.heap.size, 4, none⟩ = some (.string (strOf h.call.to_)) ∧ w'.cell? ⟨w.heap.size, 5, none⟩ = some (.int .i64 h.call.at_) ∧ w'.cell? ⟨w.heap.size, 6, none⟩ = some (.int .i64 h.call.many) ∧ w'.cell? ⟨w.heap.size, 7, none⟩ = some (.int .u64 h.call.key) ∧ w'.cell? ⟨w.heap.size, 8, none⟩ = some (.slice a.A h.call.bytes.length a.ca) ∧ w'.cell? ⟨w.heap.size, 9, none⟩ = some (.int .i64 h.n) ∧ w'.cell? ⟨w.heap.size, 10, none⟩ = some (.slice a.P h.picks.length a.cp)) (first | exact H0 _ | exact H1 | exact H2) (first | (go_at_call 22; refine (r30bare h a _ (hA.ext (hb0 _ _).drew)).mono ?_; rintro e w1 ⟨a', rfl, hr1, hb1⟩; have hb1 := hb1.undrew; have H1 := (H0 _).ext hb1) | (go_at_call 16; refine (r30Same h (bareHap h) a a' _ (hA.ext ((hb0 _ _).trans hb1)) hr1).mono ?_; rintro e w2 ⟨rfl, hb2⟩; have H2 := H1.ext hb2))
    have hb12 := hb1.trans hb2
    have hbw := (hb0 _ _).trans hb12
    obtain ⟨hc, hf⟩ := hb12.cells
    clear H0 H1 H2 hb1 hb2 hb12 hr1 hA hb0
    cases hs : sameHap h (bareHap h)
    all_goals
      have HS := Lib.hid hs
      clear hs
      go_wp2_with (go_at_call 23; refine (r30in _ _ _).mono ?_; rintro e w3 ⟨rfl, rfl⟩)
      all_goals go_ret
      all_goals (try simp only [Bool.not_eq_eq_eq_not, Bool.not_true, Bool.not_false, decide_eq_true_eq, decide_eq_false_iff_not, Bool.and_eq_false_imp] at *)
      all_goals exact ⟨ret_int (by simp [checkHap, hasBytes, HS.out, fits, fitsCall, inB, K.out, *] <;> omega), hbw⟩
  by_cases k4 : h.kind = 4
  · have b1 : (h.kind == 1) = false := by simp [k4]
    have b2 : (h.kind == 2) = false := by simp [k4]
    have b3 : (h.kind == 3) = false := by simp [k4]
    have b4 : (h.kind == 4) = true := by simp [k4]
    have b5 : (h.kind == 5) = false := by simp [k4]
    have K := Lib.hid k4
    clear k1 k2 k3 k4
    go_enter Try.func9, Try.ntmps9
    go_wp2_with fail
    have H0 := fun o => (HapBox.new w h a).ext (ext1 _ o)
    go_region_held3 (fun w' => w'.cell? ⟨w.heap.size, 0, none⟩ = some (.int .i64 h.kind) ∧ w'.cell? ⟨w.heap.size, 1, none⟩ = some (.int .i64 h.client) ∧ w'.cell? ⟨w.heap.size, 2, none⟩ = some (.int .i64 h.call.kind) ∧ w'.cell? ⟨w.heap.size, 3, none⟩ = some (.string (strOf h.call.path)) ∧ w'.cell? ⟨w.heap.size, 4, none⟩ = some (.string (strOf h.call.to_)) ∧ w'.cell? ⟨w.heap.size, 5, none⟩ = some (.int .i64 h.call.at_) ∧ w'.cell? ⟨w.heap.size, 6, none⟩ = some (.int .i64 h.call.many) ∧ w'.cell? ⟨w.heap.size, 7, none⟩ = some (.int .u64 h.call.key) ∧ w'.cell? ⟨w.heap.size, 8, none⟩ = some (.slice a.A h.call.bytes.length a.ca) ∧ w'.cell? ⟨w.heap.size, 9, none⟩ = some (.int .i64 h.n) ∧ w'.cell? ⟨w.heap.size, 10, none⟩ = some (.slice a.P h.picks.length a.cp)) (first | exact H0 _ | exact H1 | exact H2) (first | (go_at_call 22; refine (r30bare h a _ (hA.ext (hb0 _ _).drew)).mono ?_; rintro e w1 ⟨a', rfl, hr1, hb1⟩; have hb1 := hb1.undrew; have H1 := (H0 _).ext hb1) | (go_at_call 16; refine (r30Same h (bareHap h) a a' _ (hA.ext ((hb0 _ _).trans hb1)) hr1).mono ?_; rintro e w2 ⟨rfl, hb2⟩; have H2 := H1.ext hb2))
    have hb12 := hb1.trans hb2
    have hbw := (hb0 _ _).trans hb12
    obtain ⟨hc, hf⟩ := hb12.cells
    clear H0 H1 H2 hb1 hb2 hb12 hr1 hA hb0
    cases hs : sameHap h (bareHap h)
    all_goals
      have HS := Lib.hid hs
      clear hs
      go_wp2_with (go_at_call 23; refine (r30in _ _ _).mono ?_; rintro e w3 ⟨rfl, rfl⟩)
      all_goals go_ret
      all_goals (try simp only [Bool.not_eq_eq_eq_not, Bool.not_true, Bool.not_false, decide_eq_true_eq, decide_eq_false_iff_not, Bool.and_eq_false_imp] at *)
      all_goals exact ⟨ret_int (by simp [checkHap, hasBytes, HS.out, fits, fitsCall, inB, K.out, *] <;> omega), hbw⟩
  by_cases k5 : h.kind = 5
  · have b1 : (h.kind == 1) = false := by simp [k5]
    have b2 : (h.kind == 2) = false := by simp [k5]
    have b3 : (h.kind == 3) = false := by simp [k5]
    have b4 : (h.kind == 4) = false := by simp [k5]
    have b5 : (h.kind == 5) = true := by simp [k5]
    have K := Lib.hid k5
    clear k1 k2 k3 k4 k5
    go_enter Try.func9, Try.ntmps9
    go_wp2_with fail
    have H0 := fun o => (HapBox.new w h a).ext (ext1 _ o)
    go_region_held3 (fun w' => w'.cell? ⟨w.heap.size, 0, none⟩ = some (.int .i64 h.kind) ∧ w'.cell? ⟨w.heap.size, 1, none⟩ = some (.int .i64 h.client) ∧ w'.cell? ⟨w.heap.size, 2, none⟩ = some (.int .i64 h.call.kind) ∧ w'.cell? ⟨w.heap.size, 3, none⟩ = some (.string (strOf h.call.path)) ∧ w'.cell? ⟨w.heap.size, 4, none⟩ = some (.string (strOf h.call.to_)) ∧ w'.cell? ⟨w.heap.size, 5, none⟩ = some (.int .i64 h.call.at_) ∧ w'.cell? ⟨w.heap.size, 6, none⟩ = some (.int .i64 h.call.many) ∧ w'.cell? ⟨w.heap.size, 7, none⟩ = some (.int .u64 h.call.key) ∧ w'.cell? ⟨w.heap.size, 8, none⟩ = some (.slice a.A h.call.bytes.length a.ca) ∧ w'.cell? ⟨w.heap.size, 9, none⟩ = some (.int .i64 h.n) ∧ w'.cell? ⟨w.heap.size, 10, none⟩ = some (.slice a.P h.picks.length a.cp)) (first | exact H0 _ | exact H1 | exact H2) (first | (go_at_call 22; refine (r30bare h a _ (hA.ext (hb0 _ _).drew)).mono ?_; rintro e w1 ⟨a', rfl, hr1, hb1⟩; have hb1 := hb1.undrew; have H1 := (H0 _).ext hb1) | (go_at_call 16; refine (r30Same h (bareHap h) a a' _ (hA.ext ((hb0 _ _).trans hb1)) hr1).mono ?_; rintro e w2 ⟨rfl, hb2⟩; have H2 := H1.ext hb2))
    have hb12 := hb1.trans hb2
    have hbw := (hb0 _ _).trans hb12
    obtain ⟨hc, hf⟩ := hb12.cells
    clear H0 H1 H2 hb1 hb2 hb12 hr1 hA hb0
    cases hs : sameHap h (bareHap h)
    all_goals
      have HS := Lib.hid hs
      clear hs
      go_wp2_with (go_at_call 23; refine (r30in _ _ _).mono ?_; rintro e w3 ⟨rfl, rfl⟩)
      all_goals go_ret
      all_goals (try simp only [Bool.not_eq_eq_eq_not, Bool.not_true, Bool.not_false, decide_eq_true_eq, decide_eq_false_iff_not, Bool.and_eq_false_imp] at *)
      all_goals exact ⟨ret_int (by simp [checkHap, hasBytes, HS.out, fits, fitsCall, inB, K.out, *] <;> omega), hbw⟩
  have b1 : (h.kind == 1) = false := by simpa using k1
  have b2 : (h.kind == 2) = false := by simpa using k2
  have b3 : (h.kind == 3) = false := by simpa using k3
  have b4 : (h.kind == 4) = false := by simpa using k4
  have b5 : (h.kind == 5) = false := by simpa using k5
  have K := Lib.hid (And.intro k1 (And.intro k2 (And.intro k3 (And.intro k4 k5))))
  clear k1 k2 k3 k4 k5
  go_enter Try.func9, Try.ntmps9
  go_wp2_with fail
  have H0 := fun o => (HapBox.new w h a).ext (ext1 _ o)
  go_region_held3 (fun w' => w'.cell? ⟨w.heap.size, 0, none⟩ = some (.int .i64 h.kind) ∧ w'.cell? ⟨w.heap.size, 1, none⟩ = some (.int .i64 h.client) ∧ w'.cell? ⟨w.heap.size, 2, none⟩ = some (.int .i64 h.call.kind) ∧ w'.cell? ⟨w.heap.size, 3, none⟩ = some (.string (strOf h.call.path)) ∧ w'.cell? ⟨w.heap.size, 4, none⟩ = some (.string (strOf h.call.to_)) ∧ w'.cell? ⟨w.heap.size, 5, none⟩ = some (.int .i64 h.call.at_) ∧ w'.cell? ⟨w.heap.size, 6, none⟩ = some (.int .i64 h.call.many) ∧ w'.cell? ⟨w.heap.size, 7, none⟩ = some (.int .u64 h.call.key) ∧ w'.cell? ⟨w.heap.size, 8, none⟩ = some (.slice a.A h.call.bytes.length a.ca) ∧ w'.cell? ⟨w.heap.size, 9, none⟩ = some (.int .i64 h.n) ∧ w'.cell? ⟨w.heap.size, 10, none⟩ = some (.slice a.P h.picks.length a.cp)) (first | exact H0 _ | exact H1 | exact H2) (first | (go_at_call 22; refine (r30bare h a _ (hA.ext (hb0 _ _).drew)).mono ?_; rintro e w1 ⟨a', rfl, hr1, hb1⟩; have hb1 := hb1.undrew; have H1 := (H0 _).ext hb1) | (go_at_call 16; refine (r30Same h (bareHap h) a a' _ (hA.ext ((hb0 _ _).trans hb1)) hr1).mono ?_; rintro e w2 ⟨rfl, hb2⟩; have H2 := H1.ext hb2))
  have hb12 := hb1.trans hb2
  have hbw := (hb0 _ _).trans hb12
  obtain ⟨hc, hf⟩ := hb12.cells
  clear H0 H1 H2 hb1 hb2 hb12 hr1 hA hb0
  cases hs : sameHap h (bareHap h)
  all_goals
    have HS := Lib.hid hs
    clear hs
    go_wp2_with (go_at_call 23; refine (r30in _ _ _).mono ?_; rintro e w3 ⟨rfl, rfl⟩)
    all_goals go_ret
    all_goals (try simp only [Bool.not_eq_eq_eq_not, Bool.not_true, Bool.not_false, decide_eq_true_eq, decide_eq_false_iff_not, Bool.and_eq_false_imp] at *)
    all_goals exact ⟨ret_int (by simp [checkHap, hasBytes, HS.out, fits, fitsCall, inB, K.out, *] <;> omega), hbw⟩
end Go.Proofs.Ytffepmoicpphfaa
