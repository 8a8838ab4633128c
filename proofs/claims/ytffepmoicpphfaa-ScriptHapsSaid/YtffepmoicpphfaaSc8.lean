/- script: the closures of words, walked. (Printed by wip/gen/gen_clos.py.) -/
import Derived.Test.YtffepmoicpphfaaSc7
namespace Go.Proofs.Ytffepmoicpphfaa
set_option linter.unusedSimpArgs false
set_option linter.unusedVariables false
open Go.RowKit
variable {Z : Nat}
theorem cell_set_far {w : World} {b o c o' : Nat} {v : Value} (h : c ≠ b) : (w.setCell ⟨b, o, none⟩ v).cell? ⟨c, o', none⟩ = w.cell? ⟨c, o', none⟩ :=
  World.cell?_of_block (a := ⟨c, o', none⟩) (Below.heap_setCell w ⟨b, o, none⟩ v c h)
theorem grown_cell {w w' : World} {X c o : Nat} {u : Value} (hg : w.grownBy w' (some X)) (h : w.cell? ⟨c, o, none⟩ = some u) (hne : c ≠ X) : w'.cell? ⟨c, o, none⟩ = some u :=
  hg.cell h (by intro e; injection e with e; exact hne e)
/-- an order that ends in a panic, told to go_region_with as a region that is done -/
theorem deadEnd {G : Prop} (W : World) (g : G) (_ : wpAny Try.prog .any #[] (fun _ _ _ => True) 0 #[] { tmps := #[], defers := [] } W) : G := g
theorem only_undrew {w w1 : World} {row : Option Nat} (h : w.drew.grownBy w1 row) : w.grownBy w1 row := ⟨h.os, h.tape, h.output, h.size, h.block⟩
theorem Reads.good {α : Type} {w : World} {X : Nat} {s : SA} {l : List UInt8} {p : Rdr × α} {V : World → α → Value → Prop} {e : Ending} {w' : World} (h : Reads Z w X s l p V e w') (hb : p.1.bad = false) : w.grownBy w' (some X) ∧ ∃ v, e = .returned v ∧ V w' p.2 v ∧ TR Z w' X s l p.1 := by
  obtain ⟨hg, (⟨_, v, h1, h2, h3⟩ | ⟨h1, _⟩)⟩ := h
  · exact ⟨hg, v, h1, h2, h3⟩
  · rw [hb] at h1; cases h1
theorem Reads.poor {α : Type} {w : World} {X : Nat} {s : SA} {l : List UInt8} {p : Rdr × α} {V : World → α → Value → Prop} {e : Ending} {w' : World} (h : Reads Z w X s l p V e w') (hb : p.1.bad = true) : w.grownBy w' (some X) ∧ e = .panicked errHap := by
  obtain ⟨hg, (⟨h1, _⟩ | ⟨_, h2⟩)⟩ := h
  · rw [hb] at h1; cases h1
  · exact ⟨hg, h2⟩
theorem SetsBox.poor {α : Type} {w : World} {X : Nat} {s : SA} {l : List UInt8} {b o : Nat} {p : Rdr × α} {V : World → α → Value → Prop} {w' : World} (hg : w.grownBy w' (some X)) (hb : p.1.bad = true) : SetsBox Z w X s l b o p V (.panicked errHap) w' := ⟨w', hg, .inr ⟨hb, rfl, rfl⟩⟩
set_option maxRecDepth 100000 in
set_option maxHeartbeats 1000000 in
theorem words1_37 (mod c1 c2 : Nat) (h : HapC) (a : HapA) (w : World) (f1 : w.cell? ⟨c1, 0, none⟩ = some (.func (.func 37) #[] #[])) (f2 : w.cell? ⟨c2, 0, none⟩ = some (.int .i64 mod)) :
    Calls Try.prog 64 #[hapV h a, .pointer (some ⟨c1, 0, none⟩), .pointer (some ⟨c2, 0, none⟩)] w fun e w' => e = .returned (.bool (decide (h.call.path.length < mod))) ∧ Ext w w' := by
  have f3 : (w.alloc (hapObj h a)).cell? ⟨w.heap.size, 3, none⟩ = some (.string (strOf h.call.path)) := by simp [go_sem]
  have e1 := (ext1 w (hapObj h a)).cell f1
  have e2 := (ext1 w (hapObj h a)).cell f2
  have HX := Lib.hid (ext1 w (hapObj h a))
  have HK := Lib.hid (And.intro e1 (And.intro e2 f3))
  have hz := strOf_size h.call.path
  go_enter Try.func64, Try.ntmps64
  go_wp2_with fail
  go_region_held3 (fun w' => w'.cell? ⟨c1, 0, none⟩ = some (.func (.func 37) #[] #[]) ∧ w'.cell? ⟨c2, 0, none⟩ = some (.int .i64 mod) ∧ w'.cell? ⟨w.heap.size, 3, none⟩ = some (.string (strOf h.call.path))) (first | exact HK.out) (first | (go_at_call 37; (with_reducible refine (kinds4 _ _).mono ?_); rintro e w1 ⟨rfl, rfl⟩))
  all_goals go_wp2
  all_goals refine bodyPost_ret (v := .bool (decide (h.call.path.length < mod))) (by simp [results, Try.results64, go_sem, strOf_size]) rfl ⟨rfl, HX.out.drew⟩
set_option maxRecDepth 100000 in
set_option maxHeartbeats 1000000 in
theorem words2_37 (v : Value) (l : List UInt8) (base c1 : Nat) (h : HapC) (a : HapA) (w : World) (ho : OB w base v l) (hb : base ≤ w.heap.size) (hl : l.length ≤ 1048576) (hm : h.call.path.length ≤ 1048576) (f1 : w.cell? ⟨c1, 0, none⟩ = some (.func (.func 37) #[] #[])) :
    Calls Try.prog 65 #[v, hapV h a, .pointer (some ⟨c1, 0, none⟩)] w (GrowsB w base v (l ++ UInt8.ofNat h.call.path.length :: h.call.path)) := by
  have f3 : (w.alloc (hapObj h a)).cell? ⟨w.heap.size, 3, none⟩ = some (.string (strOf h.call.path)) := by simp [go_sem]
  have e1 := (ext1 w (hapObj h a)).cell f1
  have HX := Lib.hid (ext1 w (hapObj h a))
  have hz := 0
  go_enter Try.func65, Try.ntmps65
  go_wp2_with (first | (go_at_call 37; (with_reducible refine (kinds4 _ _).mono ?_); rintro e w1 ⟨rfl, rfl⟩) | (go_at_call 66; (with_reducible refine (textStr _ l h.call.path base _ (ho.ext HX.out) (Nat.le_trans hb HX.out.size) hm hl).mono ?_); intro e w1 H1; have H2 := H1.under ho HX.out; clear H1; obtain ⟨v1, rfl, ho1, hg1, hat1⟩ := H2))
  exact bodyPost_ret (v := v1) (by simp [results, Try.results65, go_sem]) rfl ⟨v1, rfl, ho1, hg1, hat1⟩
set_option maxRecDepth 100000 in
set_option maxHeartbeats 1000000 in
theorem words3_37 (X b mod c1 c2 : Nat) (s : SA) (l : List UInt8) (r : Rdr) (w : World) (ht : TR Z w X s l r) (hl : l.length ≤ 1048576) (hm0 : 0 < mod) (hm : mod ≤ 256) (f1 : w.cell? ⟨c1, 0, none⟩ = some (.func (.func 37) #[] #[])) (f2 : w.cell? ⟨c2, 0, none⟩ = some (.int .i64 mod)) (hc : Cellar w b 3) (hne : b ≠ X) (n1 : c1 ≠ X) (n2 : c2 ≠ X) (m1 : c1 ≠ b) (m2 : c2 ≠ b) :
    Calls Try.prog 67 #[.pointer (some ⟨X, 0, none⟩), .pointer (some ⟨b, 0, none⟩), .pointer (some ⟨c2, 0, none⟩), .pointer (some ⟨c1, 0, none⟩)] w (SetsBox Z w X s l b 3 (textR r mod) fun _ t v => v = .string (strOf t)) := by
  have hcon := fun W (hW : TR Z W X s l r) => tapeTexts X s l r mod W hW hl hm0 hm
  generalize textR r mod = p at *
  obtain ⟨r1, bs⟩ := p
  have HP := Lib.hid hcon
  clear hcon
  have HK := Lib.hid (And.intro f1 f2)
  have HT0 := Lib.hid (ht.ext (Ext.refl _).drew)
  by_cases hbad : r1.bad = false
  · go_enter Try.func67, Try.ntmps67
    go_wp2_with fail
    go_region_with (first | (go_at_call 37; (with_reducible refine (kinds4 _ _).mono ?_); rintro e w1 ⟨rfl, rfl⟩) | (go_at_call 68; (with_reducible refine (HP.out _ HT0.out).mono ?_); intro e w1 H1; obtain ⟨hg1, v2, rfl, ⟨t2, k2, rfl, hk2, htb⟩, ht1⟩ := Reads.good H1 hbad; clear H1; have hg1 := only_undrew hg1; have e1 := grown_cell hg1 f1 n1; have e2 := grown_cell hg1 f2 n2; have HK2 := Lib.hid (And.intro e1 e2); have HK3 := Lib.hid (fun u => And.intro ((cell_set_far (v := u) (o := 3) m1).trans e1) ((cell_set_far (v := u) (o := 3) m2).trans e2)); obtain ⟨⟨u0, hu0⟩, hf0⟩ := hc.grown hg1 hne; have cst := RB_str (P := Try.prog) htb 31 5 Try.underlying31 Try.underlying5 bs.length k2 rfl 9 Try.underlying9; have HG : Hid (w.grownBy w1 (some X)) := Lib.hid hg1; have HT := Lib.hid ht1; clear hg1 ht1))
    all_goals go_wp2
    all_goals go_end0
    all_goals exact ⟨_, HG.out, .inl ⟨hbad, rfl, _, rfl, HT.out, rfl⟩⟩
  · have hbad : r1.bad = true := by simpa using hbad
    go_enter Try.func67, Try.ntmps67
    go_wp2_with fail
    go_region_with (first | (go_at_call 37; (with_reducible refine (kinds4 _ _).mono ?_); rintro e w1 ⟨rfl, rfl⟩) | (go_at_call 68; (with_reducible refine (HP.out _ HT0.out).mono ?_); intro e w1 H1; obtain ⟨hg1, rfl⟩ := Reads.poor H1 hbad; refine deadEnd w ⟨rfl, SetsBox.poor (only_undrew hg1) hbad⟩ ?_))
    all_goals trivial
set_option maxRecDepth 100000 in
set_option maxHeartbeats 1000000 in
theorem words1_38 (mod c1 c2 : Nat) (h : HapC) (a : HapA) (w : World) (f1 : w.cell? ⟨c1, 0, none⟩ = some (.func (.func 38) #[] #[])) (f2 : w.cell? ⟨c2, 0, none⟩ = some (.int .i64 mod)) :
    Calls Try.prog 64 #[hapV h a, .pointer (some ⟨c1, 0, none⟩), .pointer (some ⟨c2, 0, none⟩)] w fun e w' => e = .returned (.bool (decide (h.call.to_.length < mod))) ∧ Ext w w' := by
  have f3 : (w.alloc (hapObj h a)).cell? ⟨w.heap.size, 4, none⟩ = some (.string (strOf h.call.to_)) := by simp [go_sem]
  have e1 := (ext1 w (hapObj h a)).cell f1
  have e2 := (ext1 w (hapObj h a)).cell f2
  have HX := Lib.hid (ext1 w (hapObj h a))
  have HK := Lib.hid (And.intro e1 (And.intro e2 f3))
  have hz := strOf_size h.call.to_
  go_enter Try.func64, Try.ntmps64
  go_wp2_with fail
  go_region_held3 (fun w' => w'.cell? ⟨c1, 0, none⟩ = some (.func (.func 38) #[] #[]) ∧ w'.cell? ⟨c2, 0, none⟩ = some (.int .i64 mod) ∧ w'.cell? ⟨w.heap.size, 4, none⟩ = some (.string (strOf h.call.to_))) (first | exact HK.out) (first | (go_at_call 38; (with_reducible refine (kinds5 _ _).mono ?_); rintro e w1 ⟨rfl, rfl⟩))
  all_goals go_wp2
  all_goals refine bodyPost_ret (v := .bool (decide (h.call.to_.length < mod))) (by simp [results, Try.results64, go_sem, strOf_size]) rfl ⟨rfl, HX.out.drew⟩
set_option maxRecDepth 100000 in
set_option maxHeartbeats 1000000 in
theorem words2_38 (v : Value) (l : List UInt8) (base c1 : Nat) (h : HapC) (a : HapA) (w : World) (ho : OB w base v l) (hb : base ≤ w.heap.size) (hl : l.length ≤ 1048576) (hm : h.call.to_.length ≤ 1048576) (f1 : w.cell? ⟨c1, 0, none⟩ = some (.func (.func 38) #[] #[])) :
    Calls Try.prog 65 #[v, hapV h a, .pointer (some ⟨c1, 0, none⟩)] w (GrowsB w base v (l ++ UInt8.ofNat h.call.to_.length :: h.call.to_)) := by
  have f3 : (w.alloc (hapObj h a)).cell? ⟨w.heap.size, 4, none⟩ = some (.string (strOf h.call.to_)) := by simp [go_sem]
  have e1 := (ext1 w (hapObj h a)).cell f1
  have HX := Lib.hid (ext1 w (hapObj h a))
  have hz := 0
  go_enter Try.func65, Try.ntmps65
  go_wp2_with (first | (go_at_call 38; (with_reducible refine (kinds5 _ _).mono ?_); rintro e w1 ⟨rfl, rfl⟩) | (go_at_call 66; (with_reducible refine (textStr _ l h.call.to_ base _ (ho.ext HX.out) (Nat.le_trans hb HX.out.size) hm hl).mono ?_); intro e w1 H1; have H2 := H1.under ho HX.out; clear H1; obtain ⟨v1, rfl, ho1, hg1, hat1⟩ := H2))
  exact bodyPost_ret (v := v1) (by simp [results, Try.results65, go_sem]) rfl ⟨v1, rfl, ho1, hg1, hat1⟩
set_option maxRecDepth 100000 in
set_option maxHeartbeats 1000000 in
theorem words3_38 (X b mod c1 c2 : Nat) (s : SA) (l : List UInt8) (r : Rdr) (w : World) (ht : TR Z w X s l r) (hl : l.length ≤ 1048576) (hm0 : 0 < mod) (hm : mod ≤ 256) (f1 : w.cell? ⟨c1, 0, none⟩ = some (.func (.func 38) #[] #[])) (f2 : w.cell? ⟨c2, 0, none⟩ = some (.int .i64 mod)) (hc : Cellar w b 4) (hne : b ≠ X) (n1 : c1 ≠ X) (n2 : c2 ≠ X) (m1 : c1 ≠ b) (m2 : c2 ≠ b) :
    Calls Try.prog 67 #[.pointer (some ⟨X, 0, none⟩), .pointer (some ⟨b, 0, none⟩), .pointer (some ⟨c2, 0, none⟩), .pointer (some ⟨c1, 0, none⟩)] w (SetsBox Z w X s l b 4 (textR r mod) fun _ t v => v = .string (strOf t)) := by
  have hcon := fun W (hW : TR Z W X s l r) => tapeTexts X s l r mod W hW hl hm0 hm
  generalize textR r mod = p at *
  obtain ⟨r1, bs⟩ := p
  have HP := Lib.hid hcon
  clear hcon
  have HK := Lib.hid (And.intro f1 f2)
  have HT0 := Lib.hid (ht.ext (Ext.refl _).drew)
  by_cases hbad : r1.bad = false
  · go_enter Try.func67, Try.ntmps67
    go_wp2_with fail
    go_region_with (first | (go_at_call 38; (with_reducible refine (kinds5 _ _).mono ?_); rintro e w1 ⟨rfl, rfl⟩) | (go_at_call 68; (with_reducible refine (HP.out _ HT0.out).mono ?_); intro e w1 H1; obtain ⟨hg1, v2, rfl, ⟨t2, k2, rfl, hk2, htb⟩, ht1⟩ := Reads.good H1 hbad; clear H1; have hg1 := only_undrew hg1; have e1 := grown_cell hg1 f1 n1; have e2 := grown_cell hg1 f2 n2; have HK2 := Lib.hid (And.intro e1 e2); have HK3 := Lib.hid (fun u => And.intro ((cell_set_far (v := u) (o := 4) m1).trans e1) ((cell_set_far (v := u) (o := 4) m2).trans e2)); obtain ⟨⟨u0, hu0⟩, hf0⟩ := hc.grown hg1 hne; have cst := RB_str (P := Try.prog) htb 31 5 Try.underlying31 Try.underlying5 bs.length k2 rfl 9 Try.underlying9; have HG : Hid (w.grownBy w1 (some X)) := Lib.hid hg1; have HT := Lib.hid ht1; clear hg1 ht1))
    all_goals go_wp2
    all_goals go_end0
    all_goals exact ⟨_, HG.out, .inl ⟨hbad, rfl, _, rfl, HT.out, rfl⟩⟩
  · have hbad : r1.bad = true := by simpa using hbad
    go_enter Try.func67, Try.ntmps67
    go_wp2_with fail
    go_region_with (first | (go_at_call 38; (with_reducible refine (kinds5 _ _).mono ?_); rintro e w1 ⟨rfl, rfl⟩) | (go_at_call 68; (with_reducible refine (HP.out _ HT0.out).mono ?_); intro e w1 H1; obtain ⟨hg1, rfl⟩ := Reads.poor H1 hbad; refine deadEnd w ⟨rfl, SetsBox.poor (only_undrew hg1) hbad⟩ ?_))
    all_goals trivial
end Go.Proofs.Ytffepmoicpphfaa
