/- script: the closures of number, walked. (Printed by wip/gen/gen_clos.py.) -/
import Derived.Test.YtffepmoicpphfaaSc8
namespace Go.Proofs.Ytffepmoicpphfaa
set_option linter.unusedSimpArgs false
set_option linter.unusedVariables false
open Go.RowKit
variable {Z : Nat}
theorem numR2_lt (r : Rdr) (many : Nat) (h : many ≤ 2) : (numR r many).2 < 65536 := by
  have := leNum_lt (takeR r many).2
  rw [takeR_len] at this
  exact Nat.lt_of_lt_of_le (by simpa [numR] using this) (Nat.pow_le_pow_right (n := 256) (by omega) h)
set_option maxRecDepth 100000 in
set_option maxHeartbeats 1000000 in
theorem number1_40 (c1 c2 c3 : Nat) (least most : Int) (h : HapC) (a : HapA) (w : World) (f1 : w.cell? ⟨c1, 0, none⟩ = some (.func (.func 40) #[] #[])) (f2 : w.cell? ⟨c2, 0, none⟩ = some (.int .i64 least)) (f3 : w.cell? ⟨c3, 0, none⟩ = some (.int .i64 most)) :
    Calls Try.prog 69 #[hapV h a, .pointer (some ⟨c1, 0, none⟩), .pointer (some ⟨c2, 0, none⟩), .pointer (some ⟨c3, 0, none⟩)] w fun e w' => e = .returned (.bool (decide (least ≤ h.call.at_) && decide (h.call.at_ ≤ most))) ∧ Ext w w' := by
  have f4 : (w.alloc (hapObj h a)).cell? ⟨w.heap.size, 5, none⟩ = some (.int .i64 h.call.at_) := by simp [go_sem]
  have e1 := (ext1 w (hapObj h a)).cell f1
  have e2 := (ext1 w (hapObj h a)).cell f2
  have e3 := (ext1 w (hapObj h a)).cell f3
  have HX := Lib.hid (ext1 w (hapObj h a))
  have HK := Lib.hid (And.intro e1 (And.intro e2 (And.intro e3 f4)))
  go_enter Try.func69, Try.ntmps69
  go_wp2_with fail
  go_region_held3 (fun w' => w'.cell? ⟨c1, 0, none⟩ = some (.func (.func 40) #[] #[]) ∧ w'.cell? ⟨c2, 0, none⟩ = some (.int .i64 least) ∧ w'.cell? ⟨c3, 0, none⟩ = some (.int .i64 most) ∧ w'.cell? ⟨w.heap.size, 5, none⟩ = some (.int .i64 h.call.at_)) (first | exact HK.out) (first | (go_at_call 40; (with_reducible refine (kinds6 _ _).mono ?_); rintro e w1 ⟨rfl, rfl⟩) | (go_at_call 32; (with_reducible refine (scIn _ _ _ _).mono ?_); rintro e w1 ⟨rfl, rfl⟩))
  all_goals go_wp2
  all_goals exact bodyPost_ret (v := .bool (decide (least ≤ h.call.at_) && decide (h.call.at_ ≤ most))) (by simp [results, Try.results69, go_sem]) rfl ⟨rfl, HX.out.drew⟩
set_option maxRecDepth 100000 in
set_option maxHeartbeats 1000000 in
theorem number2_40 (v : Value) (l : List UInt8) (base c1 c2 c3 many least n : Nat) (h : HapC) (a : HapA) (w : World) (ho : OB w base v l) (hb : base ≤ w.heap.size) (hl : l.length ≤ 1048576) (hmy : many ≤ 64) (hls : least ≤ 1) (hn : n < 1048576) (hh : h.call.at_ = ((least + n : Nat) : Int)) (f1 : w.cell? ⟨c1, 0, none⟩ = some (.func (.func 40) #[] #[])) (f2 : w.cell? ⟨c2, 0, none⟩ = some (.int .i64 least)) (f3 : w.cell? ⟨c3, 0, none⟩ = some (.int .i64 many)) (n1 : some c1 ≠ v.ownBlock) (n2 : some c2 ≠ v.ownBlock) (n3 : some c3 ≠ v.ownBlock) :
    Calls Try.prog 70 #[v, hapV h a, .pointer (some ⟨c1, 0, none⟩), .pointer (some ⟨c2, 0, none⟩), .pointer (some ⟨c3, 0, none⟩)] w (GrowsB w base v (l ++ lowB n many)) := by
  have f4 : (w.alloc (hapObj h a)).cell? ⟨w.heap.size, 5, none⟩ = some (.int .i64 h.call.at_) := by simp [go_sem]
  have e1 := (ext1 w (hapObj h a)).cell f1
  have e2 := (ext1 w (hapObj h a)).cell f2
  have e3 := (ext1 w (hapObj h a)).cell f3
  have HX := Lib.hid (ext1 w (hapObj h a))
  have HK := Lib.hid (And.intro e1 (And.intro e2 (And.intro e3 f4)))
  have hwr : IntKind.i64.wrap (h.call.at_ - (least : Int)) = (n : Int) := by rw [hh, show ((least + n : Nat) : Int) - (least : Int) = (n : Int) by omega]; exact IntWalk.i64_in _ (by omega)
  have HH := Lib.hid hh
  have n4 : some w.heap.size ≠ v.ownBlock := fun e => by have := (World.ownsRow.lt ho _ e.symm).2; omega
  clear hh
  go_enter Try.func70, Try.ntmps70
  go_wp2_with fail
  go_region_held3 (fun w' => w'.cell? ⟨c1, 0, none⟩ = some (.func (.func 40) #[] #[]) ∧ w'.cell? ⟨c2, 0, none⟩ = some (.int .i64 least) ∧ w'.cell? ⟨c3, 0, none⟩ = some (.int .i64 many) ∧ w'.cell? ⟨w.heap.size, 5, none⟩ = some (.int .i64 h.call.at_)) (first | exact HK.out | with_reducible exact HK2.out) (first | (go_at_call 40; (with_reducible refine (kinds6 _ _).mono ?_); rintro e w1 ⟨rfl, rfl⟩) | (go_at_call 24; (with_reducible refine (lowInt _ l base n many _ (ho.ext HX.out.drew) (Nat.le_trans hb (Ext.size HX.out.drew)) (by omega) hmy hl).mono ?_); intro e w1 H1; have H2 := H1.under ho HX.out.drew; obtain ⟨_, _, _, hgA, _⟩ := H1; have HK2 := Lib.hid (And.intro (World.grownBy.cell hgA (show World.cell? (World.drew _) _ = _ from e1) n1) (And.intro (World.grownBy.cell hgA (show World.cell? (World.drew _) _ = _ from e2) n2) (And.intro (World.grownBy.cell hgA (show World.cell? (World.drew _) _ = _ from e3) n3) (World.grownBy.cell hgA (show World.cell? (World.drew _) _ = _ from f4) n4)))); clear hgA; obtain ⟨v1, rfl, ho1, hg1, hat1⟩ := H2))
  all_goals go_wp2
  all_goals exact bodyPost_ret (v := v1) (by simp [results, Try.results70, go_sem]) rfl ⟨v1, rfl, ho1, hg1, hat1⟩
set_option maxRecDepth 100000 in
set_option maxHeartbeats 1000000 in
theorem number1_41 (c1 c2 c3 : Nat) (least most : Int) (h : HapC) (a : HapA) (w : World) (f1 : w.cell? ⟨c1, 0, none⟩ = some (.func (.func 41) #[] #[])) (f2 : w.cell? ⟨c2, 0, none⟩ = some (.int .i64 least)) (f3 : w.cell? ⟨c3, 0, none⟩ = some (.int .i64 most)) :
    Calls Try.prog 69 #[hapV h a, .pointer (some ⟨c1, 0, none⟩), .pointer (some ⟨c2, 0, none⟩), .pointer (some ⟨c3, 0, none⟩)] w fun e w' => e = .returned (.bool (decide (least ≤ h.call.many) && decide (h.call.many ≤ most))) ∧ Ext w w' := by
  have f4 : (w.alloc (hapObj h a)).cell? ⟨w.heap.size, 6, none⟩ = some (.int .i64 h.call.many) := by simp [go_sem]
  have e1 := (ext1 w (hapObj h a)).cell f1
  have e2 := (ext1 w (hapObj h a)).cell f2
  have e3 := (ext1 w (hapObj h a)).cell f3
  have HX := Lib.hid (ext1 w (hapObj h a))
  have HK := Lib.hid (And.intro e1 (And.intro e2 (And.intro e3 f4)))
  go_enter Try.func69, Try.ntmps69
  go_wp2_with fail
  go_region_held3 (fun w' => w'.cell? ⟨c1, 0, none⟩ = some (.func (.func 41) #[] #[]) ∧ w'.cell? ⟨c2, 0, none⟩ = some (.int .i64 least) ∧ w'.cell? ⟨c3, 0, none⟩ = some (.int .i64 most) ∧ w'.cell? ⟨w.heap.size, 6, none⟩ = some (.int .i64 h.call.many)) (first | exact HK.out) (first | (go_at_call 41; (with_reducible refine (kinds7 _ _).mono ?_); rintro e w1 ⟨rfl, rfl⟩) | (go_at_call 32; (with_reducible refine (scIn _ _ _ _).mono ?_); rintro e w1 ⟨rfl, rfl⟩))
  all_goals go_wp2
  all_goals exact bodyPost_ret (v := .bool (decide (least ≤ h.call.many) && decide (h.call.many ≤ most))) (by simp [results, Try.results69, go_sem]) rfl ⟨rfl, HX.out.drew⟩
set_option maxRecDepth 100000 in
set_option maxHeartbeats 1000000 in
theorem number2_41 (v : Value) (l : List UInt8) (base c1 c2 c3 many least n : Nat) (h : HapC) (a : HapA) (w : World) (ho : OB w base v l) (hb : base ≤ w.heap.size) (hl : l.length ≤ 1048576) (hmy : many ≤ 64) (hls : least ≤ 1) (hn : n < 1048576) (hh : h.call.many = ((least + n : Nat) : Int)) (f1 : w.cell? ⟨c1, 0, none⟩ = some (.func (.func 41) #[] #[])) (f2 : w.cell? ⟨c2, 0, none⟩ = some (.int .i64 least)) (f3 : w.cell? ⟨c3, 0, none⟩ = some (.int .i64 many)) (n1 : some c1 ≠ v.ownBlock) (n2 : some c2 ≠ v.ownBlock) (n3 : some c3 ≠ v.ownBlock) :
    Calls Try.prog 70 #[v, hapV h a, .pointer (some ⟨c1, 0, none⟩), .pointer (some ⟨c2, 0, none⟩), .pointer (some ⟨c3, 0, none⟩)] w (GrowsB w base v (l ++ lowB n many)) := by
  have f4 : (w.alloc (hapObj h a)).cell? ⟨w.heap.size, 6, none⟩ = some (.int .i64 h.call.many) := by simp [go_sem]
  have e1 := (ext1 w (hapObj h a)).cell f1
  have e2 := (ext1 w (hapObj h a)).cell f2
  have e3 := (ext1 w (hapObj h a)).cell f3
  have HX := Lib.hid (ext1 w (hapObj h a))
  have HK := Lib.hid (And.intro e1 (And.intro e2 (And.intro e3 f4)))
  have hwr : IntKind.i64.wrap (h.call.many - (least : Int)) = (n : Int) := by rw [hh, show ((least + n : Nat) : Int) - (least : Int) = (n : Int) by omega]; exact IntWalk.i64_in _ (by omega)
  have HH := Lib.hid hh
  have n4 : some w.heap.size ≠ v.ownBlock := fun e => by have := (World.ownsRow.lt ho _ e.symm).2; omega
  clear hh
  go_enter Try.func70, Try.ntmps70
  go_wp2_with fail
  go_region_held3 (fun w' => w'.cell? ⟨c1, 0, none⟩ = some (.func (.func 41) #[] #[]) ∧ w'.cell? ⟨c2, 0, none⟩ = some (.int .i64 least) ∧ w'.cell? ⟨c3, 0, none⟩ = some (.int .i64 many) ∧ w'.cell? ⟨w.heap.size, 6, none⟩ = some (.int .i64 h.call.many)) (first | exact HK.out | with_reducible exact HK2.out) (first | (go_at_call 41; (with_reducible refine (kinds7 _ _).mono ?_); rintro e w1 ⟨rfl, rfl⟩) | (go_at_call 24; (with_reducible refine (lowInt _ l base n many _ (ho.ext HX.out.drew) (Nat.le_trans hb (Ext.size HX.out.drew)) (by omega) hmy hl).mono ?_); intro e w1 H1; have H2 := H1.under ho HX.out.drew; obtain ⟨_, _, _, hgA, _⟩ := H1; have HK2 := Lib.hid (And.intro (World.grownBy.cell hgA (show World.cell? (World.drew _) _ = _ from e1) n1) (And.intro (World.grownBy.cell hgA (show World.cell? (World.drew _) _ = _ from e2) n2) (And.intro (World.grownBy.cell hgA (show World.cell? (World.drew _) _ = _ from e3) n3) (World.grownBy.cell hgA (show World.cell? (World.drew _) _ = _ from f4) n4)))); clear hgA; obtain ⟨v1, rfl, ho1, hg1, hat1⟩ := H2))
  all_goals go_wp2
  all_goals exact bodyPost_ret (v := v1) (by simp [results, Try.results70, go_sem]) rfl ⟨v1, rfl, ho1, hg1, hat1⟩
set_option maxRecDepth 100000 in
set_option maxHeartbeats 1000000 in
theorem number1_48 (c1 c2 c3 : Nat) (least most : Int) (h : HapC) (a : HapA) (w : World) (f1 : w.cell? ⟨c1, 0, none⟩ = some (.func (.func 48) #[] #[])) (f2 : w.cell? ⟨c2, 0, none⟩ = some (.int .i64 least)) (f3 : w.cell? ⟨c3, 0, none⟩ = some (.int .i64 most)) :
    Calls Try.prog 69 #[hapV h a, .pointer (some ⟨c1, 0, none⟩), .pointer (some ⟨c2, 0, none⟩), .pointer (some ⟨c3, 0, none⟩)] w fun e w' => e = .returned (.bool (decide (least ≤ h.n) && decide (h.n ≤ most))) ∧ Ext w w' := by
  have f4 : (w.alloc (hapObj h a)).cell? ⟨w.heap.size, 9, none⟩ = some (.int .i64 h.n) := by simp [go_sem]
  have e1 := (ext1 w (hapObj h a)).cell f1
  have e2 := (ext1 w (hapObj h a)).cell f2
  have e3 := (ext1 w (hapObj h a)).cell f3
  have HX := Lib.hid (ext1 w (hapObj h a))
  have HK := Lib.hid (And.intro e1 (And.intro e2 (And.intro e3 f4)))
  go_enter Try.func69, Try.ntmps69
  go_wp2_with fail
  go_region_held3 (fun w' => w'.cell? ⟨c1, 0, none⟩ = some (.func (.func 48) #[] #[]) ∧ w'.cell? ⟨c2, 0, none⟩ = some (.int .i64 least) ∧ w'.cell? ⟨c3, 0, none⟩ = some (.int .i64 most) ∧ w'.cell? ⟨w.heap.size, 9, none⟩ = some (.int .i64 h.n)) (first | exact HK.out) (first | (go_at_call 48; (with_reducible refine (kinds12 _ _).mono ?_); rintro e w1 ⟨rfl, rfl⟩) | (go_at_call 32; (with_reducible refine (scIn _ _ _ _).mono ?_); rintro e w1 ⟨rfl, rfl⟩))
  all_goals go_wp2
  all_goals exact bodyPost_ret (v := .bool (decide (least ≤ h.n) && decide (h.n ≤ most))) (by simp [results, Try.results69, go_sem]) rfl ⟨rfl, HX.out.drew⟩
set_option maxRecDepth 100000 in
set_option maxHeartbeats 1000000 in
theorem number2_48 (v : Value) (l : List UInt8) (base c1 c2 c3 many least n : Nat) (h : HapC) (a : HapA) (w : World) (ho : OB w base v l) (hb : base ≤ w.heap.size) (hl : l.length ≤ 1048576) (hmy : many ≤ 64) (hls : least ≤ 1) (hn : n < 1048576) (hh : h.n = ((least + n : Nat) : Int)) (f1 : w.cell? ⟨c1, 0, none⟩ = some (.func (.func 48) #[] #[])) (f2 : w.cell? ⟨c2, 0, none⟩ = some (.int .i64 least)) (f3 : w.cell? ⟨c3, 0, none⟩ = some (.int .i64 many)) (n1 : some c1 ≠ v.ownBlock) (n2 : some c2 ≠ v.ownBlock) (n3 : some c3 ≠ v.ownBlock) :
    Calls Try.prog 70 #[v, hapV h a, .pointer (some ⟨c1, 0, none⟩), .pointer (some ⟨c2, 0, none⟩), .pointer (some ⟨c3, 0, none⟩)] w (GrowsB w base v (l ++ lowB n many)) := by
  have f4 : (w.alloc (hapObj h a)).cell? ⟨w.heap.size, 9, none⟩ = some (.int .i64 h.n) := by simp [go_sem]
  have e1 := (ext1 w (hapObj h a)).cell f1
  have e2 := (ext1 w (hapObj h a)).cell f2
  have e3 := (ext1 w (hapObj h a)).cell f3
  have HX := Lib.hid (ext1 w (hapObj h a))
  have HK := Lib.hid (And.intro e1 (And.intro e2 (And.intro e3 f4)))
  have hwr : IntKind.i64.wrap (h.n - (least : Int)) = (n : Int) := by rw [hh, show ((least + n : Nat) : Int) - (least : Int) = (n : Int) by omega]; exact IntWalk.i64_in _ (by omega)
  have HH := Lib.hid hh
  have n4 : some w.heap.size ≠ v.ownBlock := fun e => by have := (World.ownsRow.lt ho _ e.symm).2; omega
  clear hh
  go_enter Try.func70, Try.ntmps70
  go_wp2_with fail
  go_region_held3 (fun w' => w'.cell? ⟨c1, 0, none⟩ = some (.func (.func 48) #[] #[]) ∧ w'.cell? ⟨c2, 0, none⟩ = some (.int .i64 least) ∧ w'.cell? ⟨c3, 0, none⟩ = some (.int .i64 many) ∧ w'.cell? ⟨w.heap.size, 9, none⟩ = some (.int .i64 h.n)) (first | exact HK.out | with_reducible exact HK2.out) (first | (go_at_call 48; (with_reducible refine (kinds12 _ _).mono ?_); rintro e w1 ⟨rfl, rfl⟩) | (go_at_call 24; (with_reducible refine (lowInt _ l base n many _ (ho.ext HX.out.drew) (Nat.le_trans hb (Ext.size HX.out.drew)) (by omega) hmy hl).mono ?_); intro e w1 H1; have H2 := H1.under ho HX.out.drew; obtain ⟨_, _, _, hgA, _⟩ := H1; have HK2 := Lib.hid (And.intro (World.grownBy.cell hgA (show World.cell? (World.drew _) _ = _ from e1) n1) (And.intro (World.grownBy.cell hgA (show World.cell? (World.drew _) _ = _ from e2) n2) (And.intro (World.grownBy.cell hgA (show World.cell? (World.drew _) _ = _ from e3) n3) (World.grownBy.cell hgA (show World.cell? (World.drew _) _ = _ from f4) n4)))); clear hgA; obtain ⟨v1, rfl, ho1, hg1, hat1⟩ := H2))
  all_goals go_wp2
  all_goals exact bodyPost_ret (v := v1) (by simp [results, Try.results70, go_sem]) rfl ⟨v1, rfl, ho1, hg1, hat1⟩
set_option maxRecDepth 100000 in
set_option maxHeartbeats 1000000 in
theorem number1_50 (c1 c2 c3 : Nat) (least most : Int) (h : HapC) (a : HapA) (w : World) (f1 : w.cell? ⟨c1, 0, none⟩ = some (.func (.func 50) #[] #[])) (f2 : w.cell? ⟨c2, 0, none⟩ = some (.int .i64 least)) (f3 : w.cell? ⟨c3, 0, none⟩ = some (.int .i64 most)) :
    Calls Try.prog 69 #[hapV h a, .pointer (some ⟨c1, 0, none⟩), .pointer (some ⟨c2, 0, none⟩), .pointer (some ⟨c3, 0, none⟩)] w fun e w' => e = .returned (.bool (decide (least ≤ h.n) && decide (h.n ≤ most))) ∧ Ext w w' := by
  have f4 : (w.alloc (hapObj h a)).cell? ⟨w.heap.size, 9, none⟩ = some (.int .i64 h.n) := by simp [go_sem]
  have e1 := (ext1 w (hapObj h a)).cell f1
  have e2 := (ext1 w (hapObj h a)).cell f2
  have e3 := (ext1 w (hapObj h a)).cell f3
  have HX := Lib.hid (ext1 w (hapObj h a))
  have HK := Lib.hid (And.intro e1 (And.intro e2 (And.intro e3 f4)))
  go_enter Try.func69, Try.ntmps69
  go_wp2_with fail
  go_region_held3 (fun w' => w'.cell? ⟨c1, 0, none⟩ = some (.func (.func 50) #[] #[]) ∧ w'.cell? ⟨c2, 0, none⟩ = some (.int .i64 least) ∧ w'.cell? ⟨c3, 0, none⟩ = some (.int .i64 most) ∧ w'.cell? ⟨w.heap.size, 9, none⟩ = some (.int .i64 h.n)) (first | exact HK.out) (first | (go_at_call 50; (with_reducible refine (kinds14 _ _).mono ?_); rintro e w1 ⟨rfl, rfl⟩) | (go_at_call 32; (with_reducible refine (scIn _ _ _ _).mono ?_); rintro e w1 ⟨rfl, rfl⟩))
  all_goals go_wp2
  all_goals exact bodyPost_ret (v := .bool (decide (least ≤ h.n) && decide (h.n ≤ most))) (by simp [results, Try.results69, go_sem]) rfl ⟨rfl, HX.out.drew⟩
set_option maxRecDepth 100000 in
set_option maxHeartbeats 1000000 in
theorem number2_50 (v : Value) (l : List UInt8) (base c1 c2 c3 many least n : Nat) (h : HapC) (a : HapA) (w : World) (ho : OB w base v l) (hb : base ≤ w.heap.size) (hl : l.length ≤ 1048576) (hmy : many ≤ 64) (hls : least ≤ 1) (hn : n < 1048576) (hh : h.n = ((least + n : Nat) : Int)) (f1 : w.cell? ⟨c1, 0, none⟩ = some (.func (.func 50) #[] #[])) (f2 : w.cell? ⟨c2, 0, none⟩ = some (.int .i64 least)) (f3 : w.cell? ⟨c3, 0, none⟩ = some (.int .i64 many)) (n1 : some c1 ≠ v.ownBlock) (n2 : some c2 ≠ v.ownBlock) (n3 : some c3 ≠ v.ownBlock) :
    Calls Try.prog 70 #[v, hapV h a, .pointer (some ⟨c1, 0, none⟩), .pointer (some ⟨c2, 0, none⟩), .pointer (some ⟨c3, 0, none⟩)] w (GrowsB w base v (l ++ lowB n many)) := by
  have f4 : (w.alloc (hapObj h a)).cell? ⟨w.heap.size, 9, none⟩ = some (.int .i64 h.n) := by simp [go_sem]
  have e1 := (ext1 w (hapObj h a)).cell f1
  have e2 := (ext1 w (hapObj h a)).cell f2
  have e3 := (ext1 w (hapObj h a)).cell f3
  have HX := Lib.hid (ext1 w (hapObj h a))
  have HK := Lib.hid (And.intro e1 (And.intro e2 (And.intro e3 f4)))
  have hwr : IntKind.i64.wrap (h.n - (least : Int)) = (n : Int) := by rw [hh, show ((least + n : Nat) : Int) - (least : Int) = (n : Int) by omega]; exact IntWalk.i64_in _ (by omega)
  have HH := Lib.hid hh
  have n4 : some w.heap.size ≠ v.ownBlock := fun e => by have := (World.ownsRow.lt ho _ e.symm).2; omega
  clear hh
  go_enter Try.func70, Try.ntmps70
  go_wp2_with fail
  go_region_held3 (fun w' => w'.cell? ⟨c1, 0, none⟩ = some (.func (.func 50) #[] #[]) ∧ w'.cell? ⟨c2, 0, none⟩ = some (.int .i64 least) ∧ w'.cell? ⟨c3, 0, none⟩ = some (.int .i64 many) ∧ w'.cell? ⟨w.heap.size, 9, none⟩ = some (.int .i64 h.n)) (first | exact HK.out | with_reducible exact HK2.out) (first | (go_at_call 50; (with_reducible refine (kinds14 _ _).mono ?_); rintro e w1 ⟨rfl, rfl⟩) | (go_at_call 24; (with_reducible refine (lowInt _ l base n many _ (ho.ext HX.out.drew) (Nat.le_trans hb (Ext.size HX.out.drew)) (by omega) hmy hl).mono ?_); intro e w1 H1; have H2 := H1.under ho HX.out.drew; obtain ⟨_, _, _, hgA, _⟩ := H1; have HK2 := Lib.hid (And.intro (World.grownBy.cell hgA (show World.cell? (World.drew _) _ = _ from e1) n1) (And.intro (World.grownBy.cell hgA (show World.cell? (World.drew _) _ = _ from e2) n2) (And.intro (World.grownBy.cell hgA (show World.cell? (World.drew _) _ = _ from e3) n3) (World.grownBy.cell hgA (show World.cell? (World.drew _) _ = _ from f4) n4)))); clear hgA; obtain ⟨v1, rfl, ho1, hg1, hat1⟩ := H2))
  all_goals go_wp2
  all_goals exact bodyPost_ret (v := v1) (by simp [results, Try.results70, go_sem]) rfl ⟨v1, rfl, ho1, hg1, hat1⟩
end Go.Proofs.Ytffepmoicpphfaa
