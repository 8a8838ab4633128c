/- script: the closures of some, walked. (Printed by wip/gen/gen_clos.py.) -/
import Derived.Test.YtffepmoicpphfaaSc8
namespace Go.Proofs.Ytffepmoicpphfaa
set_option linter.unusedSimpArgs false
set_option linter.unusedVariables false
open Go.RowKit
variable {Z : Nat}
set_option maxRecDepth 100000 in
set_option maxHeartbeats 1000000 in
theorem some1_47 (mod c1 c2 : Nat) (h : HapC) (a : HapA) (w : World) (f1 : w.cell? ⟨c1, 0, none⟩ = some (.func (.func 47) #[] #[])) (f2 : w.cell? ⟨c2, 0, none⟩ = some (.int .i64 mod)) :
    Calls Try.prog 72 #[hapV h a, .pointer (some ⟨c1, 0, none⟩), .pointer (some ⟨c2, 0, none⟩)] w fun e w' => e = .returned (.bool (decide (h.call.bytes.length < mod))) ∧ Ext w w' := by
  have f3 : (w.alloc (hapObj h a)).cell? ⟨w.heap.size, 8, none⟩ = some (.slice a.A h.call.bytes.length a.ca) := by simp [go_sem]
  have e1 := (ext1 w (hapObj h a)).cell f1
  have e2 := (ext1 w (hapObj h a)).cell f2
  have HX := Lib.hid (ext1 w (hapObj h a))
  have HK := Lib.hid (And.intro e1 (And.intro e2 f3))
  have hz := 0
  go_enter Try.func72, Try.ntmps72
  go_wp2_with fail
  go_region_held3 (fun w' => w'.cell? ⟨c1, 0, none⟩ = some (.func (.func 47) #[] #[]) ∧ w'.cell? ⟨c2, 0, none⟩ = some (.int .i64 mod) ∧ w'.cell? ⟨w.heap.size, 8, none⟩ = some (.slice a.A h.call.bytes.length a.ca)) (first | exact HK.out) (first | (go_at_call 47; (with_reducible refine (kinds11 _ _).mono ?_); rintro e w1 ⟨rfl, rfl⟩))
  all_goals go_wp2
  all_goals refine bodyPost_ret (v := .bool (decide (h.call.bytes.length < mod))) (by simp [results, Try.results72, go_sem, strOf_size]) rfl ⟨rfl, HX.out.drew⟩
set_option maxRecDepth 100000 in
set_option maxHeartbeats 1000000 in
theorem some2_47 (v : Value) (l : List UInt8) (base c1 : Nat) (h : HapC) (a : HapA) (w : World) (ho : OB w base v l) (hb : base ≤ w.heap.size) (hl : l.length ≤ 1048576) (hm : h.call.bytes.length ≤ 1048576) (hr : RBn Z w v.ownBlock a.A h.call.bytes) (f1 : w.cell? ⟨c1, 0, none⟩ = some (.func (.func 47) #[] #[])) :
    Calls Try.prog 73 #[v, hapV h a, .pointer (some ⟨c1, 0, none⟩)] w (GrowsB w base v (l ++ UInt8.ofNat h.call.bytes.length :: h.call.bytes)) := by
  have f3 : (w.alloc (hapObj h a)).cell? ⟨w.heap.size, 8, none⟩ = some (.slice a.A h.call.bytes.length a.ca) := by simp [go_sem]
  have e1 := (ext1 w (hapObj h a)).cell f1
  have HX := Lib.hid (ext1 w (hapObj h a))
  have hz := 0
  go_enter Try.func73, Try.ntmps73
  go_wp2_with (first | (go_at_call 47; (with_reducible refine (kinds11 _ _).mono ?_); rintro e w1 ⟨rfl, rfl⟩) | (go_at_call 74; (with_reducible refine (textBytes (Z := Z) _ l h.call.bytes base _ _ _ (ho.ext HX.out) (Nat.le_trans hb HX.out.size) (hr.ext HX.out) hm hl).mono ?_); intro e w1 H1; have H2 := H1.under ho HX.out; clear H1; obtain ⟨v1, rfl, ho1, hg1, hat1⟩ := H2))
  exact bodyPost_ret (v := v1) (by simp [results, Try.results73, go_sem]) rfl ⟨v1, rfl, ho1, hg1, hat1⟩
set_option maxRecDepth 100000 in
set_option maxHeartbeats 1000000 in
theorem some3_47 (X b mod c1 c2 : Nat) (s : SA) (l : List UInt8) (r : Rdr) (w : World) (ht : TR Z w X s l r) (hl : l.length ≤ 1048576) (hm0 : 0 < mod) (hm : mod ≤ 256) (f1 : w.cell? ⟨c1, 0, none⟩ = some (.func (.func 47) #[] #[])) (f2 : w.cell? ⟨c2, 0, none⟩ = some (.int .i64 mod)) (hc : Cellar w b 8) (hne : b ≠ X) (n1 : c1 ≠ X) (n2 : c2 ≠ X) (m1 : c1 ≠ b) (m2 : c2 ≠ b) :
    Calls Try.prog 75 #[.pointer (some ⟨X, 0, none⟩), .pointer (some ⟨b, 0, none⟩), .pointer (some ⟨c2, 0, none⟩), .pointer (some ⟨c1, 0, none⟩)] w (SetsBox Z w X s l b 8 (textR r mod) fun w' t v => ∃ A c, v = .slice A t.length c ∧ t.length ≤ c ∧ RB Z w' A t) := by
  have hcon := fun W (hW : TR Z W X s l r) => tapeTexts X s l r mod W hW hl hm0 hm
  generalize textR r mod = p at *
  obtain ⟨r1, bs⟩ := p
  have HP := Lib.hid hcon
  clear hcon
  have HK := Lib.hid (And.intro f1 f2)
  have HT0 := Lib.hid (ht.ext (Ext.refl _).drew)
  by_cases hbad : r1.bad = false
  · go_enter Try.func75, Try.ntmps75
    go_wp2_with fail
    go_region_held3 (fun w' => w'.cell? ⟨c1, 0, none⟩ = some (.func (.func 47) #[] #[]) ∧ w'.cell? ⟨c2, 0, none⟩ = some (.int .i64 mod)) (first | exact HK.out | with_reducible exact HK2.out | with_reducible exact HK3.out _) (first | (go_at_call 47; (with_reducible refine (kinds11 _ _).mono ?_); rintro e w1 ⟨rfl, rfl⟩) | (go_at_call 68; (with_reducible refine (HP.out _ HT0.out).mono ?_); intro e w1 H1; obtain ⟨hg1, v2, rfl, ⟨t2, k2, rfl, hk2, htb⟩, ht1⟩ := Reads.good H1 hbad; clear H1; have hg1 := only_undrew hg1; have e1 := grown_cell hg1 f1 n1; have e2 := grown_cell hg1 f2 n2; have HK2 := Lib.hid (And.intro e1 e2); have HK3 := Lib.hid (fun u => And.intro ((cell_set_far (v := u) (o := 8) m1).trans e1) ((cell_set_far (v := u) (o := 8) m2).trans e2)); obtain ⟨⟨u0, hu0⟩, hf0⟩ := hc.grown hg1 hne; have HG : Hid (w.grownBy w1 (some X)) := Lib.hid hg1; have HT := Lib.hid ht1; clear hg1 ht1))
    all_goals go_wp2
    all_goals go_end0
    all_goals exact ⟨_, HG.out, .inl ⟨hbad, rfl, _, ⟨t2, k2, rfl, hk2, htb⟩, HT.out, rfl⟩⟩
  · have hbad : r1.bad = true := by simpa using hbad
    go_enter Try.func75, Try.ntmps75
    go_wp2_with fail
    go_region_with (first | (go_at_call 47; (with_reducible refine (kinds11 _ _).mono ?_); rintro e w1 ⟨rfl, rfl⟩) | (go_at_call 68; (with_reducible refine (HP.out _ HT0.out).mono ?_); intro e w1 H1; obtain ⟨hg1, rfl⟩ := Reads.poor H1 hbad; refine deadEnd w ⟨rfl, SetsBox.poor (only_undrew hg1) hbad⟩ ?_))
    all_goals trivial
set_option maxRecDepth 100000 in
set_option maxHeartbeats 1000000 in
theorem some1_49 (mod c1 c2 : Nat) (h : HapC) (a : HapA) (w : World) (f1 : w.cell? ⟨c1, 0, none⟩ = some (.func (.func 49) #[] #[])) (f2 : w.cell? ⟨c2, 0, none⟩ = some (.int .i64 mod)) :
    Calls Try.prog 72 #[hapV h a, .pointer (some ⟨c1, 0, none⟩), .pointer (some ⟨c2, 0, none⟩)] w fun e w' => e = .returned (.bool (decide (h.picks.length < mod))) ∧ Ext w w' := by
  have f3 : (w.alloc (hapObj h a)).cell? ⟨w.heap.size, 10, none⟩ = some (.slice a.P h.picks.length a.cp) := by simp [go_sem]
  have e1 := (ext1 w (hapObj h a)).cell f1
  have e2 := (ext1 w (hapObj h a)).cell f2
  have HX := Lib.hid (ext1 w (hapObj h a))
  have HK := Lib.hid (And.intro e1 (And.intro e2 f3))
  have hz := 0
  go_enter Try.func72, Try.ntmps72
  go_wp2_with fail
  go_region_held3 (fun w' => w'.cell? ⟨c1, 0, none⟩ = some (.func (.func 49) #[] #[]) ∧ w'.cell? ⟨c2, 0, none⟩ = some (.int .i64 mod) ∧ w'.cell? ⟨w.heap.size, 10, none⟩ = some (.slice a.P h.picks.length a.cp)) (first | exact HK.out) (first | (go_at_call 49; (with_reducible refine (kinds13 _ _).mono ?_); rintro e w1 ⟨rfl, rfl⟩))
  all_goals go_wp2
  all_goals refine bodyPost_ret (v := .bool (decide (h.picks.length < mod))) (by simp [results, Try.results72, go_sem, strOf_size]) rfl ⟨rfl, HX.out.drew⟩
set_option maxRecDepth 100000 in
set_option maxHeartbeats 1000000 in
theorem some2_49 (v : Value) (l : List UInt8) (base c1 : Nat) (h : HapC) (a : HapA) (w : World) (ho : OB w base v l) (hb : base ≤ w.heap.size) (hl : l.length ≤ 1048576) (hm : h.picks.length ≤ 1048576) (hr : RBn Z w v.ownBlock a.P h.picks) (f1 : w.cell? ⟨c1, 0, none⟩ = some (.func (.func 49) #[] #[])) :
    Calls Try.prog 73 #[v, hapV h a, .pointer (some ⟨c1, 0, none⟩)] w (GrowsB w base v (l ++ UInt8.ofNat h.picks.length :: h.picks)) := by
  have f3 : (w.alloc (hapObj h a)).cell? ⟨w.heap.size, 10, none⟩ = some (.slice a.P h.picks.length a.cp) := by simp [go_sem]
  have e1 := (ext1 w (hapObj h a)).cell f1
  have HX := Lib.hid (ext1 w (hapObj h a))
  have hz := 0
  go_enter Try.func73, Try.ntmps73
  go_wp2_with (first | (go_at_call 49; (with_reducible refine (kinds13 _ _).mono ?_); rintro e w1 ⟨rfl, rfl⟩) | (go_at_call 74; (with_reducible refine (textBytes (Z := Z) _ l h.picks base _ _ _ (ho.ext HX.out) (Nat.le_trans hb HX.out.size) (hr.ext HX.out) hm hl).mono ?_); intro e w1 H1; have H2 := H1.under ho HX.out; clear H1; obtain ⟨v1, rfl, ho1, hg1, hat1⟩ := H2))
  exact bodyPost_ret (v := v1) (by simp [results, Try.results73, go_sem]) rfl ⟨v1, rfl, ho1, hg1, hat1⟩
set_option maxRecDepth 100000 in
set_option maxHeartbeats 1000000 in
theorem some3_49 (X b mod c1 c2 : Nat) (s : SA) (l : List UInt8) (r : Rdr) (w : World) (ht : TR Z w X s l r) (hl : l.length ≤ 1048576) (hm0 : 0 < mod) (hm : mod ≤ 256) (f1 : w.cell? ⟨c1, 0, none⟩ = some (.func (.func 49) #[] #[])) (f2 : w.cell? ⟨c2, 0, none⟩ = some (.int .i64 mod)) (hc : Cellar w b 10) (hne : b ≠ X) (n1 : c1 ≠ X) (n2 : c2 ≠ X) (m1 : c1 ≠ b) (m2 : c2 ≠ b) :
    Calls Try.prog 75 #[.pointer (some ⟨X, 0, none⟩), .pointer (some ⟨b, 0, none⟩), .pointer (some ⟨c2, 0, none⟩), .pointer (some ⟨c1, 0, none⟩)] w (SetsBox Z w X s l b 10 (textR r mod) fun w' t v => ∃ A c, v = .slice A t.length c ∧ t.length ≤ c ∧ RB Z w' A t) := by
  have hcon := fun W (hW : TR Z W X s l r) => tapeTexts X s l r mod W hW hl hm0 hm
  generalize textR r mod = p at *
  obtain ⟨r1, bs⟩ := p
  have HP := Lib.hid hcon
  clear hcon
  have HK := Lib.hid (And.intro f1 f2)
  have HT0 := Lib.hid (ht.ext (Ext.refl _).drew)
  by_cases hbad : r1.bad = false
  · go_enter Try.func75, Try.ntmps75
    go_wp2_with fail
    go_region_held3 (fun w' => w'.cell? ⟨c1, 0, none⟩ = some (.func (.func 49) #[] #[]) ∧ w'.cell? ⟨c2, 0, none⟩ = some (.int .i64 mod)) (first | exact HK.out | with_reducible exact HK2.out | with_reducible exact HK3.out _) (first | (go_at_call 49; (with_reducible refine (kinds13 _ _).mono ?_); rintro e w1 ⟨rfl, rfl⟩) | (go_at_call 68; (with_reducible refine (HP.out _ HT0.out).mono ?_); intro e w1 H1; obtain ⟨hg1, v2, rfl, ⟨t2, k2, rfl, hk2, htb⟩, ht1⟩ := Reads.good H1 hbad; clear H1; have hg1 := only_undrew hg1; have e1 := grown_cell hg1 f1 n1; have e2 := grown_cell hg1 f2 n2; have HK2 := Lib.hid (And.intro e1 e2); have HK3 := Lib.hid (fun u => And.intro ((cell_set_far (v := u) (o := 10) m1).trans e1) ((cell_set_far (v := u) (o := 10) m2).trans e2)); obtain ⟨⟨u0, hu0⟩, hf0⟩ := hc.grown hg1 hne; have HG : Hid (w.grownBy w1 (some X)) := Lib.hid hg1; have HT := Lib.hid ht1; clear hg1 ht1))
    all_goals go_wp2
    all_goals go_end0
    all_goals exact ⟨_, HG.out, .inl ⟨hbad, rfl, _, ⟨t2, k2, rfl, hk2, htb⟩, HT.out, rfl⟩⟩
  · have hbad : r1.bad = true := by simpa using hbad
    go_enter Try.func75, Try.ntmps75
    go_wp2_with fail
    go_region_with (first | (go_at_call 49; (with_reducible refine (kinds13 _ _).mono ?_); rintro e w1 ⟨rfl, rfl⟩) | (go_at_call 68; (with_reducible refine (HP.out _ HT0.out).mono ?_); intro e w1 H1; obtain ⟨hg1, rfl⟩ := Reads.poor H1 hbad; refine deadEnd w ⟨rfl, SetsBox.poor (only_undrew hg1) hbad⟩ ?_))
    all_goals trivial
end Go.Proofs.Ytffepmoicpphfaa
