/- script: the closures of number (reading), walked. (Printed by wip/gen/gen_clos.py.) -/
import Derived.Test.YtffepmoicpphfaaSc9
namespace Go.Proofs.Ytffepmoicpphfaa
set_option linter.unusedSimpArgs false
set_option linter.unusedVariables false
open Go.RowKit
variable {Z : Nat}
set_option maxRecDepth 100000 in
set_option maxHeartbeats 1000000 in
theorem number3_41 (X b c1 c2 c3 many least : Nat) (s : SA) (l : List UInt8) (r : Rdr) (w : World) (ht : TR Z w X s l r) (hl : l.length ≤ 1048576) (hmy : many ≤ 2) (hls : least ≤ 1) (f1 : w.cell? ⟨c1, 0, none⟩ = some (.func (.func 41) #[] #[])) (f2 : w.cell? ⟨c2, 0, none⟩ = some (.int .i64 least)) (f3 : w.cell? ⟨c3, 0, none⟩ = some (.int .i64 many)) (hc : Cellar w b 6) (hne : b ≠ X) (n1 : c1 ≠ X) (n2 : c2 ≠ X) (n3 : c3 ≠ X) (m1 : c1 ≠ b) (m2 : c2 ≠ b) (m3 : c3 ≠ b) :
    Calls Try.prog 71 #[.pointer (some ⟨X, 0, none⟩), .pointer (some ⟨b, 0, none⟩), .pointer (some ⟨c3, 0, none⟩), .pointer (some ⟨c2, 0, none⟩), .pointer (some ⟨c1, 0, none⟩)] w (SetsBox Z w X s l b 6 ((numR r many).1, least + (numR r many).2) fun _ n v => v = .int .i64 (n : Nat)) := by
  have hcon := fun W (hW : TR Z W X s l r) => tapeNumber X s l r many W hW hl (by omega)
  have hnl := numR2_lt r many hmy
  generalize numR r many = p at *
  obtain ⟨r1, n⟩ := p
  dsimp only at hnl ⊢
  have hw1 : IntKind.i64.wrap (n : Int) = (n : Int) := IntWalk.i64_in _ (by omega)
  have hw2 : IntKind.i64.wrap ((n : Int) + (least : Int)) = ((least + n : Nat) : Int) := by rw [show (n : Int) + (least : Int) = ((least + n : Nat) : Int) by omega]; exact IntWalk.i64_in _ (by omega)
  have HP := Lib.hid hcon
  clear hcon
  have HK := Lib.hid (And.intro f1 (And.intro f2 f3))
  have HT0 := Lib.hid (ht.ext (Ext.refl _).drew)
  by_cases hbad : r1.bad = false
  · go_enter Try.func71, Try.ntmps71
    go_wp2_with fail
    go_region_held3 (fun w' => w'.cell? ⟨c1, 0, none⟩ = some (.func (.func 41) #[] #[]) ∧ w'.cell? ⟨c2, 0, none⟩ = some (.int .i64 least) ∧ w'.cell? ⟨c3, 0, none⟩ = some (.int .i64 many)) (first | exact HK.out | with_reducible exact HK2.out | with_reducible exact HK3.out _) (first | (go_at_call 41; (with_reducible refine (kinds7 _ _).mono ?_); rintro e w1 ⟨rfl, rfl⟩) | (go_at_call 35; (with_reducible refine (HP.out _ HT0.out).mono ?_); intro e w1 H1; obtain ⟨hg1, v2, rfl, rfl, ht1⟩ := Reads.good H1 hbad; clear H1; have hg1 := only_undrew hg1; have e1 := grown_cell hg1 f1 n1; have e2 := grown_cell hg1 f2 n2; have e3 := grown_cell hg1 f3 n3; have HK2 := Lib.hid (And.intro e1 (And.intro e2 e3)); have HK3 := Lib.hid (fun u => And.intro ((cell_set_far (v := u) (o := 6) m1).trans e1) (And.intro ((cell_set_far (v := u) (o := 6) m2).trans e2) ((cell_set_far (v := u) (o := 6) m3).trans e3))); obtain ⟨⟨u0, hu0⟩, hf0⟩ := hc.grown hg1 hne; have HG : Hid (w.grownBy w1 (some X)) := Lib.hid hg1; have HT := Lib.hid ht1; clear hg1 ht1))
    all_goals go_wp2
    all_goals go_end0
    all_goals exact ⟨_, HG.out, .inl ⟨hbad, rfl, _, rfl, HT.out, rfl⟩⟩
  · have hbad : r1.bad = true := by simpa using hbad
    go_enter Try.func71, Try.ntmps71
    go_wp2_with fail
    go_region_with (first | (go_at_call 41; (with_reducible refine (kinds7 _ _).mono ?_); rintro e w1 ⟨rfl, rfl⟩) | (go_at_call 35; (with_reducible refine (HP.out _ HT0.out).mono ?_); intro e w1 H1; obtain ⟨hg1, rfl⟩ := Reads.poor H1 hbad; refine deadEnd w ⟨rfl, SetsBox.poor (only_undrew hg1) hbad⟩ ?_))
    all_goals trivial
end Go.Proofs.Ytffepmoicpphfaa
