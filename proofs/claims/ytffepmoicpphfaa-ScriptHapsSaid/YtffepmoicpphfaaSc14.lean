/- script: each part does what is said of it. (Printed by wip/gen/gen_parts.py.) -/
import Derived.Test.YtffepmoicpphfaaSc13
import Derived.Test.YtffepmoicpphfaaSc10
import Derived.Test.YtffepmoicpphfaaSc940
import Derived.Test.YtffepmoicpphfaaSc941
import Derived.Test.YtffepmoicpphfaaSc948
import Derived.Test.YtffepmoicpphfaaSc950
namespace Go.Proofs.Ytffepmoicpphfaa
set_option linter.unusedSimpArgs false
set_option linter.unusedVariables false
open Go.RowKit
structure PartOK (lo : Nat) (W : World) (sp : PartS) (f1 f2 f3 : Value) : Prop where
  may : MayOK lo W sp.may f1
  lay : LayOK lo W sp.may sp.lay f2
  read : ReadOK lo W sp.read f3
theorem WordsBox.lt {lo : Nat} {w : World} {c mod k : Nat} (h : WordsBox lo w c mod k) : c < w.heap.size ∧ c + 1 < w.heap.size := ⟨World.block_lt_of_cell? w _ h.2.1, World.block_lt_of_cell? w _ h.2.2⟩
theorem NumBox.lt {lo : Nat} {w : World} {c many least most k : Nat} (h : NumBox lo w c many least most k) : c + 1 < w.heap.size ∧ c + 2 < w.heap.size ∧ c + 3 < w.heap.size := ⟨World.block_lt_of_cell? w _ h.2.2.1, World.block_lt_of_cell? w _ h.2.2.2.1, World.block_lt_of_cell? w _ h.2.2.2.2⟩
theorem WordsBox.kept {lo : Nat} {W w : World} {c mod k : Nat} (h : WordsBox lo W c mod k) (hk : Kept lo W w) : WordsBox lo w c mod k :=
  ⟨h.1, hk.cell h.1 h.2.1, hk.cell (Nat.le_trans h.1 (Nat.le_succ _)) h.2.2⟩
theorem NumBox.kept {lo : Nat} {W w : World} {c many least most k : Nat} (h : NumBox lo W c many least most k) (hk : Kept lo W w) : NumBox lo w c many least most k :=
  ⟨h.1, hk.cell h.1 h.2.1, hk.cell (by have := h.1; omega) h.2.2.1, hk.cell (by have := h.1; omega) h.2.2.2.1, hk.cell (by have := h.1; omega) h.2.2.2.2⟩
theorem not_own {lo n c : Nat} {v : Value} (hv : ∀ g, v.ownBlock = some g → g < lo ∨ n ≤ g) (h1 : lo ≤ c) (h2 : c < n) : some c ≠ v.ownBlock := fun e => by have := hv c e.symm; omega
theorem ent_client1 : Enters Try.prog 60 := enters_of Try.func60 (by kernel_rfl) rfl
theorem ent_client2 : Enters Try.prog 61 := enters_of Try.func61 (by kernel_rfl) rfl
theorem ent_client3 : Enters Try.prog 62 := enters_of Try.func62 (by kernel_rfl) rfl
theorem ent_kinds1 : Enters Try.prog 31 := enters_of Try.func31 (by kernel_rfl) rfl
theorem ent_kinds2 : Enters Try.prog 33 := enters_of Try.func33 (by kernel_rfl) rfl
theorem ent_kinds3 : Enters Try.prog 34 := enters_of Try.func34 (by kernel_rfl) rfl
theorem ent_kinds8 : Enters Try.prog 42 := enters_of Try.func42 (by kernel_rfl) rfl
theorem ent_kinds9 : Enters Try.prog 43 := enters_of Try.func43 (by kernel_rfl) rfl
theorem ent_kinds10 : Enters Try.prog 45 := enters_of Try.func45 (by kernel_rfl) rfl
theorem ent_words1 : Enters Try.prog 64 := enters_of Try.func64 (by kernel_rfl) rfl
theorem ent_words2 : Enters Try.prog 65 := enters_of Try.func65 (by kernel_rfl) rfl
theorem ent_words3 : Enters Try.prog 67 := enters_of Try.func67 (by kernel_rfl) rfl
theorem ent_number1 : Enters Try.prog 69 := enters_of Try.func69 (by kernel_rfl) rfl
theorem ent_number2 : Enters Try.prog 70 := enters_of Try.func70 (by kernel_rfl) rfl
theorem ent_number3 : Enters Try.prog 71 := enters_of Try.func71 (by kernel_rfl) rfl
theorem ent_some1 : Enters Try.prog 72 := enters_of Try.func72 (by kernel_rfl) rfl
theorem ent_some2 : Enters Try.prog 73 := enters_of Try.func73 (by kernel_rfl) rfl
theorem ent_some3 : Enters Try.prog 75 := enters_of Try.func75 (by kernel_rfl) rfl
def clientS : PartS := ⟨fun h => inB h.client 7, fun h => lowB h.client.toNat 1, fun r h => ((numR r 1).1, { h with client := ((numR r 1).2 % 8 : Nat) })⟩
def kindS : PartS := ⟨fun h => inB h.call.kind 14, fun h => lowB h.call.kind.toNat 1, fun r h => ((numR r 1).1, { h with call := { h.call with kind := ((numR r 1).2 % 15 : Nat) } })⟩
def keyS : PartS := ⟨fun h => true, fun h => lowB h.call.key.toNat 8, fun r h => ((numR r 8).1, { h with call := { h.call with key := ((numR r 8).2 : Nat) } })⟩
def pathS : PartS := ⟨fun h => decide (h.call.path.length < 64), fun h => UInt8.ofNat h.call.path.length :: h.call.path, fun r h => ((textR r 64).1, { h with call := { h.call with path := (textR r 64).2 } })⟩
def toS : PartS := ⟨fun h => decide (h.call.to_.length < 64), fun h => UInt8.ofNat h.call.to_.length :: h.call.to_, fun r h => ((textR r 64).1, { h with call := { h.call with to_ := (textR r 64).2 } })⟩
def bytesS : PartS := ⟨fun h => decide (h.call.bytes.length < 256), fun h => UInt8.ofNat h.call.bytes.length :: h.call.bytes, fun r h => ((textR r 256).1, { h with call := { h.call with bytes := (textR r 256).2 } })⟩
def picksS : PartS := ⟨fun h => decide (h.picks.length < 8), fun h => UInt8.ofNat h.picks.length :: h.picks, fun r h => ((textR r 8).1, { h with picks := (textR r 8).2 })⟩
def atS : PartS := ⟨fun h => decide (((0 : Nat) : Int) ≤ h.call.at_) && decide (h.call.at_ ≤ ((65535 : Nat) : Int)), fun h => lowB (h.call.at_ - ((0 : Nat) : Int)).toNat 2, fun r h => ((numR r 2).1, { h with call := { h.call with at_ := ((0 + (numR r 2).2 : Nat) : Int) } })⟩
def manyS : PartS := ⟨fun h => decide (((0 : Nat) : Int) ≤ h.call.many) && decide (h.call.many ≤ ((65535 : Nat) : Int)), fun h => lowB (h.call.many - ((0 : Nat) : Int)).toNat 2, fun r h => ((numR r 2).1, { h with call := { h.call with many := ((0 + (numR r 2).2 : Nat) : Int) } })⟩
def nS : PartS := ⟨fun h => decide (((0 : Nat) : Int) ≤ h.n) && decide (h.n ≤ ((65535 : Nat) : Int)), fun h => lowB (h.n - ((0 : Nat) : Int)).toNat 2, fun r h => ((numR r 2).1, { h with n := ((0 + (numR r 2).2 : Nat) : Int) })⟩
def mountS : PartS := ⟨fun h => decide (((1 : Nat) : Int) ≤ h.n) && decide (h.n ≤ ((256 : Nat) : Int)), fun h => lowB (h.n - ((1 : Nat) : Int)).toNat 1, fun r h => ((numR r 1).1, { h with n := ((1 + (numR r 1).2 : Nat) : Int) })⟩
theorem ok_clientS (lo : Nat) (W : World) : PartOK lo W clientS (.func (.func 60) #[] #[]) (.func (.func 61) #[] #[]) (.func (.func 62) #[] #[]) := by
  refine ⟨⟨_, _, rfl, ent_client1, ?_⟩, ⟨_, _, rfl, ent_client2, ?_⟩, ⟨_, _, rfl, ent_client3, ?_⟩⟩
  · intro h a w hk
    simpa [clientS] using client1 h a w
  · intro Z v l base h a w hk ho hb hl hv hA hP hkey hm
    obtain ⟨k, cl, c, n, p⟩ := h
    simp only [clientS, inB, Bool.and_eq_true, decide_eq_true_eq] at hm
    obtain ⟨m, rfl⟩ := Int.eq_ofNat_of_zero_le hm.1
    simpa [clientS] using client2 v l base m k n c p a w ho hb (by omega) hl
  · intro Z X b s l r0 h a w hk ht hl r hbX hX hb hX2 hb2
    have hc := client3 X b s l r0 w ht hl (r.cellar ⟨_, r.box.2.1⟩) hbX
    rw [show (#[pt X, pt b] ++ #[] : Array Value) = #[pt X, pt b] by simp]
    refine hc.mono fun e w' hs => SetsBox.reads hs ht r hbX hX hb _ (fun w1 v hB hV => by
      obtain ⟨q0, q1, q2, q3, q4, q5, q6, q7, q8, q9, q10⟩ := hB
      subst hV
      exact ⟨a, by simp [HapBox, go_sem, q0, q1, q2, q3, q4, q5, q6, q7, q8, q9, q10], fun w2 r _ => ⟨r.b, r.p⟩⟩)
theorem ok_kindS (lo : Nat) (W : World) : PartOK lo W kindS (.func (.func 31) #[] #[]) (.func (.func 33) #[] #[]) (.func (.func 34) #[] #[]) := by
  refine ⟨⟨_, _, rfl, ent_kinds1, ?_⟩, ⟨_, _, rfl, ent_kinds2, ?_⟩, ⟨_, _, rfl, ent_kinds3, ?_⟩⟩
  · intro h a w hk
    simpa [kindS] using kinds1 h a w
  · intro Z v l base h a w hk ho hb hl hv hA hP hkey hm
    obtain ⟨k, cl, ⟨ck, pa, to_, at_, many, key, bytes⟩, n, p⟩ := h
    simp only [kindS, inB, Bool.and_eq_true, decide_eq_true_eq] at hm
    obtain ⟨m, rfl⟩ := Int.eq_ofNat_of_zero_le hm.1
    simpa [kindS] using kinds2 v l base m k cl n at_ many key pa to_ bytes p a w ho hb (by omega) hl
  · intro Z X b s l r0 h a w hk ht hl r hbX hX hb hX2 hb2
    have hc := kinds3 X b s l r0 w ht hl (r.cellar ⟨_, r.box.2.2.1⟩) hbX
    rw [show (#[pt X, pt b] ++ #[] : Array Value) = #[pt X, pt b] by simp]
    refine hc.mono fun e w' hs => SetsBox.reads hs ht r hbX hX hb _ (fun w1 v hB hV => by
      obtain ⟨q0, q1, q2, q3, q4, q5, q6, q7, q8, q9, q10⟩ := hB
      subst hV
      exact ⟨a, by simp [HapBox, go_sem, q0, q1, q2, q3, q4, q5, q6, q7, q8, q9, q10], fun w2 r _ => ⟨r.b, r.p⟩⟩)
theorem ok_keyS (lo : Nat) (W : World) : PartOK lo W keyS (.func (.func 42) #[] #[]) (.func (.func 43) #[] #[]) (.func (.func 45) #[] #[]) := by
  refine ⟨⟨_, _, rfl, ent_kinds8, ?_⟩, ⟨_, _, rfl, ent_kinds9, ?_⟩, ⟨_, _, rfl, ent_kinds10, ?_⟩⟩
  · intro h a w hk
    simpa [keyS] using kinds8 h a w
  · intro Z v l base h a w hk ho hb hl hv hA hP hkey hm
    obtain ⟨k, cl, ⟨ck, pa, to_, at_, many, key, bytes⟩, n, p⟩ := h
    obtain ⟨m, rfl⟩ := Int.eq_ofNat_of_zero_le (show 0 ≤ key from hkey.1)
    have hlt := hkey.2
    simp only at hlt
    simpa [keyS] using kinds9 v l base m k cl n ck at_ many pa to_ bytes p a w ho hb (by omega) hl
  · intro Z X b s l r0 h a w hk ht hl r hbX hX hb hX2 hb2
    have hc := kinds10 X b s l r0 w ht hl (r.cellar ⟨_, r.box.2.2.2.2.2.2.2.1⟩) hbX
    rw [show (#[pt X, pt b] ++ #[] : Array Value) = #[pt X, pt b] by simp]
    refine hc.mono fun e w' hs => SetsBox.reads hs ht r hbX hX hb _ (fun w1 v hB hV => by
      obtain ⟨q0, q1, q2, q3, q4, q5, q6, q7, q8, q9, q10⟩ := hB
      subst hV
      exact ⟨a, by simp [HapBox, go_sem, q0, q1, q2, q3, q4, q5, q6, q7, q8, q9, q10], fun w2 r _ => ⟨r.b, r.p⟩⟩)
theorem ok_pathS (lo : Nat) (W : World) (c : Nat) (hB : WordsBox lo W c 64 37) : PartOK lo W pathS (.func (.func 64) #[] #[pt (c + 1), pt c]) (.func (.func 65) #[] #[pt (c + 1)]) (.func (.func 67) #[] #[pt c, pt (c + 1)]) := by
  have hlt := hB.lt
  have hlo := hB.1
  refine ⟨⟨_, _, rfl, ent_words1, ?_⟩, ⟨_, _, rfl, ent_words2, ?_⟩, ⟨_, _, rfl, ent_words3, ?_⟩⟩
  · intro h a w hk
    have B := hB.kept hk
    simpa [pathS] using words1_37 64 (c + 1) c h a w B.2.2 B.2.1
  · intro Z v l base h a w hk ho hb hl hv hA hP hkey hm
    have B := hB.kept hk
    simp only [pathS, decide_eq_true_eq] at hm
    simpa [pathS] using words2_37 v l base (c + 1) h a w ho hb hl (by omega) B.2.2
  · intro Z X b s l r0 h a w hk ht hl r hbX hX hb hX2 hb2
    have B := hB.kept hk
    have hc := words3_37 X b 64 (c + 1) c s l r0 w ht hl (by omega) (by omega) B.2.2 B.2.1 (r.cellar ⟨_, r.box.2.2.2.1⟩) hbX (by omega) (by omega) (by omega) (by omega)
    rw [show (#[pt X, pt b] ++ #[pt c, pt (c + 1)] : Array Value) = #[pt X, pt b, pt c, pt (c + 1)] by simp]
    refine hc.mono fun e w' hs => SetsBox.reads hs ht r hbX hX hb _ (fun w1 v hB hV => by
      obtain ⟨q0, q1, q2, q3, q4, q5, q6, q7, q8, q9, q10⟩ := hB
      subst hV
      exact ⟨a, by simp [HapBox, go_sem, q0, q1, q2, q3, q4, q5, q6, q7, q8, q9, q10], fun w2 r _ => ⟨r.b, r.p⟩⟩)
theorem ok_toS (lo : Nat) (W : World) (c : Nat) (hB : WordsBox lo W c 64 38) : PartOK lo W toS (.func (.func 64) #[] #[pt (c + 1), pt c]) (.func (.func 65) #[] #[pt (c + 1)]) (.func (.func 67) #[] #[pt c, pt (c + 1)]) := by
  have hlt := hB.lt
  have hlo := hB.1
  refine ⟨⟨_, _, rfl, ent_words1, ?_⟩, ⟨_, _, rfl, ent_words2, ?_⟩, ⟨_, _, rfl, ent_words3, ?_⟩⟩
  · intro h a w hk
    have B := hB.kept hk
    simpa [toS] using words1_38 64 (c + 1) c h a w B.2.2 B.2.1
  · intro Z v l base h a w hk ho hb hl hv hA hP hkey hm
    have B := hB.kept hk
    simp only [toS, decide_eq_true_eq] at hm
    simpa [toS] using words2_38 v l base (c + 1) h a w ho hb hl (by omega) B.2.2
  · intro Z X b s l r0 h a w hk ht hl r hbX hX hb hX2 hb2
    have B := hB.kept hk
    have hc := words3_38 X b 64 (c + 1) c s l r0 w ht hl (by omega) (by omega) B.2.2 B.2.1 (r.cellar ⟨_, r.box.2.2.2.2.1⟩) hbX (by omega) (by omega) (by omega) (by omega)
    rw [show (#[pt X, pt b] ++ #[pt c, pt (c + 1)] : Array Value) = #[pt X, pt b, pt c, pt (c + 1)] by simp]
    refine hc.mono fun e w' hs => SetsBox.reads hs ht r hbX hX hb _ (fun w1 v hB hV => by
      obtain ⟨q0, q1, q2, q3, q4, q5, q6, q7, q8, q9, q10⟩ := hB
      subst hV
      exact ⟨a, by simp [HapBox, go_sem, q0, q1, q2, q3, q4, q5, q6, q7, q8, q9, q10], fun w2 r _ => ⟨r.b, r.p⟩⟩)
theorem ok_bytesS (lo : Nat) (W : World) (c : Nat) (hB : WordsBox lo W c 256 47) : PartOK lo W bytesS (.func (.func 72) #[] #[pt (c + 1), pt c]) (.func (.func 73) #[] #[pt (c + 1)]) (.func (.func 75) #[] #[pt c, pt (c + 1)]) := by
  have hlt := hB.lt
  have hlo := hB.1
  refine ⟨⟨_, _, rfl, ent_some1, ?_⟩, ⟨_, _, rfl, ent_some2, ?_⟩, ⟨_, _, rfl, ent_some3, ?_⟩⟩
  · intro h a w hk
    have B := hB.kept hk
    simpa [bytesS] using some1_47 256 (c + 1) c h a w B.2.2 B.2.1
  · intro Z v l base h a w hk ho hb hl hv hA hP hkey hm
    have B := hB.kept hk
    simp only [bytesS, decide_eq_true_eq] at hm
    simpa [bytesS] using some2_47 v l base (c + 1) h a w ho hb hl (by omega) hA B.2.2
  · intro Z X b s l r0 h a w hk ht hl r hbX hX hb hX2 hb2
    have B := hB.kept hk
    have hc := some3_47 X b 256 (c + 1) c s l r0 w ht hl (by omega) (by omega) B.2.2 B.2.1 (r.cellar ⟨_, r.box.2.2.2.2.2.2.2.2.1⟩) hbX (by omega) (by omega) (by omega) (by omega)
    rw [show (#[pt X, pt b] ++ #[pt c, pt (c + 1)] : Array Value) = #[pt X, pt b, pt c, pt (c + 1)] by simp]
    refine hc.mono fun e w' hs => SetsBox.reads hs ht r hbX hX hb _ (fun w1 v hB hV => by
      obtain ⟨q0, q1, q2, q3, q4, q5, q6, q7, q8, q9, q10⟩ := hB
      obtain ⟨A, ca, rfl, _, hr⟩ := hV
      exact ⟨⟨A, ca, a.P, a.cp⟩, by simp [HapBox, go_sem, q0, q1, q2, q3, q4, q5, q6, q7, q8, q9, q10], fun w2 r g => ⟨g _ _ hr, r.p⟩⟩)
theorem ok_picksS (lo : Nat) (W : World) (c : Nat) (hB : WordsBox lo W c 8 49) : PartOK lo W picksS (.func (.func 72) #[] #[pt (c + 1), pt c]) (.func (.func 73) #[] #[pt (c + 1)]) (.func (.func 75) #[] #[pt c, pt (c + 1)]) := by
  have hlt := hB.lt
  have hlo := hB.1
  refine ⟨⟨_, _, rfl, ent_some1, ?_⟩, ⟨_, _, rfl, ent_some2, ?_⟩, ⟨_, _, rfl, ent_some3, ?_⟩⟩
  · intro h a w hk
    have B := hB.kept hk
    simpa [picksS] using some1_49 8 (c + 1) c h a w B.2.2 B.2.1
  · intro Z v l base h a w hk ho hb hl hv hA hP hkey hm
    have B := hB.kept hk
    simp only [picksS, decide_eq_true_eq] at hm
    simpa [picksS] using some2_49 v l base (c + 1) h a w ho hb hl (by omega) hP B.2.2
  · intro Z X b s l r0 h a w hk ht hl r hbX hX hb hX2 hb2
    have B := hB.kept hk
    have hc := some3_49 X b 8 (c + 1) c s l r0 w ht hl (by omega) (by omega) B.2.2 B.2.1 (r.cellar ⟨_, r.box.2.2.2.2.2.2.2.2.2.2⟩) hbX (by omega) (by omega) (by omega) (by omega)
    rw [show (#[pt X, pt b] ++ #[pt c, pt (c + 1)] : Array Value) = #[pt X, pt b, pt c, pt (c + 1)] by simp]
    refine hc.mono fun e w' hs => SetsBox.reads hs ht r hbX hX hb _ (fun w1 v hB hV => by
      obtain ⟨q0, q1, q2, q3, q4, q5, q6, q7, q8, q9, q10⟩ := hB
      obtain ⟨A, ca, rfl, _, hr⟩ := hV
      exact ⟨⟨a.A, a.ca, A, ca⟩, by simp [HapBox, go_sem, q0, q1, q2, q3, q4, q5, q6, q7, q8, q9, q10], fun w2 r g => ⟨r.b, g _ _ hr⟩⟩)
theorem ok_atS (lo : Nat) (W : World) (c : Nat) (hB : NumBox lo W c 2 0 65535 40) : PartOK lo W atS (.func (.func 69) #[] #[pt (c + 3), pt (c + 1), pt (c + 2)]) (.func (.func 70) #[] #[pt (c + 3), pt (c + 1), pt c]) (.func (.func 71) #[] #[pt c, pt (c + 1), pt (c + 3)]) := by
  have hlt := hB.lt
  have hlo := hB.1
  refine ⟨⟨_, _, rfl, ent_number1, ?_⟩, ⟨_, _, rfl, ent_number2, ?_⟩, ⟨_, _, rfl, ent_number3, ?_⟩⟩
  · intro h a w hk
    have B := hB.kept hk
    simpa [atS] using number1_40 (c + 3) (c + 1) (c + 2) (0 : Nat) (65535 : Nat) h a w B.2.2.2.2 B.2.2.1 B.2.2.2.1
  · intro Z v l base h a w hk ho hb hl hv hA hP hkey hm
    have B := hB.kept hk
    simp only [atS, Bool.and_eq_true, decide_eq_true_eq] at hm
    obtain ⟨m, hmm⟩ := Int.eq_ofNat_of_zero_le (show 0 ≤ h.call.at_ - ((0 : Nat) : Int) by omega)
    have hlay : atS.lay h = lowB m 2 := by simp only [atS, hmm]; rfl
    rw [hlay]
    simpa using number2_40 v l base (c + 3) (c + 1) c 2 0 m h a w ho hb hl (by omega) (by omega) (by omega) (by omega) B.2.2.2.2 B.2.2.1 B.2.1 (not_own hv (by omega) (by omega)) (not_own hv (by omega) (by omega)) (not_own hv (by omega) (by omega))
  · intro Z X b s l r0 h a w hk ht hl r hbX hX hb hX2 hb2
    have B := hB.kept hk
    have hc := number3_40 X b (c + 3) (c + 1) c 2 0 s l r0 w ht hl (by omega) (by omega) B.2.2.2.2 B.2.2.1 B.2.1 (r.cellar ⟨_, r.box.2.2.2.2.2.1⟩) hbX (by omega) (by omega) (by omega) (by omega) (by omega) (by omega)
    rw [show (#[pt X, pt b] ++ #[pt c, pt (c + 1), pt (c + 3)] : Array Value) = #[pt X, pt b, pt c, pt (c + 1), pt (c + 3)] by simp]
    refine hc.mono fun e w' hs => SetsBox.reads hs ht r hbX hX hb _ (fun w1 v hB hV => by
      obtain ⟨q0, q1, q2, q3, q4, q5, q6, q7, q8, q9, q10⟩ := hB
      subst hV
      exact ⟨a, by simp [HapBox, go_sem, q0, q1, q2, q3, q4, q5, q6, q7, q8, q9, q10], fun w2 r _ => ⟨r.b, r.p⟩⟩)
theorem ok_manyS (lo : Nat) (W : World) (c : Nat) (hB : NumBox lo W c 2 0 65535 41) : PartOK lo W manyS (.func (.func 69) #[] #[pt (c + 3), pt (c + 1), pt (c + 2)]) (.func (.func 70) #[] #[pt (c + 3), pt (c + 1), pt c]) (.func (.func 71) #[] #[pt c, pt (c + 1), pt (c + 3)]) := by
  have hlt := hB.lt
  have hlo := hB.1
  refine ⟨⟨_, _, rfl, ent_number1, ?_⟩, ⟨_, _, rfl, ent_number2, ?_⟩, ⟨_, _, rfl, ent_number3, ?_⟩⟩
  · intro h a w hk
    have B := hB.kept hk
    simpa [manyS] using number1_41 (c + 3) (c + 1) (c + 2) (0 : Nat) (65535 : Nat) h a w B.2.2.2.2 B.2.2.1 B.2.2.2.1
  · intro Z v l base h a w hk ho hb hl hv hA hP hkey hm
    have B := hB.kept hk
    simp only [manyS, Bool.and_eq_true, decide_eq_true_eq] at hm
    obtain ⟨m, hmm⟩ := Int.eq_ofNat_of_zero_le (show 0 ≤ h.call.many - ((0 : Nat) : Int) by omega)
    have hlay : manyS.lay h = lowB m 2 := by simp only [manyS, hmm]; rfl
    rw [hlay]
    simpa using number2_41 v l base (c + 3) (c + 1) c 2 0 m h a w ho hb hl (by omega) (by omega) (by omega) (by omega) B.2.2.2.2 B.2.2.1 B.2.1 (not_own hv (by omega) (by omega)) (not_own hv (by omega) (by omega)) (not_own hv (by omega) (by omega))
  · intro Z X b s l r0 h a w hk ht hl r hbX hX hb hX2 hb2
    have B := hB.kept hk
    have hc := number3_41 X b (c + 3) (c + 1) c 2 0 s l r0 w ht hl (by omega) (by omega) B.2.2.2.2 B.2.2.1 B.2.1 (r.cellar ⟨_, r.box.2.2.2.2.2.2.1⟩) hbX (by omega) (by omega) (by omega) (by omega) (by omega) (by omega)
    rw [show (#[pt X, pt b] ++ #[pt c, pt (c + 1), pt (c + 3)] : Array Value) = #[pt X, pt b, pt c, pt (c + 1), pt (c + 3)] by simp]
    refine hc.mono fun e w' hs => SetsBox.reads hs ht r hbX hX hb _ (fun w1 v hB hV => by
      obtain ⟨q0, q1, q2, q3, q4, q5, q6, q7, q8, q9, q10⟩ := hB
      subst hV
      exact ⟨a, by simp [HapBox, go_sem, q0, q1, q2, q3, q4, q5, q6, q7, q8, q9, q10], fun w2 r _ => ⟨r.b, r.p⟩⟩)
theorem ok_nS (lo : Nat) (W : World) (c : Nat) (hB : NumBox lo W c 2 0 65535 48) : PartOK lo W nS (.func (.func 69) #[] #[pt (c + 3), pt (c + 1), pt (c + 2)]) (.func (.func 70) #[] #[pt (c + 3), pt (c + 1), pt c]) (.func (.func 71) #[] #[pt c, pt (c + 1), pt (c + 3)]) := by
  have hlt := hB.lt
  have hlo := hB.1
  refine ⟨⟨_, _, rfl, ent_number1, ?_⟩, ⟨_, _, rfl, ent_number2, ?_⟩, ⟨_, _, rfl, ent_number3, ?_⟩⟩
  · intro h a w hk
    have B := hB.kept hk
    simpa [nS] using number1_48 (c + 3) (c + 1) (c + 2) (0 : Nat) (65535 : Nat) h a w B.2.2.2.2 B.2.2.1 B.2.2.2.1
  · intro Z v l base h a w hk ho hb hl hv hA hP hkey hm
    have B := hB.kept hk
    simp only [nS, Bool.and_eq_true, decide_eq_true_eq] at hm
    obtain ⟨m, hmm⟩ := Int.eq_ofNat_of_zero_le (show 0 ≤ h.n - ((0 : Nat) : Int) by omega)
    have hlay : nS.lay h = lowB m 2 := by simp only [nS, hmm]; rfl
    rw [hlay]
    simpa using number2_48 v l base (c + 3) (c + 1) c 2 0 m h a w ho hb hl (by omega) (by omega) (by omega) (by omega) B.2.2.2.2 B.2.2.1 B.2.1 (not_own hv (by omega) (by omega)) (not_own hv (by omega) (by omega)) (not_own hv (by omega) (by omega))
  · intro Z X b s l r0 h a w hk ht hl r hbX hX hb hX2 hb2
    have B := hB.kept hk
    have hc := number3_48 X b (c + 3) (c + 1) c 2 0 s l r0 w ht hl (by omega) (by omega) B.2.2.2.2 B.2.2.1 B.2.1 (r.cellar ⟨_, r.box.2.2.2.2.2.2.2.2.2.1⟩) hbX (by omega) (by omega) (by omega) (by omega) (by omega) (by omega)
    rw [show (#[pt X, pt b] ++ #[pt c, pt (c + 1), pt (c + 3)] : Array Value) = #[pt X, pt b, pt c, pt (c + 1), pt (c + 3)] by simp]
    refine hc.mono fun e w' hs => SetsBox.reads hs ht r hbX hX hb _ (fun w1 v hB hV => by
      obtain ⟨q0, q1, q2, q3, q4, q5, q6, q7, q8, q9, q10⟩ := hB
      subst hV
      exact ⟨a, by simp [HapBox, go_sem, q0, q1, q2, q3, q4, q5, q6, q7, q8, q9, q10], fun w2 r _ => ⟨r.b, r.p⟩⟩)
theorem ok_mountS (lo : Nat) (W : World) (c : Nat) (hB : NumBox lo W c 1 1 256 50) : PartOK lo W mountS (.func (.func 69) #[] #[pt (c + 3), pt (c + 1), pt (c + 2)]) (.func (.func 70) #[] #[pt (c + 3), pt (c + 1), pt c]) (.func (.func 71) #[] #[pt c, pt (c + 1), pt (c + 3)]) := by
  have hlt := hB.lt
  have hlo := hB.1
  refine ⟨⟨_, _, rfl, ent_number1, ?_⟩, ⟨_, _, rfl, ent_number2, ?_⟩, ⟨_, _, rfl, ent_number3, ?_⟩⟩
  · intro h a w hk
    have B := hB.kept hk
    simpa [mountS] using number1_50 (c + 3) (c + 1) (c + 2) (1 : Nat) (256 : Nat) h a w B.2.2.2.2 B.2.2.1 B.2.2.2.1
  · intro Z v l base h a w hk ho hb hl hv hA hP hkey hm
    have B := hB.kept hk
    simp only [mountS, Bool.and_eq_true, decide_eq_true_eq] at hm
    obtain ⟨m, hmm⟩ := Int.eq_ofNat_of_zero_le (show 0 ≤ h.n - ((1 : Nat) : Int) by omega)
    have hlay : mountS.lay h = lowB m 1 := by simp only [mountS, hmm]; rfl
    rw [hlay]
    simpa using number2_50 v l base (c + 3) (c + 1) c 1 1 m h a w ho hb hl (by omega) (by omega) (by omega) (by omega) B.2.2.2.2 B.2.2.1 B.2.1 (not_own hv (by omega) (by omega)) (not_own hv (by omega) (by omega)) (not_own hv (by omega) (by omega))
  · intro Z X b s l r0 h a w hk ht hl r hbX hX hb hX2 hb2
    have B := hB.kept hk
    have hc := number3_50 X b (c + 3) (c + 1) c 1 1 s l r0 w ht hl (by omega) (by omega) B.2.2.2.2 B.2.2.1 B.2.1 (r.cellar ⟨_, r.box.2.2.2.2.2.2.2.2.2.1⟩) hbX (by omega) (by omega) (by omega) (by omega) (by omega) (by omega)
    rw [show (#[pt X, pt b] ++ #[pt c, pt (c + 1), pt (c + 3)] : Array Value) = #[pt X, pt b, pt c, pt (c + 1), pt (c + 3)] by simp]
    refine hc.mono fun e w' hs => SetsBox.reads hs ht r hbX hX hb _ (fun w1 v hB hV => by
      obtain ⟨q0, q1, q2, q3, q4, q5, q6, q7, q8, q9, q10⟩ := hB
      subst hV
      exact ⟨a, by simp [HapBox, go_sem, q0, q1, q2, q3, q4, q5, q6, q7, q8, q9, q10], fun w2 r _ => ⟨r.b, r.p⟩⟩)
end Go.Proofs.Ytffepmoicpphfaa
