/- hedgerowref30 and hedgerowref27.SameCall, walked: what each function computes, as a plain function. -/
import Derived.Test.YtffepmoicpphfaaOwn
namespace Go.Proofs.Ytffepmoicpphfaa
set_option linter.unusedSimpArgs false
set_option linter.unusedVariables false
open Go.RowKit
variable {Z : Nat}

structure CallC where
  kind : Int
  path : List UInt8
  to_ : List UInt8
  at_ : Int
  many : Int
  key : Int
  bytes : List UInt8
structure HapC where
  kind : Int
  client : Int
  call : CallC
  n : Int
  picks : List UInt8
/-- where a hap's two slices lie -/
structure HapA where
  A : Option Addr
  ca : Nat
  P : Option Addr
  cp : Nat
@[reducible] def callV (c : CallC) (A : Option Addr) (cap : Nat) : Value :=
  .agg #[.int .i64 c.kind, .string (strOf c.path), .string (strOf c.to_), .int .i64 c.at_, .int .i64 c.many, .int .u64 c.key, .slice A c.bytes.length cap]
@[reducible] def hapV (h : HapC) (a : HapA) : Value :=
  .agg #[.int .i64 h.kind, .int .i64 h.client, .int .i64 h.call.kind, .string (strOf h.call.path), .string (strOf h.call.to_), .int .i64 h.call.at_, .int .i64 h.call.many, .int .u64 h.call.key, .slice a.A h.call.bytes.length a.ca, .int .i64 h.n, .slice a.P h.picks.length a.cp]
structure RH (Z : Nat) (w : World) (h : HapC) (a : HapA) : Prop where
  b : RB Z w a.A h.call.bytes
  p : RB Z w a.P h.picks
theorem RH.ext {w w' : World} {h a} (r : RH Z w h a) (hb : Ext w w') : RH Z w' h a := ⟨r.b.ext hb, r.p.ext hb⟩
def sameCall (a b : CallC) : Bool := a.kind == b.kind && a.path == b.path && a.to_ == b.to_ && a.at_ == b.at_ && a.many == b.many && a.key == b.key && a.bytes == b.bytes
def sameHap (a b : HapC) : Bool := a.kind == b.kind && a.client == b.client && sameCall a.call b.call && a.n == b.n && a.picks == b.picks

theorem r30in (n most : Int) (w : World) :
    Calls Try.prog 23 #[.int .i64 n, .int .i64 most] w fun e w' => e = .returned (.bool (decide (0 ≤ n) && decide (n ≤ most))) ∧ w = w' := by
  by_cases h : 0 ≤ n
  · go_enter Try.func23, Try.ntmps23
    go_wp2
    go_ret
    exact ⟨by simp; try omega, rfl⟩
  · go_enter Try.func23, Try.ntmps23
    go_wp2
    go_ret
    exact ⟨by simp; try omega, rfl⟩

set_option maxRecDepth 100000 in
set_option maxHeartbeats 400000 in
theorem r27SameCall (a b : CallC) (A B : Option Addr) (ca cb : Nat) (w : World) (hA : RB Z w A a.bytes) (hB : RB Z w B b.bytes) :
    Calls Try.prog 29 #[callV a A ca, callV b B cb] w fun e w' => e = .returned (.bool (sameCall a b)) ∧ Ext w w' := by
  have h1 := fun o1 o2 => RB_str (P := Try.prog) (hA.ext (ext2 w o1 o2)) 31 5 Try.underlying31 Try.underlying5 a.bytes.length ca rfl 9 Try.underlying9
  have h2 := fun o1 o2 => RB_str (P := Try.prog) (hB.ext (ext2 w o1 o2)) 31 5 Try.underlying31 Try.underlying5 b.bytes.length cb rfl 9 Try.underlying9
  have h3 := strOf_toList
  clear hA hB
  go_enter Try.func29, Try.ntmps29
  go_wp2
  all_goals go_ret
  all_goals exact ⟨by simp [sameCall, *], ext2 _ _ _⟩

set_option maxRecDepth 100000 in
set_option maxHeartbeats 400000 in
theorem r30Same (h g : HapC) (a b : HapA) (w : World) (hA : RH Z w h a) (hB : RH Z w g b) :
    Calls Try.prog 16 #[hapV h a, hapV g b] w fun e w' => e = .returned (.bool (sameHap h g)) ∧ Ext w w' := by
  have h3 := strOf_toList
  have hb0 := ext2 w
  go_enter Try.func16, Try.ntmps16
  go_wp2_with (go_at_call 29; refine (r27SameCall h.call g.call a.A b.A a.ca b.ca _ (hA.b.ext (hb0 _ _)) (hB.b.ext (hb0 _ _))).mono ?_; rintro e w1 ⟨rfl, hb1⟩; have hb2 := (hb0 _ _).trans hb1; have h4 := RB_str (P := Try.prog) (hA.p.ext hb2) 31 5 Try.underlying31 Try.underlying5 h.picks.length a.cp rfl 9 Try.underlying9; have h5 := RB_str (P := Try.prog) (hB.p.ext hb2) 31 5 Try.underlying31 Try.underlying5 g.picks.length b.cp rfl 9 Try.underlying9; obtain ⟨hc, hf⟩ := hb1.cells; clear hb1)
  all_goals go_ret
  all_goals exact ⟨by simp [sameHap, *], by first | assumption | exact hb0 _ _⟩

/-- the cells of a hap at an address -/
def HapAt (w : World) (b o : Nat) (h : HapC) (a : HapA) : Prop :=
  w.cell? ⟨b, o, none⟩ = some (.int .i64 h.kind) ∧ w.cell? ⟨b, o + 1, none⟩ = some (.int .i64 h.client) ∧ w.cell? ⟨b, o + 2, none⟩ = some (.int .i64 h.call.kind) ∧
  w.cell? ⟨b, o + 3, none⟩ = some (.string (strOf h.call.path)) ∧ w.cell? ⟨b, o + 4, none⟩ = some (.string (strOf h.call.to_)) ∧ w.cell? ⟨b, o + 5, none⟩ = some (.int .i64 h.call.at_) ∧
  w.cell? ⟨b, o + 6, none⟩ = some (.int .i64 h.call.many) ∧ w.cell? ⟨b, o + 7, none⟩ = some (.int .u64 h.call.key) ∧ w.cell? ⟨b, o + 8, none⟩ = some (.slice a.A h.call.bytes.length a.ca) ∧
  w.cell? ⟨b, o + 9, none⟩ = some (.int .i64 h.n) ∧ w.cell? ⟨b, o + 10, none⟩ = some (.slice a.P h.picks.length a.cp)
theorem HapAt.ext {w w' : World} {b o h a} (r : HapAt w b o h a) (hb : Ext w w') : HapAt w' b o h a := by
  have hl : b < w.heap.size := World.block_lt_of_cell? w _ r.1
  have hc := fun o => hb.cells.1 b o hl
  unfold HapAt at r ⊢
  simpa only [hc] using r
/-- a slice of haps -/
def RHs (Z : Nat) (w : World) (A : Option Addr) (l : List (HapC × HapA)) : Prop :=
  l ≠ [] → ∃ b o, A = some ⟨b, o, none⟩ ∧ ∀ i (hi : i < l.length), HapAt w b (o + i * 11) l[i].1 l[i].2 ∧ RH Z w l[i].1 l[i].2
theorem RHs.ext {w w' : World} {A l} (r : RHs Z w A l) (hb : Ext w w') : RHs Z w' A l := fun hl => by
  obtain ⟨b, o, hA, hc⟩ := r hl
  exact ⟨b, o, hA, fun i hi => ⟨(hc i hi).1.ext hb, (hc i hi).2.ext hb⟩⟩
def sameHaps (l m : List HapC) : Bool := eqAll sameHap l m
set_option maxRecDepth 100000 in
set_option maxHeartbeats 400000 in
theorem r30SameAll (l m : List (HapC × HapA)) (A B : Option Addr) (ca cb : Nat) (w : World) (hA : RHs Z w A l) (hB : RHs Z w B m) (hl : l.length ≤ 9223372036854775807) (_hm : m.length ≤ 9223372036854775807) :
    Calls Try.prog 12 #[.slice A l.length ca, .slice B m.length cb] w fun e w' => e = .returned (.bool (sameHaps (l.map (·.1)) (m.map (·.1)))) ∧ Ext w w' := by
  by_cases hn : l.length = m.length
  · have hnb : ((l.length : Int) != (m.length : Int)) = false := by simp [hn]
    have HN := Lib.hid hn
    clear hn
    go_enter Try.func12, Try.ntmps12
    go_wp2
    go_loopw [5] (fun i wr => ∃ k : Nat, k ≤ l.length ∧ i = .int .i64 k ∧ Hid (∀ (j : Nat) a b, j < k → l[j]? = some a → m[j]? = some b → sameHap a.1 b.1 = true) ∧ Ext w wr) (fun i _ => l.length - (intOf i).toNat)
    case atStart => exact ⟨0, by omega, rfl, fun j a b h => absurd h (by omega), Ext.refl _⟩
    case round =>
      obtain ⟨k, hk, rfl, hs, hb⟩ := hrel
      by_cases hlt : k < l.length
      · obtain ⟨b1, o1, rfl, hc1⟩ := hA (by intro h; simp [h] at hlt)
        obtain ⟨b2, o2, rfl, hc2⟩ := hB (by intro h; have := HN.out; rw [h, List.length_nil] at this; omega)
        have hkm : k < m.length := by have := HN.out; omega
        obtain ⟨ha1, hr1⟩ := hc1 k hlt
        obtain ⟨ha2, hr2⟩ := hc2 k hkm
        have ha1' := ha1.ext hb
        have ha2' := ha2.ext hb
        have hlti : (k : Int) < l.length := by omega
        have hltm : (k : Int) < m.length := by omega
        clear hc1 hc2 hA hB ha1 ha2
        have E1 : l[k]? = some l[k] := List.getElem?_eq_getElem hlt
        have E2 : m[k]? = some m[k] := List.getElem?_eq_getElem hkm
        generalize l[k] = x1 at *
        generalize m[k] = x2 at *
        obtain ⟨h1, a1⟩ := x1
        obtain ⟨h2, a2⟩ := x2
        have HE1 := Lib.hid E1
        have HE2 := Lib.hid E2
        clear E1 E2
        dsimp only at ha1' ha2' hr1 hr2
        go_wp2_with fail
        go_region_held3 (fun w' => w'.cell? ⟨b1, o1 + k * 11, none⟩ = some (.int .i64 h1.kind) ∧ w'.cell? ⟨b1, o1 + k * 11 + 1, none⟩ = some (.int .i64 h1.client) ∧ w'.cell? ⟨b1, o1 + k * 11 + 2, none⟩ = some (.int .i64 h1.call.kind) ∧ w'.cell? ⟨b1, o1 + k * 11 + 3, none⟩ = some (.string (strOf h1.call.path)) ∧ w'.cell? ⟨b1, o1 + k * 11 + 4, none⟩ = some (.string (strOf h1.call.to_)) ∧ w'.cell? ⟨b1, o1 + k * 11 + 5, none⟩ = some (.int .i64 h1.call.at_) ∧ w'.cell? ⟨b1, o1 + k * 11 + 6, none⟩ = some (.int .i64 h1.call.many) ∧ w'.cell? ⟨b1, o1 + k * 11 + 7, none⟩ = some (.int .u64 h1.call.key) ∧ w'.cell? ⟨b1, o1 + k * 11 + 8, none⟩ = some (.slice a1.A h1.call.bytes.length a1.ca) ∧ w'.cell? ⟨b1, o1 + k * 11 + 9, none⟩ = some (.int .i64 h1.n) ∧ w'.cell? ⟨b1, o1 + k * 11 + 10, none⟩ = some (.slice a1.P h1.picks.length a1.cp) ∧ w'.cell? ⟨b2, o2 + k * 11, none⟩ = some (.int .i64 h2.kind) ∧ w'.cell? ⟨b2, o2 + k * 11 + 1, none⟩ = some (.int .i64 h2.client) ∧ w'.cell? ⟨b2, o2 + k * 11 + 2, none⟩ = some (.int .i64 h2.call.kind) ∧ w'.cell? ⟨b2, o2 + k * 11 + 3, none⟩ = some (.string (strOf h2.call.path)) ∧ w'.cell? ⟨b2, o2 + k * 11 + 4, none⟩ = some (.string (strOf h2.call.to_)) ∧ w'.cell? ⟨b2, o2 + k * 11 + 5, none⟩ = some (.int .i64 h2.call.at_) ∧ w'.cell? ⟨b2, o2 + k * 11 + 6, none⟩ = some (.int .i64 h2.call.many) ∧ w'.cell? ⟨b2, o2 + k * 11 + 7, none⟩ = some (.int .u64 h2.call.key) ∧ w'.cell? ⟨b2, o2 + k * 11 + 8, none⟩ = some (.slice a2.A h2.call.bytes.length a2.ca) ∧ w'.cell? ⟨b2, o2 + k * 11 + 9, none⟩ = some (.int .i64 h2.n) ∧ w'.cell? ⟨b2, o2 + k * 11 + 10, none⟩ = some (.slice a2.P h2.picks.length a2.cp)) (first | (have t := And.intro (show HapAt wr.drew _ _ _ _ from ha1') (show HapAt wr.drew _ _ _ _ from ha2'); simpa only [HapAt, and_assoc] using t) | (have t := And.intro ((show HapAt wr.drew _ _ _ _ from ha1').ext hb1) ((show HapAt wr.drew _ _ _ _ from ha2').ext hb1); simpa only [HapAt, and_assoc] using t)) (first | (go_at_call 16; refine (r30Same h1 h2 a1 a2 _ (hr1.ext hb.drew) (hr2.ext hb.drew)).mono ?_; rintro e w1 ⟨rfl, hb1⟩))
        have hb2 := hb.trans hb1.undrew
        cases hsm : sameHap h1 h2
        · have hfin : sameHaps (l.map (·.1)) (m.map (·.1)) = false := eqAll_at sameHap _ _ k h1 h2 (by simp [HE1.out]) (by simp [HE2.out]) hsm
          have HF := Lib.hid hfin
          clear hfin
          go_wp2
          go_ret
          exact ⟨ret_bool HF.out.symm, hb2⟩
        · have HM := Lib.hid hsm
          go_wp2
          go_roundw
          case rel =>
            refine ⟨k + 1, by omega, by go_num, ?_, hb2⟩
            intro j a b hj h3 h4
            by_cases hjk : j < k
            · exact hs.out j a b hjk h3 h4
            · obtain rfl : j = k := by omega
              rw [HE1.out] at h3
              rw [HE2.out] at h4
              injection h3 with h3
              injection h4 with h4
              subst h3; subst h4
              exact HM.out
          case measure => simp [intOf]; omega
      · have hfin : sameHaps (l.map (·.1)) (m.map (·.1)) = true := by
          refine eqAll_true sameHap _ _ (by simpa using HN.out) ?_
          intro j a b h3 h4
          simp at h3 h4
          obtain ⟨y1, h3⟩ := h3
          obtain ⟨y2, h4⟩ := h4
          have hj : j < l.length := (List.getElem?_eq_some_iff.1 h3).1
          exact hs.out j _ _ (by omega) h3 h4
        have HF := Lib.hid hfin
        clear hfin hs
        go_wp2
        go_ret
        exact ⟨ret_bool HF.out.symm, hb⟩
  · have hnb : ((l.length : Int) != (m.length : Int)) = true := by simp; omega
    have hfin : sameHaps (l.map (·.1)) (m.map (·.1)) = false := eqAll_len _ _ _ (by simpa using hn)
    have HF := Lib.hid hfin
    clear hfin
    go_enter Try.func12, Try.ntmps12
    go_wp2
    go_ret
    exact ⟨ret_bool HF.out.symm, Ext.refl _⟩
end Go.Proofs.Ytffepmoicpphfaa
