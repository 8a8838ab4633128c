/- script: the iterator of Each, walked. -/
import Derived.Test.YtffepmoicpphfaaSc18
import Derived.RangeFuncNested
import Derived.RangeFuncBound
import Derived.RangeFuncCalls
import Derived.RangeFuncLeaves
import Derived.Shelf.RegionOpen
import Derived.OwnWalkIn
import Derived.TacticsInMore
import Derived.LoopNIn
import Derived.LoopIn
import Derived.Scope
namespace Go.Proofs.Ytffepmoicpphfaa
set_option linter.unusedSimpArgs false
set_option linter.unusedVariables false
open Go.RowKit
variable {Z : Nat}
attribute [local go_sem] Oper.semAt_some
def atOf (w : World) (b : Nat) : Nat := match w.cell? ⟨b, 1, none⟩ with | some (.int _ n) => n.toNat | _ => 0
/-- what a round of the loop's body leaves of the iterator's own -/
structure Stays (Z X rb : Nat) (s : SA) (raw : List UInt8) (A B : World) : Prop where
  size : A.heap.size ≤ B.heap.size
  tape : B.heap[X]? = A.heap[X]?
  box : B.heap[rb]? = A.heap[rb]?
  raw : RB Z A s.A raw → RB Z B s.A raw
theorem hapsF_go (raw : List UInt8) (at_ : Nat) (hlt : at_ < raw.length) (hb : (hapR ⟨raw.drop at_, false⟩).1.bad = false) :
    hapsF raw.length raw.length ⟨raw.drop at_, false⟩ = ((hapR ⟨raw.drop at_, false⟩).2, at_) :: hapsF raw.length raw.length (hapR ⟨raw.drop at_, false⟩).1 := by
  obtain ⟨m, hm⟩ : ∃ m, raw.length = m + 1 := ⟨raw.length - 1, by omega⟩
  have hok := (hapR_ok ⟨raw.drop at_, false⟩ (by simpa using hb)).2
  simp only [List.length_drop] at hok
  rw [hapsF_enough raw.length raw.length m (hapR ⟨raw.drop at_, false⟩).1 (by omega) (by omega)]
  rw [hm] at hlt hok ⊢
  rw [hapsF, if_neg (by simp only [List.length_drop]; omega), if_neg (by rw [hb]; simp)]
  simp only [List.length_drop]
  rw [hm, show m + 1 - (m + 1 - at_) = at_ by omega]
theorem hapsF_stop (n : Nat) (raw : List UInt8) (r : Rdr) (hb : (hapR r).1.bad = true) : hapsF n raw.length r = [] := by
  cases n with
  | zero => rfl
  | succ n =>
    rw [hapsF]
    split
    · rfl
    · rfl
theorem hapsF_end (n m : Nat) (r : Rdr) (hb : r.B.length = 0) : hapsF n m r = [] := by
  cases n with
  | zero => rfl
  | succ n => rw [hapsF, if_pos hb]
theorem Nexts.good {w : World} {X : Nat} {s : SA} {l : List UInt8} {p : Rdr × HapC} {e : Ending} {w' : World} (h : Nexts Z w X s l p e w') (hb : p.1.bad = false) : w.grownBy w' (some X) ∧ ∃ a, e = .returned (.tuple #[hapV p.2 a, .int .i64 0]) ∧ RH Z w' p.2 a ∧ TR Z w' X s l p.1 := by
  obtain ⟨hg, (⟨_, h2⟩ | ⟨h1, _⟩)⟩ := h
  · exact ⟨hg, h2⟩
  · rw [hb] at h1; cases h1
theorem Nexts.poor {w : World} {X : Nat} {s : SA} {l : List UInt8} {p : Rdr × HapC} {e : Ending} {w' : World} (h : Nexts Z w X s l p e w') (hb : p.1.bad = true) : w.grownBy w' (some X) ∧ e = .returned (.tuple #[hapV zeroHap nilA, .int .i64 400]) := by
  obtain ⟨hg, (⟨h1, _⟩ | ⟨_, h2⟩)⟩ := h
  · rw [hb] at h1; cases h1
  · exact ⟨hg, h2⟩
theorem TR.stays {A B : World} {X rb : Nat} {s : SA} {raw : List UInt8} {r : Rdr} (h : TR Z A X s raw r) (hs : Stays Z X rb s raw A B) : TR Z B X s raw r := by
  obtain ⟨n, t, hr⟩ := h
  have he := hs.tape
  refine ⟨n, ⟨(World.cell?_of_block (a := ⟨X, 0, none⟩) he).trans t.c0, (World.cell?_of_block (a := ⟨X, 1, none⟩) he).trans t.c1, fun o' => (World.frozen?_of_block (a := ⟨X, o', none⟩) he).trans (t.fz o'), ⟨hs.raw t.rs.rb, t.rs.le, t.rs.ml⟩, t.le, ?_⟩, hr⟩
  obtain ⟨cs, fr, ht⟩ := t.ty
  exact ⟨cs, fr, he.trans ht⟩
theorem TR.at {A : World} {X : Nat} {s : SA} {raw : List UInt8} {r : Rdr} (h : TR Z A X s raw r) : r.B.length = raw.length - atOf A X ∧ atOf A X ≤ raw.length := by
  obtain ⟨n, t, rfl⟩ := h
  have : atOf A X = n := by simp [atOf, t.c1]
  rw [this]
  exact ⟨by simp, t.le⟩
set_option maxRecDepth 100000 in
set_option maxHeartbeats 2000000 in
theorem each1 (l rb : Nat) (s : SA) (raw : List UInt8) (W : World) (hrs : RS Z W s raw) (hl : raw.length ≤ 1048576) (hrb : W.cell? ⟨rb, 0, none⟩ = some (.slice s.A raw.length s.c)) (hZ : Z ≤ W.heap.size) (J : Nat → World → Prop) (Jx : World → Prop)
    (hJ0 : ∀ k A B, J k A → Ext A B → J k B) (hJ : ∀ k A B, J k A → Typ A W.heap.size 75 → A.grownBy B (some W.heap.size) → J k B)
    (hY : ∀ k A a, (hk : k < (hapsL raw).length) → J k A → RH Z A (hapsL raw)[k].1 a → Typ A W.heap.size 75 → YieldAt Fence.wide 2 Try.prog l #[.int .i64 ((hapsL raw)[k].2 : Nat), hapV (hapsL raw)[k].1 a] A fun e B =>
      (e = .returned (.bool true) ∧ J (k + 1) B ∧ Stays Z W.heap.size rb s raw A B) ∨ (e = .returned (.bool false) ∧ Jx B)) (h0 : J 0 W) :
    CallsIn Fence.wide 3 Try.prog 27 #[.func (.yield l) #[] #[], pt rb] W fun e W' => (∃ v, e = .returned v) ∧ (J (hapsL raw).length W' ∨ Jx W') := by
  have hro : Fence.wide.round = none := rfl
  have hx1 := ext1 W (.cells #[(.slice s.A raw.length s.c), .int .i64 0] 75)
  have hT1 : TR Z (W.alloc (.cells #[(.slice s.A raw.length s.c), .int .i64 0] 75)) W.heap.size s raw ⟨raw, false⟩ :=
    ⟨0, ⟨by simp [go_sem], by simp [go_sem], fun o => by simp [go_sem], hrs.ext hx1, Nat.zero_le _, ⟨_, _, new_block W _⟩⟩, rfl⟩
  have hJ1 := hJ0 0 W _ h0 hx1
  have hrb1 := hx1.cell hrb
  have hrbX : rb ≠ W.heap.size := by have := World.block_lt_of_cell? W _ hrb; dsimp only at this; omega
  have hXS : hapsL raw = hapsF raw.length raw.length ⟨raw, false⟩ := rfl
  generalize hapsL raw = xs at *
  have HT1 := Lib.hid hT1
  have HJ1 := Lib.hid hJ1
  have HRB1 := Lib.hid hrb1
  have HXS := Lib.hid hXS
  clear hT1 hJ1 hrb1 hXS hx1 h0
  refine callsIn_of_wp Try.func27 rfl trivial ?_ hro
  simp only [Try.ntmps27, List.size_toArray, List.length_cons, List.length_nil, Nat.reduceAdd, Nat.reduceSub, Array.replicate_succ, Array.replicate_zero, List.push_toArray, List.append_toArray, List.nil_append, List.cons_append]
  refine (wpIn_wide (n := 3)).2 (wp_scope_straight ((wpIn_wide (n := 3)).1 ?_))
  gi_wp2
  refine wpIn_label ?_
  gi_wp2
  have HRS := Lib.hid hrs
  clear hrb hrs
  gi_loopw [4] (fun _ wr => ∃ k r, k ≤ xs.length ∧ Hid (xs.drop k = hapsF raw.length raw.length r) ∧ Hid (TR Z wr W.heap.size s raw r) ∧ Hid (J k wr) ∧ Hid (wr.cell? ⟨rb, 0, none⟩ = some (.slice s.A raw.length s.c))) (fun _ wr => raw.length - atOf wr W.heap.size)
  case atStart => exact ⟨0, ⟨raw, false⟩, Nat.zero_le _, HXS.out, HT1.out, HJ1.out, HRB1.out⟩
  case round =>
    obtain ⟨k, r, hk, HD, HT, HJ, HRB⟩ := hrel
    obtain ⟨at_, T, rfl⟩ := HT.out
    have c1 := T.c1
    have cr := HRB.out
    have hle := T.le
    by_cases hlt : at_ < raw.length
    · have hlti : (at_ : Int) < raw.length := by omega
      have HS := Lib.hid (And.intro c1 cr)
      gi_wp2_with (fail)
      refine (wpIn_wide (n := 3)).2 ?_
      go_region_held3 (fun w' => w'.cell? ⟨W.heap.size, 1, none⟩ = some (.int .i64 at_) ∧ w'.cell? ⟨rb, 0, none⟩ = some (.slice s.A raw.length s.c)) (first | exact HS.out) (fail)
      have hTd := TR.ext HT.out (Ext.refl _).drew
      have HN := Lib.hid (tapeNext W.heap.size s raw ⟨raw.drop at_, false⟩ wr.drew hTd hl hZ)
      have HTy := Lib.hid hTd.ty
      have HJd := Lib.hid (hJ0 _ _ _ HJ.out (Ext.refl _).drew)
      have HRBd := Lib.hid (show wr.drew.cell? ⟨rb, 0, none⟩ = some (.slice s.A raw.length s.c) from HRB.out)
      have HAT := Lib.hid (show atOf wr W.heap.size = at_ by simp [atOf, c1])
      clear hTd HS
      cases hbad : (hapR ⟨raw.drop at_, false⟩).1.bad
      · have hgo := hapsF_go raw at_ hlt hbad
        have hok := (hapR_ok ⟨raw.drop at_, false⟩ (by simpa using hbad)).2
        rw [HD.out.symm] at hgo
        generalize hapR ⟨raw.drop at_, false⟩ = p at *
        obtain ⟨r2, h2⟩ := p
        dsimp only at hgo hok hbad HN
        have hk2 : k < xs.length := by
          rcases Nat.lt_or_ge k xs.length with h | h
          · exact h
          · rw [List.drop_of_length_le h] at hgo; cases hgo
        rw [List.drop_eq_getElem_cons hk2] at hgo
        injection hgo with hg1 hg2
        have HY := fun A a => hY k A a hk2
        rw [hg1] at HY
        dsimp only at HY
        have HYH := Lib.hid HY
        have HG2 := Lib.hid hg2
        have HOK := Lib.hid hok
        clear HY hg1 hg2 hY hok
        gi_wp2_with (first | (refine ⟨trivial, ?_⟩; gi_at_call 28; refine (callsIn_wide.2 HN.out).mono ?_; intro e w2 hn; obtain ⟨hg2, a, rfl, hr2, ht2⟩ := Nexts.good hn hbad; clear hn; have hxa := ext1 w2 (hapObj h2 a); obtain ⟨fn, tmps, assign, body, hy, hR⟩ := HYH.out _ a (hJ0 _ _ _ (hJ _ _ _ HJd.out HTy.out hg2) hxa) (hr2.ext hxa) (ht2.ty.ext hxa); have HR := Lib.hid hR; clear hR; have HT2 := Lib.hid (TR.ext ht2 hxa); have HB2 := Lib.hid (hxa.cell (hg2.cell HRBd.out (by intro e; injection e with e; exact hrbX e))); clear hg2 hr2 ht2 hxa))
        refine HR.out.mono ?_
        rintro e W3 (⟨rfl, hJ3, hS3⟩ | ⟨rfl, hJx3⟩)
        · gi_wp2
          go_roundw
          case rel => exact ⟨k + 1, r2, hk2, HG2.out, HT2.out.stays hS3, hJ3, (World.cell?_of_block (a := ⟨rb, 0, none⟩) hS3.box).trans HB2.out⟩
          case measure =>
            have h1 := (HT2.out.stays hS3).at
            have h2 := HOK.out
            have h3 := HAT.out
            simp only [List.length_drop] at h2
            omega
        · gi_wp2
          simp only [Exit.noGoto]
          go_end0
          exact ⟨⟨_, rfl⟩, .inr hJx3⟩
      · have hst := hapsF_stop raw.length raw _ hbad
        rw [HD.out.symm] at hst
        have hke : k = xs.length := by
          have := congrArg List.length hst
          simp at this; omega
        generalize hapR ⟨raw.drop at_, false⟩ = p at *
        gi_wp2_with (first | (refine ⟨trivial, ?_⟩; gi_at_call 28; refine (callsIn_wide.2 HN.out).mono ?_; intro e w2 hn; obtain ⟨hg2, rfl⟩ := Nexts.poor hn hbad; clear hn))
        refine ⟨fun _ h => (by cases h), ?_⟩
        gi_wp2
        simp only [Exit.noGoto]
        go_end0
        subst hke
        exact ⟨⟨_, rfl⟩, .inl (hJ0 _ _ _ (hJ _ _ _ HJd.out HTy.out hg2) (ext1 _ _))⟩
    · have hlti : ¬ (at_ : Int) < raw.length := by omega
      have hlti' : (raw.length : Int) ≤ at_ := by omega
      have HS := Lib.hid (And.intro c1 cr)
      gi_wp2_with (fail)
      refine (wpIn_wide (n := 3)).2 ?_
      go_region_held3 (fun w' => w'.cell? ⟨W.heap.size, 1, none⟩ = some (.int .i64 at_) ∧ w'.cell? ⟨rb, 0, none⟩ = some (.slice s.A raw.length s.c)) (first | exact HS.out) (fail)
      gi_wp2
      simp only [Exit.noGoto]
      go_end0
      have hke : k = xs.length := by
        have := congrArg List.length HD.out
        rw [hapsF_end _ _ _ (by simp; omega)] at this
        simp at this; omega
      subst hke
      exact ⟨⟨_, rfl⟩, .inl (hJ0 _ _ _ HJ.out (Ext.refl _).drew)⟩
end Go.Proofs.Ytffepmoicpphfaa
