/- the law's ScriptHaps, walked. -/
import Derived.Test.YtffepmoicpphfaaL2
import Derived.Test.YtffepmoicpphfaaL4
import Derived.Test.YtffepmoicpphfaaL3
import Derived.Test.YtffepmoicpphfaaP2
import Derived.Deep.RegionHeld3
namespace Go.Proofs.Ytffepmoicpphfaa
set_option linter.unusedSimpArgs false
set_option linter.unusedVariables false
open Go.RowKit
variable {Z : Nat}
attribute [local go_sem] Oper.semAt_some
theorem same_self (h : HapC) (a b : HapA) (w : World) (hA : RH Z w h a) (hB : RH Z w h b) : Calls Try.prog 16 #[hapV h a, hapV h b] w fun e w' => e = .returned (.bool true) ∧ Ext w w' := by
  refine (r30Same h h a b w hA hB).mono ?_
  rintro e w' ⟨rfl, hx⟩
  exact ⟨by rw [sameHap_refl], hx⟩
theorem RS.tail {w : World} {A : Option Addr} {c : Nat} {l : List UInt8} (h : RB Z w A (l ++ [77])) (hc : l.length + 1 ≤ c) (hm : c ≤ maxLen) : RS Z w ⟨A, c⟩ l := by
  refine ⟨?_, by dsimp only; omega, hm⟩
  have := h.take l.length
  rwa [List.take_left] at this
theorem RB.last {w : World} {A : Option Addr} {l : List UInt8} (h : RB Z w A (l ++ [77])) : ∃ b o, A = some ⟨b, o, none⟩ ∧ w.cell? ⟨b, o + l.length, none⟩ = some (.int .u8 77) := by
  obtain ⟨b, o, hA, _, hc⟩ := h (by simp)
  refine ⟨b, o, hA, ?_⟩
  have := hc l.length (by simp)
  simpa using this
/-- two lists of the same haps -/
theorem same_two (l : List HapC) (az bz : List HapA) (A B : Option Addr) (n ca cb : Nat) (w : World) (hn : n = l.length) (ha : az.length = l.length) (hb : bz.length = l.length) (hA : RHs Z w A (l.zip az)) (hB : RHs Z w B (l.zip bz)) (hl : l.length ≤ 1048576) :
    Calls Try.prog 12 #[.slice A n ca, .slice B n cb] w fun e w' => e = .returned (.bool true) ∧ Ext w w' := by
  have z1 : (l.zip az).length = n := by simp [ha, hn]
  have z2 : (l.zip bz).length = n := by simp [hb, hn]
  have m1 : (l.zip az).map (·.1) = l := by rw [List.map_fst_zip]; omega
  have m2 : (l.zip bz).map (·.1) = l := by rw [List.map_fst_zip]; omega
  have := r30SameAll (l.zip az) (l.zip bz) A B ca cb w hA hB (by omega) (by omega)
  rw [z1, z2, m1, m2, sameHaps_refl] at this
  exact this
theorem ziplen {α β : Type} {l : List α} {m : List β} (h : m.length = l.length) : (l.zip m).length = l.length := by simp [h]
theorem row77 {w0 w1 w2 : World} {raw : List UInt8} {v1 v2 : Value} {b : Nat} {o1 : Obj} (hob1 : OB w1 b v1 ([] ++ raw)) (hob2 : OB w2 b v2 ([] ++ raw ++ [UInt8.ofNat 77])) (hg2 : (w1.alloc o1).grownBy w2 v1.ownBlock) (hb : w0.heap.size = b) (hx1 : Ext w0 w1) :
    ∃ A c, raw.length + 1 ≤ c ∧ c ≤ maxLen ∧ v2 = .slice A (raw.length + 1) c ∧ RB Z w2 A (raw ++ [77]) ∧ Ext w0 w2 := by
  obtain ⟨A, c, hv, hc, hm, hr⟩ := OB.rb (Z := Z) hob2
  simp only [List.nil_append] at hr hc hv
  refine ⟨A, c, by simpa using hc, hm, by simpa using hv, hr, Ext.grown (hx1.trans (ext1 _ _)) hg2 fun k e => by rw [hb]; exact (World.ownsRow.lt hob1 k e).1⟩
theorem given_of {w w' : World} {raw : List UInt8} {e : Ending} (h : HapsGiven Z w (hapsL raw) e w') :
    ∃ (A7 : Option Addr) (c7 : Nat) (A8 : Option Addr) (c8 : Nat), e = .returned (.tuple #[.slice A7 (hapsOf raw).length c7, .slice A8 (hapsOf raw).length c8]) ∧ ((hapsOf raw).length ≤ c7 ∧ (hapsOf raw).length ≤ c8) ∧
      (∃ bz : List HapA, bz.length = (hapsOf raw).length ∧ RHs Z w' A7 ((hapsOf raw).zip bz)) ∧ RV w' A8 ((hapsL raw).map fun x => Value.int .i64 (x.2 : Int)) ∧ Ext w w' := by
  obtain ⟨bz, v7, v8, hz5, he5, ho7, ho8, hr7, hx5⟩ := h
  have hz : bz.length = (hapsOf raw).length := by rw [hz5, hapsOf_len]
  obtain ⟨A7, c7, hv7, hc7, hm7, hR7⟩ := OHs.rhs (l := (hapsOf raw).zip bz) ho7 hr7
  obtain ⟨A8, c8, hv8, hc8, hR8⟩ := own_rv ho8
  rw [ziplen hz] at hv7 hc7
  rw [List.length_map, ← hapsOf_len] at hv8 hc8
  subst hv7 hv8
  refine ⟨A7, c7, A8, c8, he5, ⟨hc7, hc8⟩, ⟨bz, hz, hR7⟩, ?_, hx5⟩
  have : ((hapsL raw).map fun x => (x.2 : Int)).map (Value.int .i64) = (hapsL raw).map fun x => Value.int .i64 (x.2 : Int) := by simp
  rw [← this]
  exact hR8
theorem eq_nilFunc (k : Nat) (cap : Array Value) (W : World) : (binOp BinOp.eql 48 (Value.func (Fn.func k) #[] cap) Value.nilFunc).run Try.prog W = .ok (.bool false) W := by kernel_rfl
theorem row_first {w w1 : World} {o1 o2 o3 : Obj} (hg1 : (((w.alloc o1).alloc o2).alloc o3).grownBy w1 (Value.slice (some ⟨w.heap.size + 1 + 1, 0, none⟩) 0 0).ownBlock) : Ext ((w.alloc o1).alloc o2) w1 :=
  Ext.grown (ext1 _ o3) hg1 fun k e => by
    have e : some (w.heap.size + 1 + 1) = some k := e
    injection e with e
    simp; omega
theorem raw_back (l : List HapC) (az : List HapA) (A : Option Addr) (c : Nat) (w : World) (hz : az.length = l.length) (hR : RHs Z w A (l.zip az)) (hh : ∀ h ∈ l, hasBytes h = true ∧ KeyIn h) (hln : ∀ h ∈ l, h.call.bytes.length ≤ 9223372036854775807 ∧ h.picks.length ≤ 9223372036854775807) (hl : l.length ≤ 2000) :
    Calls Try.prog 10 #[.slice A l.length c] w fun e w' => Ext w w' ∧ ∃ s : SA, e = .returned (.tuple #[.slice s.A (rawB l).length s.c, .int .i64 0]) ∧ RS Z w' s (rawB l) := by
  have hm : (l.zip az).map (·.1) = l := by rw [List.map_fst_zip (by omega)]
  have hmem : ∀ x ∈ l.zip az, x.1 ∈ l := fun x hx => by
    have : x.1 ∈ (l.zip az).map (·.1) := List.mem_map.2 ⟨x, hx, rfl⟩
    rwa [hm] at this
  refine rawT (l.zip az) A c w l hm (List.all_eq_true.2 fun h h1 => (hh h h1).1) l.length (ziplen hz).symm (scRaw _ A c w hR (by rw [ziplen hz]; omega) (fun x hx => (hh _ (hmem x hx)).2) (fun x hx => hln _ (hmem x hx)))
/-- what the two turns read -/
structure HEnv (Z : Nat) (raw : List UInt8) (many : Int) (t : SA) (A7 : Option Addr) (c7 : Nat) (A8 : Option Addr) (c8 : Nat) (bz : List HapA) (p3 p7 p8 rb : Nat) (W : World) : Prop where
  c3 : W.cell? ⟨p3, 0, none⟩ = some (.int .i64 many)
  h7 : W.cell? ⟨p7, 0, none⟩ = some (.slice A7 (hapsOf raw).length c7)
  h8 : W.cell? ⟨p8, 0, none⟩ = some (.slice A8 (hapsOf raw).length c8)
  crb : W.cell? ⟨rb, 0, none⟩ = some (.slice t.A raw.length t.c)
  rs : RS Z W t raw
  bl : bz.length = (hapsOf raw).length
  r7 : RHs Z W A7 ((hapsOf raw).zip bz)
  r8 : RV W A8 ((hapsL raw).map fun x => Value.int .i64 (x.2 : Int))
theorem HEnv.ex {raw many t A7 c7 A8 c8 bz p3 p7 p8 rb} {W W' : World} (h : HEnv Z raw many t A7 c7 A8 c8 bz p3 p7 p8 rb W) (hx : Ext W W') : HEnv Z raw many t A7 c7 A8 c8 bz p3 p7 p8 rb W' :=
  ⟨hx.cell h.c3, hx.cell h.h7, hx.cell h.h8, hx.cell h.crb, h.rs.ext hx, h.bl, h.r7.ext hx, h.r8.ext hx⟩
theorem HEnv.at {raw many t A7 c7 A8 c8 bz p3 p7 p8 rb} {W : World} (h : HEnv Z raw many t A7 c7 A8 c8 bz p3 p7 p8 rb W) (k : Nat) (hk : k < (hapsL raw).length) :
    ∃ bw ow bi oi y, A7 = some ⟨bw, ow, none⟩ ∧ HapAt W bw (ow + k * 11) (hapsL raw)[k].1 y ∧ RH Z W (hapsL raw)[k].1 y ∧ A8 = some ⟨bi, oi, none⟩ ∧ W.cell? ⟨bi, oi + k, none⟩ = some (.int .i64 ((hapsL raw)[k].2 : Nat)) := by
  have hl := hapsOf_len raw
  have hb := h.bl
  obtain ⟨bw, ow, h1, h2⟩ := h.r7 (by intro e; have := ziplen hb; rw [e] at this; simp at this; omega)
  have hkz : k < ((hapsOf raw).zip bz).length := by simp; omega
  obtain ⟨h3, h4⟩ := h2 k hkz
  obtain ⟨bi, oi, h5, h6⟩ := h.r8 (by intro e; have := congrArg List.length e; rw [List.length_map] at this; simp only [List.length_nil] at this; omega)
  have h7 := h6 k (.int .i64 ((hapsL raw)[k].2 : Nat)) (by simp [hk])
  have e1 : (((hapsOf raw).zip bz)[k]).1 = (hapsL raw)[k].1 := by simp [hapsOf]
  rw [e1] at h3 h4
  exact ⟨bw, ow, bi, oi, _, h1, h3, h4, h5, h7⟩
/-- where a turn is -/
structure Turn (V : World) (k : Nat) (A : World) : Prop where
  ext : Ext V A
  c : A.cell? ⟨V.heap.size, 0, none⟩ = some (.int .i64 (k : Nat))
  fz : A.frozen? ⟨V.heap.size, 0, none⟩ = false
  ty : Typ A V.heap.size 3
theorem Turn.new (V : World) : Turn V 0 (V.alloc (.cells #[.int .i64 0] 3)) := ⟨ext1 _ _, by simp [go_sem], by simp [go_sem], ⟨_, _, new_block V _⟩⟩
theorem Turn.ex {V A B : World} {k : Nat} (h : Turn V k A) (hx : Ext A B) : Turn V k B := ⟨h.ext.trans hx, hx.cell h.c, (hx.cells.2 _ 0 h.ty.lt).trans h.fz, h.ty.ext hx⟩
theorem Turn.gr {V A B : World} {k X : Nat} (h : Turn V k A) (hX : V.heap.size + 1 ≤ X) (hg : A.grownBy B (some X)) : Turn V k B :=
  ⟨Ext.grown h.ext hg (by intro j e; injection e with e; omega), hg.cell h.c (by intro e; have e := Option.some.inj e; dsimp only at e; omega), (hg.frozen_far ⟨V.heap.size, 0, none⟩ h.ty.lt (by intro e; have e := Option.some.inj e; dsimp only at e; omega)).trans h.fz, h.ty.grown hg (by omega)⟩
theorem Turn.set {V A : World} {k : Nat} (h : Turn V k A) (m : Nat) : Turn V m (A.setCell ⟨V.heap.size, 0, none⟩ (.int .i64 (m : Nat))) :=
  ⟨h.ext.setCell (Nat.le_refl _) _, by simp [go_sem, h.c], by rw [World.frozen?_setCell]; exact h.fz, h.ty.set _ _⟩
/-- a turn goes on; a turn has ended -/
def Going (t : Nat) (many : Int) (k : Nat) : Prop := t = 0 → k = 0 ∨ (k : Int) < many
def Went (t : Nat) (many : Int) (n m : Nat) : Prop := (t = 0 → (m : Int) = min (n : Int) (max 1 many)) ∧ (t = 1 → m = n)
theorem Going.went {t : Nat} {many : Int} {n : Nat} (h : Going t many n) : Went t many n n := ⟨fun h0 => by have := h h0; omega, fun _ => rfl⟩
theorem Going.leave {t : Nat} {many : Int} {n k : Nat} (h : Going t many k) (ht : t = 0) (hk : k < n) (hm : many ≤ ((k + 1 : Nat) : Int)) : Went t many n (k + 1) := ⟨fun h0 => by have := h h0; omega, fun h1 => by omega⟩
theorem Going.next {t : Nat} {many : Int} {k : Nat} (hm : t = 0 → ¬ many ≤ ((k + 1 : Nat) : Int)) : Going t many (k + 1) := fun h0 => .inr (by have := hm h0; omega)
/-- the loop over Each in a turn, left or not -/
theorem range_both {id : Nat} {g : Operand} {ps : Array Tmp} {assign body : Code} {Q : Exit → Act → World → Prop} {a : Act} {w : World} {rb : Nat} {s : SA} {raw : List UInt8}
    (hb : Q (.exit id) = Q .normal) (hg : a.eval g = .func (.func 27) #[] #[pt rb]) (hps : ps.size = 2) (hrs : RS Z w s raw) (hl : raw.length ≤ 1048576) (hrb : w.cell? ⟨rb, 0, none⟩ = some (.slice s.A raw.length s.c)) (hZ : Z ≤ w.heap.size)
    (I : Nat → World → Prop) (J : World → Prop)
    (hIe : ∀ k A B, I k A → Ext A B → I k B)
    (hI : ∀ k A B X, w.heap.size ≤ X → I k A → A.grownBy B (some X) → I k B)
    (hJ : ∀ A B X, w.heap.size ≤ X → J A → A.grownBy B (some X) → J B)
    (hIJ : ∀ W, I (hapsL raw).length W → J W)
    (h0 : I 0 w)
    (hround : ∀ (L k : Nat) (A : World) (x : HapA) (hk : k < (hapsL raw).length), w.heap.size ≤ L → (∃ o, A.heap[L]? = some o ∧ o.isCells = false) → I k A → RH Z A (hapsL raw)[k].1 x →
      assign.wpIn (Fence.wide.inRound L) 2 Try.prog (Exit.then (fun a1 A1 => Ext A A1 ∧ ∀ o', I k (A1.putObj L o') → body.wpIn (Fence.wide.inRound L) 2 Try.prog (roundEnd Z rb s raw (I (k + 1)) (fun c A => c = .exit id ∧ J A) (A1.putObj L o')) a1 (A1.putObj L o')) (fun _ _ _ => False))
        { tmps := (ps.zip #[.int .i64 ((hapsL raw)[k].2 : Nat), hapV (hapsL raw)[k].1 x]).foldl (fun t (p, v) => t.setIfInBounds p v) a.tmps, defers := [] } A)
    (hfin : ∀ D W, w.heap.size ≤ D → J W → W.heap[D]? = some (.deferred (some [])) → Q .normal { a with defers := { target := .collected D, args := #[] } :: a.defers } W) :
    (Code.rangeFunc g ps assign body).wpIn Fence.wide 4 Try.prog Q a w := by
  refine range_each hg hps hrs hl hrb hZ I (fun c A => c = .exit id ∧ J A) hIe (fun k A B X h1 h2 h3 _ => hI k A B X h1 h2 h3) ?_ h0 hround (fun D W h1 h2 h3 => hfin D W h1 (hIJ W h2) h3) ?_
  · rintro c A l o o' h1 ⟨h2, h3⟩ h4 h5
    exact ⟨h2, hJ A _ l h1 h3 (grownBy_putObj' A l o')⟩
  · rintro D c W h1 ⟨rfl, h3⟩ h4
    refine wpIn_exit ?_
    rw [hb]
    exact hfin D W h1 h3 h4
theorem hap_in_round {A : World} {L : Nat} {o' oL : Obj} {h : HapC} {x : HapA} (hoL : A.heap[L]? = some oL) (hoc : oL.isCells = false) (hZL : Z ≤ L) (hr : RH Z A h x) :
    HapBox ((A.alloc (hapObj h x)).putObj L o') A.heap.size h x ∧ RH Z ((A.alloc (hapObj h x)).putObj L o') h x := by
  have hLA := (Array.getElem?_eq_some_iff.1 hoL).1
  refine ⟨?_, ?_⟩
  · have h0 := HapBox.new A h x
    have hh : ((A.alloc (hapObj h x)).putObj L o').heap[A.heap.size]? = (A.alloc (hapObj h x)).heap[A.heap.size]? := World.putObj_heap_other (by omega)
    have hcc := fun o => World.cell?_of_block (a := ⟨A.heap.size, o, none⟩) hh
    unfold HapBox at h0 ⊢
    simpa only [hcc] using h0
  · have hLh : (A.alloc (hapObj h x)).heap[L]? = some oL := (Below.heap_alloc A _ L hLA).trans hoL
    exact ⟨RB.putObj (hr.b.ext (ext1 _ _)) hLh hoc hZL _, RB.putObj (hr.p.ext (ext1 _ _)) hLh hoc hZL _⟩
theorem same_back (l : List HapC) (az : List HapA) (xs : List (HapC × HapA)) (A B : Option Addr) (c d : Nat) (w : World) (hz : az.length = l.length) (hA : RHs Z w A xs) (hB : RHs Z w B (l.zip az)) (hx : xs.map (·.1) = l) (hl : l.length ≤ 1048576) :
    Calls Try.prog 12 #[.slice A xs.length c, .slice B l.length d] w fun e w' => e = .returned (.bool true) ∧ Ext w w' := by
  have := sameT xs (l.zip az) A B c d w hA hB (by rw [hx, List.map_fst_zip (by omega)]) (by rw [ziplen hz]; omega)
  rwa [ziplen hz] at this
theorem mark_go {A B : World} {D : Nat} {o : Obj} (h : A.heap[D]? = some o) (hx : Ext A B) : B.heap[D]? = some o := (Below.block hx D (Array.getElem?_eq_some_iff.1 h).1).trans h
theorem keeps_ext {A B : World} (h : Ext A B) : KeepsOthers A B := ⟨h.size, fun k o hk _ => (Below.block h k (Array.getElem?_eq_some_iff.1 hk).1).trans hk⟩
theorem turn_rounds {V0 V B : World} {k rb : Nat} {s : SA} {raw : List UInt8} (hV : Turn V0 k V) (hx : Ext V B) (hZ : Z ≤ V0.heap.size) (hrb : rb < V0.heap.size) (u : Value) : Rounds Z rb s raw V (B.setCell ⟨V0.heap.size, 0, none⟩ u) := by
  have hs := hV.ext.size
  refine ⟨(keeps_ext hx).trans (KeepsOthers.setCell _ _ _), fun i hi => ?_, ?_, fun hb => (hb.ext hx).farSet hZ (hV.ty.ext hx) (by decide)⟩
  · refine (Below.heap_setCell B ⟨V0.heap.size, 0, none⟩ _ i ?_).trans (Below.block hx i hi.lt)
    rintro rfl
    obtain ⟨cs, fr, e1⟩ := hi
    obtain ⟨cs', fr', e2⟩ := hV.ty
    rw [e1] at e2; injection e2 with e2; injection e2 with _ e2; exact absurd e2 (by decide)
  · exact (Below.heap_setCell B ⟨V0.heap.size, 0, none⟩ _ rb (by dsimp only; omega)).trans (Below.block hx rb (by omega))
set_option maxRecDepth 100000 in
set_option maxHeartbeats 2000000 in
theorem l30ScriptHaps (raw : List UInt8) (s : SA) (many : Int) (w : World) (hrs : RS Z w s raw) (hZ : Z ≤ w.heap.size) :
    Calls Try.prog 4 #[(.slice s.A raw.length s.c), .int .i64 many] w fun e w' => e = .returned (.bool true) ∧ Ext w w' := by
  refine (callsIn_wide (n := 4)).1 ?_
  refine callsIn_of_wp_marks Try.func4 rfl trivial ?_
  simp only [Try.ntmps4, List.size_toArray, List.length_cons, List.length_nil, Nat.reduceAdd, Nat.reduceSub, Array.replicate_succ, Array.replicate_zero, List.push_toArray, List.append_toArray, List.nil_append, List.cons_append]
  refine (wpIn_wide (n := 4)).2 ?_
  have hmlen := hrs.le
  have hmm := hrs.ml
  by_cases hl : raw.length ≤ 2000
  · have hli : ¬ (2000 : Int) < raw.length := by omega
    have hx2 := ext2 w (.cells #[.int .i64 many] 3) (.cells #[.bool false] 4)
    have c1 := Lib.hid (show ([] : List UInt8).length + raw.length ≤ 140737488355328 by simp; omega)
    have c2 := Lib.hid (show ([] ++ raw).length + [UInt8.ofNat 77].length ≤ 140737488355328 by simp; omega)
    have HRS := Lib.hid hrs
    have hnf := eq_nilFunc
    have hl7 := Lib.hid (show (hapsOf raw).length ≤ 1048576 by have := hapsF_len raw.length raw.length ⟨raw, false⟩; rw [hapsOf_len]; unfold hapsL; omega)
    have hhb := Lib.hid (hapsOf_has raw)
    have hhl := Lib.hid (hapsOf_lens raw)
    have hof := Lib.hid (hapsOf_raw (hapsOf raw) (hapsOf_has raw))
    have hl8 := Lib.hid (show (hapsOf raw).length ≤ 2000 by have := hapsF_len raw.length raw.length ⟨raw, false⟩; rw [hapsOf_len]; unfold hapsL; omega)
    have hrl := Lib.hid (show (rawB (hapsOf raw)).length ≤ 1048576 by have := raw_short (hapsOf raw) (fun h hh => (hapsOf_has raw h hh).1); have := hl8.out; omega)
    have hl6 := Lib.hid (show raw.length ≤ 1048576 by omega)
    clear hrs
    go_wp2_with (first
      | (at_builtin; refine wpl_bytes (Z := Z) rfl (.tmp 20) (.tmp 21) 31 rfl (w.heap.size + 1 + 1) Try.underlying31 (.slice (some ⟨w.heap.size + 1 + 1, 0, none⟩) 0 0) [] rfl (ob_lit _ _ _ _ _ _ (by simp) rfl rfl (by omega) (by decide)) s.A raw.length s.c raw rfl rfl (RB.ext HRS.out.rb (hx2.alloc _)) c1.out (by simp) ?_; intro v1 w1 hob1 hg1 hat1; have hxw1 := row_first hg1)
      | (at_builtin; refine wpl_bytes (Z := Z) rfl (.tmp 22) (.tmp 23) 31 rfl (w.heap.size + 1 + 1) Try.underlying31 v1 _ rfl (hob1.alloc _) (some ⟨w1.heap.size, 0, none⟩) 1 1 [UInt8.ofNat 77] rfl rfl (rb_new (Z := Z) _ _ _ rfl) c2.out (by have := hg1.size; simp at this ⊢; omega) ?_; intro v2 w2 hob2 hg2 hat2; obtain ⟨A3, c3, hc3, hm3, hv2, hr3, hxw2⟩ := row77 (Z := Z) hob1 hob2 hg2 (by simp) hxw1; subst hv2; have hrs3 := RS.tail hr3 hc3 hm3; obtain ⟨b3, o3, hA3, h77⟩ := RB.last hr3; subst hA3; have HZ2 := Lib.hid (Nat.le_trans hZ (hx2.trans hxw2).size); have HC3 := Lib.hid (And.intro hc3 hm3); clear hr3 hob1 hg1 hob2 hg2 hat1 hat2)
      | (go_at_call 13; (with_reducible refine (scHaps (Z := Z) ⟨some ⟨b3, o3, none⟩, c3⟩ raw _ hrs3 hl6.out HZ2.out).mono ?_); intro e w4 hh4; obtain ⟨az, v4, hz4, he4, ho4, hr4, hx4⟩ := hh4; subst he4; obtain ⟨A6, c6, hv4, hc6, hm6, hR6⟩ := OHs.rhs ho4 hr4; rw [ziplen hz4] at hv4; subst hv4; have HX4 := Lib.hid hx4; clear hx4)
      | (go_at_call 14; (with_reducible refine (r30Haps (Z := Z) raw s _ (HRS.out.ext ((hx2.trans hxw2).trans HX4.out)) hl6.out (Nat.le_trans HZ2.out HX4.out.size)).mono ?_); intro e w5 hh5; obtain ⟨A7, c7, A8, c8, he5, hm7, hR7, hR8, hx5⟩ := given_of hh5; subst he5; obtain ⟨bz, hz5, hR7⟩ := hR7)
      | (go_at_call 15; (with_reducible refine (scEach _ _ _ _).mono ?_); rintro e w6 ⟨rfl, rfl⟩; have X5 := Lib.hid (ext3 w5 (.cells #[.slice A7 (hapsOf raw).length c7] 22) (.cells #[.slice A8 (hapsOf raw).length c8] 44) (.cells #[.slice (some ⟨b3, o3, none⟩) raw.length c3] 31)))
      | (go_at_call 12; (with_reducible refine (same_two (Z := Z) (hapsOf raw) az bz A6 A7 _ c6 c7 _ rfl hz4 hz5 (hR6.ext (hx5.trans X5.out)) (hR7.ext X5.out) hl7.out).mono ?_); rintro e w7 ⟨rfl, hx7⟩; have X7 := Lib.hid (X5.out.trans hx7); have h77' := (((HX4.out.trans hx5).trans X7.out).cell h77); have hs1 := RB_str (P := Try.prog) (RB.ext HRS.out.rb ((((hx2.trans hxw2).trans HX4.out).trans hx5).trans X7.out)) 31 5 Try.underlying31 Try.underlying5 raw.length s.c rfl 9 Try.underlying9; have hs2 := RB_str (P := Try.prog) (RB.ext hrs3.rb ((HX4.out.trans hx5).trans X7.out)) 31 5 Try.underlying31 Try.underlying5 raw.length c3 rfl 9 Try.underlying9))
    refine wp_loop_rounds 3 ?_
    clear hs1 hs2 h77 h77' hc3 hm3 hli
    have x07 := Ext.trans (hxw2.trans HX4.out) (hx5.trans X7.out)
    have xw7 := hx2.trans x07
    have HE7 : Hid (HEnv Z raw many ⟨some ⟨b3, o3, none⟩, c3⟩ A7 c7 A8 c8 bz w.heap.size w5.heap.size (w5.heap.size + 1) (w5.heap.size + 1 + 1) w7) := Lib.hid ⟨x07.cell (by simp [go_sem]), hx7.cell (by simp [go_sem]), hx7.cell (by simp [go_sem]), hx7.cell (by simp [go_sem]), hrs3.ext ((HX4.out.trans hx5).trans X7.out), hz5, hR7.ext X7.out, hR8.ext X7.out⟩
    have c4_0 : w7.cell? ⟨w.heap.size + 1, 0, none⟩ = some (.bool false) := x07.cell (by simp [go_sem])
    have f4_0 : w7.frozen? ⟨w.heap.size + 1, 0, none⟩ = false := (x07.cells.2 _ 0 (by simp)).trans (by simp [go_sem])
    have HR67 := Lib.hid (hR6.ext (hx5.trans X7.out))
    have E0 := ext1 w7 (.cells #[.int .i64 0] 3)
    have X7V0 := Lib.hid E0
    have p10_0 : (w7.alloc (.cells #[.int .i64 0] 3)).cell? ⟨w7.heap.size, 0, none⟩ = some (.int .i64 0) := by simp [go_sem]
    obtain ⟨q0, hq0⟩ : ∃ q, w7.heap.size = q := ⟨_, rfl⟩
    have hqV0 : q0 < (w7.alloc (.cells #[.int .i64 0] 3)).heap.size := by simp; omega
    rw [hq0] at p10_0
    rw [hq0]
    generalize w7.alloc (.cells #[.int .i64 0] 3) = V0 at *
    have HEV0 := Lib.hid (HE7.out.ex E0)
    have XV0 := Lib.hid (xw7.trans E0)
    have ZV0 := Lib.hid (Nat.le_trans (Nat.le_trans hZ xw7.size) E0.size)
    have C40 := Lib.hid (And.intro c4_0 f4_0)
    clear hq0 E0 hx7 hR6 hh5 hR8 hR7 c4_0 f4_0
    -- turn 0
    rw [rounds_succ]
    go_wp2
    refine (wpIn_wide (n := 4)).1 (range_both (id := 2) (Z := Z) (rb := w5.heap.size + 1 + 1) (s := ⟨some ⟨b3, o3, none⟩, c3⟩) (raw := raw) rfl rfl rfl (HEV0.out.rs.ext (ext1 _ _)) hl6.out ((ext1 _ _).cell HEV0.out.crb) (Nat.le_trans ZV0.out (ext1 _ _).size) (fun k A => Turn V0 k A ∧ Going 0 many k) (fun A => ∃ m, Turn V0 m A ∧ Went 0 many (hapsL raw).length m)
      (fun k A B h hx => ⟨h.1.ex hx, h.2⟩) (fun k A B X hX h hg => ⟨h.1.gr (by simpa using hX) hg, h.2⟩) (fun A B X hX h hg => h.imp fun m h => ⟨h.1.gr (by simpa using hX) hg, h.2⟩) ?ij0 ⟨Turn.new V0, fun _ => .inl rfl⟩ ?round0 ?fin0)
    case ij0 => exact fun W h => ⟨_, h.1, h.2.went⟩
    case round0 =>
      intro L k A x hk hL hLo hI hr
      obtain ⟨oL, hoL, hoc⟩ := hLo
      have hLA := (Array.getElem?_eq_some_iff.1 hoL).1
      gi_wp2
      have hZL : Z ≤ L := Nat.le_trans ZV0.out (by have := (ext1 V0 (.cells #[.int .i64 0] 3)).size; omega)
      refine ⟨ext1 _ _, fun o' hi => ?_⟩
      obtain ⟨hi, hgo⟩ := hi
      obtain ⟨hB, hr'⟩ := hap_in_round (o' := o') hoL hoc hZL hr
      have HEk := HEV0.out.ex hi.ext
      obtain ⟨bw, ow, bi, oi, y, hA7, hat, hry, hA8, hcell⟩ := HEk.at k hk
      have hkn : k < (hapsOf raw).length := by rw [hapsOf_len]; exact hk
      subst hA7 hA8
      generalize hV : (A.alloc (hapObj (hapsL raw)[k].1 x)).putObj L o' = V at *
      generalize (hapsL raw)[k].1 = h at *
      generalize (hapsL raw)[k].2 = fr at *
      have HR := Lib.hid (And.intro hr' hry)
      have HI := Lib.hid hi
      have HGO := Lib.hid hgo
      have HK := Lib.hid hk
      have HV := Lib.hid hV
      have hkni : (k : Int) < (hapsOf raw).length := by omega
      have hknd : ((hapsOf raw).length ≤ k) = False := by simp; omega
      have hf := fun (W : World) (hx : Ext V W) => And.intro (hx.cell hi.c) (And.intro (hx.cell HEk.h7) (And.intro (hx.cell HEk.h8) (And.intro (hx.cell hcell) (And.intro (hB.ext hx) (hat.ext hx)))))
      unfold HapBox HapAt at hf
      have HF := Lib.hid hf
      clear hf hB hat hcell
      clear hV hr' hry hi hgo hI hr HEk
      gi_wp2
      refine wpIn_region_round (S := fun w' => w'.cell? ⟨V0.heap.size, 0, none⟩ = some (.int .i64 (k : Nat)) ∧ w'.cell? ⟨w5.heap.size, 0, none⟩ = some (.slice (some ⟨bw, ow, none⟩) (hapsOf raw).length c7) ∧ w'.cell? ⟨w5.heap.size + 1, 0, none⟩ = some (.slice (some ⟨bi, oi, none⟩) (hapsOf raw).length c8) ∧ w'.cell? ⟨bi, oi + k, none⟩ = some (.int .i64 (fr : Nat)) ∧ (w'.cell? ⟨A.heap.size, 0, none⟩ = some (.int .i64 h.kind) ∧ w'.cell? ⟨A.heap.size, 1, none⟩ = some (.int .i64 h.client) ∧ w'.cell? ⟨A.heap.size, 2, none⟩ = some (.int .i64 h.call.kind) ∧ w'.cell? ⟨A.heap.size, 3, none⟩ = some (.string (strOf h.call.path)) ∧ w'.cell? ⟨A.heap.size, 4, none⟩ = some (.string (strOf h.call.to_)) ∧ w'.cell? ⟨A.heap.size, 5, none⟩ = some (.int .i64 h.call.at_) ∧ w'.cell? ⟨A.heap.size, 6, none⟩ = some (.int .i64 h.call.many) ∧ w'.cell? ⟨A.heap.size, 7, none⟩ = some (.int .u64 h.call.key) ∧ w'.cell? ⟨A.heap.size, 8, none⟩ = some (.slice x.A h.call.bytes.length x.ca) ∧ w'.cell? ⟨A.heap.size, 9, none⟩ = some (.int .i64 h.n) ∧ w'.cell? ⟨A.heap.size, 10, none⟩ = some (.slice x.P h.picks.length x.cp)) ∧ (w'.cell? ⟨bw, ow + k * 11, none⟩ = some (.int .i64 h.kind) ∧ w'.cell? ⟨bw, ow + k * 11 + 1, none⟩ = some (.int .i64 h.client) ∧ w'.cell? ⟨bw, ow + k * 11 + 2, none⟩ = some (.int .i64 h.call.kind) ∧ w'.cell? ⟨bw, ow + k * 11 + 3, none⟩ = some (.string (strOf h.call.path)) ∧ w'.cell? ⟨bw, ow + k * 11 + 4, none⟩ = some (.string (strOf h.call.to_)) ∧ w'.cell? ⟨bw, ow + k * 11 + 5, none⟩ = some (.int .i64 h.call.at_) ∧ w'.cell? ⟨bw, ow + k * 11 + 6, none⟩ = some (.int .i64 h.call.many) ∧ w'.cell? ⟨bw, ow + k * 11 + 7, none⟩ = some (.int .u64 h.call.key) ∧ w'.cell? ⟨bw, ow + k * 11 + 8, none⟩ = some (.slice y.A h.call.bytes.length y.ca) ∧ w'.cell? ⟨bw, ow + k * 11 + 9, none⟩ = some (.int .i64 h.n) ∧ w'.cell? ⟨bw, ow + k * 11 + 10, none⟩ = some (.slice y.P h.picks.length y.cp))) (by kernel_rfl) (by kernel_rfl) (fun _ _ h => h) ?_
      have hHeld := HF.out V.drew (Ext.refl _).drew
      refine wpAnyH_take (i := 0) (v := ?_) (by simp only [List.getElem?_toArray, List.getElem?_cons_zero, List.getElem?_cons_succ]; rfl) (by kernel_rfl) (by kernel_rfl) (by kernel_rfl) (fun _ _ _ h => h) (Or.inl ⟨by rfl, ?_⟩) (by assumption) ?_; rotate_left; (intro w' hSw; (try dsimp only at hSw); go_simp; (try with_reducible rfl)); (try simp only [Act.put, List.setIfInBounds_toArray, List.set_cons_zero, List.set_cons_succ])
      refine wpAnyH_take (i := 1) (v := ?_) (by simp only [List.getElem?_toArray, List.getElem?_cons_zero, List.getElem?_cons_succ]; rfl) (by kernel_rfl) (by kernel_rfl) (by kernel_rfl) (fun _ _ _ h => h) (Or.inl ⟨by rfl, ?_⟩) (by assumption) ?_; rotate_left; (intro w' hSw; (try dsimp only at hSw); go_simp; (try with_reducible rfl)); (try simp only [Act.put, List.setIfInBounds_toArray, List.set_cons_zero, List.set_cons_succ])
      refine wpAnyH_take (i := 2) (v := ?_) (by simp only [List.getElem?_toArray, List.getElem?_cons_zero, List.getElem?_cons_succ]; rfl) (by kernel_rfl) (by kernel_rfl) (by kernel_rfl) (fun _ _ _ h => h) (Or.inl ⟨by rfl, ?_⟩) (by assumption) ?_; rotate_left; (intro w' hSw; (try dsimp only at hSw); go_simp; (try with_reducible rfl)); (try simp only [Act.put, List.setIfInBounds_toArray, List.set_cons_zero, List.set_cons_succ])
      refine wpAnyH_take (i := 3) (v := ?_) (by simp only [List.getElem?_toArray, List.getElem?_cons_zero, List.getElem?_cons_succ]; rfl) (by kernel_rfl) (by kernel_rfl) (by kernel_rfl) (fun _ _ _ h => h) (Or.inl ⟨by rfl, ?_⟩) (by assumption) ?_; rotate_left; (intro w' hSw; (try dsimp only at hSw); go_simp; (try with_reducible rfl)); (try simp only [Act.put, List.setIfInBounds_toArray, List.set_cons_zero, List.set_cons_succ])
      refine wpAnyH_take (i := 4) (v := ?_) (by simp only [List.getElem?_toArray, List.getElem?_cons_zero, List.getElem?_cons_succ]; rfl) (by kernel_rfl) (by kernel_rfl) (by kernel_rfl) (fun _ _ _ h => h) (Or.inl ⟨by rfl, ?_⟩) (by assumption) ?_; rotate_left; (intro w' hSw; (try dsimp only at hSw); go_simp; (try with_reducible rfl)); (try simp only [Act.put, List.setIfInBounds_toArray, List.set_cons_zero, List.set_cons_succ])
      refine wpAnyH_take (i := 5) (v := ?_) (by simp only [List.getElem?_toArray, List.getElem?_cons_zero, List.getElem?_cons_succ]; rfl) (by kernel_rfl) (by kernel_rfl) (by kernel_rfl) (fun _ _ _ h => h) (Or.inl ⟨by rfl, ?_⟩) (by assumption) ?_; rotate_left; (intro w' hSw; (try dsimp only at hSw); go_simp; (try with_reducible rfl)); (try simp only [Act.put, List.setIfInBounds_toArray, List.set_cons_zero, List.set_cons_succ])
      refine wpAnyH_take (i := 6) (v := ?_) (by simp only [List.getElem?_toArray, List.getElem?_cons_zero, List.getElem?_cons_succ]; rfl) (by kernel_rfl) (by kernel_rfl) (by kernel_rfl) (fun _ _ _ h => h) (Or.inl ⟨by rfl, ?_⟩) (by assumption) ?_; rotate_left; (intro w' hSw; (try dsimp only at hSw); go_simp; (try with_reducible rfl)); (try simp only [Act.put, List.setIfInBounds_toArray, List.set_cons_zero, List.set_cons_succ])
      refine wpAnyH_take (i := 7) (v := ?_) (by simp only [List.getElem?_toArray, List.getElem?_cons_zero, List.getElem?_cons_succ]; rfl) (by kernel_rfl) (by kernel_rfl) (by kernel_rfl) (fun _ _ _ h => h) (Or.inl ⟨by rfl, ?_⟩) (by assumption) ?_; rotate_left; (intro w' hSw; (try dsimp only at hSw); go_simp; (try with_reducible rfl)); (try simp only [Act.put, List.setIfInBounds_toArray, List.set_cons_zero, List.set_cons_succ])
      refine wpAnyH_take (i := 8) (v := ?_) (by simp only [List.getElem?_toArray, List.getElem?_cons_zero, List.getElem?_cons_succ]; rfl) (by kernel_rfl) (by kernel_rfl) (by kernel_rfl) (fun _ _ _ h => h) (Or.inl ⟨by rfl, ?_⟩) (by assumption) ?_; rotate_left; (intro w' hSw; (try dsimp only at hSw); go_simp; (try with_reducible rfl)); (try simp only [Act.put, List.setIfInBounds_toArray, List.set_cons_zero, List.set_cons_succ])
      refine wpAnyH_take (i := 9) (v := ?_) (by simp only [List.getElem?_toArray, List.getElem?_cons_zero, List.getElem?_cons_succ]; rfl) (by kernel_rfl) (by kernel_rfl) (by kernel_rfl) (fun _ _ _ h => h) (Or.inl ⟨by rfl, ?_⟩) (by assumption) ?_; rotate_left; (intro w' hSw; (try dsimp only at hSw); go_simp; (try with_reducible rfl)); (try simp only [Act.put, List.setIfInBounds_toArray, List.set_cons_zero, List.set_cons_succ])
      refine wpAnyH_take (i := 10) (v := ?_) (by simp only [List.getElem?_toArray, List.getElem?_cons_zero, List.getElem?_cons_succ]; rfl) (by kernel_rfl) (by kernel_rfl) (by kernel_rfl) (fun _ _ _ h => h) (Or.inl ⟨by rfl, ?_⟩) (by assumption) ?_; rotate_left; (intro w' hSw; (try dsimp only at hSw); go_simp; (try with_reducible rfl)); (try simp only [Act.put, List.setIfInBounds_toArray, List.set_cons_zero, List.set_cons_succ])
      refine wpAnyH_take (i := 11) (v := ?_) (by simp only [List.getElem?_toArray, List.getElem?_cons_zero, List.getElem?_cons_succ]; rfl) (by kernel_rfl) (by kernel_rfl) (by kernel_rfl) (fun _ _ _ h => h) (Or.inl ⟨by rfl, ?_⟩) (by assumption) ?_; rotate_left; (intro w' hSw; (try dsimp only at hSw); go_simp; (try with_reducible rfl)); (try simp only [Act.put, List.setIfInBounds_toArray, List.set_cons_zero, List.set_cons_succ])
      refine wpAnyH_take (i := 12) (v := ?_) (by simp only [List.getElem?_toArray, List.getElem?_cons_zero, List.getElem?_cons_succ]; rfl) (by kernel_rfl) (by kernel_rfl) (by kernel_rfl) (fun _ _ _ h => h) (Or.inl ⟨by rfl, ?_⟩) (by assumption) ?_; rotate_left; (intro w' hSw; (try dsimp only at hSw); go_simp; (try with_reducible rfl)); (try simp only [Act.put, List.setIfInBounds_toArray, List.set_cons_zero, List.set_cons_succ])
      refine wpAnyH_take (i := 13) (v := ?_) (by simp only [List.getElem?_toArray, List.getElem?_cons_zero, List.getElem?_cons_succ]; rfl) (by kernel_rfl) (by kernel_rfl) (by kernel_rfl) (fun _ _ _ h => h) (Or.inl ⟨by rfl, ?_⟩) (by assumption) ?_; rotate_left; (intro w' hSw; (try dsimp only at hSw); go_simp; (try with_reducible rfl)); (try simp only [Act.put, List.setIfInBounds_toArray, List.set_cons_zero, List.set_cons_succ])
      refine wpAnyH_take (i := 14) (v := ?_) (by simp only [List.getElem?_toArray, List.getElem?_cons_zero, List.getElem?_cons_succ]; rfl) (by kernel_rfl) (by kernel_rfl) (by kernel_rfl) (fun _ _ _ h => h) (Or.inl ⟨by rfl, ?_⟩) (by assumption) ?_; rotate_left; (intro w' hSw; (try dsimp only at hSw); go_simp; (try with_reducible rfl)); (try simp only [Act.put, List.setIfInBounds_toArray, List.set_cons_zero, List.set_cons_succ])
      refine wpAnyH_take (i := 15) (v := ?_) (by simp only [List.getElem?_toArray, List.getElem?_cons_zero, List.getElem?_cons_succ]; rfl) (by kernel_rfl) (by kernel_rfl) (by kernel_rfl) (fun _ _ _ h => h) (Or.inl ⟨by rfl, ?_⟩) (by assumption) ?_; rotate_left; (intro w' hSw; (try dsimp only at hSw); go_simp; (try with_reducible rfl)); (try simp only [Act.put, List.setIfInBounds_toArray, List.set_cons_zero, List.set_cons_succ])
      refine wpAnyH_take (i := 16) (v := ?_) (by simp only [List.getElem?_toArray, List.getElem?_cons_zero, List.getElem?_cons_succ]; rfl) (by kernel_rfl) (by kernel_rfl) (by kernel_rfl) (fun _ _ _ h => h) (Or.inl ⟨by rfl, ?_⟩) (by assumption) ?_; rotate_left; (intro w' hSw; (try dsimp only at hSw); go_simp; (try with_reducible rfl)); (try simp only [Act.put, List.setIfInBounds_toArray, List.set_cons_zero, List.set_cons_succ])
      refine wpAnyH_take (i := 17) (v := ?_) (by simp only [List.getElem?_toArray, List.getElem?_cons_zero, List.getElem?_cons_succ]; rfl) (by kernel_rfl) (by kernel_rfl) (by kernel_rfl) (fun _ _ _ h => h) (Or.inl ⟨by rfl, ?_⟩) (by assumption) ?_; rotate_left; (intro w' hSw; (try dsimp only at hSw); go_simp; (try with_reducible rfl)); (try simp only [Act.put, List.setIfInBounds_toArray, List.set_cons_zero, List.set_cons_succ])
      refine wpAnyH_ready (rs := [18]) (by kernel_rfl) (by simp) ?_
      refine AllReadyH.cons (by simp only [List.getElem?_toArray, List.getElem?_cons_zero, List.getElem?_cons_succ]; rfl) (fun K hK => ?_) AllReadyH.nil
      go_simp
      refine (same_self (Z := Z) h x y _ (HR.out.1.ext (Ext.refl _).drew) (HR.out.2.ext (Ext.refl _).drew)).mono ?_
      rintro e B ⟨rfl, hxB⟩
      have XB := Lib.hid (Ext.undrew hxB)
      refine hK.out _ _ (HF.out _ XB.out) (fun hHeld => ?_)
      clear hK K hxB
      (try simp only [Act.put, List.setIfInBounds_toArray, List.set_cons_zero, List.set_cons_succ])
      refine wpAnyH_take (i := 19) (v := ?_) (by simp only [List.getElem?_toArray, List.getElem?_cons_zero, List.getElem?_cons_succ]; rfl) (by kernel_rfl) (by kernel_rfl) (by kernel_rfl) (fun _ _ _ h => h) (Or.inl ⟨by rfl, ?_⟩) (by assumption) ?_; rotate_left; (intro w' hSw; (try dsimp only at hSw); go_simp; (try with_reducible rfl)); (try simp only [Act.put, List.setIfInBounds_toArray, List.set_cons_zero, List.set_cons_succ])
      refine wpAnyH_take (i := 20) (v := ?_) (by simp only [List.getElem?_toArray, List.getElem?_cons_zero, List.getElem?_cons_succ]; rfl) (by kernel_rfl) (by kernel_rfl) (by kernel_rfl) (fun _ _ _ h => h) (Or.inl ⟨by rfl, ?_⟩) (by assumption) ?_; rotate_left; (intro w' hSw; (try dsimp only at hSw); go_simp; (try with_reducible rfl)); (try simp only [Act.put, List.setIfInBounds_toArray, List.set_cons_zero, List.set_cons_succ])
      refine wpAnyH_done (by kernel_rfl) ?_ _
      have hcn := (XB.out.cells.2 V0.heap.size 0 HI.out.ty.lt).trans HI.out.fz
      have hct := (HI.out.ext.trans XB.out).cell p10_0
      have hcm := (HEV0.out.ex (HI.out.ext.trans XB.out)).c3
      obtain ⟨hc0, _⟩ := hHeld
      have hn3 : ¬ w.heap.size = V0.heap.size := by have := World.block_lt_of_cell? _ _ HEV0.out.c3; dsimp only at this; omega
      have hn10 : ¬ q0 = V0.heap.size := by omega
      have hkb := hl7.out
      clear hHeld
      have hrb := World.block_lt_of_cell? _ _ HEV0.out.crb
      dsimp only at hrb
      have HRD := Lib.hid (turn_rounds (s := ⟨some ⟨b3, o3, none⟩, c3⟩) (raw := raw) HI.out XB.out (Nat.le_trans ZV0.out (Nat.le_refl _)) hrb (.int .i64 ((k + 1 : Nat) : Int)))
      have HTN := Lib.hid ((HI.out.ex XB.out).set (k + 1))
      by_cases hbr : many ≤ (k : Int) + 1
      · gi_wp2
        exact ⟨HRD.out.others, rfl, k + 1, HTN.out, HGO.out.leave rfl HK.out (by omega)⟩
      · gi_wp2
        exact ⟨HRD.out, HTN.out, Going.next fun _ => by omega⟩
    case fin0 =>
      intro D0 W0 hD0 hJ hK0
      obtain ⟨m, hT, hW⟩ := hJ
      rw [← hapsOf_len] at hW
      have hW' := hW.1 rfl
      obtain ⟨M, hM⟩ : ∃ M, (if 1 < many then many else 1) = M := ⟨_, rfl⟩
      have hmm2 : (if M < ((hapsOf raw).length : Int) then M else ((hapsOf raw).length : Int)) = (m : Int) := by rw [← hM, hW']; omega
      clear hW'
      have cn := hT.c
      have ct := hT.ext.cell p10_0
      have hE := HEV0.out.ex hT.ext
      have cm := hE.c3
      have cw := hE.h7
      have HE0 := Lib.hid hE
      have HX0 := Lib.hid (XV0.out.trans hT.ext)
      have HY0 := Lib.hid (X7V0.out.trans hT.ext)
      have HT0 := Lib.hid hT.ext
      have HZ0 := Lib.hid (Nat.le_trans ZV0.out hT.ext.size)
      have HKK := Lib.hid hK0
      clear hE hT hW hK0
      go_wp2
      have E1 := ext1 W0 (.cells #[.int .i64 1] 3)
      have X7V1 := Lib.hid (HY0.out.trans E1)
      have p10_1 : (W0.alloc (.cells #[.int .i64 1] 3)).cell? ⟨W0.heap.size, 0, none⟩ = some (.int .i64 1) := by simp [go_sem]
      obtain ⟨q1, hq1⟩ : ∃ q, W0.heap.size = q := ⟨_, rfl⟩
      have hqV1 : q1 < (W0.alloc (.cells #[.int .i64 1] 3)).heap.size := by simp; omega
      rw [hq1] at p10_1
      rw [hq1]
      generalize W0.alloc (.cells #[.int .i64 1] 3) = V1 at *
      have HEV1 := Lib.hid (HE0.out.ex E1)
      have XV1 := Lib.hid (HX0.out.trans E1)
      have ZV1 := Lib.hid (Nat.le_trans HZ0.out E1.size)
      have YV1 := Lib.hid (HT0.out.trans E1)
      have MK0 := Lib.hid ((Below.block E1 D0 (Array.getElem?_eq_some_iff.1 HKK.out).1).trans HKK.out)
      clear cn ct cm cw HKK hq1 E1 p10_0 hqV0
      clear hM hmm2
      -- turn 1
      rw [rounds_succ]
      go_wp2
      refine (wpIn_wide (n := 4)).1 (range_both (id := 2) (Z := Z) (rb := w5.heap.size + 1 + 1) (s := ⟨some ⟨b3, o3, none⟩, c3⟩) (raw := raw) rfl rfl rfl (HEV1.out.rs.ext (ext1 _ _)) hl6.out ((ext1 _ _).cell HEV1.out.crb) (Nat.le_trans ZV1.out (ext1 _ _).size) (fun k A => Turn V1 k A ∧ Going 1 many k) (fun A => ∃ m, Turn V1 m A ∧ Went 1 many (hapsL raw).length m)
        (fun k A B h hx => ⟨h.1.ex hx, h.2⟩) (fun k A B X hX h hg => ⟨h.1.gr (by simpa using hX) hg, h.2⟩) (fun A B X hX h hg => h.imp fun m h => ⟨h.1.gr (by simpa using hX) hg, h.2⟩) ?ij1 ⟨Turn.new V1, fun _ => .inl rfl⟩ ?round1 ?fin1)
      case ij1 => exact fun W h => ⟨_, h.1, h.2.went⟩
      case round1 =>
        intro L k A x hk hL hLo hI hr
        obtain ⟨oL, hoL, hoc⟩ := hLo
        have hLA := (Array.getElem?_eq_some_iff.1 hoL).1
        gi_wp2
        have hZL : Z ≤ L := Nat.le_trans ZV1.out (by have := (ext1 V1 (.cells #[.int .i64 0] 3)).size; omega)
        refine ⟨ext1 _ _, fun o' hi => ?_⟩
        obtain ⟨hi, hgo⟩ := hi
        obtain ⟨hB, hr'⟩ := hap_in_round (o' := o') hoL hoc hZL hr
        have HEk := HEV1.out.ex hi.ext
        obtain ⟨bw, ow, bi, oi, y, hA7, hat, hry, hA8, hcell⟩ := HEk.at k hk
        have hkn : k < (hapsOf raw).length := by rw [hapsOf_len]; exact hk
        subst hA7 hA8
        generalize hV : (A.alloc (hapObj (hapsL raw)[k].1 x)).putObj L o' = V at *
        generalize (hapsL raw)[k].1 = h at *
        generalize (hapsL raw)[k].2 = fr at *
        have HR := Lib.hid (And.intro hr' hry)
        have HI := Lib.hid hi
        have HGO := Lib.hid hgo
        have HK := Lib.hid hk
        have HV := Lib.hid hV
        have hkni : (k : Int) < (hapsOf raw).length := by omega
        have hknd : ((hapsOf raw).length ≤ k) = False := by simp; omega
        have hf := fun (W : World) (hx : Ext V W) => And.intro (hx.cell hi.c) (And.intro (hx.cell HEk.h7) (And.intro (hx.cell HEk.h8) (And.intro (hx.cell hcell) (And.intro (hB.ext hx) (hat.ext hx)))))
        unfold HapBox HapAt at hf
        have HF := Lib.hid hf
        clear hf hB hat hcell
        clear hV hr' hry hi hgo hI hr HEk
        gi_wp2
        refine wpIn_region_round (S := fun w' => w'.cell? ⟨V1.heap.size, 0, none⟩ = some (.int .i64 (k : Nat)) ∧ w'.cell? ⟨w5.heap.size, 0, none⟩ = some (.slice (some ⟨bw, ow, none⟩) (hapsOf raw).length c7) ∧ w'.cell? ⟨w5.heap.size + 1, 0, none⟩ = some (.slice (some ⟨bi, oi, none⟩) (hapsOf raw).length c8) ∧ w'.cell? ⟨bi, oi + k, none⟩ = some (.int .i64 (fr : Nat)) ∧ (w'.cell? ⟨A.heap.size, 0, none⟩ = some (.int .i64 h.kind) ∧ w'.cell? ⟨A.heap.size, 1, none⟩ = some (.int .i64 h.client) ∧ w'.cell? ⟨A.heap.size, 2, none⟩ = some (.int .i64 h.call.kind) ∧ w'.cell? ⟨A.heap.size, 3, none⟩ = some (.string (strOf h.call.path)) ∧ w'.cell? ⟨A.heap.size, 4, none⟩ = some (.string (strOf h.call.to_)) ∧ w'.cell? ⟨A.heap.size, 5, none⟩ = some (.int .i64 h.call.at_) ∧ w'.cell? ⟨A.heap.size, 6, none⟩ = some (.int .i64 h.call.many) ∧ w'.cell? ⟨A.heap.size, 7, none⟩ = some (.int .u64 h.call.key) ∧ w'.cell? ⟨A.heap.size, 8, none⟩ = some (.slice x.A h.call.bytes.length x.ca) ∧ w'.cell? ⟨A.heap.size, 9, none⟩ = some (.int .i64 h.n) ∧ w'.cell? ⟨A.heap.size, 10, none⟩ = some (.slice x.P h.picks.length x.cp)) ∧ (w'.cell? ⟨bw, ow + k * 11, none⟩ = some (.int .i64 h.kind) ∧ w'.cell? ⟨bw, ow + k * 11 + 1, none⟩ = some (.int .i64 h.client) ∧ w'.cell? ⟨bw, ow + k * 11 + 2, none⟩ = some (.int .i64 h.call.kind) ∧ w'.cell? ⟨bw, ow + k * 11 + 3, none⟩ = some (.string (strOf h.call.path)) ∧ w'.cell? ⟨bw, ow + k * 11 + 4, none⟩ = some (.string (strOf h.call.to_)) ∧ w'.cell? ⟨bw, ow + k * 11 + 5, none⟩ = some (.int .i64 h.call.at_) ∧ w'.cell? ⟨bw, ow + k * 11 + 6, none⟩ = some (.int .i64 h.call.many) ∧ w'.cell? ⟨bw, ow + k * 11 + 7, none⟩ = some (.int .u64 h.call.key) ∧ w'.cell? ⟨bw, ow + k * 11 + 8, none⟩ = some (.slice y.A h.call.bytes.length y.ca) ∧ w'.cell? ⟨bw, ow + k * 11 + 9, none⟩ = some (.int .i64 h.n) ∧ w'.cell? ⟨bw, ow + k * 11 + 10, none⟩ = some (.slice y.P h.picks.length y.cp))) (by kernel_rfl) (by kernel_rfl) (fun _ _ h => h) ?_
        have hHeld := HF.out V.drew (Ext.refl _).drew
        refine wpAnyH_take (i := 0) (v := ?_) (by simp only [List.getElem?_toArray, List.getElem?_cons_zero, List.getElem?_cons_succ]; rfl) (by kernel_rfl) (by kernel_rfl) (by kernel_rfl) (fun _ _ _ h => h) (Or.inl ⟨by rfl, ?_⟩) (by assumption) ?_; rotate_left; (intro w' hSw; (try dsimp only at hSw); go_simp; (try with_reducible rfl)); (try simp only [Act.put, List.setIfInBounds_toArray, List.set_cons_zero, List.set_cons_succ])
        refine wpAnyH_take (i := 1) (v := ?_) (by simp only [List.getElem?_toArray, List.getElem?_cons_zero, List.getElem?_cons_succ]; rfl) (by kernel_rfl) (by kernel_rfl) (by kernel_rfl) (fun _ _ _ h => h) (Or.inl ⟨by rfl, ?_⟩) (by assumption) ?_; rotate_left; (intro w' hSw; (try dsimp only at hSw); go_simp; (try with_reducible rfl)); (try simp only [Act.put, List.setIfInBounds_toArray, List.set_cons_zero, List.set_cons_succ])
        refine wpAnyH_take (i := 2) (v := ?_) (by simp only [List.getElem?_toArray, List.getElem?_cons_zero, List.getElem?_cons_succ]; rfl) (by kernel_rfl) (by kernel_rfl) (by kernel_rfl) (fun _ _ _ h => h) (Or.inl ⟨by rfl, ?_⟩) (by assumption) ?_; rotate_left; (intro w' hSw; (try dsimp only at hSw); go_simp; (try with_reducible rfl)); (try simp only [Act.put, List.setIfInBounds_toArray, List.set_cons_zero, List.set_cons_succ])
        refine wpAnyH_take (i := 3) (v := ?_) (by simp only [List.getElem?_toArray, List.getElem?_cons_zero, List.getElem?_cons_succ]; rfl) (by kernel_rfl) (by kernel_rfl) (by kernel_rfl) (fun _ _ _ h => h) (Or.inl ⟨by rfl, ?_⟩) (by assumption) ?_; rotate_left; (intro w' hSw; (try dsimp only at hSw); go_simp; (try with_reducible rfl)); (try simp only [Act.put, List.setIfInBounds_toArray, List.set_cons_zero, List.set_cons_succ])
        refine wpAnyH_take (i := 4) (v := ?_) (by simp only [List.getElem?_toArray, List.getElem?_cons_zero, List.getElem?_cons_succ]; rfl) (by kernel_rfl) (by kernel_rfl) (by kernel_rfl) (fun _ _ _ h => h) (Or.inl ⟨by rfl, ?_⟩) (by assumption) ?_; rotate_left; (intro w' hSw; (try dsimp only at hSw); go_simp; (try with_reducible rfl)); (try simp only [Act.put, List.setIfInBounds_toArray, List.set_cons_zero, List.set_cons_succ])
        refine wpAnyH_take (i := 5) (v := ?_) (by simp only [List.getElem?_toArray, List.getElem?_cons_zero, List.getElem?_cons_succ]; rfl) (by kernel_rfl) (by kernel_rfl) (by kernel_rfl) (fun _ _ _ h => h) (Or.inl ⟨by rfl, ?_⟩) (by assumption) ?_; rotate_left; (intro w' hSw; (try dsimp only at hSw); go_simp; (try with_reducible rfl)); (try simp only [Act.put, List.setIfInBounds_toArray, List.set_cons_zero, List.set_cons_succ])
        refine wpAnyH_take (i := 6) (v := ?_) (by simp only [List.getElem?_toArray, List.getElem?_cons_zero, List.getElem?_cons_succ]; rfl) (by kernel_rfl) (by kernel_rfl) (by kernel_rfl) (fun _ _ _ h => h) (Or.inl ⟨by rfl, ?_⟩) (by assumption) ?_; rotate_left; (intro w' hSw; (try dsimp only at hSw); go_simp; (try with_reducible rfl)); (try simp only [Act.put, List.setIfInBounds_toArray, List.set_cons_zero, List.set_cons_succ])
        refine wpAnyH_take (i := 7) (v := ?_) (by simp only [List.getElem?_toArray, List.getElem?_cons_zero, List.getElem?_cons_succ]; rfl) (by kernel_rfl) (by kernel_rfl) (by kernel_rfl) (fun _ _ _ h => h) (Or.inl ⟨by rfl, ?_⟩) (by assumption) ?_; rotate_left; (intro w' hSw; (try dsimp only at hSw); go_simp; (try with_reducible rfl)); (try simp only [Act.put, List.setIfInBounds_toArray, List.set_cons_zero, List.set_cons_succ])
        refine wpAnyH_take (i := 8) (v := ?_) (by simp only [List.getElem?_toArray, List.getElem?_cons_zero, List.getElem?_cons_succ]; rfl) (by kernel_rfl) (by kernel_rfl) (by kernel_rfl) (fun _ _ _ h => h) (Or.inl ⟨by rfl, ?_⟩) (by assumption) ?_; rotate_left; (intro w' hSw; (try dsimp only at hSw); go_simp; (try with_reducible rfl)); (try simp only [Act.put, List.setIfInBounds_toArray, List.set_cons_zero, List.set_cons_succ])
        refine wpAnyH_take (i := 9) (v := ?_) (by simp only [List.getElem?_toArray, List.getElem?_cons_zero, List.getElem?_cons_succ]; rfl) (by kernel_rfl) (by kernel_rfl) (by kernel_rfl) (fun _ _ _ h => h) (Or.inl ⟨by rfl, ?_⟩) (by assumption) ?_; rotate_left; (intro w' hSw; (try dsimp only at hSw); go_simp; (try with_reducible rfl)); (try simp only [Act.put, List.setIfInBounds_toArray, List.set_cons_zero, List.set_cons_succ])
        refine wpAnyH_take (i := 10) (v := ?_) (by simp only [List.getElem?_toArray, List.getElem?_cons_zero, List.getElem?_cons_succ]; rfl) (by kernel_rfl) (by kernel_rfl) (by kernel_rfl) (fun _ _ _ h => h) (Or.inl ⟨by rfl, ?_⟩) (by assumption) ?_; rotate_left; (intro w' hSw; (try dsimp only at hSw); go_simp; (try with_reducible rfl)); (try simp only [Act.put, List.setIfInBounds_toArray, List.set_cons_zero, List.set_cons_succ])
        refine wpAnyH_take (i := 11) (v := ?_) (by simp only [List.getElem?_toArray, List.getElem?_cons_zero, List.getElem?_cons_succ]; rfl) (by kernel_rfl) (by kernel_rfl) (by kernel_rfl) (fun _ _ _ h => h) (Or.inl ⟨by rfl, ?_⟩) (by assumption) ?_; rotate_left; (intro w' hSw; (try dsimp only at hSw); go_simp; (try with_reducible rfl)); (try simp only [Act.put, List.setIfInBounds_toArray, List.set_cons_zero, List.set_cons_succ])
        refine wpAnyH_take (i := 12) (v := ?_) (by simp only [List.getElem?_toArray, List.getElem?_cons_zero, List.getElem?_cons_succ]; rfl) (by kernel_rfl) (by kernel_rfl) (by kernel_rfl) (fun _ _ _ h => h) (Or.inl ⟨by rfl, ?_⟩) (by assumption) ?_; rotate_left; (intro w' hSw; (try dsimp only at hSw); go_simp; (try with_reducible rfl)); (try simp only [Act.put, List.setIfInBounds_toArray, List.set_cons_zero, List.set_cons_succ])
        refine wpAnyH_take (i := 13) (v := ?_) (by simp only [List.getElem?_toArray, List.getElem?_cons_zero, List.getElem?_cons_succ]; rfl) (by kernel_rfl) (by kernel_rfl) (by kernel_rfl) (fun _ _ _ h => h) (Or.inl ⟨by rfl, ?_⟩) (by assumption) ?_; rotate_left; (intro w' hSw; (try dsimp only at hSw); go_simp; (try with_reducible rfl)); (try simp only [Act.put, List.setIfInBounds_toArray, List.set_cons_zero, List.set_cons_succ])
        refine wpAnyH_take (i := 14) (v := ?_) (by simp only [List.getElem?_toArray, List.getElem?_cons_zero, List.getElem?_cons_succ]; rfl) (by kernel_rfl) (by kernel_rfl) (by kernel_rfl) (fun _ _ _ h => h) (Or.inl ⟨by rfl, ?_⟩) (by assumption) ?_; rotate_left; (intro w' hSw; (try dsimp only at hSw); go_simp; (try with_reducible rfl)); (try simp only [Act.put, List.setIfInBounds_toArray, List.set_cons_zero, List.set_cons_succ])
        refine wpAnyH_take (i := 15) (v := ?_) (by simp only [List.getElem?_toArray, List.getElem?_cons_zero, List.getElem?_cons_succ]; rfl) (by kernel_rfl) (by kernel_rfl) (by kernel_rfl) (fun _ _ _ h => h) (Or.inl ⟨by rfl, ?_⟩) (by assumption) ?_; rotate_left; (intro w' hSw; (try dsimp only at hSw); go_simp; (try with_reducible rfl)); (try simp only [Act.put, List.setIfInBounds_toArray, List.set_cons_zero, List.set_cons_succ])
        refine wpAnyH_take (i := 16) (v := ?_) (by simp only [List.getElem?_toArray, List.getElem?_cons_zero, List.getElem?_cons_succ]; rfl) (by kernel_rfl) (by kernel_rfl) (by kernel_rfl) (fun _ _ _ h => h) (Or.inl ⟨by rfl, ?_⟩) (by assumption) ?_; rotate_left; (intro w' hSw; (try dsimp only at hSw); go_simp; (try with_reducible rfl)); (try simp only [Act.put, List.setIfInBounds_toArray, List.set_cons_zero, List.set_cons_succ])
        refine wpAnyH_take (i := 17) (v := ?_) (by simp only [List.getElem?_toArray, List.getElem?_cons_zero, List.getElem?_cons_succ]; rfl) (by kernel_rfl) (by kernel_rfl) (by kernel_rfl) (fun _ _ _ h => h) (Or.inl ⟨by rfl, ?_⟩) (by assumption) ?_; rotate_left; (intro w' hSw; (try dsimp only at hSw); go_simp; (try with_reducible rfl)); (try simp only [Act.put, List.setIfInBounds_toArray, List.set_cons_zero, List.set_cons_succ])
        refine wpAnyH_ready (rs := [18]) (by kernel_rfl) (by simp) ?_
        refine AllReadyH.cons (by simp only [List.getElem?_toArray, List.getElem?_cons_zero, List.getElem?_cons_succ]; rfl) (fun K hK => ?_) AllReadyH.nil
        go_simp
        refine (same_self (Z := Z) h x y _ (HR.out.1.ext (Ext.refl _).drew) (HR.out.2.ext (Ext.refl _).drew)).mono ?_
        rintro e B ⟨rfl, hxB⟩
        have XB := Lib.hid (Ext.undrew hxB)
        refine hK.out _ _ (HF.out _ XB.out) (fun hHeld => ?_)
        clear hK K hxB
        (try simp only [Act.put, List.setIfInBounds_toArray, List.set_cons_zero, List.set_cons_succ])
        refine wpAnyH_take (i := 19) (v := ?_) (by simp only [List.getElem?_toArray, List.getElem?_cons_zero, List.getElem?_cons_succ]; rfl) (by kernel_rfl) (by kernel_rfl) (by kernel_rfl) (fun _ _ _ h => h) (Or.inl ⟨by rfl, ?_⟩) (by assumption) ?_; rotate_left; (intro w' hSw; (try dsimp only at hSw); go_simp; (try with_reducible rfl)); (try simp only [Act.put, List.setIfInBounds_toArray, List.set_cons_zero, List.set_cons_succ])
        refine wpAnyH_take (i := 20) (v := ?_) (by simp only [List.getElem?_toArray, List.getElem?_cons_zero, List.getElem?_cons_succ]; rfl) (by kernel_rfl) (by kernel_rfl) (by kernel_rfl) (fun _ _ _ h => h) (Or.inl ⟨by rfl, ?_⟩) (by assumption) ?_; rotate_left; (intro w' hSw; (try dsimp only at hSw); go_simp; (try with_reducible rfl)); (try simp only [Act.put, List.setIfInBounds_toArray, List.set_cons_zero, List.set_cons_succ])
        refine wpAnyH_done (by kernel_rfl) ?_ _
        have hcn := (XB.out.cells.2 V1.heap.size 0 HI.out.ty.lt).trans HI.out.fz
        have hct := (HI.out.ext.trans XB.out).cell p10_1
        have hcm := (HEV1.out.ex (HI.out.ext.trans XB.out)).c3
        obtain ⟨hc0, _⟩ := hHeld
        have hn3 : ¬ w.heap.size = V1.heap.size := by have := World.block_lt_of_cell? _ _ HEV1.out.c3; dsimp only at this; omega
        have hn10 : ¬ q1 = V1.heap.size := by omega
        have hkb := hl7.out
        clear hHeld
        have hrb := World.block_lt_of_cell? _ _ HEV1.out.crb
        dsimp only at hrb
        have HRD := Lib.hid (turn_rounds (s := ⟨some ⟨b3, o3, none⟩, c3⟩) (raw := raw) HI.out XB.out (Nat.le_trans ZV1.out (Nat.le_refl _)) hrb (.int .i64 ((k + 1 : Nat) : Int)))
        have HTN := Lib.hid ((HI.out.ex XB.out).set (k + 1))
        gi_wp2
        exact ⟨HRD.out, HTN.out, Going.next fun h => absurd h (by decide)⟩
      case fin1 =>
        intro D1 W1 hD1 hJ hK1
        obtain ⟨m, hT, hW⟩ := hJ
        rw [← hapsOf_len] at hW
        have hW' := hW.2 rfl
        subst hW'
        have cn := hT.c
        have ct := hT.ext.cell p10_1
        have hE := HEV1.out.ex hT.ext
        have cm := hE.c3
        have cw := hE.h7
        have HE1 := Lib.hid hE
        have HX1 := Lib.hid (XV1.out.trans hT.ext)
        have HY1 := Lib.hid (X7V1.out.trans hT.ext)
        have HT1 := Lib.hid hT.ext
        have HZ1 := Lib.hid (Nat.le_trans ZV1.out hT.ext.size)
        have HKK := Lib.hid hK1
        clear hE hT hW hK1
        go_wp2
        have E2 := ext1 W1 (.cells #[.int .i64 2] 3)
        have X7V2 := Lib.hid (HY1.out.trans E2)
        have p10_2 : (W1.alloc (.cells #[.int .i64 2] 3)).cell? ⟨W1.heap.size, 0, none⟩ = some (.int .i64 2) := by simp [go_sem]
        obtain ⟨q2, hq2⟩ : ∃ q, W1.heap.size = q := ⟨_, rfl⟩
        have hqV2 : q2 < (W1.alloc (.cells #[.int .i64 2] 3)).heap.size := by simp; omega
        rw [hq2] at p10_2
        rw [hq2]
        generalize W1.alloc (.cells #[.int .i64 2] 3) = V2 at *
        have HEV2 := Lib.hid (HE1.out.ex E2)
        have XV2 := Lib.hid (HX1.out.trans E2)
        have ZV2 := Lib.hid (Nat.le_trans HZ1.out E2.size)
        have YV2 := Lib.hid (HT1.out.trans E2)
        have MK1 := Lib.hid ((Below.block E2 D1 (Array.getElem?_eq_some_iff.1 HKK.out).1).trans HKK.out)
        clear cn ct cm cw HKK hq2 E2 p10_1 hqV1
        skip
        rw [rounds_succ]
        have c4 := X7V2.out.cell C40.out.1
        have f4 := (X7V2.out.cells.2 _ 0 (World.block_lt_of_cell? _ _ C40.out.1)).trans C40.out.2
        have C4 := Lib.hid (And.intro c4 f4)
        clear c4 f4
        go_wp2_with (first
          | (go_at_call 10; (with_reducible refine (raw_back (Z := Z) (hapsOf raw) az A6 c6 _ hz4 (RHs.ext HR67.out X7V2.out) hhb.out hhl.out hl8.out).mono ?_); rintro e w10 ⟨hx10, s10, rfl, hs10⟩)
          | (go_at_call 7; (with_reducible refine (l30num _ _).mono ?_); rintro e w13 ⟨rfl, rfl⟩)
          | (go_at_call 13; (with_reducible refine (hapsT (Z := Z) s10 (rawB (hapsOf raw)) (hapsOf raw) _ hs10 hrl.out (Nat.le_trans ZV2.out hx10.size) hof.out).mono ?_); rintro e w11 ⟨hx11, xs, A11, c11, rfl, hR11, hxs⟩; have HXS := Lib.hid hxs; clear hxs)
          | (go_at_call 12; (with_reducible refine (same_back (Z := Z) (hapsOf raw) az xs A11 A6 c11 c6 _ hz4 hR11 (RHs.ext HR67.out (X7V2.out.trans (hx10.trans hx11))) HXS.out hl7.out).mono ?_); rintro e w12 ⟨rfl, hx12⟩)
          | (go_at_call 6; (with_reducible refine (l30works _).mono ?_); rintro e w14 ⟨rfl, hx14⟩; have XF := Lib.hid (hx10.trans (hx11.trans (hx12.trans hx14))); have c4 := XF.out.cell C4.out.1; have f4 := (XF.out.cells.2 _ 0 (World.block_lt_of_cell? _ _ C4.out.1)).trans C4.out.2))
        have hs14 : D0 < V1.heap.size := (Array.getElem?_eq_some_iff.1 MK0.out).1
        have hs15 : w.heap.size + 1 < w7.heap.size := World.block_lt_of_cell? _ _ C40.out.1
        have hs16 := X7V0.out.size
        have hs17 : V1.heap.size + 1 ≤ D1 := by simpa using hD1
        have hs18 : V0.heap.size + 1 ≤ D0 := by simpa using hD0
        have k1 := (KeepsOthers.setCell w14 ⟨w.heap.size + 1, 0, none⟩ (.bool true)).same D1 _ (mark_go MK1.out XF.out) rfl
        have k0 := (World.putObj_heap_other (w := w14.setCell ⟨w.heap.size + 1, 0, none⟩ (.bool true)) (o := .deferred none) (show D0 ≠ D1 by omega)).trans ((KeepsOthers.setCell w14 ⟨w.heap.size + 1, 0, none⟩ (.bool true)).same D0 _ (mark_go (mark_go MK0.out YV2.out) XF.out) rfl)
        have xe := (((XV2.out.trans XF.out).setCell (p := ⟨w.heap.size + 1, 0, none⟩) (by simp) (.bool true)).grown (grownBy_putObj' _ D1 (.deferred none)) (by intro k e; injection e with e; omega)).grown (grownBy_putObj' _ D0 (.deferred none)) (by intro k e; injection e with e; omega)
        have hc : (((w14.setCell ⟨w.heap.size + 1, 0, none⟩ (.bool true)).putObj D1 (.deferred none)).putObj D0 (.deferred none)).cell? ⟨w.heap.size + 1, 0, none⟩ = some (.bool true) :=
          (World.cell?_of_block (a := ⟨w.heap.size + 1, 0, none⟩) ((World.putObj_heap_other (by dsimp only; omega)).trans (World.putObj_heap_other (by dsimp only; omega)))).trans (by simp [go_sem, c4])
        refine ⟨by simp, .inl ⟨_, _, rfl, run_takeDeferred k1, ⟨by simp, .inl ⟨_, _, rfl, run_takeDeferred k0, ?_⟩⟩⟩⟩
        refine ⟨.bool true, ?_, rfl, xe⟩
        simp [results, Try.results4, go_sem, hc]
  · have hli : (2000 : Int) < raw.length := by omega
    have hx2 := ext2 w (.cells #[.int .i64 many] 3) (.cells #[.bool false] 4)
    go_wp2_with (go_at_call 6; (with_reducible refine (l30works _).mono ?_); rintro e w1 ⟨rfl, hx1⟩; have c4 : w1.cell? ⟨w.heap.size + 1, 0, none⟩ = some (.bool false) := (hx1.cell (by simp [go_sem])); have f4 : w1.frozen? ⟨w.heap.size + 1, 0, none⟩ = false := ((hx1.cells.2 _ 0 (by simp)).trans (by simp [go_sem])))
    refine ⟨.bool true, ?_, rfl, (hx2.trans hx1).setCell (by simp) _⟩
    simp [results, Try.results4, go_sem, c4]
end Go.Proofs.Ytffepmoicpphfaa
