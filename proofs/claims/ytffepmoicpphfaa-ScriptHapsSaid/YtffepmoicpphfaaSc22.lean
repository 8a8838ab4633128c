/- script: Each and Haps, walked. -/
import Derived.Test.YtffepmoicpphfaaSc21
import Derived.Test.YtffepmoicpphfaaR30k
namespace Go.Proofs.Ytffepmoicpphfaa
set_option linter.unusedSimpArgs false
set_option linter.unusedVariables false
open Go.RowKit
variable {Z : Nat}
attribute [local go_sem] Oper.semAt_some
theorem scEach (A : Option Addr) (n c : Nat) (w : World) : Calls Try.prog 15 #[.slice A n c] w fun e w' => e = .returned (.func (.func 27) #[] #[pt w.heap.size]) ∧ w' = w.alloc (.cells #[.slice A n c] 31) := by
  have hmf := makes
  go_enter Try.func15, Try.ntmps15
  go_wp2
  go_ret
  exact ⟨rfl, rfl⟩
theorem cells_hap (w : World) (h : HapC) (a : HapA) : ∀ j u, (hapCells h a)[j]? = some u → (w.alloc (.cells #[.int .i64 h.kind, .int .i64 h.client, .int .i64 h.call.kind, .string (strOf h.call.path), .string (strOf h.call.to_), .int .i64 h.call.at_, .int .i64 h.call.many, .int .u64 h.call.key, .slice a.A h.call.bytes.length a.ca, .int .i64 h.n, .slice a.P h.picks.length a.cp] 35)).cell? ((⟨w.heap.size, 0, none⟩ : Addr).add j) = some u := by
  intro j u hj
  obtain ⟨b, o, hA, hc⟩ := rv_hap w h a _ rfl (by simp [hapCells])
  injection hA with hA
  injection hA with h1 h2
  subst h1; subst h2
  rw [addr_add0]
  exact hc j u hj
def hapsOf (raw : List UInt8) : List HapC := (hapsL raw).map Prod.fst
theorem hapsF_len : ∀ (n m : Nat) (r : Rdr), (hapsF n m r).length ≤ n
  | 0, _, _ => Nat.le_refl _
  | n + 1, m, r => by
    rw [hapsF]
    split
    · simp
    · split
      · simp
      · have := hapsF_len n m (hapR r).1
        simp only [List.length_cons]; omega
theorem hapsOf_len (raw : List UInt8) : (hapsOf raw).length = (hapsL raw).length := by simp [hapsOf]
theorem OHs.le {w : World} {base base' : Nat} {v : Value} {l : List (HapC × HapA)} (h : OHs w base v l) (hb : base' ≤ base) : OHs w base' v l := ⟨h.1, h.2.imp id fun ⟨g, cap, cur, e, hg, h⟩ => ⟨g, cap, cur, e, Nat.le_trans hb hg, h⟩⟩
/-- what Haps gives -/
def HapsGave (Z : Nat) (w : World) (l : List HapC) (e : Ending) (w' : World) : Prop :=
  ∃ (az : List HapA) (v : Value), az.length = l.length ∧ e = .returned v ∧ OHs w' w.heap.size v (l.zip az) ∧ (∀ x ∈ l.zip az, RH Z w' x.1 x.2) ∧ Ext w w'
/-- the haps got so far -/
structure Got (Z : Nat) (w : World) (l : List HapC) (W : World) : Prop where
  ex : ∃ (az : List HapA) (A : Option Addr) (n c : Nat), az.length = l.length ∧ W.cell? ⟨w.heap.size, 0, none⟩ = some (.slice A n c) ∧ OHs W (w.heap.size + 2) (.slice A n c) (l.zip az) ∧ ∀ x ∈ l.zip az, RH Z W x.1 x.2
  fz : W.frozen? ⟨w.heap.size, 0, none⟩ = false
  ty : Typ W w.heap.size 22
  tr : Typ W (w.heap.size + 1) 31
  ext : Ext w W
theorem Got.put {w W : World} {l : List HapC} {az : List HapA} {A : Option Addr} {n c : Nat} {u : Value} (hZ : Z ≤ w.heap.size) (hlen : az.length = l.length) (hc : W.cell? ⟨w.heap.size, 0, none⟩ = some u) (ho : OHs W (w.heap.size + 2) (.slice A n c) (l.zip az)) (hr : ∀ x ∈ l.zip az, RH Z W x.1 x.2)
    (hf : W.frozen? ⟨w.heap.size, 0, none⟩ = false) (ht : Typ W w.heap.size 22) (htr : Typ W (w.heap.size + 1) 31) (hx : Ext w W) : Got Z w l (W.setCell ⟨w.heap.size, 0, none⟩ (.slice A n c)) :=
  ⟨⟨az, A, n, c, hlen, by simp [go_sem, hc], ownsRow_setCell_below ho (show w.heap.size < w.heap.size + 2 by omega) _, fun x hx => ⟨(hr x hx).b.farSet hZ ht (by decide), (hr x hx).p.farSet hZ ht (by decide)⟩⟩,
    by rw [World.frozen?_setCell]; exact hf, ht.set _ _, htr.set _ _, hx.setCell (Nat.le_refl _) _⟩
theorem Typ.lt {w : World} {b : Nat} {t : TypeId} (h : Typ w b t) : b < w.heap.size := by
  obtain ⟨cs, fr, h⟩ := h
  exact (Array.getElem?_eq_some_iff.1 h).1
theorem Got.ext' {w : World} {l : List HapC} {A B : World} (h : Got Z w l A) (hx : Ext A B) : Got Z w l B := by
  obtain ⟨az, A', n, c, h1, h2, h3, h4⟩ := h.ex
  exact ⟨⟨az, A', n, c, h1, hx.cell h2, own_ext h3 hx, fun x hx' => (h4 x hx').ext hx⟩, (hx.cells.2 _ 0 h.ty.lt).trans h.fz, h.ty.ext hx, h.tr.ext hx, h.ext.trans hx⟩
theorem Got.turn {w : World} {l : List HapC} {A B : World} {X : Nat} (h : Got Z w l A) (hZ : Z ≤ w.heap.size) (hX : w.heap.size + 2 ≤ X) (hg : A.grownBy B (some X)) (ht : Typ A X 75 ∨ ∃ o, A.heap[X]? = some o ∧ o.isCells = false) : Got Z w l B := by
  obtain ⟨az, A', n, c, h1, h2, h3, h4⟩ := h.ex
  have hne : ∀ b t, Typ A b t → t ≠ 75 → b ≠ X := by
    rintro b t ⟨cs, fr, hb⟩ hnt rfl
    rcases ht with ⟨cs', fr', ht⟩ | ⟨o, ho, hc⟩
    · rw [hb] at ht; injection ht with ht; injection ht with _ ht; exact hnt ht
    · rw [hb] at ho; injection ho with ho; subst ho; cases hc
  have hmv : ∀ x : HapC × HapA, RH Z A x.1 x.2 → RH Z B x.1 x.2 := by
    have hb : ∀ b, OldOr Z A b → b < A.heap.size → B.heap[b]? = A.heap[b]? := fun b ho hlt => hg.block b hlt (by
      intro e; injection e with e
      rcases ho with ho | ho
      · omega
      · exact hne b _ ho (by decide) e)
    exact fun x r => ⟨r.b.move hb, r.p.move hb⟩
  have hb0 : w.heap.size ≠ X := by omega
  refine ⟨⟨az, A', n, c, h1, hg.cell h2 (by intro e; injection e with e; exact hb0 e), World.ownsRow.kept h3 hg ?_, fun x hx => hmv x (h4 x hx)⟩, (hg.frozen_far ⟨w.heap.size, 0, none⟩ h.ty.lt (by intro e; injection e with e; exact hb0 e)).trans h.fz, h.ty.grown hg hb0, h.tr.grown hg (by omega), Ext.grown h.ext hg (by intro k e; injection e with e; omega)⟩
  rcases h3.2 with ⟨e, _⟩ | ⟨g, cap, cur, e, _, hgh, _⟩
  · exact .inl (by rw [e]; rfl)
  · right; rw [e]; intro e2; simp [Value.ownBlock] at e2
    exact hne g _ ⟨_, _, hgh⟩ (by decide) e2
set_option maxRecDepth 100000 in
set_option maxHeartbeats 2000000 in
theorem scHaps (s : SA) (raw : List UInt8) (w : World) (hrs : RS Z w s raw) (hl : raw.length ≤ 1048576) (hZ : Z ≤ w.heap.size) :
    Calls Try.prog 13 #[(.slice s.A raw.length s.c)] w (HapsGave Z w (hapsOf raw)) := by
  refine (callsIn_wide (n := 4)).1 ?_
  refine callsIn_of_wp_marks Try.func13 rfl trivial ?_
  simp only [Try.ntmps13, List.size_toArray, List.length_cons, List.length_nil, Nat.reduceAdd, Nat.reduceSub, Array.replicate_succ, Array.replicate_zero, List.push_toArray, List.append_toArray, List.nil_append, List.cons_append]
  gi_wp2_with (first | (refine ⟨trivial, ?_⟩; gi_at_call 15; refine (callsIn_wide.2 (scEach _ _ _ _)).mono ?_; rintro e w1 ⟨rfl, rfl⟩))
  have hx2 := ext2 w (.cells #[.slice none 0 0] 22) (.cells #[(.slice s.A raw.length s.c)] 31)
  have hG0 : Got Z w [] ((w.alloc (.cells #[.slice none 0 0] 22)).alloc (.cells #[(.slice s.A raw.length s.c)] 31)) :=
    ⟨⟨[], none, 0, 0, rfl, by simp [go_sem], OHs.nil _ _, fun x hx => by cases hx⟩, by simp [go_sem], (show Typ (w.alloc (.cells #[.slice none 0 0] 22)) w.heap.size 22 from ⟨_, _, new_block w _⟩).ext (ext1 _ _),
      ⟨_, _, by have := new_block (w.alloc (.cells #[.slice none 0 0] 22)) (.cells #[(.slice s.A raw.length s.c)] 31); simpa using this⟩, hx2⟩
  refine range_each (rb := w.heap.size + 1) (s := s) (raw := raw) (Z := Z) rfl rfl (hrs.ext hx2) hl (by simp [go_sem]) (Nat.le_trans hZ hx2.size) (fun k W => Got Z w ((hapsOf raw).take k) W) (fun _ _ => False)
    (fun k A B h hx => h.ext' hx) (fun k A B X hX h hg ht => h.turn hZ (by simpa using hX) hg ht) (fun _ _ _ _ _ _ h => h.elim) (by simpa using hG0) ?round ?done ?stop
  case stop => intro D c W _ h; exact h.elim
  case done =>
    intro D W hD hG hK
    rw [List.take_of_length_le (by rw [hapsOf_len]; exact Nat.le_refl _)] at hG
    obtain ⟨az, A, n, c, h1, h2, h3, h4⟩ := hG.ex
    have hfz := hG.fz
    have hD' : w.heap.size + 2 ≤ D := by simpa using hD
    have hP := hG
    have HP := Lib.hid (Got.put hZ h1 h2 h3 h4 hG.fz hG.ty hG.tr hG.ext)
    clear hP hG h3 h4
    gi_wp2
    have hK2 := (KeepsOthers.setCell W ⟨w.heap.size, 0, none⟩ (.slice A n c)).same D _ hK rfl
    have HT := HP.out.turn hZ hD' (grownBy_putObj' _ D (.deferred none)) (.inr ⟨_, hK2, rfl⟩)
    obtain ⟨az2, A2, n2, c2, k1, k2, k3, k4⟩ := HT.ex
    refine ⟨by simp, .inl ⟨_, _, rfl, run_takeDeferred hK2, ?_⟩⟩
    refine ⟨.slice A2 n2 c2, ?_, az2, _, k1, rfl, OHs.le k3 (by omega), k4, HT.ext⟩
    simp [results, Try.results13, go_sem, k2]
  case round =>
    intro L k A x hk hL hLo hI hr
    obtain ⟨oL, hoL, hoc⟩ := hLo
    have hLA := (Array.getElem?_eq_some_iff.1 hoL).1
    gi_wp2
    refine ⟨ext1 _ _, fun o' hi => ?_⟩
    have hL' : w.heap.size + 2 ≤ L := by simpa using hL
    have hB : HapBox ((A.alloc (hapObj (hapsL raw)[k].1 x)).putObj L o') A.heap.size (hapsL raw)[k].1 x := by
      have h0 := HapBox.new A (hapsL raw)[k].1 x
      have hh : ((A.alloc (hapObj (hapsL raw)[k].1 x)).putObj L o').heap[A.heap.size]? = (A.alloc (hapObj (hapsL raw)[k].1 x)).heap[A.heap.size]? := World.putObj_heap_other (by omega)
      have hcc := fun o => World.cell?_of_block (a := ⟨A.heap.size, o, none⟩) hh
      unfold HapBox at h0 ⊢
      simpa only [hcc] using h0
    have hr' : RH Z ((A.alloc (hapObj (hapsL raw)[k].1 x)).putObj L o') (hapsL raw)[k].1 x := by
      have hLh : (A.alloc (hapObj (hapsL raw)[k].1 x)).heap[L]? = some oL := (Below.heap_alloc A _ L hLA).trans hoL
      exact ⟨RB.putObj (hr.b.ext (ext1 _ _)) hLh hoc (by omega) _, RB.putObj (hr.p.ext (ext1 _ _)) hLh hoc (by omega) _⟩
    have hz : ((A.alloc (hapObj (hapsL raw)[k].1 x)).putObj L o').heap.size = A.heap.size + 1 := by simp
    have htk : (hapsOf raw).take (k + 1) = (hapsOf raw).take k ++ [(hapsL raw)[k].1] := by
      rw [List.take_add_one]; simp [hapsOf, hk]
    have hlk : ((hapsOf raw).take k).length ≤ raw.length :=
      Nat.le_trans (List.length_take_le' _ _) (by rw [hapsOf_len]; exact hapsF_len _ _ _)
    have HTK := Lib.hid htk
    have HR := Lib.hid hr'
    clear htk hr' hI hr
    generalize (hapsL raw)[k].1 = h at *
    generalize hV : (A.alloc (hapObj h x)).putObj L o' = V at *
    have HV := Lib.hid hV
    clear hV
    obtain ⟨az, A', n, c, h1, h2, h3, h4⟩ := hi.ex
    have hfz := hi.fz
    have HI := Lib.hid hi
    have H3 := Lib.hid h3
    have H4 := Lib.hid h4
    unfold HapBox at hB
    obtain ⟨i0, hi0, hz0, hz1, hz2⟩ := info_parts hapInfo
    clear hi h3 h4
    have nle : (((hapsOf raw).take k).zip az).length = ((hapsOf raw).take k).length := by simp [h1]
    have q1 : (((hapsOf raw).take k).zip az).length + 1 ≤ maxLen := by rw [nle]; unfold maxLen; omega
    have q2 : ((((hapsOf raw).take k).zip az).length + 1) * 136 ≤ 140737488355328 := by rw [nle]; omega
    obtain ⟨m, hm⟩ : ∃ m, (((hapsOf raw).take k).zip az).length = m := ⟨_, rfl⟩
    have h3m : V.ownsRow (w.heap.size + 2) 35 11 (.slice A' n c) m (rowsOf (((hapsOf raw).take k).zip az)) := hm ▸ H3.out
    rw [hm] at q1 q2
    have HM := Lib.hid hm
    have H3M := Lib.hid h3m
    clear h3m hm nle
    have Q1 := Lib.hid q1
    have Q2 := Lib.hid q2
    have H2 := Lib.hid h2
    have HFZ := Lib.hid hfz
    have hwV : w.heap.size + 2 ≤ V.heap.size := by omega
    have hcd := fun (W : World) (hx : Ext V W) => And.intro (hx.cell h2) ((hx.cells.2 w.heap.size 0 (by omega)).trans hfz)
    have HCD := Lib.hid hcd
    clear q1 q2 hcd
    gi_wp2_with (first | (gi_at_builtin; (refine wpListIn_append_own _ rfl (.tmp 9) (.tmp 11) 22 rfl (w.heap.size + 2) 35 i0 _ 11 136 Try.underlying22 hi0 hz0 hz1 hz2 rfl (by decide) (.slice A' n c) _ _ rfl (own_ext H3M.out (ext1 _ _)) ⟨A.heap.size + 1, 0, none⟩ 1 1 (hapCells h x) rfl rfl (by rw [← hz]; exact cells_hap _ _ _) (hapCells_one _ _) Q1.out Q2.out (by simp; omega) ?_); intro v2 w2 hown2 hg2 _; obtain ⟨A2, c2, hv2, _⟩ := own_rv hown2; subst hv2; have hl2 := fun b (hb : b < w.heap.size + 2) => (show some b ≠ (Value.slice A' n c).ownBlock from fun e => by have := (World.ownsRow.lt H3M.out b e.symm).1; omega); have hc2 := hg2.cell (HCD.out _ (ext1 _ _)).1 (hl2 w.heap.size (by omega)); have hf2 := (hg2.frozen_far ⟨w.heap.size, 0, none⟩ (Nat.lt_of_lt_of_le (show w.heap.size < V.heap.size by omega) (Ext.size (ext1 V _))) (hl2 w.heap.size (by omega))).trans (HCD.out _ (ext1 _ _)).2))
    have hx1 := ext1 V (.cells #[.int .i64 h.kind, .int .i64 h.client, .int .i64 h.call.kind, .string (strOf h.call.path), .string (strOf h.call.to_), .int .i64 h.call.at_, .int .i64 h.call.many, .int .u64 h.call.key, .slice x.A h.call.bytes.length x.ca, .int .i64 h.n, .slice x.P h.picks.length x.cp] 35)
    have hown1 := own_ext H3M.out hx1
    have hrowc : ∀ j o, (Value.slice A' n c).ownBlock = some j → (V.alloc (.cells #[.int .i64 h.kind, .int .i64 h.client, .int .i64 h.call.kind, .string (strOf h.call.path), .string (strOf h.call.to_), .int .i64 h.call.at_, .int .i64 h.call.many, .int .u64 h.call.key, .slice x.A h.call.bytes.length x.ca, .int .i64 h.n, .slice x.P h.picks.length x.cp] 35)).heap[j]? = some o → ∃ cs fr, o = .cells cs 35 fr := by
      intro j o e ho
      rcases hown1.2 with ⟨e2, _⟩ | ⟨g, cap, cur, e2, _, hgh, _⟩
      · rw [e2] at e; cases e
      · rw [e2] at e; simp [Value.ownBlock] at e; subst e
        rw [hgh] at ho; injection ho with ho
        exact ⟨_, _, ho.symm⟩
    have hrowt : ∀ j t, Typ (V.alloc (.cells #[.int .i64 h.kind, .int .i64 h.client, .int .i64 h.call.kind, .string (strOf h.call.path), .string (strOf h.call.to_), .int .i64 h.call.at_, .int .i64 h.call.many, .int .u64 h.call.key, .slice x.A h.call.bytes.length x.ca, .int .i64 h.n, .slice x.P h.picks.length x.cp] 35)) j t → t ≠ 35 → some j ≠ (Value.slice A' n c).ownBlock := by
      rintro j t ⟨cs, fr, hj⟩ hne e
      obtain ⟨_, _, ho⟩ := hrowc j _ e.symm hj
      injection ho with _ ho; exact hne ho
    have hty2 : Typ w2 w.heap.size 22 := by
      obtain ⟨cs, fr, ht⟩ := HI.out.ty.ext hx1
      exact ⟨cs, fr, (hg2.block _ (Array.getElem?_eq_some_iff.1 ht).1 (hl2 w.heap.size (by omega))).trans ht⟩
    have htr2 : Typ w2 (w.heap.size + 1) 31 := by
      obtain ⟨cs, fr, ht⟩ := HI.out.tr.ext hx1
      exact ⟨cs, fr, (hg2.block _ (Array.getElem?_eq_some_iff.1 ht).1 (hl2 (w.heap.size + 1) (by omega))).trans ht⟩
    have hmv : ∀ B lb, RB Z V B lb → RB Z w2 B lb := fun B lb hb => (hb.ext hx1).grown hown1 (by decide) (by omega) hg2
    refine ⟨⟨?_, ?_, ?_, ?_⟩, ?_⟩
    · refine ((KeepsOthers.alloc V _).trans (KeepsOthers.of_grownBy hg2 fun j o e ho => ?_)).trans (KeepsOthers.setCell _ _ _)
      obtain ⟨_, _, rfl⟩ := hrowc j o e ho
      rfl
    · intro i hi
      have h1 := hi.ext hx1
      refine (Below.heap_setCell w2 ⟨w.heap.size, 0, none⟩ _ i ?_).trans ((hg2.block i h1.lt (hrowt i _ h1 (by decide))).trans (Below.heap_alloc V _ i hi.lt))
      rintro rfl
      obtain ⟨cs, fr, e1⟩ := hi
      obtain ⟨cs', fr', e2⟩ := HI.out.ty
      rw [e1] at e2; injection e2 with e2; injection e2 with _ e2; exact absurd e2 (by decide)
    · exact (Below.heap_setCell w2 ⟨w.heap.size, 0, none⟩ _ _ (by dsimp only; omega)).trans ((hg2.block _ (HI.out.tr.ext hx1).lt (hl2 _ (by omega))).trans (Below.heap_alloc V _ _ HI.out.tr.lt))
    · intro hb
      exact (hmv _ _ hb).farSet hZ hty2 (by decide)
    · rw [HTK.out]
      have hzip : ((hapsOf raw).take k ++ [h]).zip (az ++ [x]) = ((hapsOf raw).take k).zip az ++ [(h, x)] := by
        rw [List.zip_append h1.symm]; rfl
      refine Got.put (az := az ++ [x]) hZ (by simp [h1]) hc2 ?_ ?_ hf2 hty2 htr2 (Ext.grown (HI.out.ext.trans hx1) hg2 fun g e => by have := (World.ownsRow.lt hown1 g e).1; omega)
      · rw [hzip]
        show World.ownsRow w2 _ _ _ _ _ _
        rw [show (((hapsOf raw).take k).zip az ++ [(h, x)]).length = m + 1 by rw [List.length_append, HM.out]; rfl]
        rw [show rowsOf (((hapsOf raw).take k).zip az ++ [(h, x)]) = rowsOf (((hapsOf raw).take k).zip az) ++ hapCells h x by simp [rowsOf]]
        exact hown2
      · rw [hzip]
        intro y hy
        rcases List.mem_append.1 hy with hy | hy
        · exact ⟨hmv _ _ (H4.out y hy).b, hmv _ _ (H4.out y hy).p⟩
        · obtain rfl := List.mem_singleton.1 hy
          exact ⟨hmv _ _ HR.out.b, hmv _ _ HR.out.p⟩
end Go.Proofs.Ytffepmoicpphfaa
