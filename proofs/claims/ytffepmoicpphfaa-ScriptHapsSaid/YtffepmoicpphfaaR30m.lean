/- hedgerowref30: bytes at the kind 1, walked. -/
import Derived.Test.YtffepmoicpphfaaR30l
import Derived.Deep.RegionLaw
import Derived.Deep.DeepCutAuto
namespace Go.Proofs.Ytffepmoicpphfaa
set_option linter.unusedSimpArgs false
set_option linter.unusedVariables false
open Go.RowKit
variable {Z : Nat}
/-- bytes in a block laid since a heap's size -/
def NewB (n : Nat) (w : World) (A : Option Addr) (l : List UInt8) : Prop := l ≠ [] → ∃ g, A = some ⟨g, 0, none⟩ ∧ n ≤ g ∧ Typ w g 5 ∧ ∀ j (h : j < l.length), w.cell? ⟨g, 0 + j, none⟩ = some (.int .u8 (l[j].toNat : Int))
theorem NewB.ext {n : Nat} {w w' : World} {A l} (h : NewB n w A l) (hx : Ext w w') : NewB n w' A l := fun hl => by
  obtain ⟨g, h1, h2, h3, h4⟩ := h hl
  exact ⟨g, h1, h2, h3.ext hx, fun j hj => hx.cell (h4 j hj)⟩
theorem NewB.mono {n m : Nat} {w : World} {A l} (h : NewB n w A l) (hm : m ≤ n) : NewB m w A l := fun hl => by
  obtain ⟨g, h1, h2, h3, h4⟩ := h hl
  exact ⟨g, h1, Nat.le_trans hm h2, h3, h4⟩
theorem NewB.rb {n : Nat} {w : World} {A l} (h : NewB n w A l) : RB Z w A l := fun hl => by
  obtain ⟨g, h1, _, h3, h4⟩ := h hl
  exact ⟨g, 0, h1, .inr h3, h4⟩
theorem NewB.grown {n : Nat} {w w' : World} {row : Option Nat} {A l} (h : NewB n w A l) (hg : w.grownBy w' row) (hr : ∀ k, row = some k → k < n) : NewB n w' A l := fun hl => by
  obtain ⟨g, h1, h2, ⟨cs, fr, h3⟩, h4⟩ := h hl
  have hne : some g ≠ row := fun e => by have := hr g e.symm; omega
  exact ⟨g, h1, h2, ⟨cs, fr, (hg.block g (Array.getElem?_eq_some_iff.1 h3).1 hne).trans h3⟩, fun j hj => hg.cell (h4 j hj) hne⟩
theorem step_conv {w : World} {ops : Array Oper} {o : Oper} {a : Act} {K : Act → World → Prop} {Q : Exit → Act → World → Prop} {E : Prop} (hgd : o.guard = none) (x : Operand) (ho : o.op = .convert 9 31 x)
    (l : List UInt8) (hx : a.eval x = .string (strOf l)) (h : ∀ A c w', NewB w.heap.size w' A l → Ext w w' → K (a.put o.dst (.slice A l.length c)) w') :
    if Region.wanted o (yielded ops a.tmps) = true then Oper.wp Try.prog o a w K Q else E := by
  have hw : Region.wanted o (yielded ops a.tmps) = true := by simp [Region.wanted, hgd]
  rw [if_pos hw]
  have hrun := Lib.run_convert_string_bytes (P := Try.prog) w 9 31 5 (strOf l) Try.underlying9 Try.underlying31 Try.underlying5
  unfold Oper.wp
  simp only [execOp, ho, hx, Sem.run_bind, hrun, Result.andThen]
  have hs : (strOf l).size = l.length := strOf_size l
  rw [hs]
  refine h (some ⟨w.heap.size, 0, none⟩) _ _ (fun hl => ?_) (Ext.conv (Ext.refl w) 5 (strOf l))
  obtain ⟨b, o', hA, ht, hc⟩ := rb_conv (Z := 0) w l hl
  injection hA with hA; injection hA with h1 h2; subst h1; subst h2
  exact ⟨_, rfl, Nat.le_refl _, ht.resolve_left (by omega), hc⟩
set_option maxRecDepth 100000 in
set_option maxHeartbeats 20000000 in
theorem r30bytes1 (cl n : Int) (c : CallC) (p : List UInt8) (a : HapA) (w : World) (hA : RB Z w a.A c.bytes) (hf : fits ⟨1, cl, c, n, p⟩ = true) (hk : KeyIn ⟨1, cl, c, n, p⟩) :
    Calls Try.prog 25 #[hapV ⟨1, cl, c, n, p⟩ a] w (GivesB w (hapB ⟨1, cl, c, n, p⟩)) := by
  obtain ⟨ck, pa, to_, at_, mny, key, bytes⟩ := c
  simp only [fits, if_true, Bool.and_eq_true, inB, fitsCall, decide_eq_true_eq] at hf
  obtain ⟨⟨hc0, hc1⟩, ⟨⟨⟨⟨⟨⟨hck0, hck1⟩, hpl⟩, htl⟩, ⟨hat0, hat1⟩⟩, ⟨hm0, hm1⟩⟩, hbl⟩⟩ := hf
  obtain ⟨hk0, hk1⟩ := hk
  dsimp only at hk0 hk1
  obtain ⟨m1, rfl⟩ := Int.eq_ofNat_of_zero_le hc0
  obtain ⟨m2, rfl⟩ := Int.eq_ofNat_of_zero_le hck0
  obtain ⟨m3, rfl⟩ := Int.eq_ofNat_of_zero_le hat0
  obtain ⟨m4, rfl⟩ := Int.eq_ofNat_of_zero_le hm0
  obtain ⟨m5, rfl⟩ := Int.eq_ofNat_of_zero_le hk0
  have hsp : hapB ⟨1, m1, ⟨m2, pa, to_, m3, m4, m5, bytes⟩, n, p⟩ = [UInt8.ofNat 0] ++ [UInt8.ofNat m1, UInt8.ofNat m2] ++ (UInt8.ofNat pa.length :: pa) ++ (UInt8.ofNat to_.length :: to_) ++ lowB m3 2 ++ lowB m4 2 ++ lowB m5 8 ++ (UInt8.ofNat bytes.length :: bytes) := by
    simp [hapB, layB, kindsL, clientS, kindS, pathS, toS, atS, manyS, keyS, bytesS, lowB1]
  rw [hsp]
  clear hsp
  have c1 := Lib.hid (show #[Value.int .u8 0].toList = bvals [UInt8.ofNat 0] by simp [bvals])
  have c2 := Lib.hid (show #[Value.int .u8 (m1 : Int), Value.int .u8 (m2 : Int)].toList = bvals [UInt8.ofNat m1, UInt8.ofNat m2] by simp [bvals]; omega)
  go_enter Try.func25, Try.ntmps25
  go_wp2_with (at_builtin; go_loud (refine wpl_bytes (Z := Z) rfl (.tmp 16) (.tmp 23) 31 rfl w.heap.size Try.underlying31 (.slice (some ⟨w.heap.size + 1, 0, none⟩) 1 1) [UInt8.ofNat 0] (by rfl) (((ob_lit _ _ _ _ 1 _ (by simp) c1.out rfl (by omega) (by decide)).alloc _).alloc _) _ 2 2 [UInt8.ofNat m1, UInt8.ofNat m2] (by rfl) rfl (rb_lit _ _ _ _ (by simp) c2.out) (by simp) (by simp; try omega) ?_); intro v1 w1 hob1 hg1 hat1)
  have hx1 : Ext w w1 := Ext.grown ((ext3 w _ _ _).alloc _) hg1 (by intro k hk; simp [Value.ownBlock] at hk; omega)
  have hB1 : CallBox w1 (w.heap.size + 1 + 1) ⟨m2, pa, to_, m3, m4, m5, bytes⟩ a.A a.ca := CallBox.grown (by simp [CallBox, go_sem]) hg1 (by simp [Value.ownBlock])
  have hne1 : some (w.heap.size + 1 + 1) ≠ v1.ownBlock := by
    rcases hat1 with e | e <;> rw [e] <;> simp [Value.ownBlock]
  have HN := Lib.hid hne1
  clear hat1 hne1
  generalize hcb : w.heap.size + 1 + 1 = cb at *
  have HCB := Lib.hid hcb
  clear hcb hg1
  have hz1 := hx1.size
  have HC : Hid (CallBox w1 cb ⟨m2, pa, to_, m3, m4, m5, bytes⟩ a.A a.ca) := hB1
  have HOB1 := Lib.hid hob1
  have HX1 := Lib.hid hx1
  clear hB1 hob1 hx1
  go_cut [3] (fun v wr => OB wr w.heap.size v ([UInt8.ofNat 0] ++ [UInt8.ofNat m1, UInt8.ofNat m2] ++ (UInt8.ofNat pa.length :: pa) ++ (UInt8.ofNat to_.length :: to_)) ∧ Hid (Ext w wr) ∧ Hid (CallBox wr cb ⟨m2, pa, to_, m3, m4, m5, bytes⟩ a.A a.ca) ∧ Hid (some cb ≠ v.ownBlock))
  case first =>
    have hcl : cb < w1.heap.size := World.block_lt_of_cell? w1 _ HC.out.1
    have HCL := Lib.hid hcl
    have hc1 := Lib.hid (show ([UInt8.ofNat 0] ++ [UInt8.ofNat m1, UInt8.ofNat m2]).length + (UInt8.ofNat pa.length :: pa).length ≤ 140737488355328 by simp; omega)
    have hc2 := Lib.hid (show ([UInt8.ofNat 0] ++ [UInt8.ofNat m1, UInt8.ofNat m2] ++ (UInt8.ofNat pa.length :: pa)).length + (UInt8.ofNat to_.length :: to_).length ≤ 140737488355328 by simp; omega)
    have K0 := Lib.hid (And.intro HC.out.2.1 HC.out.2.2.1)
    have KX := Lib.hid (fun W (hx : Ext w1 W) => And.intro (hx.cell HC.out.2.1) (hx.cell HC.out.2.2.1))
    clear hcl
    refine wp_region_held_drew (S := fun w' => w'.cell? ⟨cb, 1, none⟩ = some (.string (strOf pa)) ∧ w'.cell? ⟨cb, 2, none⟩ = some (.string (strOf to_))) (by kernel_rfl) K0.out (fun hHeld => ?_)
    refine wpAnyH_take (i := 0) (v := ?_) rfl (by kernel_rfl) (by kernel_rfl) (by kernel_rfl) (fun _ _ _ h => h) (Or.inl ⟨by rfl, ?_⟩) (by assumption) ?_; rotate_left; (intro w' hSw; (try dsimp only at hSw); go_simp; (try with_reducible rfl)); (try simp only [Act.put, List.setIfInBounds_toArray, List.set_cons_zero, List.set_cons_succ])
    refine wpAnyH_take (i := 1) (v := ?_) rfl (by kernel_rfl) (by kernel_rfl) (by kernel_rfl) (fun _ _ _ h => h) (Or.inl ⟨by rfl, ?_⟩) (by assumption) ?_; rotate_left; (intro w' hSw; (try dsimp only at hSw); go_simp; (try with_reducible rfl)); (try simp only [Act.put, List.setIfInBounds_toArray, List.set_cons_zero, List.set_cons_succ])
    refine wpAnyH_take (i := 6) (v := ?_) rfl (by kernel_rfl) (by kernel_rfl) (by kernel_rfl) (fun _ _ _ h => h) (Or.inl ⟨by rfl, ?_⟩) (by assumption) ?_; rotate_left; (intro w' hSw; (try dsimp only at hSw); go_simp; (try with_reducible rfl)); (try simp only [Act.put, List.setIfInBounds_toArray, List.set_cons_zero, List.set_cons_succ])
    refine wpAnyH_take (i := 2) (v := ?_) rfl (by kernel_rfl) (by kernel_rfl) (by kernel_rfl) (fun _ _ _ h => h) (Or.inl ⟨by rfl, ?_⟩) (by assumption) ?_; rotate_left; (intro w' hSw; (try dsimp only at hSw); go_simp; (try with_reducible rfl)); (try simp only [Act.put, List.setIfInBounds_toArray, List.set_cons_zero, List.set_cons_succ])
    refine wpAnyH_take (i := 7) (v := ?_) rfl (by kernel_rfl) (by kernel_rfl) (by kernel_rfl) (fun _ _ _ h => h) (Or.inl ⟨by rfl, ?_⟩) (by assumption) ?_; rotate_left; (intro w' hSw; (try dsimp only at hSw); go_simp; (try with_reducible rfl)); (try simp only [Act.put, List.setIfInBounds_toArray, List.set_cons_zero, List.set_cons_succ])
    have x0 := Ext.drew (Ext.refl w1)
    generalize w1.drew = w0 at *
    refine wpAnyH_ready (rs := [3, 8]) (by kernel_rfl) (by simp) ?_
    refine AllReadyH.cons rfl (fun K hK => ?_) ?_
    · refine step_conv rfl (.tmp 27) rfl pa (by rfl) ?_
      intro Aa1 cc1 ww1 hnc1 hxx1
      have x1 := Ext.trans x0 hxx1
      have hn1 := NewB.mono hnc1 (Ext.size x0)
      refine hK.out _ _ ?_ (fun hHeld => ?_)
      · exact KX.out _ x1
      clear hK K
      (try simp only [Act.put, List.setIfInBounds_toArray, List.set_cons_zero, List.set_cons_succ])
      refine wpAnyH_ready (rs := [4, 8]) (by kernel_rfl) (by simp) ?_
      refine AllReadyH.cons rfl (fun K hK => ?_) ?_
      · go_simp
        refine (r30text (Z := Z) pa _ _ _ (NewB.rb hn1) (by omega)).mono ?_
        rintro e ww2 ⟨vv2, rfl, hoo2, hxx2⟩
        obtain ⟨Aa2, cc2, rfl, _, _, hr2⟩ := OB.rb (Z := Z) hoo2
        have x2 := Ext.trans x1 hxx2
        refine hK.out _ _ ?_ (fun hHeld => ?_)
        · exact KX.out _ x2
        clear hK K
        (try simp only [Act.put, List.setIfInBounds_toArray, List.set_cons_zero, List.set_cons_succ])
        refine wpAnyH_ready (rs := [5, 8]) (by kernel_rfl) (by simp) ?_
        refine AllReadyH.cons rfl (fun K hK => ?_) ?_
        · refine step_bytes (Z := Z) rfl (.tmp 25) (.tmp 29) 31 rfl w.heap.size Try.underlying31 v1 _ (by rfl) (OB.ext HOB1.out x2) Aa2 _ cc2 (UInt8.ofNat pa.length :: pa) (by rfl) rfl hr2 hc1.out (Ext.size (HX1.out.trans x2)) ?_
          intro v3 w3 hob3 hg3 hat3
          have HC3 := Lib.hid (CallBox.grown (CallBox.ext HC.out x2) hg3 HN.out)
          have HN3 := Lib.hid (ne_own HN.out (Nat.lt_of_lt_of_le HCL.out (Ext.size x2)) hat3)
          have hx3 := Ext.own (HX1.out.trans x2) hg3 (OB.ext HOB1.out x2)
          have KY := Lib.hid (fun W (hx : Ext w3 W) => And.intro (hx.cell HC3.out.2.1) (hx.cell HC3.out.2.2.1))
          have y0 := Ext.refl w3
          refine hK.out _ _ ?_ (fun hHeld => ?_)
          · exact ⟨HC3.out.2.1, HC3.out.2.2.1⟩
          clear hK K
          (try simp only [Act.put, List.setIfInBounds_toArray, List.set_cons_zero, List.set_cons_succ])
          refine wpAnyH_ready (rs := [8]) (by kernel_rfl) (by simp) ?_
          refine AllReadyH.cons rfl (fun K hK => ?_) ?_
          · refine step_conv rfl (.tmp 32) rfl to_ (by rfl) ?_
            intro Aa4 cc4 ww4 hnc4 hxx4
            have y4 := Ext.trans y0 hxx4
            have hn4 := NewB.mono hnc4 (Ext.size y0)
            refine hK.out _ _ ?_ (fun hHeld => ?_)
            · exact KY.out _ y4
            clear hK K
            (try simp only [Act.put, List.setIfInBounds_toArray, List.set_cons_zero, List.set_cons_succ])
            refine wpAnyH_ready (rs := [9]) (by kernel_rfl) (by simp) ?_
            refine AllReadyH.cons rfl (fun K hK => ?_) ?_
            · go_simp
              refine (r30text (Z := Z) to_ _ _ _ (NewB.rb hn4) (by omega)).mono ?_
              rintro e ww5 ⟨vv5, rfl, hoo5, hxx5⟩
              obtain ⟨Aa5, cc5, rfl, _, _, hr5⟩ := OB.rb (Z := Z) hoo5
              have y5 := Ext.trans y4 hxx5
              refine hK.out _ _ ?_ (fun hHeld => ?_)
              · exact KY.out _ y5
              clear hK K
              (try simp only [Act.put, List.setIfInBounds_toArray, List.set_cons_zero, List.set_cons_succ])
              refine wpAnyH_ready (rs := [10]) (by kernel_rfl) (by simp) ?_
              refine AllReadyH.cons rfl (fun K hK => ?_) ?_
              · refine step_bytes (Z := Z) rfl (.tmp 30) (.tmp 34) 31 rfl w.heap.size Try.underlying31 v3 _ (by rfl) (OB.ext hob3 y5) Aa5 _ cc5 (UInt8.ofNat to_.length :: to_) (by rfl) rfl hr5 hc2.out (Ext.size (hx3.trans y5)) ?_
                intro v5 w5 hob5 hg5 hat5
                have hx5 := Ext.own (hx3.trans y5) hg5 (OB.ext hob3 y5)
                have hB5 := CallBox.grown (CallBox.ext HC3.out y5) hg5 HN3.out
                have hN5 := ne_own HN3.out (Nat.lt_of_lt_of_le (World.block_lt_of_cell? w3 _ HC3.out.1) (Ext.size y5)) hat5
                refine hK.out _ _ ?_ (fun hHeld => ?_)
                · exact ⟨hB5.2.1, hB5.2.2.1⟩
                clear hK K
                (try simp only [Act.put, List.setIfInBounds_toArray, List.set_cons_zero, List.set_cons_succ])
                refine wpAnyH_take (i := 11) (v := ?_) rfl (by kernel_rfl) (by kernel_rfl) (by kernel_rfl) (fun _ _ _ h => h) (Or.inl ⟨by rfl, ?_⟩) (by assumption) ?_; rotate_left; (intro w' hSw; (try dsimp only at hSw); go_simp; (try with_reducible rfl)); (try simp only [Act.put, List.setIfInBounds_toArray, List.set_cons_zero, List.set_cons_succ])
                refine wpAnyH_done (by kernel_rfl) ?_ _
                go_wp2
                go_meet
                exact ⟨hob5, hx5, hB5, hN5⟩
              exact AllReadyH.nil
            exact AllReadyH.nil
          exact AllReadyH.nil
        refine AllReadyH.cons rfl (fun K hK => ?_) ?_
        · refine step_conv rfl (.tmp 32) rfl to_ (by rfl) ?_
          intro Aa7 cc7 ww7 hnc7 hxx7
          have x7 := Ext.trans x2 hxx7
          have hn7 := NewB.mono hnc7 (Ext.size x2)
          have hr2 := RB.ext hr2 hxx7
          refine hK.out _ _ ?_ (fun hHeld => ?_)
          · exact KX.out _ x7
          clear hK K
          (try simp only [Act.put, List.setIfInBounds_toArray, List.set_cons_zero, List.set_cons_succ])
          refine wpAnyH_ready (rs := [5]) (by kernel_rfl) (by simp) ?_
          refine AllReadyH.cons rfl (fun K hK => ?_) ?_
          · refine step_bytes (Z := Z) rfl (.tmp 25) (.tmp 29) 31 rfl w.heap.size Try.underlying31 v1 _ (by rfl) (OB.ext HOB1.out x7) Aa2 _ cc2 (UInt8.ofNat pa.length :: pa) (by rfl) rfl hr2 hc1.out (Ext.size (HX1.out.trans x7)) ?_
            intro v3 w3 hob3 hg3 hat3
            have HC3 := Lib.hid (CallBox.grown (CallBox.ext HC.out x7) hg3 HN.out)
            have HN3 := Lib.hid (ne_own HN.out (Nat.lt_of_lt_of_le HCL.out (Ext.size x7)) hat3)
            have hx3 := Ext.own (HX1.out.trans x7) hg3 (OB.ext HOB1.out x7)
            have KY := Lib.hid (fun W (hx : Ext w3 W) => And.intro (hx.cell HC3.out.2.1) (hx.cell HC3.out.2.2.1))
            have hn7 := NewB.grown hn7 hg3 (fun k hk => (World.ownsRow.lt HOB1.out k hk).2)
            have y0 := Ext.refl w3
            refine hK.out _ _ ?_ (fun hHeld => ?_)
            · exact ⟨HC3.out.2.1, HC3.out.2.2.1⟩
            clear hK K
            (try simp only [Act.put, List.setIfInBounds_toArray, List.set_cons_zero, List.set_cons_succ])
            refine wpAnyH_ready (rs := [9]) (by kernel_rfl) (by simp) ?_
            refine AllReadyH.cons rfl (fun K hK => ?_) ?_
            · go_simp
              refine (r30text (Z := Z) to_ _ _ _ (NewB.rb hn7) (by omega)).mono ?_
              rintro e ww9 ⟨vv9, rfl, hoo9, hxx9⟩
              obtain ⟨Aa9, cc9, rfl, _, _, hr9⟩ := OB.rb (Z := Z) hoo9
              have y9 := Ext.trans y0 hxx9
              refine hK.out _ _ ?_ (fun hHeld => ?_)
              · exact KY.out _ y9
              clear hK K
              (try simp only [Act.put, List.setIfInBounds_toArray, List.set_cons_zero, List.set_cons_succ])
              refine wpAnyH_ready (rs := [10]) (by kernel_rfl) (by simp) ?_
              refine AllReadyH.cons rfl (fun K hK => ?_) ?_
              · refine step_bytes (Z := Z) rfl (.tmp 30) (.tmp 34) 31 rfl w.heap.size Try.underlying31 v3 _ (by rfl) (OB.ext hob3 y9) Aa9 _ cc9 (UInt8.ofNat to_.length :: to_) (by rfl) rfl hr9 hc2.out (Ext.size (hx3.trans y9)) ?_
                intro v5 w5 hob5 hg5 hat5
                have hx5 := Ext.own (hx3.trans y9) hg5 (OB.ext hob3 y9)
                have hB5 := CallBox.grown (CallBox.ext HC3.out y9) hg5 HN3.out
                have hN5 := ne_own HN3.out (Nat.lt_of_lt_of_le (World.block_lt_of_cell? w3 _ HC3.out.1) (Ext.size y9)) hat5
                refine hK.out _ _ ?_ (fun hHeld => ?_)
                · exact ⟨hB5.2.1, hB5.2.2.1⟩
                clear hK K
                (try simp only [Act.put, List.setIfInBounds_toArray, List.set_cons_zero, List.set_cons_succ])
                refine wpAnyH_take (i := 11) (v := ?_) rfl (by kernel_rfl) (by kernel_rfl) (by kernel_rfl) (fun _ _ _ h => h) (Or.inl ⟨by rfl, ?_⟩) (by assumption) ?_; rotate_left; (intro w' hSw; (try dsimp only at hSw); go_simp; (try with_reducible rfl)); (try simp only [Act.put, List.setIfInBounds_toArray, List.set_cons_zero, List.set_cons_succ])
                refine wpAnyH_done (by kernel_rfl) ?_ _
                go_wp2
                go_meet
                exact ⟨hob5, hx5, hB5, hN5⟩
              exact AllReadyH.nil
            exact AllReadyH.nil
          exact AllReadyH.nil
        exact AllReadyH.nil
      refine AllReadyH.cons rfl (fun K hK => ?_) ?_
      · refine step_conv rfl (.tmp 32) rfl to_ (by rfl) ?_
        intro Aa11 cc11 ww11 hnc11 hxx11
        have x11 := Ext.trans x1 hxx11
        have hn11 := NewB.mono hnc11 (Ext.size x1)
        have hn1 := NewB.ext hn1 hxx11
        refine hK.out _ _ ?_ (fun hHeld => ?_)
        · exact KX.out _ x11
        clear hK K
        (try simp only [Act.put, List.setIfInBounds_toArray, List.set_cons_zero, List.set_cons_succ])
        refine wpAnyH_ready (rs := [4]) (by kernel_rfl) (by simp) ?_
        refine AllReadyH.cons rfl (fun K hK => ?_) ?_
        · go_simp
          refine (r30text (Z := Z) pa _ _ _ (NewB.rb hn1) (by omega)).mono ?_
          rintro e ww12 ⟨vv12, rfl, hoo12, hxx12⟩
          obtain ⟨Aa12, cc12, rfl, _, _, hr12⟩ := OB.rb (Z := Z) hoo12
          have x12 := Ext.trans x11 hxx12
          have hn11 := NewB.ext hn11 hxx12
          refine hK.out _ _ ?_ (fun hHeld => ?_)
          · exact KX.out _ x12
          clear hK K
          (try simp only [Act.put, List.setIfInBounds_toArray, List.set_cons_zero, List.set_cons_succ])
          refine wpAnyH_ready (rs := [5]) (by kernel_rfl) (by simp) ?_
          refine AllReadyH.cons rfl (fun K hK => ?_) ?_
          · refine step_bytes (Z := Z) rfl (.tmp 25) (.tmp 29) 31 rfl w.heap.size Try.underlying31 v1 _ (by rfl) (OB.ext HOB1.out x12) Aa12 _ cc12 (UInt8.ofNat pa.length :: pa) (by rfl) rfl hr12 hc1.out (Ext.size (HX1.out.trans x12)) ?_
            intro v3 w3 hob3 hg3 hat3
            have HC3 := Lib.hid (CallBox.grown (CallBox.ext HC.out x12) hg3 HN.out)
            have HN3 := Lib.hid (ne_own HN.out (Nat.lt_of_lt_of_le HCL.out (Ext.size x12)) hat3)
            have hx3 := Ext.own (HX1.out.trans x12) hg3 (OB.ext HOB1.out x12)
            have KY := Lib.hid (fun W (hx : Ext w3 W) => And.intro (hx.cell HC3.out.2.1) (hx.cell HC3.out.2.2.1))
            have hn11 := NewB.grown hn11 hg3 (fun k hk => (World.ownsRow.lt HOB1.out k hk).2)
            have y0 := Ext.refl w3
            refine hK.out _ _ ?_ (fun hHeld => ?_)
            · exact ⟨HC3.out.2.1, HC3.out.2.2.1⟩
            clear hK K
            (try simp only [Act.put, List.setIfInBounds_toArray, List.set_cons_zero, List.set_cons_succ])
            refine wpAnyH_ready (rs := [9]) (by kernel_rfl) (by simp) ?_
            refine AllReadyH.cons rfl (fun K hK => ?_) ?_
            · go_simp
              refine (r30text (Z := Z) to_ _ _ _ (NewB.rb hn11) (by omega)).mono ?_
              rintro e ww14 ⟨vv14, rfl, hoo14, hxx14⟩
              obtain ⟨Aa14, cc14, rfl, _, _, hr14⟩ := OB.rb (Z := Z) hoo14
              have y14 := Ext.trans y0 hxx14
              refine hK.out _ _ ?_ (fun hHeld => ?_)
              · exact KY.out _ y14
              clear hK K
              (try simp only [Act.put, List.setIfInBounds_toArray, List.set_cons_zero, List.set_cons_succ])
              refine wpAnyH_ready (rs := [10]) (by kernel_rfl) (by simp) ?_
              refine AllReadyH.cons rfl (fun K hK => ?_) ?_
              · refine step_bytes (Z := Z) rfl (.tmp 30) (.tmp 34) 31 rfl w.heap.size Try.underlying31 v3 _ (by rfl) (OB.ext hob3 y14) Aa14 _ cc14 (UInt8.ofNat to_.length :: to_) (by rfl) rfl hr14 hc2.out (Ext.size (hx3.trans y14)) ?_
                intro v5 w5 hob5 hg5 hat5
                have hx5 := Ext.own (hx3.trans y14) hg5 (OB.ext hob3 y14)
                have hB5 := CallBox.grown (CallBox.ext HC3.out y14) hg5 HN3.out
                have hN5 := ne_own HN3.out (Nat.lt_of_lt_of_le (World.block_lt_of_cell? w3 _ HC3.out.1) (Ext.size y14)) hat5
                refine hK.out _ _ ?_ (fun hHeld => ?_)
                · exact ⟨hB5.2.1, hB5.2.2.1⟩
                clear hK K
                (try simp only [Act.put, List.setIfInBounds_toArray, List.set_cons_zero, List.set_cons_succ])
                refine wpAnyH_take (i := 11) (v := ?_) rfl (by kernel_rfl) (by kernel_rfl) (by kernel_rfl) (fun _ _ _ h => h) (Or.inl ⟨by rfl, ?_⟩) (by assumption) ?_; rotate_left; (intro w' hSw; (try dsimp only at hSw); go_simp; (try with_reducible rfl)); (try simp only [Act.put, List.setIfInBounds_toArray, List.set_cons_zero, List.set_cons_succ])
                refine wpAnyH_done (by kernel_rfl) ?_ _
                go_wp2
                go_meet
                exact ⟨hob5, hx5, hB5, hN5⟩
              exact AllReadyH.nil
            exact AllReadyH.nil
          exact AllReadyH.nil
        exact AllReadyH.nil
      exact AllReadyH.nil
    refine AllReadyH.cons rfl (fun K hK => ?_) ?_
    · refine step_conv rfl (.tmp 32) rfl to_ (by rfl) ?_
      intro Aa16 cc16 ww16 hnc16 hxx16
      have x16 := Ext.trans x0 hxx16
      have hn16 := NewB.mono hnc16 (Ext.size x0)
      refine hK.out _ _ ?_ (fun hHeld => ?_)
      · exact KX.out _ x16
      clear hK K
      (try simp only [Act.put, List.setIfInBounds_toArray, List.set_cons_zero, List.set_cons_succ])
      refine wpAnyH_ready (rs := [3]) (by kernel_rfl) (by simp) ?_
      refine AllReadyH.cons rfl (fun K hK => ?_) ?_
      · refine step_conv rfl (.tmp 27) rfl pa (by rfl) ?_
        intro Aa17 cc17 ww17 hnc17 hxx17
        have x17 := Ext.trans x16 hxx17
        have hn17 := NewB.mono hnc17 (Ext.size x16)
        have hn16 := NewB.ext hn16 hxx17
        refine hK.out _ _ ?_ (fun hHeld => ?_)
        · exact KX.out _ x17
        clear hK K
        (try simp only [Act.put, List.setIfInBounds_toArray, List.set_cons_zero, List.set_cons_succ])
        refine wpAnyH_ready (rs := [4]) (by kernel_rfl) (by simp) ?_
        refine AllReadyH.cons rfl (fun K hK => ?_) ?_
        · go_simp
          refine (r30text (Z := Z) pa _ _ _ (NewB.rb hn17) (by omega)).mono ?_
          rintro e ww18 ⟨vv18, rfl, hoo18, hxx18⟩
          obtain ⟨Aa18, cc18, rfl, _, _, hr18⟩ := OB.rb (Z := Z) hoo18
          have x18 := Ext.trans x17 hxx18
          have hn16 := NewB.ext hn16 hxx18
          refine hK.out _ _ ?_ (fun hHeld => ?_)
          · exact KX.out _ x18
          clear hK K
          (try simp only [Act.put, List.setIfInBounds_toArray, List.set_cons_zero, List.set_cons_succ])
          refine wpAnyH_ready (rs := [5]) (by kernel_rfl) (by simp) ?_
          refine AllReadyH.cons rfl (fun K hK => ?_) ?_
          · refine step_bytes (Z := Z) rfl (.tmp 25) (.tmp 29) 31 rfl w.heap.size Try.underlying31 v1 _ (by rfl) (OB.ext HOB1.out x18) Aa18 _ cc18 (UInt8.ofNat pa.length :: pa) (by rfl) rfl hr18 hc1.out (Ext.size (HX1.out.trans x18)) ?_
            intro v3 w3 hob3 hg3 hat3
            have HC3 := Lib.hid (CallBox.grown (CallBox.ext HC.out x18) hg3 HN.out)
            have HN3 := Lib.hid (ne_own HN.out (Nat.lt_of_lt_of_le HCL.out (Ext.size x18)) hat3)
            have hx3 := Ext.own (HX1.out.trans x18) hg3 (OB.ext HOB1.out x18)
            have KY := Lib.hid (fun W (hx : Ext w3 W) => And.intro (hx.cell HC3.out.2.1) (hx.cell HC3.out.2.2.1))
            have hn16 := NewB.grown hn16 hg3 (fun k hk => (World.ownsRow.lt HOB1.out k hk).2)
            have y0 := Ext.refl w3
            refine hK.out _ _ ?_ (fun hHeld => ?_)
            · exact ⟨HC3.out.2.1, HC3.out.2.2.1⟩
            clear hK K
            (try simp only [Act.put, List.setIfInBounds_toArray, List.set_cons_zero, List.set_cons_succ])
            refine wpAnyH_ready (rs := [9]) (by kernel_rfl) (by simp) ?_
            refine AllReadyH.cons rfl (fun K hK => ?_) ?_
            · go_simp
              refine (r30text (Z := Z) to_ _ _ _ (NewB.rb hn16) (by omega)).mono ?_
              rintro e ww20 ⟨vv20, rfl, hoo20, hxx20⟩
              obtain ⟨Aa20, cc20, rfl, _, _, hr20⟩ := OB.rb (Z := Z) hoo20
              have y20 := Ext.trans y0 hxx20
              refine hK.out _ _ ?_ (fun hHeld => ?_)
              · exact KY.out _ y20
              clear hK K
              (try simp only [Act.put, List.setIfInBounds_toArray, List.set_cons_zero, List.set_cons_succ])
              refine wpAnyH_ready (rs := [10]) (by kernel_rfl) (by simp) ?_
              refine AllReadyH.cons rfl (fun K hK => ?_) ?_
              · refine step_bytes (Z := Z) rfl (.tmp 30) (.tmp 34) 31 rfl w.heap.size Try.underlying31 v3 _ (by rfl) (OB.ext hob3 y20) Aa20 _ cc20 (UInt8.ofNat to_.length :: to_) (by rfl) rfl hr20 hc2.out (Ext.size (hx3.trans y20)) ?_
                intro v5 w5 hob5 hg5 hat5
                have hx5 := Ext.own (hx3.trans y20) hg5 (OB.ext hob3 y20)
                have hB5 := CallBox.grown (CallBox.ext HC3.out y20) hg5 HN3.out
                have hN5 := ne_own HN3.out (Nat.lt_of_lt_of_le (World.block_lt_of_cell? w3 _ HC3.out.1) (Ext.size y20)) hat5
                refine hK.out _ _ ?_ (fun hHeld => ?_)
                · exact ⟨hB5.2.1, hB5.2.2.1⟩
                clear hK K
                (try simp only [Act.put, List.setIfInBounds_toArray, List.set_cons_zero, List.set_cons_succ])
                refine wpAnyH_take (i := 11) (v := ?_) rfl (by kernel_rfl) (by kernel_rfl) (by kernel_rfl) (fun _ _ _ h => h) (Or.inl ⟨by rfl, ?_⟩) (by assumption) ?_; rotate_left; (intro w' hSw; (try dsimp only at hSw); go_simp; (try with_reducible rfl)); (try simp only [Act.put, List.setIfInBounds_toArray, List.set_cons_zero, List.set_cons_succ])
                refine wpAnyH_done (by kernel_rfl) ?_ _
                go_wp2
                go_meet
                exact ⟨hob5, hx5, hB5, hN5⟩
              exact AllReadyH.nil
            exact AllReadyH.nil
          exact AllReadyH.nil
        exact AllReadyH.nil
      exact AllReadyH.nil
    exact AllReadyH.nil
  case rest =>
    obtain ⟨hob2, HX2, HC2, HN2⟩ := hcut
    have HOB2 := Lib.hid hob2
    have K0 := Lib.hid (And.intro HC2.out.2.2.2.1 (And.intro HC2.out.2.2.2.2.1 HC2.out.2.2.2.2.2.1))
    have hcl : cb < wc.heap.size := World.block_lt_of_cell? wc _ HC2.out.1
    clear hob2
    go_wp2_with fail
    go_cut [3] (fun v wr => OB wr w.heap.size v ([UInt8.ofNat 0] ++ [UInt8.ofNat m1, UInt8.ofNat m2] ++ (UInt8.ofNat pa.length :: pa) ++ (UInt8.ofNat to_.length :: to_) ++ lowB m3 2 ++ lowB m4 2 ++ lowB m5 8) ∧ Hid (Ext w wr) ∧ Hid (CallBox wr cb ⟨m2, pa, to_, m3, m4, m5, bytes⟩ a.A a.ca) ∧ Hid (some cb ≠ v.ownBlock))
    case first =>
      have g3 : m3 < 18446744073709551616 := by omega
      have g4 : m4 < 18446744073709551616 := by omega
      have g5 : m5 < 18446744073709551616 := by omega
      have wr3 : IntKind.u64.wrap (m3 : Int) = (m3 : Int) := IntWalk.u64_in _ (by omega)
      have wr4 : IntKind.u64.wrap (m4 : Int) = (m4 : Int) := IntWalk.u64_in _ (by omega)
      go_region_held3 (fun w' => w'.cell? ⟨cb, 3, none⟩ = some (.int .i64 m3) ∧ w'.cell? ⟨cb, 4, none⟩ = some (.int .i64 m4) ∧ w'.cell? ⟨cb, 5, none⟩ = some (.int .u64 m5)) (first | exact K0.out | exact KY.out) (first
        | (go_at_call 55; (with_reducible refine (r30low2 m3 _ g3).mono ?_); rintro e w3 ⟨v3, rfl, ho3, hx3⟩; obtain ⟨A3, c3, rfl, _, _, hr3⟩ := OB.rb (Z := Z) ho3; have HC3 := Lib.hid (CallBox.ext HC2.out hx3.undrew); have KY := Lib.hid (And.intro HC3.out.2.2.2.1 (And.intro HC3.out.2.2.2.2.1 HC3.out.2.2.2.2.2.1)))
        | (go_at_call 55; (with_reducible refine (r30low2 m4 w4 g4).mono ?_); rintro e w5 ⟨v5, rfl, ho5, hx5⟩; obtain ⟨A5, c5, rfl, _, _, hr5⟩ := OB.rb (Z := Z) ho5; have HC5 := Lib.hid (CallBox.ext HC4.out hx5); have KY := Lib.hid (And.intro HC5.out.2.2.2.1 (And.intro HC5.out.2.2.2.2.1 HC5.out.2.2.2.2.2.1)))
        | (go_at_call 55; (with_reducible refine (r30low8 m5 w6 g5).mono ?_); rintro e w7 ⟨v7, rfl, ho7, hx7⟩; obtain ⟨A7, c7, rfl, _, _, hr7⟩ := OB.rb (Z := Z) ho7; have HC7 := Lib.hid (CallBox.ext HC6.out hx7); have KY := Lib.hid (And.intro HC7.out.2.2.2.1 (And.intro HC7.out.2.2.2.2.1 HC7.out.2.2.2.2.2.1)))
        | (refine step_bytes (Z := Z) rfl (.tmp 36) (.tmp 40) 31 rfl w.heap.size Try.underlying31 u3 _ (by rfl) (OB.ext HOB2.out hx3.undrew) A3 _ c3 (lowB m3 2) (by rfl) rfl hr3 (by simp [lowB_length]; omega) (Ext.size (HX2.out.trans hx3.undrew)) ?_; intro v4 w4 hob4 hg4 hat4; have HX4 := Lib.hid (Ext.own (HX2.out.trans hx3.undrew) hg4 (OB.ext HOB2.out hx3.undrew)); have HN4 := Lib.hid (ne_own HN2.out (Nat.lt_of_lt_of_le hcl (Ext.size hx3.undrew)) hat4); have HC4 := Lib.hid (CallBox.grown HC3.out hg4 HN2.out); have KY := Lib.hid (And.intro HC4.out.2.2.2.1 (And.intro HC4.out.2.2.2.2.1 HC4.out.2.2.2.2.2.1)); have hcl4 := World.block_lt_of_cell? w4 _ HC4.out.1)
        | (refine step_bytes (Z := Z) rfl (.tmp 41) (.tmp 45) 31 rfl w.heap.size Try.underlying31 v4 _ (by rfl) (OB.ext hob4 hx5) A5 _ c5 (lowB m4 2) (by rfl) rfl hr5 (by simp [lowB_length]; omega) (Ext.size (HX4.out.trans hx5)) ?_; intro v6 w6 hob6 hg6 hat6; have HX6 := Lib.hid (Ext.own (HX4.out.trans hx5) hg6 (OB.ext hob4 hx5)); have HN6 := Lib.hid (ne_own HN4.out (Nat.lt_of_lt_of_le hcl4 (Ext.size hx5)) hat6); have HC6 := Lib.hid (CallBox.grown HC5.out hg6 HN4.out); have KY := Lib.hid (And.intro HC6.out.2.2.2.1 (And.intro HC6.out.2.2.2.2.1 HC6.out.2.2.2.2.2.1)); have hcl6 := World.block_lt_of_cell? w6 _ HC6.out.1)
        | (refine step_bytes (Z := Z) rfl (.tmp 46) (.tmp 49) 31 rfl w.heap.size Try.underlying31 v6 _ (by rfl) (OB.ext hob6 hx7) A7 _ c7 (lowB m5 8) (by rfl) rfl hr7 (by simp [lowB_length]; omega) (Ext.size (HX6.out.trans hx7)) ?_; intro v8 w8 hob8 hg8 hat8; have HX8 := Lib.hid (Ext.own (HX6.out.trans hx7) hg8 (OB.ext hob6 hx7)); have HN8 := Lib.hid (ne_own HN6.out (Nat.lt_of_lt_of_le hcl6 (Ext.size hx7)) hat8); have HC8 := Lib.hid (CallBox.grown HC7.out hg8 HN6.out); have KY := Lib.hid (And.intro HC8.out.2.2.2.1 (And.intro HC8.out.2.2.2.2.1 HC8.out.2.2.2.2.2.1))))
      all_goals go_wp2
      all_goals go_meet
      all_goals exact ⟨hob8, HX8.out, HC8.out, HN8.out⟩
    case rest =>
      obtain ⟨hob9, HX9, HC9, HN9⟩ := hcut
      have hb := HC9.out
      unfold CallBox at hb
      have HOB9 := Lib.hid hob9
      have hA9 := Lib.hid (RB.ext hA HX9.out)
      have hbl2 : bytes.length ≤ 1048576 := by omega
      have hc9 := Lib.hid (show ([UInt8.ofNat 0] ++ [UInt8.ofNat m1, UInt8.ofNat m2] ++ (UInt8.ofNat pa.length :: pa) ++ (UInt8.ofNat to_.length :: to_) ++ lowB m3 2 ++ lowB m4 2 ++ lowB m5 8).length + (UInt8.ofNat bytes.length :: bytes).length ≤ 140737488355328 by simp [lowB_length]; omega)
      clear hob9
      go_wp2_with (first
        | (go_at_call 54; (with_reducible refine (r30text (Z := Z) bytes _ _ _ hA9.out hbl2).mono ?_); rintro e w2 ⟨v2, rfl, ho2, hx2⟩; obtain ⟨A2, c2, rfl, _, _, hr2⟩ := OB.rb (Z := Z) ho2)
        | (at_builtin; go_loud (refine wpl_bytes (Z := Z) rfl (.tmp 51) (.tmp 54) 31 rfl w.heap.size Try.underlying31 u3 _ (by rfl) (OB.ext HOB9.out hx2) A2 _ c2 (UInt8.ofNat bytes.length :: bytes) (by rfl) rfl hr2 hc9.out (Ext.size (HX9.out.trans hx2)) ?_); intro v3 w3 hob3 hg3 hat3))
      have hx3 := Ext.own (HX9.out.trans hx2) hg3 (OB.ext HOB9.out hx2)
      exact bodyPost_ret (v := v3) (by simp [results, Try.results25, go_sem]) rfl (GivesB.of (by simpa using hob3) hx3)
end Go.Proofs.Ytffepmoicpphfaa
