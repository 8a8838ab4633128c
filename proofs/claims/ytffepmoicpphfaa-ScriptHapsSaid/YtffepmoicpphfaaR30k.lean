/- hedgerowref30: Haps, walked. -/
import Derived.Test.YtffepmoicpphfaaR30j
namespace Go.Proofs.Ytffepmoicpphfaa
set_option linter.unusedSimpArgs false
set_option linter.unusedVariables false
open Go.RowKit
variable {Z : Nat}
def lenAt (w : World) (b : Nat) : Nat := match w.cell? ⟨b, 0, none⟩ with | some (.slice _ n _) => n | _ => 0
/-- between two rounds -/
structure Hing (Z : Nat) (w : World) (raw : List UInt8) (l : List (HapC × Nat)) (az : List HapA) (r : Rdr) (s : SA) (v4 v5 : Value) (wr : World) : Prop where
  has : hapsL raw = l ++ hapsF r.B.length raw.length r
  nl : az.length = l.length
  well : r.bad = false
  len : l.length + r.B.length ≤ raw.length
  c0 : wr.cell? ⟨w.heap.size, 0, none⟩ = some (.slice s.A r.B.length s.c)
  c1 : wr.cell? ⟨w.heap.size, 1, none⟩ = some (.bool false)
  fz : ∀ o, wr.frozen? ⟨w.heap.size, o, none⟩ = false
  rs : RS Z wr s r.B
  o4 : OHs wr (w.heap.size + 1) v4 ((l.map (·.1)).zip az)
  o5 : OIs wr (w.heap.size + 1) v5 (l.map fun x => (x.2 : Int))
  rh : ∀ x ∈ (l.map (·.1)).zip az, RH Z wr x.1 x.2
  ext : Ext w wr
/-- what holds in a round behind the call of hap, while the two lists grow -/
structure HSit (Z : Nat) (w : World) (m : Nat) (xs : List (HapC × HapA)) (r : Rdr) (t : SA) (h1 : HapC) (a1 : HapA) (r1 : Rdr) (s1 : SA) (X : World) : Prop where
  e0 : X.cell? ⟨m, 0, none⟩ = some (.slice s1.A r1.B.length s1.c)
  e1 : X.cell? ⟨m, 1, none⟩ = some (.bool r1.bad)
  hB : HapBox X (m + 1) h1 a1
  c0 : X.cell? ⟨w.heap.size, 0, none⟩ = some (.slice t.A r.B.length t.c)
  c1 : X.cell? ⟨w.heap.size, 1, none⟩ = some (.bool false)
  cf : ∀ o, X.frozen? ⟨w.heap.size, o, none⟩ = false
  rh : ∀ x ∈ xs, RH Z X x.1 x.2
  hh : RH Z X h1 a1
  hs : RS Z X s1 r1.B
  ext : Ext w X
  bm : w.heap.size < m
theorem HSit.ex {w : World} {m xs r t h1 a1 r1 s1 X X'} (H : HSit Z w m xs r t h1 a1 r1 s1 X) (hx : Ext X X') : HSit Z w m xs r t h1 a1 r1 s1 X' :=
  ⟨hx.cell H.e0, hx.cell H.e1, H.hB.ext hx, hx.cell H.c0, hx.cell H.c1, fun o => (hx.cells.2 _ o (show w.heap.size < X.heap.size from World.block_lt_of_cell? X ⟨w.heap.size, 0, none⟩ H.c0)).trans (H.cf o), fun x h => (H.rh x h).ext hx, H.hh.ext hx, H.hs.ext hx, H.ext.trans hx, H.bm⟩
theorem HSit.gr {w : World} {m xs r t h1 a1 r1 s1 X X'} (H : HSit Z w m xs r t h1 a1 r1 s1 X) {e : TypeId} {size n : Nat} {v : Value} {ys : List Value} (hown : X.ownsRow (w.heap.size + 1) e size v n ys) (hg : X.grownBy X' v.ownBlock) (he : e ≠ 5)
    (hn : ∀ b, m ≤ b → some b ≠ v.ownBlock) (hZ : Z ≤ w.heap.size + 1) : HSit Z w m xs r t h1 a1 r1 s1 X' :=
  ⟨hg.cell H.e0 (hn _ (Nat.le_refl _)), hg.cell H.e1 (hn _ (Nat.le_refl _)), H.hB.grown hg (hn _ (by omega)), low_cell H.c0 hown (by omega) hg, low_cell H.c1 hown (by omega) hg, fun o => low_frozen H.c0 (H.cf o) hown (by omega) hg,
    fun x h => (H.rh x h).grown hown he hZ hg, H.hh.grown hown he hZ hg, H.hs.grown hown he hZ hg, Ext.grown H.ext hg (fun k hk => by have := (hown.lt k hk).1; omega), H.bm⟩
theorem HSit.keep {w : World} {m xs r t h1 a1 r1 s1 X} (H : HSit Z w m xs r t h1 a1 r1 s1 X) : X.cell? ⟨m, 0, none⟩ = some (.slice s1.A r1.B.length s1.c) ∧ X.cell? ⟨m, 1, none⟩ = some (.bool r1.bad) ∧ X.cell? ⟨m + 1, 0, none⟩ = some (.int .i64 h1.kind) ∧ X.cell? ⟨m + 1, 1, none⟩ = some (.int .i64 h1.client) ∧ X.cell? ⟨m + 1, 2, none⟩ = some (.int .i64 h1.call.kind) ∧ X.cell? ⟨m + 1, 3, none⟩ = some (.string (strOf h1.call.path)) ∧ X.cell? ⟨m + 1, 4, none⟩ = some (.string (strOf h1.call.to_)) ∧ X.cell? ⟨m + 1, 5, none⟩ = some (.int .i64 h1.call.at_) ∧ X.cell? ⟨m + 1, 6, none⟩ = some (.int .i64 h1.call.many) ∧ X.cell? ⟨m + 1, 7, none⟩ = some (.int .u64 h1.call.key) ∧ X.cell? ⟨m + 1, 8, none⟩ = some (.slice a1.A h1.call.bytes.length a1.ca) ∧ X.cell? ⟨m + 1, 9, none⟩ = some (.int .i64 h1.n) ∧ X.cell? ⟨m + 1, 10, none⟩ = some (.slice a1.P h1.picks.length a1.cp) := ⟨H.e0, H.e1, H.hB⟩
theorem HSit.keepb {w : World} {m xs r t h1 a1 r1 s1 X} (H : HSit Z w m xs r t h1 a1 r1 s1 X) (u v : Value) : ((X.setCell ⟨w.heap.size, 0, none⟩ u).setCell ⟨w.heap.size, 1, none⟩ v).cell? ⟨m, 0, none⟩ = some (.slice s1.A r1.B.length s1.c) ∧ ((X.setCell ⟨w.heap.size, 0, none⟩ u).setCell ⟨w.heap.size, 1, none⟩ v).cell? ⟨m, 1, none⟩ = some (.bool r1.bad) ∧ ((X.setCell ⟨w.heap.size, 0, none⟩ u).setCell ⟨w.heap.size, 1, none⟩ v).cell? ⟨m + 1, 0, none⟩ = some (.int .i64 h1.kind) ∧ ((X.setCell ⟨w.heap.size, 0, none⟩ u).setCell ⟨w.heap.size, 1, none⟩ v).cell? ⟨m + 1, 1, none⟩ = some (.int .i64 h1.client) ∧ ((X.setCell ⟨w.heap.size, 0, none⟩ u).setCell ⟨w.heap.size, 1, none⟩ v).cell? ⟨m + 1, 2, none⟩ = some (.int .i64 h1.call.kind) ∧ ((X.setCell ⟨w.heap.size, 0, none⟩ u).setCell ⟨w.heap.size, 1, none⟩ v).cell? ⟨m + 1, 3, none⟩ = some (.string (strOf h1.call.path)) ∧ ((X.setCell ⟨w.heap.size, 0, none⟩ u).setCell ⟨w.heap.size, 1, none⟩ v).cell? ⟨m + 1, 4, none⟩ = some (.string (strOf h1.call.to_)) ∧ ((X.setCell ⟨w.heap.size, 0, none⟩ u).setCell ⟨w.heap.size, 1, none⟩ v).cell? ⟨m + 1, 5, none⟩ = some (.int .i64 h1.call.at_) ∧ ((X.setCell ⟨w.heap.size, 0, none⟩ u).setCell ⟨w.heap.size, 1, none⟩ v).cell? ⟨m + 1, 6, none⟩ = some (.int .i64 h1.call.many) ∧ ((X.setCell ⟨w.heap.size, 0, none⟩ u).setCell ⟨w.heap.size, 1, none⟩ v).cell? ⟨m + 1, 7, none⟩ = some (.int .u64 h1.call.key) ∧ ((X.setCell ⟨w.heap.size, 0, none⟩ u).setCell ⟨w.heap.size, 1, none⟩ v).cell? ⟨m + 1, 8, none⟩ = some (.slice a1.A h1.call.bytes.length a1.ca) ∧ ((X.setCell ⟨w.heap.size, 0, none⟩ u).setCell ⟨w.heap.size, 1, none⟩ v).cell? ⟨m + 1, 9, none⟩ = some (.int .i64 h1.n) ∧ ((X.setCell ⟨w.heap.size, 0, none⟩ u).setCell ⟨w.heap.size, 1, none⟩ v).cell? ⟨m + 1, 10, none⟩ = some (.slice a1.P h1.picks.length a1.cp) :=
  ⟨far_cell (far_cell H.e0 (by have := H.bm; omega)) (by have := H.bm; omega), far_cell (far_cell H.e1 (by have := H.bm; omega)) (by have := H.bm; omega), (H.hB.far _ (by have := H.bm; simp; omega)).far _ (by have := H.bm; simp; omega)⟩
theorem rv_hap (w : World) (h : HapC) (a : HapA) (g : Nat) (hg : w.heap.size = g) : RV (w.alloc (.cells #[.int .i64 h.kind, .int .i64 h.client, .int .i64 h.call.kind, .string (strOf h.call.path), .string (strOf h.call.to_), .int .i64 h.call.at_, .int .i64 h.call.many, .int .u64 h.call.key, .slice a.A h.call.bytes.length a.ca, .int .i64 h.n, .slice a.P h.picks.length a.cp] 35)) (some ⟨g, 0, none⟩) (hapCells h a) := rv_lit w #[.int .i64 h.kind, .int .i64 h.client, .int .i64 h.call.kind, .string (strOf h.call.path), .string (strOf h.call.to_), .int .i64 h.call.at_, .int .i64 h.call.many, .int .u64 h.call.key, .slice a.A h.call.bytes.length a.ca, .int .i64 h.n, .slice a.P h.picks.length a.cp] 35 g hg
theorem rv_int (w : World) (n : Int) (g : Nat) (hg : w.heap.size = g) : RV (w.alloc (.cells #[.int .i64 n] 3)) (some ⟨g, 0, none⟩) [.int .i64 n] := rv_lit w #[.int .i64 n] 3 g hg
theorem hapInfo : (Try.prog.info? 35).map (fun i => (i.zero, i.size, i.bytes)) = some (some (.agg #[.int .i64 0, .int .i64 0, .int .i64 0, .string ⟨#[]⟩, .string ⟨#[]⟩, .int .i64 0, .int .i64 0, .int .u64 0, .slice none 0 0, .int .i64 0, .slice none 0 0]), 11, 136) := by kernel_rfl
theorem intInfo : (Try.prog.info? 3).map (fun i => (i.zero, i.size, i.bytes)) = some (some (.int .i64 0), 1, 8) := by kernel_rfl
theorem zip_snoc {l : List (HapC × Nat)} {az : List HapA} (h : az.length = l.length) (x : HapC × Nat) (a : HapA) : ((l ++ [x]).map (·.1)).zip (az ++ [a]) = (l.map (·.1)).zip az ++ [(x.1, a)] := by
  rw [List.map_append, List.zip_append (by simp [h])]
  rfl
/-- the round's end -/
theorem Hing.next {w : World} {raw l az r t v4 v5 wr} (H : Hing Z w raw l az r t v4 v5 wr) {h1 : HapC} {a1 : HapA} {r1 : Rdr} {s1 : SA} {w5 : World} {v4' v5' : Value} {m : Nat}
    (hst : hapsF r.B.length raw.length r = if r1.bad = true then [] else (h1, raw.length - r.B.length) :: hapsF r1.B.length raw.length r1) (hb : r1.bad = false) (hl : r1.B.length < r.B.length) (hle : r.B.length ≤ raw.length)
    (T : HSit Z w m ((l.map (·.1)).zip az) r t h1 a1 r1 s1 w5) (P4 : w5.ownsRow (w.heap.size + 1) 35 11 v4' (((l.map (·.1)).zip az).length + 1) (rowsOf ((l.map (·.1)).zip az) ++ hapCells h1 a1))
    (P5 : w5.ownsRow (w.heap.size + 1) 3 1 v5' ((l.map fun x => (x.2 : Int)).length + 1) ((l.map fun x => (x.2 : Int)).map (Value.int .i64) ++ [.int .i64 ((raw.length : Int) - (r.B.length : Int))])) :
    Hing Z w raw (l ++ [(h1, raw.length - r.B.length)]) (az ++ [a1]) r1 s1 v4' v5' ((w5.setCell ⟨w.heap.size, 0, none⟩ (.slice s1.A r1.B.length s1.c)).setCell ⟨w.heap.size, 1, none⟩ (.bool false)) := by
  have e0 : ∀ n, w5.cell? ⟨w.heap.size, 0, none⟩ ≠ some (.int .u8 n) := by intro n; simp [T.c0]
  have e1 : (w5.setCell ⟨w.heap.size, 0, none⟩ (.slice s1.A r1.B.length s1.c)).cell? ⟨w.heap.size, 1, none⟩ = some (.bool false) := by simp [go_sem, T.c1]
  have e2 : ∀ n, (w5.setCell ⟨w.heap.size, 0, none⟩ (.slice s1.A r1.B.length s1.c)).cell? ⟨w.heap.size, 1, none⟩ ≠ some (.int .u8 n) := by intro n; simp [e1]
  refine ⟨?_, by simp [H.nl], hb, by have := H.len; simp; omega, by simp [go_sem, T.c0], by simp [go_sem, T.c1], fun o => by simp [T.cf], (T.hs.set' _ e0).set' _ e2, ?_, ?_, ?_, (T.ext.setCell (Nat.le_refl _) _).setCell (Nat.le_refl _) _⟩
  · rw [H.has, hst, hb]; simp
  · unfold OHs
    rw [zip_snoc H.nl, rowsOf_snoc, List.length_append]
    exact ownsRow_setCell_below (ownsRow_setCell_below P4 (by simp) _) (by simp) _
  · unfold OIs
    have hc : ((raw.length - r.B.length : Nat) : Int) = (raw.length : Int) - (r.B.length : Int) := by omega
    simp only [List.map_append, List.map_cons, List.map_nil, List.length_append, List.length_cons, List.length_nil, hc] at P5 ⊢
    exact ownsRow_setCell_below (ownsRow_setCell_below P5 (by simp) _) (by simp) _
  · intro x hx
    rw [zip_snoc H.nl, List.mem_append] at hx
    have hx' : RH Z w5 x.1 x.2 := by
      rcases hx with hx | hx
      · exact T.rh x hx
      · obtain rfl := List.mem_singleton.1 hx
        exact T.hh
    exact ⟨(hx'.b.set' _ e0).set' _ e2, (hx'.p.set' _ e0).set' _ e2⟩
set_option maxRecDepth 100000 in
set_option maxHeartbeats 1000000 in
theorem r30Haps (raw : List UInt8) (s : SA) (w : World) (hr : RS Z w s raw) (hn : raw.length ≤ 1048576) (hZ : Z ≤ w.heap.size) :
    Calls Try.prog 14 #[(.slice s.A raw.length s.c)] w (HapsGiven Z w (hapsL raw)) := by
  go_enter Try.func14, Try.ntmps14
  go_wp2
  go_loopw [4, 5] (fun v4 v5 wr => ∃ l az r t, Hing Z w raw l az r t v4 v5 wr) (fun _ _ wr => lenAt wr w.heap.size)
  case atStart =>
    refine ⟨[], [], ⟨raw, false⟩, s, ⟨rfl, rfl, rfl, by simp, by simp [go_sem], by simp [go_sem], fun o => by simp [go_sem], hr.ext (ext1 _ _), OHs.nil _ _, World.ownsRow_nil _ _ _ 1, by simp, ext1 _ _⟩⟩
  case round =>
    obtain ⟨l, az, r, t, H⟩ := hrel
    have c0 := H.c0
    have c1 := H.c1
    have fz := H.fz
    have hle := H.len
    have HH := Lib.hid H
    clear H
    by_cases h0 : r.B.length = 0
    · have hfin : hapsL raw = l := by rw [HH.out.has, h0, hapsF, List.append_nil]
      have H0 := Lib.hid h0
      have h0i : ¬ (0 : Int) < (r.B.length : Int) := by omega
      clear h0
      go_wp2
      go_ret2
      exact ⟨az, u4, u5, HH.out.nl, rfl, HH.out.o4, HH.out.o5, HH.out.rh, HH.out.ext⟩
    · have hpos : (0 : Int) < (r.B.length : Int) := by omega
      have hlei : (r.B.length : Int) ≤ (raw.length : Int) := by omega
      have hcon := fun W (hW : RS Z W t r.B) => rdHap (Z := Z) r t W hW
      simp only [HH.out.well] at hcon
      have hok := hapR_ok r
      have hst : hapsF r.B.length raw.length r = if (hapR r).1.bad = true then [] else ((hapR r).2, raw.length - r.B.length) :: hapsF (hapR r).1.B.length raw.length (hapR r).1 := by
        obtain ⟨k, hk⟩ : ∃ k, r.B.length = k + 1 := ⟨r.B.length - 1, by omega⟩
        rw [hk, hapsF, if_neg h0]
        split
        · rfl
        · rename_i hbad
          have := (hapR_ok r (by simpa using hbad)).2
          rw [hapsF_enough raw.length k _ (hapR r).1 (by omega) (Nat.le_refl _), hk]
      generalize hapR r = p at *
      obtain ⟨r1, h1⟩ := p
      dsimp only at hst hok
      have HS1 := Lib.hid hst
      have HO := Lib.hid hok
      clear hst hok
      go_wp2_with (go_at_call 26; (with_reducible refine (hcon _ HH.out.rs).mono ?_); rintro e w1 ⟨s1, a1, rfl, hs1, hh1, hx1⟩)
      · have hb : r1.bad = true := by assumption
        have hfin : hapsL raw = l := by rw [HH.out.has, HS1.out, if_pos hb, List.append_nil]
        go_ret2
        rw [hfin]
        have hxA := (hx1.alloc (.cells #[(.slice s1.A r1.B.length s1.c), .bool r1.bad] 69)).alloc (hapObj h1 a1)
        refine ⟨az, u4, u5, HH.out.nl, rfl, own_ext HH.out.o4 ?_, own_ext HH.out.o5 ?_, fun x hx => (HH.out.rh x hx).ext ?_, HH.out.ext.trans ?_⟩ <;> assumption
      · have hb : r1.bad = false := by assumption
        have hlen := (HO.out hb).2
        have hz1 := hx1.size
        have hzw := HH.out.ext.size
        have hbw : w.heap.size < wr.heap.size := World.block_lt_of_cell? wr _ c0
        have hx2 := ext2 w1 (.cells #[.slice s1.A r1.B.length s1.c, .bool r1.bad] 69) (.cells #[.int .i64 h1.kind, .int .i64 h1.client, .int .i64 h1.call.kind, .string (strOf h1.call.path), .string (strOf h1.call.to_), .int .i64 h1.call.at_, .int .i64 h1.call.many, .int .u64 h1.call.key, .slice a1.A h1.call.bytes.length a1.ca, .int .i64 h1.n, .slice a1.P h1.picks.length a1.cp] 35)
        have hB := HapBox.new (w1.alloc (.cells #[.slice s1.A r1.B.length s1.c, .bool r1.bad] 69)) h1 a1
        have e0 : ((w1.alloc (.cells #[.slice s1.A r1.B.length s1.c, .bool r1.bad] 69)).alloc (.cells #[.int .i64 h1.kind, .int .i64 h1.client, .int .i64 h1.call.kind, .string (strOf h1.call.path), .string (strOf h1.call.to_), .int .i64 h1.call.at_, .int .i64 h1.call.many, .int .u64 h1.call.key, .slice a1.A h1.call.bytes.length a1.ca, .int .i64 h1.n, .slice a1.P h1.picks.length a1.cp] 35)).cell? ⟨w1.heap.size, 0, none⟩ = some (.slice s1.A r1.B.length s1.c) := by simp [go_sem]
        have e1 : ((w1.alloc (.cells #[.slice s1.A r1.B.length s1.c, .bool r1.bad] 69)).alloc (.cells #[.int .i64 h1.kind, .int .i64 h1.client, .int .i64 h1.call.kind, .string (strOf h1.call.path), .string (strOf h1.call.to_), .int .i64 h1.call.at_, .int .i64 h1.call.many, .int .u64 h1.call.key, .slice a1.A h1.call.bytes.length a1.ca, .int .i64 h1.n, .slice a1.P h1.picks.length a1.cp] 35)).cell? ⟨w1.heap.size, 1, none⟩ = some (.bool r1.bad) := by simp [go_sem]
        have hzW : ((w1.alloc (.cells #[.slice s1.A r1.B.length s1.c, .bool r1.bad] 69)).alloc (.cells #[.int .i64 h1.kind, .int .i64 h1.client, .int .i64 h1.call.kind, .string (strOf h1.call.path), .string (strOf h1.call.to_), .int .i64 h1.call.at_, .int .i64 h1.call.many, .int .u64 h1.call.key, .slice a1.A h1.call.bytes.length a1.ca, .int .i64 h1.n, .slice a1.P h1.picks.length a1.cp] 35)).heap.size = w1.heap.size + 1 + 1 := by simp
        simp only [World.size_alloc] at hB
        generalize hW : (w1.alloc (.cells #[.slice s1.A r1.B.length s1.c, .bool r1.bad] 69)).alloc (.cells #[.int .i64 h1.kind, .int .i64 h1.client, .int .i64 h1.call.kind, .string (strOf h1.call.path), .string (strOf h1.call.to_), .int .i64 h1.call.at_, .int .i64 h1.call.many, .int .u64 h1.call.key, .slice a1.A h1.call.bytes.length a1.ca, .int .i64 h1.n, .slice a1.P h1.picks.length a1.cp] 35) = W at *
        clear hW
        have hxx := hx1.trans hx2
        have T0 : HSit Z w w1.heap.size ((l.map (·.1)).zip az) r t h1 a1 r1 s1 W := ⟨e0, e1, hB, hxx.cell c0, hxx.cell c1, fun o => (hxx.cells.2 w.heap.size o hbw).trans (fz o), fun x hx => (HH.out.rh x hx).ext hxx, hh1.ext hx2, hs1.ext hx2, HH.out.ext.trans hxx, by omega⟩
        have O4 := Lib.hid (own_ext HH.out.o4 hxx)
        have O5 := Lib.hid (own_ext HH.out.o5 hxx)
        have N4 := Lib.hid (fun b (hb : w1.heap.size ≤ b) => own_far (own_ext HH.out.o4 hx1) hb)
        have N5 := Lib.hid (fun b (hb : w1.heap.size ≤ b) => own_far (own_ext HH.out.o5 hx1) hb)
        have nle : ((l.map (·.1)).zip az).length = l.length := by simp [HH.out.nl]
        have nle5 : (l.map fun x => (x.2 : Int)).length = l.length := by simp
        have q1 := Lib.hid (show ((l.map (·.1)).zip az).length + 1 ≤ maxLen by rw [nle]; unfold maxLen; omega)
        have q2 := Lib.hid (show (((l.map (·.1)).zip az).length + 1) * 136 ≤ 140737488355328 by rw [nle]; omega)
        have q3 := Lib.hid (show (l.map fun x => (x.2 : Int)).length + 1 ≤ maxLen by rw [nle5]; unfold maxLen; omega)
        have q4 := Lib.hid (show ((l.map fun x => (x.2 : Int)).length + 1) * 8 ≤ 140737488355328 by rw [nle5]; omega)
        have hZ' : Z ≤ w.heap.size + 1 := by omega
        have hbase : w.heap.size + 1 ≤ W.heap.size := by have := T0.bm; omega
        obtain ⟨i0, hi0, hz0, hz1', hz2⟩ := info_parts hapInfo
        obtain ⟨i1, hi1, hy0, hy1, hy2⟩ := info_parts intInfo
        clear e0 e1 hB hx1 hx2 hxx c0 c1 fz hs1 hh1 hcon nle nle5
        go_region_held3 (fun w' => w'.cell? ⟨w1.heap.size, 0, none⟩ = some (.slice s1.A r1.B.length s1.c) ∧ w'.cell? ⟨w1.heap.size, 1, none⟩ = some (.bool r1.bad) ∧ w'.cell? ⟨w1.heap.size + 1, 0, none⟩ = some (.int .i64 h1.kind) ∧ w'.cell? ⟨w1.heap.size + 1, 1, none⟩ = some (.int .i64 h1.client) ∧ w'.cell? ⟨w1.heap.size + 1, 2, none⟩ = some (.int .i64 h1.call.kind) ∧ w'.cell? ⟨w1.heap.size + 1, 3, none⟩ = some (.string (strOf h1.call.path)) ∧ w'.cell? ⟨w1.heap.size + 1, 4, none⟩ = some (.string (strOf h1.call.to_)) ∧ w'.cell? ⟨w1.heap.size + 1, 5, none⟩ = some (.int .i64 h1.call.at_) ∧ w'.cell? ⟨w1.heap.size + 1, 6, none⟩ = some (.int .i64 h1.call.many) ∧ w'.cell? ⟨w1.heap.size + 1, 7, none⟩ = some (.int .u64 h1.call.key) ∧ w'.cell? ⟨w1.heap.size + 1, 8, none⟩ = some (.slice a1.A h1.call.bytes.length a1.ca) ∧ w'.cell? ⟨w1.heap.size + 1, 9, none⟩ = some (.int .i64 h1.n) ∧ w'.cell? ⟨w1.heap.size + 1, 10, none⟩ = some (.slice a1.P h1.picks.length a1.cp)) (first | with_reducible exact HSit.keep T5 | with_reducible exact HSit.keepb T5 _ _ | ((with_reducible refine HSit.keep (T3.ex ?_)); ((repeat (first | assumption | exact Ext.refl _ | refine Ext.drew ?_ | refine Ext.alloc ?_ _ | refine Ext.conv ?_ _ _ | refine Ext.trans ?_ (by assumption))); done)) | ((with_reducible refine HSit.keep (T0.ex ?_)); ((repeat (first | assumption | exact Ext.refl _ | refine Ext.drew ?_ | refine Ext.alloc ?_ _ | refine Ext.conv ?_ _ _ | refine Ext.trans ?_ (by assumption))); done)))
          (first
          | ((refine step_app rfl (.tmp 29) (.tmp 31) 22 (by rfl) (w.heap.size + 1) 35 i0 _ 11 136 Try.underlying22 hi0 hz0 hz1' hz2 rfl (by decide) u4 _ _ (by rfl) (own_ext O4.out (by (repeat (first | assumption | exact Ext.refl _ | refine Ext.drew ?_ | refine Ext.alloc ?_ _ | refine Ext.conv ?_ _ _ | refine Ext.trans ?_ (by assumption))))) _ 1 _ (hapCells h1 a1) (by rfl) rfl (by (repeat (first | (with_reducible exact rv_hap _ _ _ _ (by first | omega | (simp; omega))) | with_reducible refine RV.drew ?_ | with_reducible refine RV.alloc ?_ _))) (hapCells_one _ _) q1.out q2.out (Nat.le_trans hbase (Ext.size (by (repeat (first | assumption | exact Ext.refl _ | refine Ext.drew ?_ | refine Ext.alloc ?_ _ | refine Ext.conv ?_ _ _ | refine Ext.trans ?_ (by assumption)))))) ?_; intro v4 w3 hown4 hg4 _; have T3 := HSit.gr (T0.ex (by (repeat (first | assumption | exact Ext.refl _ | refine Ext.drew ?_ | refine Ext.alloc ?_ _ | refine Ext.conv ?_ _ _ | refine Ext.trans ?_ (by assumption))))) (own_ext O4.out (by (repeat (first | assumption | exact Ext.refl _ | refine Ext.drew ?_ | refine Ext.alloc ?_ _ | refine Ext.conv ?_ _ _ | refine Ext.trans ?_ (by assumption))))) hg4 (by decide) N4.out hZ'; have hbase3 := Nat.le_trans (Nat.le_trans hbase (Ext.size (show Ext W _ by (repeat (first | assumption | exact Ext.refl _ | refine Ext.drew ?_ | refine Ext.alloc ?_ _ | refine Ext.conv ?_ _ _ | refine Ext.trans ?_ (by assumption)))))) hg4.size; have P5 := Lib.hid (World.ownsRow.kept (own_ext O5.out (by (repeat (first | assumption | exact Ext.refl _ | refine Ext.drew ?_ | refine Ext.alloc ?_ _ | refine Ext.conv ?_ _ _ | refine Ext.trans ?_ (by assumption))))) hg4 (own_ne (own_ext O5.out (by (repeat (first | assumption | exact Ext.refl _ | refine Ext.drew ?_ | refine Ext.alloc ?_ _ | refine Ext.conv ?_ _ _ | refine Ext.trans ?_ (by assumption))))) (own_ext O4.out (by (repeat (first | assumption | exact Ext.refl _ | refine Ext.drew ?_ | refine Ext.alloc ?_ _ | refine Ext.conv ?_ _ _ | refine Ext.trans ?_ (by assumption))))) (by decide)))))
          | ((refine step_app rfl (.tmp 33) (.tmp 35) 44 (by rfl) (w.heap.size + 1) 3 i1 _ 1 8 Try.underlying44 hi1 hy0 hy1 hy2 rfl (by decide) u5 _ _ (by rfl) (own_ext P5.out (by (repeat (first | assumption | exact Ext.refl _ | refine Ext.drew ?_ | refine Ext.alloc ?_ _ | refine Ext.conv ?_ _ _ | refine Ext.trans ?_ (by assumption))))) _ 1 _ [.int .i64 ((raw.length : Int) - (r.B.length : Int))] (by rfl) rfl (by (repeat (first | (with_reducible exact rv_int _ _ _ (by first | omega | (simp; omega))) | with_reducible refine RV.drew ?_ | with_reducible refine RV.alloc ?_ _ | with_reducible refine RV.grown ?_ hg4 (fun b o e => by injection e with e; injection e with e; exact N4.out _ (by omega))))) (by simp [Value.oneCell']) q3.out q4.out (Nat.le_trans hbase3 (Ext.size (by (repeat (first | assumption | exact Ext.refl _ | refine Ext.drew ?_ | refine Ext.alloc ?_ _ | refine Ext.conv ?_ _ _ | refine Ext.trans ?_ (by assumption)))))) ?_; intro v5 w5 hown5 hg5 _; have T5 := HSit.gr (T3.ex (by (repeat (first | assumption | exact Ext.refl _ | refine Ext.drew ?_ | refine Ext.alloc ?_ _ | refine Ext.conv ?_ _ _ | refine Ext.trans ?_ (by assumption))))) (own_ext P5.out (by (repeat (first | assumption | exact Ext.refl _ | refine Ext.drew ?_ | refine Ext.alloc ?_ _ | refine Ext.conv ?_ _ _ | refine Ext.trans ?_ (by assumption))))) hg5 (by decide) N5.out hZ'; have d0 := T5.c0; have d1 := T5.c1; have df := T5.cf; have P4 := Lib.hid (World.ownsRow.kept (own_ext hown4 (by (repeat (first | assumption | exact Ext.refl _ | refine Ext.drew ?_ | refine Ext.alloc ?_ _ | refine Ext.conv ?_ _ _ | refine Ext.trans ?_ (by assumption))))) hg5 (own_ne (own_ext hown4 (by (repeat (first | assumption | exact Ext.refl _ | refine Ext.drew ?_ | refine Ext.alloc ?_ _ | refine Ext.conv ?_ _ _ | refine Ext.trans ?_ (by assumption))))) (own_ext P5.out (by (repeat (first | assumption | exact Ext.refl _ | refine Ext.drew ?_ | refine Ext.alloc ?_ _ | refine Ext.conv ?_ _ _ | refine Ext.trans ?_ (by assumption))))) (by decide))))))
        all_goals go_wp2
        all_goals
          have hfin := HH.out.next HS1.out hb hlen (by omega) T5 P4.out hown5
          have HN := Lib.hid hfin
          clear hfin
          go_roundw
          case rel => exact ⟨_, _, _, _, HN.out⟩
          case measure =>
            have h0 := HN.out.c0
            simp only [lenAt, h0, HH.out.c0]
            omega
end Go.Proofs.Ytffepmoicpphfaa
