/- script: Raw, walked. -/
import Derived.Test.YtffepmoicpphfaaSc18
namespace Go.Proofs.Ytffepmoicpphfaa
set_option linter.unusedSimpArgs false
set_option linter.unusedVariables false
open Go.RowKit
variable {Z : Nat}
/-- a hap's bytes -/
def layB (h : HapC) : List UInt8 := (kindsL h.kind).flatMap fun p => p.lay h
def hapB (h : HapC) : List UInt8 := lowB (h.kind - 1).toNat 1 ++ layB h
def rawB (l : List HapC) : List UInt8 := l.flatMap hapB
theorem has_kind {h : HapC} (hb : hasBytes h = true) : 1 ≤ h.kind ∧ h.kind ≤ 5 := by
  cases hi : (decide (1 ≤ h.kind) && decide (h.kind ≤ 5))
  · simp [hasBytes, fits_none h hi] at hb
  · simpa using hi
theorem has_may {h : HapC} (hb : hasBytes h = true) : ∀ p ∈ kindsL h.kind, p.may h = true := by
  have hk := has_kind hb
  have hf : fits h = true := by simp [hasBytes] at hb; exact hb.2
  rw [fits_parts h (by simp [hk])] at hf
  intro p hp
  cases hm : p.may h
  · have : ((kindsL h.kind).any fun p => !p.may h) = true := List.any_eq_true.2 ⟨p, hp, by rw [hm]; rfl⟩
    rw [this] at hf; cases hf
  · rfl
theorem lay_short {h : HapC} {p : PartS} (hp : p ∈ kindsL h.kind) (hm : p.may h = true) : (p.lay h).length ≤ 257 := by
  unfold kindsL at hp
  split at hp
  · simp only [List.mem_cons, List.not_mem_nil, or_false] at hp
    rcases hp with rfl | rfl | rfl | rfl | rfl | rfl | rfl | rfl <;> simp [clientS, kindS, pathS, toS, atS, manyS, keyS, bytesS, lowB_length] at hm ⊢ <;> omega
  split at hp
  · obtain rfl := List.mem_singleton.1 hp
    simp [clientS, lowB_length]
  split at hp
  · obtain rfl := List.mem_singleton.1 hp
    simp [nS, lowB_length]
  split at hp
  · obtain rfl := List.mem_singleton.1 hp
    simp [picksS] at hm ⊢; omega
  split at hp
  · obtain rfl := List.mem_singleton.1 hp
    simp [mountS, lowB_length]
  · cases hp
theorem flat_short {α β : Type} (f : α → List β) (n : Nat) : ∀ l : List α, (∀ x ∈ l, (f x).length ≤ n) → (l.flatMap f).length ≤ l.length * n
  | [], _ => by simp
  | x :: l, h => by
    have := flat_short f n l (fun y hy => h y (List.mem_cons_of_mem _ hy))
    have hx := h x List.mem_cons_self
    simp only [List.flatMap_cons, List.length_append, List.length_cons, Nat.add_mul, Nat.one_mul]
    omega
theorem hap_short {h : HapC} (hb : hasBytes h = true) : (hapB h).length ≤ 400 := by
  by_cases h1 : h.kind = 1
  · have hm := has_may hb
    simp only [h1, kindsL, if_true, List.mem_cons, List.not_mem_nil, or_false, forall_eq_or_imp, forall_eq] at hm
    simp only [hapB, layB, h1, kindsL, if_true, List.flatMap_cons, List.flatMap_nil, List.length_append, lowB_length]
    simp [clientS, kindS, pathS, toS, atS, manyS, keyS, bytesS, lowB_length] at hm ⊢
    omega
  · have h2 : (kindsL h.kind).length ≤ 1 := by
      unfold kindsL
      rw [if_neg h1]
      repeat (split; · simp)
      simp
    have := flat_short (fun p : PartS => p.lay h) 257 (kindsL h.kind) fun p hp => lay_short hp (has_may hb p hp)
    simp only [hapB, layB, List.length_append, lowB_length]
    have h3 : (kindsL h.kind).length * 257 ≤ 257 := by omega
    omega
/-- what Raw ends with -/
def Rawed (w : World) (l : List HapC) (e : Ending) (w' : World) : Prop :=
  Ext w w' ∧ ((l.all hasBytes = true ∧ ∃ v, e = .returned (.tuple #[v, .int .i64 0]) ∧ OB w' w.heap.size v (rawB l)) ∨ (l.all hasBytes = false ∧ e = .returned (.tuple #[.slice none 0 0, .int .i64 400])))
theorem RB.own {w wr : World} {v : Value} {A : Option Addr} {l : List UInt8} (h : RB Z w A l) (hx : Ext w wr) (hv : ∀ g, v.ownBlock = some g → w.heap.size ≤ g) : RBn Z wr v.ownBlock A l := fun hl => by
  obtain ⟨b, o, hA, ht, hc⟩ := h hl
  have hlt : b < w.heap.size := World.block_lt_of_cell? w _ (hc 0 (List.length_pos_iff.2 hl))
  exact ⟨b, o, hA, fun e => by have := hv b e.symm; omega, ht.ext hx, fun j hj => hx.cell (hc j hj)⟩
set_option maxRecDepth 100000 in
set_option maxHeartbeats 2000000 in
theorem scRaw (l : List (HapC × HapA)) (A : Option Addr) (c : Nat) (w : World) (hA : RHs Z w A l) (hl : l.length ≤ 2600) (hk : ∀ x ∈ l, KeyIn x.1) (hlen : ∀ x ∈ l, x.1.call.bytes.length ≤ 9223372036854775807 ∧ x.1.picks.length ≤ 9223372036854775807) :
    Calls Try.prog 10 #[.slice A l.length c] w (Rawed w (l.map (·.1))) := by
  go_enter Try.func10, Try.ntmps10
  go_wp2
  go_loopw [4, 12] (fun v i wr => ∃ j : Nat, j ≤ l.length ∧ i = .int .i64 j ∧ OB wr w.heap.size v (rawB ((l.map (·.1)).take j)) ∧ Hid (((l.map (·.1)).take j).all hasBytes = true) ∧ Ext w wr) (fun _ i _ => l.length - (intOf i).toNat)
  case atStart => exact ⟨0, by omega, rfl, by simpa [rawB] using OB.nil w _, (by simp : ((l.map (·.1)).take 0).all hasBytes = true), Ext.refl _⟩
  case round =>
    obtain ⟨j, hj, rfl, hob, hall, hx⟩ := hrel
    by_cases hlt : j < l.length
    · obtain ⟨b1, o1, rfl, hc1⟩ := hA (by intro h; simp [h] at hlt)
      obtain ⟨ha1, hr1⟩ := hc1 j hlt
      have ha := ha1.ext hx
      have HR := Lib.hid (hr1.ext hx)
      have hlti : (j : Int) < l.length := by omega
      have E1 : l[j]? = some l[j] := List.getElem?_eq_getElem hlt
      have hkey := hk _ (List.getElem_mem hlt)
      have hln := hlen _ (List.getElem_mem hlt)
      have HR0 := Lib.hid hr1
      clear hc1 ha1 hr1 hk hlen hA
      generalize l[j] = x1 at *
      obtain ⟨h, a⟩ := x1
      have HE := Lib.hid E1
      clear E1
      dsimp only at ha hkey hln HR HR0
      unfold HapAt at ha
      have hx6 := ext1 wr (hapObj h a)
      have HC := Lib.hid (scCheck h a _ (RH.ext HR.out hx6) hln.1 hln.2)
      have HX6 := Lib.hid hx6
      clear hx6
      cases hh : hasBytes h
      · have hck : checkHap h = 400 := by simp [checkHap, hh]
        have HH := Lib.hid hh
        rw [hck] at HC
        clear hh hck
        go_wp2_with (go_at_call 8; (with_reducible refine HC.out.mono ?_); rintro e w1 ⟨rfl, hx1⟩)
        refine bodyPost_ret (v := .tuple #[.slice none 0 0, .int .i64 400]) (by simp [results, Try.results10, go_sem]) rfl ⟨hx.trans (HX6.out.trans hx1), .inr ⟨?_, rfl⟩⟩
        rw [List.all_eq_false]
        exact ⟨h, List.mem_map.2 ⟨(h, a), List.mem_of_getElem? HE.out, rfl⟩, by rw [HH.out]; simp⟩
      · have hck : checkHap h = 0 := by simp [checkHap, hh]
        have HH := Lib.hid hh
        rw [hck] at HC
        obtain ⟨hk1, hk5⟩ := has_kind hh
        obtain ⟨n, hn⟩ := Int.eq_ofNat_of_zero_le (show 0 ≤ h.kind - 1 by omega)
        have hnn : (h.kind - 1).toNat = n := by rw [hn]; rfl
        have HNN := Lib.hid hnn
        have hn5 : n < 9223372036854775808 := by omega
        have hwr : IntKind.i64.wrap (h.kind - 1) = (n : Int) := by rw [hn]; exact IntWalk.i64_in _ (by omega)
        have hrl : (rawB ((l.map (·.1)).take j)).length ≤ j * 400 := by
          have := flat_short hapB 400 ((l.map (·.1)).take j) fun x hx => hap_short (List.all_eq_true.1 hall x hx)
          rw [List.length_take, List.length_map, Nat.min_eq_left hj] at this
          exact this
        have hrl2 : (rawB ((l.map (·.1)).take j)).length ≤ 1040000 := by omega
        have HOB := Lib.hid hob
        have HALL := Lib.hid hall
        clear hh hck hnn hob hn hall
        go_wp2_with (first
          | (go_at_call 8; (with_reducible refine HC.out.mono ?_); rintro e w1 ⟨rfl, hx1⟩; have HX1 := Lib.hid hx1; clear hx1; have K1 := Lib.hid ((HapBox.new wr h a).ext HX1.out); have q0 := K1.out.1)
          | (go_at_call 24; (with_reducible refine (lowInt1 u4 _ w.heap.size n _ (OB.ext HOB.out (HX6.out.trans HX1.out)) (Nat.le_trans hx.size (HX6.out.trans HX1.out).size) hn5 (by omega)).mono ?_); rintro e w2 ⟨v2, rfl, ho2, hg2, hat2⟩))
        have n6 : some wr.heap.size ≠ u4.ownBlock := fun e => by have := (World.ownsRow.lt HOB.out _ e.symm).2; omega
        have hxw1 : Ext w w1 := hx.trans (HX6.out.trans HX1.out)
        have hxw2 : Ext w w2 := Ext.own hxw1 hg2 (OB.ext HOB.out (HX6.out.trans HX1.out))
        have K2 := Lib.hid (HapBox.grown K1.out hg2 n6)
        have hz61 : wr.heap.size < w1.heap.size := World.block_lt_of_cell? w1 _ K1.out.1
        have N2 : Hid (some wr.heap.size ≠ v2.ownBlock) := fun e => by
          rcases hat2 with e2 | ⟨g, e2, hg⟩
          · exact n6 (e.trans e2)
          · rw [e2] at e; injection e with e; omega
        have HO2 := Lib.hid ho2
        have HXW2 := Lib.hid hxw2
        have HMAY := Lib.hid (has_may HH.out)
        have hlen := kindsL_len h.kind
        have hlaysum : Hid (hapB h = lowB n 1 ++ (kindsL h.kind).flatMap fun p => p.lay h) := by show hapB h = _; rw [hapB, layB, HNN.out]
        have hshort : Hid (∀ k, (((kindsL h.kind).take k).flatMap fun p => p.lay h).length ≤ 8 * 257) := by
          intro k
          have := flat_short (fun p : PartS => p.lay h) 257 ((kindsL h.kind).take k) fun p hp => lay_short (List.mem_of_mem_take hp) (HMAY.out p (List.mem_of_mem_take hp))
          have h2 : ((kindsL h.kind).take k).length ≤ 8 := Nat.le_trans (List.length_take_le' _ _) hlen
          exact Nat.le_trans this (Nat.mul_le_mul_right _ h2)
        clear hg2 hat2 n6 hxw1 hxw2 ho2 q0 hz61 HX6 HX1 hwr K1 HC
        go_region_held3 (fun w' => w'.cell? ⟨wr.heap.size, 0, none⟩ = some (.int .i64 h.kind)) (first | exact K2.out.1 | with_reducible exact K3.out) (first | (go_at_call 17; (with_reducible refine (scKinds _).mono ?_); rintro e w3 ⟨m, g, c, rfl, hK, hx3⟩; have HX3 := Lib.hid hx3.undrew; clear hx3; have K3 := Lib.hid (HX3.out.cell K2.out.1); obtain ⟨A3, hlook, hA1⟩ := hK.all h.kind w3 (Kept.refl _ _); have HA1 := Lib.hid hA1; clear hA1 hK; have hlk := hlook false; clear hlook; simp only [Bool.false_eq_true, if_false] at hlk))
        have HK3 := Lib.hid (HapBox.ext K2.out HX3.out)
        have HO3 := Lib.hid (OB.ext HO2.out HX3.out)
        have HW3 := Lib.hid (Ext.trans HXW2.out HX3.out)
        have hlo : w2.drew.heap.size = w2.heap.size := rfl
        have HLO := Lib.hid hlo
        clear hlo
        have hz23 := HX3.out.size
        generalize hps : kindsL h.kind = ps at *
        have HPS := Lib.hid hps
        clear hps
        go_wp2_with fail
        clear K3 K2
        generalize hbe : wr.heap.size = hbn at *
        go_loopw [4, 31] (fun v i w4 => ∃ k : Nat, k ≤ ps.length ∧ i = .int .i64 k ∧ OB w4 w.heap.size v (rawB ((l.map (·.1)).take j) ++ lowB n 1 ++ (ps.take k).flatMap fun p => p.lay h) ∧ Hid (Kept w2.drew.heap.size w3 w4) ∧ Hid (HapBox w4 hbn h a) ∧ Hid (some hbn ≠ v.ownBlock) ∧ Hid (∀ g, v.ownBlock = some g → g < w2.drew.heap.size ∨ w3.heap.size ≤ g) ∧ Hid (Ext w w4)) (fun _ i _ => ps.length - (intOf i).toNat)
        case atStart =>
          refine ⟨0, by omega, rfl, by simpa using HO3.out, Kept.refl _ _, HK3.out, N2.out, ?_, HW3.out⟩
          intro g hg
          have := (World.ownsRow.lt HO2.out _ hg).2
          exact .inl this
        case round =>
          obtain ⟨k, hkl, rfl, ho4, HKP, HB4, N4, HOW, HX4⟩ := hrel
          by_cases hlk2 : k < ps.length
          · obtain ⟨g, rfl, hP⟩ := HA1.out (by intro e; simp [e] at hlk2)
            obtain ⟨f1, f2, f3, e1, e2, e3, ok⟩ := hP.2 k hlk2
            have c1 := HKP.out.cell hP.1 e1
            have c2 := HKP.out.cell hP.1 e2
            have c3 := HKP.out.cell hP.1 e3
            obtain ⟨k1, cap1, rfl, _⟩ := ok.may
            obtain ⟨k3, cap3, rfl, _⟩ := ok.read
            obtain ⟨k2, cap2, rfl, hen, hly⟩ := ok.lay
            have hen' : ∀ args W, (callFunc k2 args).run Try.prog W = .ok (.enter k2 args) W := hen
            have hlki : (k : Int) < ps.length := by omega
            have hm : ps[k].may h = true := HMAY.out _ (List.getElem_mem hlk2)
            have hsz := (HX4.out).size
            have hln4 : (rawB ((l.map (·.1)).take j) ++ lowB n 1 ++ (ps.take k).flatMap fun p => p.lay h).length ≤ 1048576 := by
              have := hshort.out k
              simp only [List.length_append, lowB_length]
              omega
            have hvb : ∀ g, u4.ownBlock = some g → w.heap.size ≤ g := fun g hg => (World.ownsRow.lt ho4 _ hg).1
            have hx5 := ext1 wr (.cells #[.func (.func k1) #[] cap1, .func (.func k2) #[] cap2, .func (.func k3) #[] cap3] 62)
            have HLY := Lib.hid (hly Z u4 _ w.heap.size h a _ (HKP.out.ext hx5) (ho4.ext hx5) (Nat.le_trans hsz hx5.size) hln4 HOW.out (RBn.ext (HR0.out.b.own HX4.out hvb) hx5) (RBn.ext (HR0.out.p.own HX4.out hvb) hx5) hkey hm)
            have HB5 := HapBox.ext HB4.out hx5
            unfold HapBox at HB5
            have HO4 := Lib.hid ho4
            have HX5 := Lib.hid hx5
            clear hP ok e1 e2 e3 hen hly hsz hln4 hvb ho4 hx5
            go_wp2_with (first | ((with_reducible refine HLY.out.mono ?_); rintro e w5 ⟨v5, rfl, ho5, hg5, hat5⟩))
            go_roundw
            case rel =>
              refine ⟨k + 1, by omega, by go_num, ?_, (HKP.out.ext HX5.out).grown hg5 HOW.out, ?_, ?_, ?_, Ext.own (HX4.out.trans HX5.out) hg5 (OB.ext HO4.out HX5.out)⟩
              · rw [List.take_succ_eq_append_getElem hlk2, List.flatMap_append, List.flatMap_singleton, ← List.append_assoc]
                exact ho5
              · exact HapBox.grown (HapBox.ext HB4.out HX5.out) hg5 N4.out
              · intro e
                rcases hat5 with e2 | ⟨g5, e2, hg⟩
                · exact N4.out (e.trans e2)
                · rw [e2] at e; injection e with e
                  have := World.block_lt_of_cell? _ _ (HapBox.ext HB4.out HX5.out).1
                  dsimp only at this
                  omega
              · intro g5 hg
                rcases hat5 with e2 | ⟨g6, e2, hg6⟩
                · exact HOW.out g5 (e2 ▸ hg)
                · rw [e2] at hg; injection hg with hg
                  have h1 := HKP.out.1
                  have h2 := HX5.out.size
                  exact .inr (by omega)
            case measure => simp [intOf]; omega
          · obtain rfl : k = ps.length := by omega
            rw [List.take_length] at ho4
            have HO4 := Lib.hid ho4
            clear ho4
            go_wp2
            go_roundw
            case rel =>
              have hmt : (l.map (·.1)).take (j + 1) = (l.map (·.1)).take j ++ [h] := by
                rw [List.take_add_one]
                simp [HE.out]
              refine ⟨j + 1, by omega, by go_num, ?_, ?_, HX4.out⟩
              · rw [hmt, rawB, List.flatMap_append, List.flatMap_singleton, hlaysum.out, ← List.append_assoc]
                exact HO4.out
              · show ((l.map (·.1)).take (j + 1)).all hasBytes = true
                rw [hmt, List.all_append]
                have h0 : ((l.map (·.1)).take j).all hasBytes = true := HALL.out
                rw [h0]
                simp [HH.out]
            case measure => simp [intOf]; omega
    · obtain rfl : j = l.length := by omega
      rw [List.take_of_length_le (by simp)] at hob
      have h0 : ((l.map (·.1)).take l.length).all hasBytes = true := hall
      rw [List.take_of_length_le (by simp)] at h0
      have HH := Lib.hid h0
      clear hall h0
      go_wp2
      exact bodyPost_ret (v := .tuple #[u4, .int .i64 0]) (by simp [results, Try.results10, go_sem]) rfl ⟨hx, .inl ⟨HH.out, u4, rfl, hob⟩⟩
end Go.Proofs.Ytffepmoicpphfaa
