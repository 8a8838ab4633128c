/- the law ScriptRaws, walked. -/
import Derived.Test.YtffepmoicpphfaaL2
import Derived.Test.YtffepmoicpphfaaR30n
import Derived.Test.YtffepmoicpphfaaP1
namespace Go.Proofs.Ytffepmoicpphfaa
set_option linter.unusedSimpArgs false
set_option linter.unusedVariables false
open Go.RowKit
variable {Z : Nat}
theorem rawT (l : List (HapC × HapA)) (A : Option Addr) (c : Nat) (w : World) (L : List HapC) (hL : l.map (·.1) = L) (hb : L.all hasBytes = true) (n : Nat) (hn : n = l.length) {k : Nat} (h : Calls Try.prog k #[.slice A l.length c] w (Rawed w (l.map (·.1)))) :
    Calls Try.prog k #[.slice A n c] w fun e w' => Ext w w' ∧ ∃ s : SA, e = .returned (.tuple #[.slice s.A (rawB L).length s.c, .int .i64 0]) ∧ RS Z w' s (rawB L) := by
  subst hL; subst hn
  refine h.mono ?_
  rintro e w' ⟨hx, (⟨_, v, rfl, ho⟩ | ⟨h, _⟩)⟩
  · obtain ⟨A', c', rfl, h1, h2, hr⟩ := OB.rb (Z := Z) ho
    exact ⟨hx, ⟨A', c'⟩, rfl, ⟨hr, h1, h2⟩⟩
  · rw [hb] at h; cases h
theorem rawF (l : List (HapC × HapA)) (A : Option Addr) (c : Nat) (w : World) (L : List HapC) (hL : l.map (·.1) = L) (hb : L.all hasBytes = false) {k : Nat} (h : Calls Try.prog k #[.slice A l.length c] w (Rawed w (l.map (·.1)))) :
    Calls Try.prog k #[.slice A l.length c] w fun e w' => Ext w w' ∧ e = .returned (.tuple #[.slice none 0 0, .int .i64 400]) := by
  subst hL
  refine h.mono ?_
  rintro e w' ⟨hx, (⟨h, _⟩ | ⟨_, rfl⟩)⟩
  · rw [hb] at h; cases h
  · exact ⟨hx, rfl⟩
theorem hapsT (s : SA) (raw : List UInt8) (L : List HapC) (w : World) (hs : RS Z w s raw) (hl : raw.length ≤ 1048576) (hZ : Z ≤ w.heap.size) (hL : hapsOf raw = L) :
    Calls Try.prog 13 #[(.slice s.A raw.length s.c)] w fun e w' => Ext w w' ∧ ∃ (xs : List (HapC × HapA)) (A : Option Addr) (c : Nat), e = .returned (.slice A xs.length c) ∧ RHs Z w' A xs ∧ xs.map (·.1) = L := by
  refine (scHaps s raw w hs hl hZ).mono ?_
  rintro e w' ⟨az, v, h1, rfl, ho, hr, hx⟩
  rw [hL] at h1 ho hr
  obtain ⟨A, c, rfl, _, _, hR⟩ := OHs.rhs ho hr
  exact ⟨hx, L.zip az, A, c, rfl, hR, by rw [List.map_fst_zip (by omega)]⟩
theorem sameT (xs l : List (HapC × HapA)) (A B : Option Addr) (c d : Nat) (w : World) (hA : RHs Z w A xs) (hB : RHs Z w B l) (h1 : xs.map (·.1) = l.map (·.1)) (hl : l.length ≤ 9223372036854775807) :
    Calls Try.prog 12 #[.slice A xs.length c, .slice B l.length d] w fun e w' => e = .returned (.bool true) ∧ Ext w w' := by
  have hxl : xs.length = l.length := by have := congrArg List.length h1; simpa using this
  refine (r30SameAll xs l A B c d w hA hB (by omega) hl).mono ?_
  rintro e w' ⟨rfl, hx⟩
  rw [h1, sameHaps_refl]
  exact ⟨rfl, hx⟩
set_option maxRecDepth 100000 in
set_option maxHeartbeats 2000000 in
theorem l30ScriptRaws (l : List (HapC × HapA)) (A : Option Addr) (c : Nat) (w : World) (hA : RHs Z w A l) (hk : ∀ x ∈ l, KeyIn x.1) (hZ : Z ≤ w.heap.size) :
    Calls Try.prog 3 #[.slice A l.length c] w fun e w' => e = .returned (.bool true) ∧ Ext w w' := by
  have hfew := l30few l A c 40 w hA (by omega)
  cases hf : fewB (l.map (·.1)) 40
  · rw [hf] at hfew
    have HF := Lib.hid (show Calls Try.prog 5 #[.slice A l.length c, .int .i64 40] w fun e w' => e = .returned (.bool false) ∧ Ext w w' from hfew)
    clear hf hfew
    go_enter Try.func3, Try.ntmps3
    go_wp2_with (first | (go_at_call 5; (with_reducible refine HF.out.mono ?_); rintro e w1 ⟨rfl, hx1⟩) | (go_at_call 6; (with_reducible refine (l30works _).mono ?_); rintro e w2 ⟨rfl, hx2⟩))
    exact bodyPost_ret (v := .bool true) (by simp [results, Try.results3, go_sem]) rfl ⟨rfl, hx1.trans hx2⟩
  · rw [hf] at hfew
    have HF := Lib.hid (show Calls Try.prog 5 #[.slice A l.length c, .int .i64 40] w fun e w' => e = .returned (.bool true) ∧ Ext w w' from hfew)
    simp only [fewB, Bool.and_eq_true, decide_eq_true_eq] at hf
    obtain ⟨hl, hall⟩ := hf
    rw [List.length_map] at hl
    have hlen : ∀ x ∈ l, x.1.call.bytes.length ≤ 9223372036854775807 ∧ x.1.picks.length ≤ 9223372036854775807 := by
      intro x hx
      have := List.all_eq_true.1 hall x.1 (List.mem_map.2 ⟨x, hx, rfl⟩)
      simp [fewH] at this
      omega
    clear hall hfew
    go_enter Try.func3, Try.ntmps3
    go_wp2_with (first | (go_at_call 5; (with_reducible refine HF.out.mono ?_); rintro e w1 ⟨rfl, hx1⟩))
    go_loopw [3] (fun i wr => ∃ j : Nat, j ≤ l.length ∧ i = .int .i64 j ∧ Ext w wr) (fun i _ => l.length - (intOf i).toNat)
    case atStart => exact ⟨0, by omega, rfl, hx1⟩
    case round =>
      obtain ⟨j, hj, rfl, hx⟩ := hrel
      by_cases hlt : j < l.length
      · obtain ⟨b1, o1, rfl, hc1⟩ := hA (by intro h; simp [h] at hlt)
        obtain ⟨ha1, hr1⟩ := hc1 j hlt
        have ha := ha1.ext hx
        have hlti : (j : Int) < l.length := by omega
        have hln := hlen _ (List.getElem_mem hlt)
        have HR := Lib.hid (hr1.ext hx)
        clear hc1 ha1 hr1 hk hlen hA
        generalize l[j] = x1 at *
        obtain ⟨h, a⟩ := x1
        dsimp only at ha hln HR
        have HAT := Lib.hid ha
        have hne : (checkHap h != checkHap h) = false := by simp
        have HC1 := fun W (hW : Ext wr W) => scCheck h a W (RH.ext HR.out hW) hln.1 hln.2
        have HC2 := fun W (hW : Ext wr W) => r30Check h a W (RH.ext HR.out hW)
        generalize checkHap h = ck at *
        have HC1 := Lib.hid HC1
        have HC2 := Lib.hid HC2
        have HX := Lib.hid hx
        have HA0 := Lib.hid (show HapAt wr.drew b1 (o1 + j * 11) h a from ha)
        clear hx ha
        go_wp2_with fail
        unfold HapAt at HA0
        go_region_held3 (fun w' => w'.cell? ⟨b1, o1 + j * 11, none⟩ = some (.int .i64 h.kind) ∧ w'.cell? ⟨b1, o1 + j * 11 + 1, none⟩ = some (.int .i64 h.client) ∧ w'.cell? ⟨b1, o1 + j * 11 + 2, none⟩ = some (.int .i64 h.call.kind) ∧ w'.cell? ⟨b1, o1 + j * 11 + 3, none⟩ = some (.string (strOf h.call.path)) ∧ w'.cell? ⟨b1, o1 + j * 11 + 4, none⟩ = some (.string (strOf h.call.to_)) ∧ w'.cell? ⟨b1, o1 + j * 11 + 5, none⟩ = some (.int .i64 h.call.at_) ∧ w'.cell? ⟨b1, o1 + j * 11 + 6, none⟩ = some (.int .i64 h.call.many) ∧ w'.cell? ⟨b1, o1 + j * 11 + 7, none⟩ = some (.int .u64 h.call.key) ∧ w'.cell? ⟨b1, o1 + j * 11 + 8, none⟩ = some (.slice a.A h.call.bytes.length a.ca) ∧ w'.cell? ⟨b1, o1 + j * 11 + 9, none⟩ = some (.int .i64 h.n) ∧ w'.cell? ⟨b1, o1 + j * 11 + 10, none⟩ = some (.slice a.P h.picks.length a.cp)) (first | exact HA0.out | with_reducible exact HA1.out | with_reducible exact HA2.out) (first
          | (go_at_call 8; (refine (HC1.out _ (Ext.refl _).drew).mono ?_); rintro e w2 ⟨rfl, hx2⟩; have HX2 := Lib.hid hx2.undrew; clear hx2; have HA1 := Lib.hid (HapAt.ext HAT.out HX2.out); unfold HapAt at HA1)
          | (go_at_call 7; (with_reducible refine (l30num _ _).mono ?_); rintro e w3 ⟨rfl, rfl⟩)
          | (go_at_call 9; (with_reducible refine (HC2.out _ HX2.out).mono ?_); rintro e w4 ⟨rfl, hx4⟩; have HX4 := Lib.hid (Ext.trans HX2.out hx4); have HA2 := Lib.hid (HapAt.ext HAT.out HX4.out); unfold HapAt at HA2))
        all_goals go_wp2
        go_roundw
        case rel => exact ⟨j + 1, by omega, by go_num, HX.out.trans HX4.out⟩
        case measure => simp [intOf]; omega
      · obtain rfl : j = l.length := by omega
        have hl26 : l.length ≤ 2600 := by omega
        have hR1 := fun W (hW : Ext w W) => scRaw l A c W (hA.ext hW) hl26 hk hlen
        have hR2 := fun W (hW : Ext w W) => r30Raw l A c W (hA.ext hW) hl26 hk
        cases hb : (l.map (·.1)).all hasBytes
        · have hF1 := Lib.hid (fun W hW => rawF l A c W _ rfl hb (hR1 W hW))
          have hF2 := Lib.hid (fun W hW => rawF l A c W _ rfl hb (hR2 W hW))
          have hcv : ∀ W, (Go.convert 31 9 (.slice none 0 0)).run Try.prog W = .ok (.string (strOf [])) W := fun W => RB_str (P := Try.prog) (RB.nil (Z := 0) W none) 31 5 Try.underlying31 Try.underlying5 0 0 rfl 9 Try.underlying9
          have HX := Lib.hid hx
          clear hR1 hR2 hb hk hlen hA hx
          go_wp2_with (first
            | (go_at_call 10; (with_reducible refine (hF1.out _ HX.out).mono ?_); rintro e w2 ⟨hx2, rfl⟩)
            | (go_at_call 11; (with_reducible refine (hF2.out _ (HX.out.trans hx2)).mono ?_); rintro e w3 ⟨hx3, rfl⟩)
            | (go_at_call 7; (with_reducible refine (l30num _ _).mono ?_); rintro e w4 ⟨rfl, rfl⟩)
            | (go_at_call 6; (with_reducible refine (l30works _).mono ?_); rintro e w5 ⟨rfl, hx5⟩))
          exact bodyPost_ret (v := .bool true) (by simp [results, Try.results3, go_sem]) rfl ⟨rfl, HX.out.trans (hx2.trans (hx3.trans hx5))⟩
        · have hbb := fun h hh => List.all_eq_true.1 hb h hh
          have hbk : ∀ h ∈ l.map (·.1), hasBytes h = true ∧ KeyIn h := by
            intro h hh
            obtain ⟨x, hx, rfl⟩ := List.mem_map.1 hh
            exact ⟨hbb _ hh, hk x hx⟩
          have hof := hapsOf_raw (l.map (·.1)) hbk
          have hsh := raw_short (l.map (·.1)) hbb
          have hT1 := fun W hW => rawT (Z := Z) l A c W _ rfl hb _ rfl (hR1 W hW)
          have hT2 := fun W hW => rawT (Z := Z) l A c W _ rfl hb _ rfl (hR2 W hW)
          rw [List.length_map] at hsh
          generalize hbs : rawB (l.map (·.1)) = bs at *
          have hbl : bs.length ≤ 1048576 := by omega
          have hT1 := Lib.hid hT1
          have hT2 := Lib.hid hT2
          have HX := Lib.hid hx
          have HA := Lib.hid hA
          have HOF := Lib.hid hof
          clear hR1 hR2 hb hk hlen hA hx hbb hbk hof hbs hsh
          go_wp2_with (first
            | (go_at_call 10; (with_reducible refine (hT1.out _ HX.out).mono ?_); rintro e w2 ⟨hx2, s2, rfl, hs2⟩)
            | (go_at_call 11; (with_reducible refine (hT2.out _ (HX.out.trans hx2)).mono ?_); rintro e w3 ⟨hx3, s3, rfl, hs3⟩; have hc1 := RB_str (P := Try.prog) (RB.ext hs2.rb hx3) 31 5 Try.underlying31 Try.underlying5 bs.length s2.c rfl 9 Try.underlying9; have hc2 := RB_str (P := Try.prog) hs3.rb 31 5 Try.underlying31 Try.underlying5 bs.length s3.c rfl 9 Try.underlying9; have X3 := Lib.hid (HX.out.trans (hx2.trans hx3)))
            | (go_at_call 7; (with_reducible refine (l30num _ _).mono ?_); rintro e w4 ⟨rfl, rfl⟩)
            | (go_at_call 13; (with_reducible refine (hapsT s2 bs _ _ (hs2.ext hx3) hbl (Nat.le_trans hZ (Ext.size X3.out)) HOF.out).mono ?_); rintro e w5 ⟨hx5, xs, A5, c5, rfl, hR5, hxs⟩; have HXS := Lib.hid hxs; clear hxs)
            | (go_at_call 12; (with_reducible refine (sameT xs l A5 A c5 c _ hR5 (RHs.ext HA.out (X3.out.trans hx5)) HXS.out (by omega)).mono ?_); rintro e w6 ⟨rfl, hx6⟩)
            | (go_at_call 6; (with_reducible refine (l30works _).mono ?_); rintro e w7 ⟨rfl, hx7⟩))
          exact bodyPost_ret (v := .bool true) (by simp [results, Try.results3, go_sem]) rfl ⟨rfl, X3.out.trans (hx5.trans (hx6.trans hx7))⟩
end Go.Proofs.Ytffepmoicpphfaa
