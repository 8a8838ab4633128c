/- script: Check, walked. -/
import Derived.Test.YtffepmoicpphfaaSc15
namespace Go.Proofs.Ytffepmoicpphfaa
set_option linter.unusedSimpArgs false
set_option linter.unusedVariables false
open Go.RowKit
variable {Z : Nat}
set_option maxRecDepth 100000 in
set_option maxHeartbeats 1000000 in
theorem check1 (lo : Nat) (W : World) (m : HapC → Bool) (f1 f2 f3 : Value) (b : Nat) (h : HapC) (a : HapA) (w : World) (hm : MayOK lo W m f1) (hk : Kept lo W w) (hB : HapBox w b h a) :
    Calls Try.prog 21 #[.agg #[f1, f2, f3], pt b] w fun e w' => e = .returned (.bool (!m h)) ∧ Ext w w' := by
  obtain ⟨k, cap, rfl, hen, hmay⟩ := hm
  have hen' : ∀ args W, (callFunc k args).run Try.prog W = .ok (.enter k args) W := hen
  have hx := Lib.hid (ext1 w (.cells #[.func (.func k) #[] cap, f2, f3] 62))
  have hB1 := hB.ext hx.out
  unfold HapBox at hB1
  have HM := Lib.hid (hmay h a _ (hk.ext hx.out))
  clear hmay hB
  go_enter Try.func21, Try.ntmps21
  go_wp2_with (first | ((with_reducible refine HM.out.mono ?_); rintro e w1 ⟨rfl, hx1⟩))
  exact bodyPost_ret (v := .bool (!m h)) (by simp [results, Try.results21, go_sem]) rfl ⟨rfl, hx.out.trans hx1⟩
set_option maxRecDepth 100000 in
set_option maxHeartbeats 1000000 in
theorem indexParts (lo : Nat) (W : World) (g b c : Nat) (ps : List PartS) (h : HapC) (a : HapA) (w : World) (A : Option Addr) (hA : ps ≠ [] → A = some ⟨g, 0, none⟩ ∧ PartsAt lo W g ps) (hk : Kept lo W w) (hB : HapBox w b h a) (hn : ps.length ≤ 8) :
    Calls Try.prog 53 #[.slice A ps.length c, .func (.func 21) #[] #[pt b]] w fun e w' => ∃ r : Int, e = .returned (.int .i64 r) ∧ decide (0 ≤ r) = ps.any (fun p => !p.may h) ∧ Ext w w' := by
  go_enter Try.func53, Try.ntmps53
  go_wp2
  go_loopw [8] (fun i wr => ∃ j : Nat, j ≤ ps.length ∧ i = .int .i64 j ∧ Hid (∀ (x : Nat) (hx : x < ps.length), x < j → ps[x].may h = true) ∧ Ext w wr) (fun i _ => ps.length - (intOf i).toNat)
  case atStart => exact ⟨0, by omega, rfl, fun x _ h => absurd h (by omega), Ext.refl _⟩
  case round =>
    obtain ⟨j, hj, rfl, hs, hx⟩ := hrel
    by_cases hlt : j < ps.length
    · obtain ⟨rfl, hP⟩ := hA (by intro e; simp [e] at hlt)
      obtain ⟨f1, f2, f3, e1, e2, e3, ok⟩ := hP.2 j hlt
      have hkr := hk.ext hx
      have c1 := hkr.cell hP.1 e1
      have c2 := hkr.cell hP.1 e2
      have c3 := hkr.cell hP.1 e3
      have hlti : (j : Int) < ps.length := by omega
      have HC := Lib.hid (check1 lo W ps[j].may f1 f2 f3 b h a wr ok.may hkr (hB.ext hx))
      clear hA hP ok e1 e2 e3 hkr
      cases hm : ps[j].may h
      · have HM := Lib.hid hm
        rw [hm] at HC
        simp only [Bool.not_false] at HC
        clear hm
        go_wp2_with (first | (go_at_call 21; (with_reducible refine HC.out.mono ?_); rintro e w1 ⟨rfl, hx1⟩))
        all_goals go_wp2
        refine bodyPost_ret (v := .int .i64 j) (by simp [results, Try.results53, go_sem]) rfl ⟨j, rfl, ?_, hx.trans hx1⟩
        have : ps.any (fun p => !p.may h) = true := List.any_eq_true.2 ⟨ps[j], List.getElem_mem _, by rw [HM.out]; rfl⟩
        rw [this]; simp
      · have HM := Lib.hid hm
        rw [hm] at HC
        simp only [Bool.not_true] at HC
        clear hm
        go_wp2_with (first | (go_at_call 21; (with_reducible refine HC.out.mono ?_); rintro e w1 ⟨rfl, hx1⟩))
        all_goals go_wp2
        go_roundw
        case rel =>
          refine ⟨j + 1, by omega, by go_num, ?_, hx.trans hx1⟩
          intro x h1 h2
          by_cases hxj : x < j
          · exact hs.out x h1 hxj
          · obtain rfl : x = j := by omega
            exact HM.out
        case measure => simp [intOf]; omega
    · obtain rfl : j = ps.length := by omega
      go_wp2
      refine bodyPost_ret (v := .int .i64 (-1)) (by simp [results, Try.results53, go_sem]) rfl ⟨-1, rfl, ?_, hx⟩
      have : ps.any (fun p => !p.may h) = false := by
        rw [List.any_eq_false]
        intro p hp
        obtain ⟨x, hx1, rfl⟩ := List.getElem_of_mem hp
        rw [hs.out x hx1 hx1]; simp
      rw [this]; simp
set_option maxRecDepth 100000 in
set_option maxHeartbeats 1000000 in
theorem containsParts (lo : Nat) (W : World) (g b c : Nat) (ps : List PartS) (h : HapC) (a : HapA) (w : World) (A : Option Addr) (hA : ps ≠ [] → A = some ⟨g, 0, none⟩ ∧ PartsAt lo W g ps) (hk : Kept lo W w) (hB : HapBox w b h a) (hn : ps.length ≤ 8) :
    Calls Try.prog 20 #[.slice A ps.length c, .func (.func 21) #[] #[pt b]] w fun e w' => e = .returned (.bool (ps.any (fun p => !p.may h))) ∧ Ext w w' := by
  have HI := Lib.hid (indexParts lo W g b c ps h a w A hA hk hB hn)
  clear hA hk hB
  go_enter Try.func20, Try.ntmps20
  go_wp2_with (first | (go_at_call 53; (with_reducible refine HI.out.mono ?_); rintro e w1 ⟨r, rfl, hr, hx1⟩))
  exact bodyPost_ret (v := .bool (ps.any fun p => !p.may h)) (by simp [results, Try.results20, go_sem]) rfl ⟨rfl, hx1⟩
theorem fits_parts (h : HapC) (hk : (decide (1 ≤ h.kind) && decide (h.kind ≤ 5)) = true) : fits h = !((kindsL h.kind).any fun p => !p.may h) := by
  obtain ⟨k, cl, ⟨ck, pa, to_, at_, many, key, bytes⟩, n, p⟩ := h
  simp only [Bool.and_eq_true, decide_eq_true_eq] at hk
  by_cases h1 : k = 1
  · subst h1
    simp [fits, fitsCall, kindsL, clientS, kindS, pathS, toS, atS, manyS, keyS, bytesS, inB, Bool.and_assoc]
  by_cases h2 : k = 2
  · subst h2
    simp [fits, kindsL, clientS, inB]
  by_cases h3 : k = 3
  · subst h3
    simp [fits, kindsL, nS, inB]
  by_cases h4 : k = 4
  · subst h4
    simp [fits, kindsL, picksS]
  obtain rfl : k = 5 := by omega
  simp [fits, kindsL, mountS]
theorem fits_none (h : HapC) (hk : (decide (1 ≤ h.kind) && decide (h.kind ≤ 5)) = false) : fits h = false := by
  have h5 : ¬ (1 ≤ h.kind ∧ h.kind ≤ 5) := by
    rintro ⟨a, b⟩
    simp [a, b] at hk
  unfold fits
  rw [if_neg (by omega), if_neg (by omega), if_neg (by omega), if_neg (by omega), if_neg (by omega)]
theorem kindsL_len (k : Int) : (kindsL k).length ≤ 8 := by
  unfold kindsL
  repeat (split; · simp)
  simp
set_option maxRecDepth 100000 in
set_option maxHeartbeats 2000000 in
theorem scCheck1 (h : HapC) (a : HapA) (w : World) (hA : RH Z w h a) (hl1 : h.call.bytes.length ≤ 9223372036854775807) (hl2 : h.picks.length ≤ 9223372036854775807) (hi : (decide (1 ≤ h.kind) && decide (h.kind ≤ 5)) = false) :
    Calls Try.prog 8 #[hapV h a] w fun e w' => e = .returned (.int .i64 (checkHap h)) ∧ Ext w w' := by
  have HI := Lib.hid hi
  clear hi
  have hx0 := Lib.hid (ext1 w (hapObj h a))
  have HA := Lib.hid (hA.ext hx0.out)
  have H0 := HapBox.new w h a
  have HK0 := Lib.hid H0
  have HM := Lib.hid makes
  unfold HapBox at H0
  go_enter Try.func8, Try.ntmps8
  go_wp2_with fail
  go_region_held3 (fun w' => w'.cell? ⟨w.heap.size, 0, none⟩ = some (.int .i64 h.kind) ∧ w'.cell? ⟨w.heap.size, 1, none⟩ = some (.int .i64 h.client) ∧ w'.cell? ⟨w.heap.size, 2, none⟩ = some (.int .i64 h.call.kind) ∧ w'.cell? ⟨w.heap.size, 3, none⟩ = some (.string (strOf h.call.path)) ∧ w'.cell? ⟨w.heap.size, 4, none⟩ = some (.string (strOf h.call.to_)) ∧ w'.cell? ⟨w.heap.size, 5, none⟩ = some (.int .i64 h.call.at_) ∧ w'.cell? ⟨w.heap.size, 6, none⟩ = some (.int .i64 h.call.many) ∧ w'.cell? ⟨w.heap.size, 7, none⟩ = some (.int .u64 h.call.key) ∧ w'.cell? ⟨w.heap.size, 8, none⟩ = some (.slice a.A h.call.bytes.length a.ca) ∧ w'.cell? ⟨w.heap.size, 9, none⟩ = some (.int .i64 h.n) ∧ w'.cell? ⟨w.heap.size, 10, none⟩ = some (.slice a.P h.picks.length a.cp)) (first | exact HK0.out | with_reducible exact HK1.out) (first | (go_at_call 17; (with_reducible refine (scKinds _).mono ?_); rintro e w1 ⟨m, g, c, rfl, hK, hx1⟩; have HX1 := Lib.hid hx1.undrew; clear hx1; have HK1 := Lib.hid (HK0.out.ext HX1.out); obtain ⟨A, hlook, hA1⟩ := hK.all h.kind w1 (Kept.refl _ _); have HA1 := Lib.hid hA1; clear hA1 hK; unfold HapBox at HK1; have hlk := hlook true; clear hlook; simp only [if_true, HI.out] at hlk))
  all_goals go_wp2_with fail
  first | go_region_with (fail) | fail
  all_goals go_wp2
  all_goals exact bodyPost_ret (v := .int .i64 400) (by simp [results, Try.results8, go_sem]) rfl ⟨by simp [checkHap, hasBytes, fits_none h HI.out], (hx0.out.trans HX1.out).drew⟩
set_option maxRecDepth 100000 in
set_option maxHeartbeats 2000000 in
theorem scCheck2 (h : HapC) (a : HapA) (w : World) (hA : RH Z w h a) (hl1 : h.call.bytes.length ≤ 9223372036854775807) (hl2 : h.picks.length ≤ 9223372036854775807) (hi : (decide (1 ≤ h.kind) && decide (h.kind ≤ 5)) = true) (hs : sameHap h (bareHap h) = false) :
    Calls Try.prog 8 #[hapV h a] w fun e w' => e = .returned (.int .i64 (checkHap h)) ∧ Ext w w' := by
  have HI := Lib.hid hi
  have HS := Lib.hid hs
  clear hi hs
  have hx0 := Lib.hid (ext1 w (hapObj h a))
  have HA := Lib.hid (hA.ext hx0.out)
  have H0 := HapBox.new w h a
  have HK0 := Lib.hid H0
  have HM := Lib.hid makes
  unfold HapBox at H0
  go_enter Try.func8, Try.ntmps8
  go_wp2_with fail
  go_region_held3 (fun w' => w'.cell? ⟨w.heap.size, 0, none⟩ = some (.int .i64 h.kind) ∧ w'.cell? ⟨w.heap.size, 1, none⟩ = some (.int .i64 h.client) ∧ w'.cell? ⟨w.heap.size, 2, none⟩ = some (.int .i64 h.call.kind) ∧ w'.cell? ⟨w.heap.size, 3, none⟩ = some (.string (strOf h.call.path)) ∧ w'.cell? ⟨w.heap.size, 4, none⟩ = some (.string (strOf h.call.to_)) ∧ w'.cell? ⟨w.heap.size, 5, none⟩ = some (.int .i64 h.call.at_) ∧ w'.cell? ⟨w.heap.size, 6, none⟩ = some (.int .i64 h.call.many) ∧ w'.cell? ⟨w.heap.size, 7, none⟩ = some (.int .u64 h.call.key) ∧ w'.cell? ⟨w.heap.size, 8, none⟩ = some (.slice a.A h.call.bytes.length a.ca) ∧ w'.cell? ⟨w.heap.size, 9, none⟩ = some (.int .i64 h.n) ∧ w'.cell? ⟨w.heap.size, 10, none⟩ = some (.slice a.P h.picks.length a.cp)) (first | exact HK0.out | with_reducible exact HK1.out) (first | (go_at_call 17; (with_reducible refine (scKinds _).mono ?_); rintro e w1 ⟨m, g, c, rfl, hK, hx1⟩; have HX1 := Lib.hid hx1.undrew; clear hx1; have HK1 := Lib.hid (HK0.out.ext HX1.out); obtain ⟨A, hlook, hA1⟩ := hK.all h.kind w1 (Kept.refl _ _); have HA1 := Lib.hid hA1; clear hA1 hK; unfold HapBox at HK1; have hlk := hlook true; clear hlook; simp only [if_true, HI.out] at hlk))
  all_goals go_wp2_with fail
  have hmf := HM.out
  have hk1 := HK1.out
  first | go_region_with (first | (go_at_call 19; (with_reducible refine (scBare h a _ (HA.out.ext HX1.out.drew)).mono ?_); rintro e w2 ⟨a', rfl, hr2, hx2⟩; have HX2 := Lib.hid hx2.undrew; clear hx2; have HR2 := Lib.hid hr2; clear hr2; have HK2 := Lib.hid (HapBox.ext HK1.out HX2.out); have hk2 := HK2.out; unfold HapBox at hk2) | (go_at_call 18; (with_reducible refine (scSame h (bareHap h) a a' _ (HA.out.ext (HX1.out.trans HX2.out)) HR2.out hl1 hl2).mono ?_); rintro e w3 ⟨he, hx3⟩; rw [HS.out] at he; subst he; have HX3 := Lib.hid hx3; clear hx3; have HK3 := Lib.hid (HapBox.ext HK2.out HX3.out); have hk3 := HK3.out; unfold HapBox at hk3)) | fail
  all_goals go_wp2
  all_goals exact bodyPost_ret (v := .int .i64 400) (by simp [results, Try.results8, go_sem]) rfl ⟨by simp [checkHap, hasBytes, HS.out], (hx0.out.trans HX1.out).trans (HX2.out.trans HX3.out)⟩
set_option maxRecDepth 100000 in
set_option maxHeartbeats 2000000 in
theorem scCheck3 (h : HapC) (a : HapA) (w : World) (hA : RH Z w h a) (hl1 : h.call.bytes.length ≤ 9223372036854775807) (hl2 : h.picks.length ≤ 9223372036854775807) (hi : (decide (1 ≤ h.kind) && decide (h.kind ≤ 5)) = true) (hs : sameHap h (bareHap h) = true) (hy : ((kindsL h.kind).any fun p => !p.may h) = true) :
    Calls Try.prog 8 #[hapV h a] w fun e w' => e = .returned (.int .i64 (checkHap h)) ∧ Ext w w' := by
  have HI := Lib.hid hi
  have HS := Lib.hid hs
  have HY := Lib.hid hy
  clear hi hs hy
  have hx0 := Lib.hid (ext1 w (hapObj h a))
  have HA := Lib.hid (hA.ext hx0.out)
  have H0 := HapBox.new w h a
  have HK0 := Lib.hid H0
  have HM := Lib.hid makes
  unfold HapBox at H0
  go_enter Try.func8, Try.ntmps8
  go_wp2_with fail
  go_region_held3 (fun w' => w'.cell? ⟨w.heap.size, 0, none⟩ = some (.int .i64 h.kind) ∧ w'.cell? ⟨w.heap.size, 1, none⟩ = some (.int .i64 h.client) ∧ w'.cell? ⟨w.heap.size, 2, none⟩ = some (.int .i64 h.call.kind) ∧ w'.cell? ⟨w.heap.size, 3, none⟩ = some (.string (strOf h.call.path)) ∧ w'.cell? ⟨w.heap.size, 4, none⟩ = some (.string (strOf h.call.to_)) ∧ w'.cell? ⟨w.heap.size, 5, none⟩ = some (.int .i64 h.call.at_) ∧ w'.cell? ⟨w.heap.size, 6, none⟩ = some (.int .i64 h.call.many) ∧ w'.cell? ⟨w.heap.size, 7, none⟩ = some (.int .u64 h.call.key) ∧ w'.cell? ⟨w.heap.size, 8, none⟩ = some (.slice a.A h.call.bytes.length a.ca) ∧ w'.cell? ⟨w.heap.size, 9, none⟩ = some (.int .i64 h.n) ∧ w'.cell? ⟨w.heap.size, 10, none⟩ = some (.slice a.P h.picks.length a.cp)) (first | exact HK0.out | with_reducible exact HK1.out) (first | (go_at_call 17; (with_reducible refine (scKinds _).mono ?_); rintro e w1 ⟨m, g, c, rfl, hK, hx1⟩; have HX1 := Lib.hid hx1.undrew; clear hx1; have HK1 := Lib.hid (HK0.out.ext HX1.out); obtain ⟨A, hlook, hA1⟩ := hK.all h.kind w1 (Kept.refl _ _); obtain ⟨gp, HA1⟩ : ∃ gp, Hid (kindsL h.kind ≠ [] → A = some ⟨gp, 0, none⟩ ∧ PartsAt (w.alloc (hapObj h a)).drew.heap.size w1 gp (kindsL h.kind)) := (if e : kindsL h.kind = [] then ⟨0, fun h => absurd e h⟩ else (hA1 e).imp fun _ h _ => h); clear hA1 hK; unfold HapBox at HK1; have hlk := hlook true; clear hlook; simp only [if_true, HI.out] at hlk))
  all_goals go_wp2_with fail
  have hmf := HM.out
  have hk1 := HK1.out
  first | go_region_with (first | (go_at_call 19; (with_reducible refine (scBare h a _ (HA.out.ext HX1.out.drew)).mono ?_); rintro e w2 ⟨a', rfl, hr2, hx2⟩; have HX2 := Lib.hid hx2.undrew; clear hx2; have HR2 := Lib.hid hr2; clear hr2; have HK2 := Lib.hid (HapBox.ext HK1.out HX2.out); have hk2 := HK2.out; unfold HapBox at hk2) | (go_at_call 18; (with_reducible refine (scSame h (bareHap h) a a' _ (HA.out.ext (HX1.out.trans HX2.out)) HR2.out hl1 hl2).mono ?_); rintro e w3 ⟨he, hx3⟩; rw [HS.out] at he; subst he; have HX3 := Lib.hid hx3; clear hx3; have HK3 := Lib.hid (HapBox.ext HK2.out HX3.out); have hk3 := HK3.out; unfold HapBox at hk3) | (go_at_call 20; (with_reducible refine (containsParts _ w1 gp w.heap.size _ (kindsL h.kind) h a _ A HA1.out ((Kept.refl _ _).ext (HX2.out.trans HX3.out)) HK3.out (kindsL_len _)).mono ?_); rintro e w4 ⟨he, hx4⟩; rw [HY.out] at he; subst he; have HX4 := Lib.hid hx4; clear hx4)) | fail
  all_goals go_wp2
  all_goals exact bodyPost_ret (v := .int .i64 400) (by simp [results, Try.results8, go_sem]) rfl ⟨by simp [checkHap, hasBytes, HS.out, fits_parts h HI.out, HY.out], (hx0.out.trans HX1.out).trans ((HX2.out.trans HX3.out).trans HX4.out)⟩
set_option maxRecDepth 100000 in
set_option maxHeartbeats 2000000 in
theorem scCheck4 (h : HapC) (a : HapA) (w : World) (hA : RH Z w h a) (hl1 : h.call.bytes.length ≤ 9223372036854775807) (hl2 : h.picks.length ≤ 9223372036854775807) (hi : (decide (1 ≤ h.kind) && decide (h.kind ≤ 5)) = true) (hs : sameHap h (bareHap h) = true) (hy : ((kindsL h.kind).any fun p => !p.may h) = false) :
    Calls Try.prog 8 #[hapV h a] w fun e w' => e = .returned (.int .i64 (checkHap h)) ∧ Ext w w' := by
  have HI := Lib.hid hi
  have HS := Lib.hid hs
  have HY := Lib.hid hy
  clear hi hs hy
  have hx0 := Lib.hid (ext1 w (hapObj h a))
  have HA := Lib.hid (hA.ext hx0.out)
  have H0 := HapBox.new w h a
  have HK0 := Lib.hid H0
  have HM := Lib.hid makes
  unfold HapBox at H0
  go_enter Try.func8, Try.ntmps8
  go_wp2_with fail
  go_region_held3 (fun w' => w'.cell? ⟨w.heap.size, 0, none⟩ = some (.int .i64 h.kind) ∧ w'.cell? ⟨w.heap.size, 1, none⟩ = some (.int .i64 h.client) ∧ w'.cell? ⟨w.heap.size, 2, none⟩ = some (.int .i64 h.call.kind) ∧ w'.cell? ⟨w.heap.size, 3, none⟩ = some (.string (strOf h.call.path)) ∧ w'.cell? ⟨w.heap.size, 4, none⟩ = some (.string (strOf h.call.to_)) ∧ w'.cell? ⟨w.heap.size, 5, none⟩ = some (.int .i64 h.call.at_) ∧ w'.cell? ⟨w.heap.size, 6, none⟩ = some (.int .i64 h.call.many) ∧ w'.cell? ⟨w.heap.size, 7, none⟩ = some (.int .u64 h.call.key) ∧ w'.cell? ⟨w.heap.size, 8, none⟩ = some (.slice a.A h.call.bytes.length a.ca) ∧ w'.cell? ⟨w.heap.size, 9, none⟩ = some (.int .i64 h.n) ∧ w'.cell? ⟨w.heap.size, 10, none⟩ = some (.slice a.P h.picks.length a.cp)) (first | exact HK0.out | with_reducible exact HK1.out) (first | (go_at_call 17; (with_reducible refine (scKinds _).mono ?_); rintro e w1 ⟨m, g, c, rfl, hK, hx1⟩; have HX1 := Lib.hid hx1.undrew; clear hx1; have HK1 := Lib.hid (HK0.out.ext HX1.out); obtain ⟨A, hlook, hA1⟩ := hK.all h.kind w1 (Kept.refl _ _); obtain ⟨gp, HA1⟩ : ∃ gp, Hid (kindsL h.kind ≠ [] → A = some ⟨gp, 0, none⟩ ∧ PartsAt (w.alloc (hapObj h a)).drew.heap.size w1 gp (kindsL h.kind)) := (if e : kindsL h.kind = [] then ⟨0, fun h => absurd e h⟩ else (hA1 e).imp fun _ h _ => h); clear hA1 hK; unfold HapBox at HK1; have hlk := hlook true; clear hlook; simp only [if_true, HI.out] at hlk))
  all_goals go_wp2_with fail
  have hmf := HM.out
  have hk1 := HK1.out
  first | go_region_with (first | (go_at_call 19; (with_reducible refine (scBare h a _ (HA.out.ext HX1.out.drew)).mono ?_); rintro e w2 ⟨a', rfl, hr2, hx2⟩; have HX2 := Lib.hid hx2.undrew; clear hx2; have HR2 := Lib.hid hr2; clear hr2; have HK2 := Lib.hid (HapBox.ext HK1.out HX2.out); have hk2 := HK2.out; unfold HapBox at hk2) | (go_at_call 18; (with_reducible refine (scSame h (bareHap h) a a' _ (HA.out.ext (HX1.out.trans HX2.out)) HR2.out hl1 hl2).mono ?_); rintro e w3 ⟨he, hx3⟩; rw [HS.out] at he; subst he; have HX3 := Lib.hid hx3; clear hx3; have HK3 := Lib.hid (HapBox.ext HK2.out HX3.out); have hk3 := HK3.out; unfold HapBox at hk3) | (go_at_call 20; (with_reducible refine (containsParts _ w1 gp w.heap.size _ (kindsL h.kind) h a _ A HA1.out ((Kept.refl _ _).ext (HX2.out.trans HX3.out)) HK3.out (kindsL_len _)).mono ?_); rintro e w4 ⟨he, hx4⟩; rw [HY.out] at he; subst he; have HX4 := Lib.hid hx4; clear hx4)) | fail
  all_goals go_wp2
  all_goals exact bodyPost_ret (v := .int .i64 0) (by simp [results, Try.results8, go_sem]) rfl ⟨by simp [checkHap, hasBytes, HS.out, fits_parts h HI.out, HY.out], (hx0.out.trans HX1.out).trans ((HX2.out.trans HX3.out).trans HX4.out)⟩
theorem scCheck (h : HapC) (a : HapA) (w : World) (hA : RH Z w h a) (hl1 : h.call.bytes.length ≤ 9223372036854775807) (hl2 : h.picks.length ≤ 9223372036854775807) :
    Calls Try.prog 8 #[hapV h a] w fun e w' => e = .returned (.int .i64 (checkHap h)) ∧ Ext w w' := by
  cases hi : (decide (1 ≤ h.kind) && decide (h.kind ≤ 5))
  · exact scCheck1 h a w hA hl1 hl2 hi
  · cases hs : sameHap h (bareHap h)
    · exact scCheck2 h a w hA hl1 hl2 hi hs
    · cases hy : ((kindsL h.kind).any fun p => !p.may h)
      · exact scCheck4 h a w hA hl1 hl2 hi hs hy
      · exact scCheck3 h a w hA hl1 hl2 hi hs hy
end Go.Proofs.Ytffepmoicpphfaa
