/- hedgerowref30: bytes of any hap, Raw, walked. -/
import Derived.Test.YtffepmoicpphfaaR30m
namespace Go.Proofs.Ytffepmoicpphfaa
set_option linter.unusedSimpArgs false
set_option linter.unusedVariables false
open Go.RowKit
variable {Z : Nat}
theorem r30bytes (h : HapC) (a : HapA) (w : World) (hA : RH Z w h a) (hb : hasBytes h = true) (hk : KeyIn h) : Calls Try.prog 25 #[hapV h a] w (GivesB w (hapB h)) := by
  have hf : fits h = true := by simp [hasBytes] at hb; exact hb.2
  have hkd := has_kind hb
  obtain ⟨k, cl, c, n, p⟩ := h
  dsimp only at hkd
  by_cases h1 : k = 1
  · subst h1; exact r30bytes1 cl n c p a w hA.b hf hk
  by_cases h2 : k = 2
  · subst h2
    simp [fits, inB] at hf
    exact r30bytes2 cl n c p a w hA.p hf.1 hf.2
  by_cases h3 : k = 3
  · subst h3
    simp [fits, inB] at hf
    exact r30bytes3 cl n c p a w hA.p hf.1 hf.2
  by_cases h4 : k = 4
  · subst h4
    simp [fits] at hf
    exact r30bytes4 cl n c p a w hA.p hf
  obtain rfl : k = 5 := by omega
  simp [fits] at hf
  exact r30bytes5 cl n c p a w hA.p hf.1 hf.2
set_option maxRecDepth 100000 in
set_option maxHeartbeats 2000000 in
theorem r30Raw (l : List (HapC × HapA)) (A : Option Addr) (c : Nat) (w : World) (hA : RHs Z w A l) (hl : l.length ≤ 2600) (hk : ∀ x ∈ l, KeyIn x.1) :
    Calls Try.prog 11 #[.slice A l.length c] w (Rawed w (l.map (·.1))) := by
  go_enter Try.func11, Try.ntmps11
  go_wp2
  go_loopw [4, 5] (fun v i wr => ∃ j : Nat, j ≤ l.length ∧ i = .int .i64 j ∧ OB wr w.heap.size v (rawB ((l.map (·.1)).take j)) ∧ Hid (((l.map (·.1)).take j).all hasBytes = true) ∧ Ext w wr) (fun _ i _ => l.length - (intOf i).toNat)
  case atStart => exact ⟨0, by omega, rfl, by simpa [rawB] using OB.nil w _, (by simp : ((l.map (·.1)).take 0).all hasBytes = true), Ext.refl _⟩
  case round =>
    obtain ⟨j, hj, rfl, hob, hall, hx⟩ := hrel
    by_cases hlt : j < l.length
    · obtain ⟨b1, o1, rfl, hc1⟩ := hA (by intro h; simp [h] at hlt)
      obtain ⟨ha1, hr1⟩ := hc1 j hlt
      have ha := ha1.ext hx
      have HR := Lib.hid (hr1.ext hx)
      have hlti : (j : Int) < l.length := by omega
      have E1 : l[j]? = some l[j] := List.getElem?_eq_getElem hlt
      have hkey := hk _ (List.getElem_mem hlt)
      clear hc1 hr1 hk hA ha1
      generalize l[j] = x1 at *
      obtain ⟨h, a⟩ := x1
      have HE := Lib.hid E1
      clear E1
      dsimp only at ha hkey HR
      have HAT := Lib.hid ha
      unfold HapAt at ha
      have HC := Lib.hid (r30Check h a wr HR.out)
      cases hh : hasBytes h
      · have hck : checkHap h = 400 := by simp [checkHap, hh]
        have HH := Lib.hid hh
        rw [hck] at HC
        clear hh hck
        go_wp2_with (go_at_call 9; (with_reducible refine HC.out.mono ?_); rintro e w1 ⟨rfl, hx1⟩)
        refine bodyPost_ret (v := .tuple #[.slice none 0 0, .int .i64 400]) (by simp [results, Try.results11, go_sem]) rfl ⟨hx.trans hx1, .inr ⟨?_, rfl⟩⟩
        rw [List.all_eq_false]
        exact ⟨h, List.mem_map.2 ⟨(h, a), List.mem_of_getElem? HE.out, rfl⟩, by rw [HH.out]; simp⟩
      · have hck : checkHap h = 0 := by simp [checkHap, hh]
        have HH := Lib.hid hh
        rw [hck] at HC
        have hrl : (rawB ((l.map (·.1)).take j)).length ≤ j * 400 := by
          have := flat_short hapB 400 ((l.map (·.1)).take j) fun x hx => hap_short (List.all_eq_true.1 hall x hx)
          rw [List.length_take, List.length_map, Nat.min_eq_left hj] at this
          exact this
        have hhl := hap_short hh
        have hrl2 : (rawB ((l.map (·.1)).take j)).length + (hapB h).length ≤ 140737488355328 := by omega
        have HOB := Lib.hid hob
        have HALL := Lib.hid hall
        have HRL := Lib.hid hrl2
        have HHL := Lib.hid hhl
        have HX := Lib.hid hx
        clear hh hck hob hall hrl hrl2 hhl
        go_wp2_with (first
          | (go_at_call 9; (with_reducible refine HC.out.mono ?_); rintro e w1 ⟨rfl, hx1⟩; have hb1 := HAT.out.ext hx1; unfold HapAt at hb1)
          | (go_at_call 25; (with_reducible refine (r30bytes h a w1 (RH.ext HR.out hx1) HH.out hkey).mono ?_); rintro e w2 ⟨v2, rfl, ho2, hx2⟩; obtain ⟨A2, c2, rfl, _, _, hr2⟩ := OB.rb (Z := Z) ho2)
          | (at_builtin; refine wpl_bytes (Z := Z) rfl (.tmp 18) (.tmp 23) 31 rfl w.heap.size Try.underlying31 u4 _ (by rfl) (OB.ext HOB.out (hx1.trans hx2)) A2 _ c2 (hapB h) (by rfl) rfl hr2 HRL.out (Ext.size (HX.out.trans (hx1.trans hx2))) ?_; intro v3 w3 hob3 hg3 hat3))
        have hx3 := Ext.own (HX.out.trans (hx1.trans hx2)) hg3 (OB.ext HOB.out (hx1.trans hx2))
        go_roundw
        case rel =>
          have hmt : (l.map (·.1)).take (j + 1) = (l.map (·.1)).take j ++ [h] := by
            rw [List.take_add_one]
            simp [HE.out]
          refine ⟨j + 1, by omega, by go_num, ?_, ?_, hx3⟩
          · rw [hmt, rawB, List.flatMap_append, List.flatMap_singleton]
            exact hob3
          · show ((l.map (·.1)).take (j + 1)).all hasBytes = true
            have h0 : ((l.map (·.1)).take j).all hasBytes = true := HALL.out
            rw [hmt, List.all_append, h0]
            simp [HH.out]
        case measure => simp [intOf]; omega
    · obtain rfl : j = l.length := by omega
      rw [List.take_of_length_le (by simp)] at hob
      have h0 : ((l.map (·.1)).take l.length).all hasBytes = true := hall
      rw [List.take_of_length_le (by simp)] at h0
      have HH := Lib.hid h0
      clear hall h0
      go_wp2
      exact bodyPost_ret (v := .tuple #[u4, .int .i64 0]) (by simp [results, Try.results11, go_sem]) rfl ⟨hx, .inl ⟨HH.out, u4, rfl, hob⟩⟩
end Go.Proofs.Ytffepmoicpphfaa
