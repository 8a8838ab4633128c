/- plain law: the haps that a hap's bytes are. -/
import Derived.Test.YtffepmoicpphfaaSc22
import Derived.Test.YtffepmoicpphfaaSc19
namespace Go.Proofs.Ytffepmoicpphfaa
set_option linter.unusedSimpArgs false
set_option linter.unusedVariables false
open Go.RowKit
theorem takeR_app (a rest : List UInt8) : takeR ⟨a ++ rest, false⟩ a.length = (⟨rest, false⟩, a) := by
  unfold takeR
  rw [if_neg (by simp)]
  simp
theorem leNum_low : ∀ (k n : Nat), leNum (lowB n k) = n % 256 ^ k
  | 0, n => by simp [leNum, lowB, Nat.mod_one]
  | k + 1, n => by
    have h8 : (UInt8.ofNat n).toNat = n % 256 := by simp
    simp only [lowB, leNum, leNum_low k (n / 256), h8]
    have hp : 256 ^ (k + 1) = 256 * 256 ^ k := by rw [Nat.pow_succ, Nat.mul_comm]
    rw [hp, Nat.mod_mul]
theorem numR_app (n k : Nat) (rest : List UInt8) (h : n < 256 ^ k) : numR ⟨lowB n k ++ rest, false⟩ k = (⟨rest, false⟩, n) := by
  have := takeR_app (lowB n k) rest
  rw [lowB_length] at this
  unfold numR
  rw [this]
  simp only
  rw [leNum_low, Nat.mod_eq_of_lt h]
theorem textR_app (l rest : List UInt8) (mod : Nat) (h : l.length < mod) (hm : mod ≤ 256) : textR ⟨UInt8.ofNat l.length :: l ++ rest, false⟩ mod = (⟨rest, false⟩, l) := by
  have h1 := numR_app l.length 1 (l ++ rest) (by simp; omega)
  have h0 : UInt8.ofNat l.length :: l ++ rest = lowB l.length 1 ++ (l ++ rest) := by simp [lowB]
  unfold textR
  rw [h0, h1]
  simp only
  rw [Nat.mod_eq_of_lt h, takeR_app]
theorem sameHap_eq {a b : HapC} (h : sameHap a b = true) : a = b := by
  obtain ⟨k, cl, ⟨ck, pa, to_, at_, many, key, bytes⟩, n, p⟩ := a
  obtain ⟨k', cl', ⟨ck', pa', to_', at_', many', key', bytes'⟩, n', p'⟩ := b
  simp [sameHap, sameCall] at h
  obtain ⟨⟨⟨⟨h1, h2⟩, ⟨⟨⟨⟨⟨h3, h4⟩, h5⟩, h6⟩, h7⟩, h8⟩, h9⟩, h10⟩, h11⟩ := h
  subst h1 h2 h3 h4 h5 h6 h7 h8 h9 h10 h11
  rfl
theorem sameHap_refl (a : HapC) : sameHap a a = true := by simp [sameHap, sameCall]
theorem sameHaps_refl : ∀ l : List HapC, sameHaps l l = true
  | [] => rfl
  | a :: l => by
    have := sameHaps_refl l
    simp only [sameHaps, eqAll, sameHap_refl, Bool.true_and] at this ⊢
    exact this
theorem hapR_app (h : HapC) (rest : List UInt8) (hb : hasBytes h = true) (hk : KeyIn h) : hapR ⟨hapB h ++ rest, false⟩ = (⟨rest, false⟩, h) := by
  have he : h = bareHap h := by simp [hasBytes] at hb; exact sameHap_eq hb.1
  have hm := has_may hb
  have hkd := has_kind hb
  obtain ⟨n0, hn0⟩ := Int.eq_ofNat_of_zero_le (show 0 ≤ h.kind - 1 by omega)
  have hk1 := numR_app n0 1 (layB h ++ rest) (by simp; omega)
  have hB : hapB h ++ rest = lowB n0 1 ++ (layB h ++ rest) := by rw [hapB, hn0]; simp
  rw [hB, hapR_parts]
  have hkind : kindOf ⟨lowB n0 1 ++ (layB h ++ rest), false⟩ = h.kind := by
    simp only [kindOf, hk1]
    rw [Nat.mod_eq_of_lt (by omega)]
    omega
  rw [hkind, hk1]
  simp only
  clear hB hk1 hkind hn0
  obtain ⟨k, cl, ⟨ck, pa, to_, at_, many, key, bytes⟩, n, p⟩ := h
  obtain ⟨hk0, hk64⟩ := hk
  dsimp only at hkd hm he hk0 hk64 ⊢
  by_cases h1 : k = 1
  · subst h1
    simp only [kindsL, if_true, List.mem_cons, List.not_mem_nil, or_false, forall_eq_or_imp, forall_eq, clientS, kindS, pathS, toS, atS, manyS, keyS, bytesS, inB, Bool.and_eq_true, decide_eq_true_eq] at hm
    obtain ⟨⟨hc0, hc1⟩, ⟨hck0, hck1⟩, hpl, htl, ⟨hat0, hat1⟩, ⟨hm0, hm1⟩, _, hbl⟩ := hm
    obtain ⟨m1, rfl⟩ := Int.eq_ofNat_of_zero_le hc0
    obtain ⟨m2, rfl⟩ := Int.eq_ofNat_of_zero_le hck0
    obtain ⟨m3, rfl⟩ := Int.eq_ofNat_of_zero_le (show 0 ≤ at_ by omega)
    obtain ⟨m4, rfl⟩ := Int.eq_ofNat_of_zero_le (show 0 ≤ many by omega)
    obtain ⟨m5, rfl⟩ := Int.eq_ofNat_of_zero_le hk0
    simp only [bareHap, if_true] at he
    have hn : n = 0 := by injection he
    have hp : p = [] := by injection he
    subst hn; subst hp
    simp only [layB, kindsL, if_true, List.flatMap_cons, List.flatMap_nil, List.append_nil, clientS, kindS, pathS, toS, atS, manyS, keyS, bytesS, readL, List.append_assoc]
    have z0 : ∀ m : Nat, (((m : Int) - ((0 : Nat) : Int)).toNat) = m := by intro m; omega
    have z1 : ∀ m : Nat, ((m : Int).toNat) = m := by intro m; omega
    have e1 := fun r => numR_app m1 1 r (by omega)
    have e2 := fun r => numR_app m2 1 r (by omega)
    have e3 := fun r => numR_app m3 2 r (by omega)
    have e4 := fun r => numR_app m4 2 r (by omega)
    have e5 := fun r => numR_app m5 8 r (by omega)
    have t1 := fun r => textR_app pa r 64 hpl (by omega)
    have t2 := fun r => textR_app to_ r 64 htl (by omega)
    have t3 := fun r => textR_app bytes r 256 hbl (by omega)
    simp only [z0, z1, e1, e2, e3, e4, e5, t1, t2, t3, zeroHap, zeroCall, Nat.zero_add]
    rw [Nat.mod_eq_of_lt (show m1 < 8 by omega), Nat.mod_eq_of_lt (show m2 < 15 by omega)]
  by_cases h2 : k = 2
  · subst h2
    simp [kindsL, clientS, inB] at hm
    obtain ⟨hc0, hc1⟩ := hm
    obtain ⟨m1, rfl⟩ := Int.eq_ofNat_of_zero_le hc0
    simp [bareHap] at he
    obtain ⟨hc, hn, hp⟩ := he
    rw [hc, hn, hp]
    have z1 : ∀ m : Nat, ((m : Int).toNat) = m := by intro m; omega
    have e1 := fun r => numR_app m1 1 r (by omega)
    simp [layB, kindsL, clientS, readL, z1, e1, zeroHap]
    omega
  by_cases h3 : k = 3
  · subst h3
    simp [kindsL, nS] at hm
    obtain ⟨hc0, hc1⟩ := hm
    obtain ⟨m1, rfl⟩ := Int.eq_ofNat_of_zero_le hc0
    simp [bareHap] at he
    obtain ⟨hc, hn, hp⟩ := he
    rw [hc, hn, hp]
    have z1 : ∀ m : Nat, ((m : Int).toNat) = m := by intro m; omega
    have e1 := fun r => numR_app m1 2 r (by omega)
    simp [layB, kindsL, nS, readL, z1, e1, zeroHap]
  by_cases h4 : k = 4
  · subst h4
    simp [kindsL, picksS] at hm
    simp [bareHap] at he
    obtain ⟨hc, hn, hp⟩ := he
    have t1 := fun r => textR_app p r 8 hm (by omega)
    simp only [List.cons_append] at t1
    rw [hc, hn, hp]
    simp [layB, kindsL, picksS, readL, t1, zeroHap]
  obtain rfl : k = 5 := by omega
  simp [kindsL, mountS] at hm
  obtain ⟨hc0, hc1⟩ := hm
  obtain ⟨m1, hm1⟩ := Int.eq_ofNat_of_zero_le (show 0 ≤ n - 1 by omega)
  obtain rfl : n = (m1 : Int) + 1 := by omega
  simp [bareHap] at he
  obtain ⟨hc, hn, hp⟩ := he
  rw [hc, hn, hp]
  have e1 := fun r => numR_app m1 1 r (by omega)
  have z1 : ((m1 : Int) + 1 - 1).toNat = m1 := by omega
  simp [layB, kindsL, mountS, readL, z1, e1, zeroHap]
  omega
theorem hapB_pos (h : HapC) : 0 < (hapB h).length := by simp [hapB, lowB_length]; omega
theorem haps_raw : ∀ (l : List HapC) (n len : Nat), (∀ h ∈ l, hasBytes h = true ∧ KeyIn h) → (rawB l).length ≤ n → (hapsF n len ⟨rawB l, false⟩).map Prod.fst = l
  | [], n, len, _, _ => by
    rw [hapsF_end _ _ _ (by simp [rawB])]; rfl
  | h :: l, n, len, hb, hn => by
    obtain ⟨h1, h2⟩ := hb h List.mem_cons_self
    have hr : rawB (h :: l) = hapB h ++ rawB l := by simp [rawB]
    have hp := hapB_pos h
    rw [hr, List.length_append] at hn
    obtain ⟨m, rfl⟩ : ∃ m, n = m + 1 := ⟨n - 1, by omega⟩
    rw [hr, hapsF, hapR_app h (rawB l) h1 h2, if_neg (by simp only [List.length_append]; omega), if_neg (by simp), List.map_cons]
    rw [haps_raw l m len (fun x hx => hb x (List.mem_cons_of_mem _ hx)) (by omega)]
theorem hapsOf_raw (l : List HapC) (hb : ∀ h ∈ l, hasBytes h = true ∧ KeyIn h) : hapsOf (rawB l) = l := haps_raw l _ _ hb (Nat.le_refl _)
theorem raw_short (l : List HapC) (hb : ∀ h ∈ l, hasBytes h = true) : (rawB l).length ≤ l.length * 400 := flat_short hapB 400 l fun h hh => hap_short (hb h hh)
end Go.Proofs.Ytffepmoicpphfaa
