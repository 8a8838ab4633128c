/- hedgerowref30: Reader.number, Reader.text, walked. -/
import Derived.Test.YtffepmoicpphfaaR30f
namespace Go.Proofs.Ytffepmoicpphfaa
set_option linter.unusedSimpArgs false
set_option linter.unusedVariables false
open Go.RowKit
variable {Z : Nat}
def leNum : List UInt8 → Nat
  | [] => 0
  | x :: l => x.toNat + 256 * leNum l
theorem leNum_lt : ∀ l : List UInt8, leNum l < 256 ^ l.length
  | [] => by simp [leNum]
  | x :: l => by
    have := leNum_lt l
    have hx := x.toNat_lt
    simp only [leNum, List.length_cons, Nat.pow_succ]
    omega
def numR (r : Rdr) (many : Nat) : Rdr × Nat := ((takeR r many).1, leNum (takeR r many).2)
def NumsR (Z : Nat) (w : World) (p : Rdr × Nat) (e : Ending) (w' : World) : Prop :=
  ∃ s, e = .returned (.tuple #[(.agg #[.slice s.A p.1.B.length s.c, .bool p.1.bad]), .int .u64 (p.2 : Int)]) ∧ RS Z w' s p.1.B ∧ Ext w w'
theorem takeR_len (r : Rdr) (many : Nat) : (takeR r many).2.length = many := by
  unfold takeR
  split
  · simp
  · rename_i h
    simp at h
    simp; omega

set_option maxRecDepth 100000 in
set_option maxHeartbeats 2000000 in
theorem rdNumber (r : Rdr) (s : SA) (many : Nat) (w : World) (hr : RS Z w s r.B) (hm : many ≤ 8) :
    Calls Try.prog 56 #[(.agg #[.slice s.A r.B.length s.c, .bool r.bad]), .int .i64 many] w (NumsR Z w (numR r many)) := by
  have hx2 := fun o1 o2 => ext2 w o1 o2
  have hbl := takeR_len r many
  have hnum : numR r many = ((takeR r many).1, leNum (takeR r many).2) := rfl
  have HN := Lib.hid hnum
  clear hnum
  generalize hq : numR r many = q at *
  clear hq
  have hcon := fun W (hW : Ext w W) => rdTake r s many W (hr.ext hW) (by omega)
  generalize takeR r many = p at *
  obtain ⟨r1, b⟩ := p
  dsimp only at hbl HN
  go_enter Try.func56, Try.ntmps56
  go_wp2_with (go_at_call 76; refine (hcon _ (hx2 _ _)).mono ?_; rintro e w1 ⟨s1, t1, rfl, hs1, ht1, hx1⟩; obtain ⟨hc1, hf1⟩ := hx1.cells)
  have hz1 := hx1.size
  simp only [World.size_alloc] at hz1
  have a0 : w1.cell? ⟨w.heap.size, 0, none⟩ = some (.slice s.A r.B.length s.c) := by rw [hc1 _ _ (by simp; omega)]; simp [go_sem]
  have a1 : w1.cell? ⟨w.heap.size, 1, none⟩ = some (.bool r.bad) := by rw [hc1 _ _ (by simp; omega)]; simp [go_sem]
  have a2 : w1.cell? ⟨w.heap.size + 1, 0, none⟩ = some (.slice none 0 0) := by rw [hc1 _ _ (by simp)]; simp [go_sem]
  have a3 : w1.cell? ⟨w.heap.size + 1, 1, none⟩ = some (.bool false) := by rw [hc1 _ _ (by simp)]; simp [go_sem]
  have f0 : ∀ o, w1.frozen? ⟨w.heap.size + 1, o, none⟩ = false := fun o => by rw [hf1 _ _ (by simp)]; simp [go_sem]
  have hxw : Ext w w1 := (hx2 _ _).trans hx1
  clear hc1 hf1 hx1 hcon hx2
  generalize hW2 : (w1.setCell ⟨w.heap.size, 0, none⟩ (.slice s1.A r1.B.length s1.c)).setCell ⟨w.heap.size, 1, none⟩ (.bool r1.bad) = W2
  have hs2 : RS Z W2 s1 r1.B := by rw [← hW2]; exact (hs1.set _ a0 (by simp)).set _ (by simp [go_sem, a1]) (by simp) (u := .bool r.bad)
  have ht2 : RS Z W2 t1 b := by rw [← hW2]; exact (ht1.set _ a0 (by simp)).set _ (by simp [go_sem, a1]) (by simp) (u := .bool r.bad)
  have b0 : W2.cell? ⟨w.heap.size, 0, none⟩ = some (.slice s1.A r1.B.length s1.c) := by rw [← hW2]; simp [go_sem, a0]
  have b1 : W2.cell? ⟨w.heap.size, 1, none⟩ = some (.bool r1.bad) := by rw [← hW2]; simp [go_sem, a1]
  have b2 : W2.cell? ⟨w.heap.size + 1, 0, none⟩ = some (.slice none 0 0) := by rw [← hW2]; simp [go_sem, a2]
  have b3 : W2.cell? ⟨w.heap.size + 1, 1, none⟩ = some (.bool false) := by rw [← hW2]; simp [go_sem, a3]
  have g0 : ∀ o, W2.frozen? ⟨w.heap.size + 1, o, none⟩ = false := fun o => by rw [← hW2]; simp [go_sem, f0]
  have hx : Ext w W2 := by rw [← hW2]; exact (hxw.setCell (Nat.le_refl _) _).setCell (Nat.le_refl _) _
  clear hW2 a0 a1 a2 a3 f0 hxw hz1 hs1 ht1
  have HB := Lib.hid hbl
  clear hbl
  go_loop [7, 8] (fun x i => ∃ k : Nat, k ≤ many ∧ i = .int .i64 ((k : Int) - 1) ∧ x = .int .u64 (leNum (b.drop k) : Nat)) (fun _ i => (intOf i + 1).toNat)
  case atStart => exact ⟨many, Nat.le_refl _, rfl, by rw [List.drop_of_length_le (by rw [HB.out]; exact Nat.le_refl _)]; rfl⟩
  case round =>
    obtain ⟨k, hk, rfl, rfl⟩ := hrel
    cases k with
    | zero =>
      go_wp2
      refine bodyPost_ret (v := .tuple #[(.agg #[.slice s1.A r1.B.length s1.c, .bool r1.bad]), .int .u64 (leNum b : Nat)]) (by simp [results, Try.results56, go_sem, b2, b3]) rfl ?_
      rw [HN.out]
      refine ⟨s1, rfl, (hs2.set _ b2 (by simp)).set _ (by simp [go_sem, b3]) (by simp) (u := .bool false), (hx.setCell (by simp) _).setCell (by simp) _⟩
    | succ k =>
      have hkb : k < b.length := by rw [HB.out]; omega
      obtain ⟨bb, oo, hA, _, hcell⟩ := ht2.rb (by intro h; rw [h] at hkb; simp at hkb)
      have hc := hcell k hkb
      have hst : leNum (b.drop k) = b[k].toNat + 256 * leNum (b.drop (k + 1)) := by rw [List.drop_eq_getElem_cons hkb]; rfl
      have hlt : leNum (b.drop (k + 1)) < 72057594037927936 := by
        refine Nat.lt_of_lt_of_le (leNum_lt _) ?_
        rw [List.length_drop, HB.out]
        exact Nat.pow_le_pow_right (by omega) (by omega : many - (k + 1) ≤ 7)
      have hby := b[k].toNat_lt
      have HS := Lib.hid hst
      have hle := ht2.le
      rw [HB.out] at hle
      clear hst hcell
      generalize leNum (b.drop (k + 1)) = x at *
      generalize b[k] = y at *
      obtain ⟨tA, tc⟩ := t1
      dsimp only at hA hle
      subst hA
      have e : (((k + 1 : Nat) : Int) - 1) = (k : Int) := by omega
      rw [e]
      have hkm : (k : Int) < (many : Int) := by omega
      clear e ht2
      go_wp2
      go_round
      case rel => exact ⟨k, by omega, rfl, by rw [HS.out]; go_num⟩
      case measure => simp [intOf]

def textR (r : Rdr) (mod : Nat) : Rdr × List UInt8 := takeR (numR r 1).1 ((numR r 1).2 % mod)
theorem numR_lt (r : Rdr) : (numR r 1).2 < 256 := by
  have := leNum_lt (takeR r 1).2
  rw [takeR_len] at this
  simpa [numR] using this

set_option maxRecDepth 100000 in
set_option maxHeartbeats 200000 in
theorem rdText (r : Rdr) (s : SA) (mod : Nat) (w : World) (hr : RS Z w s r.B) (hm0 : 0 < mod) (hm : mod ≤ 256) :
    Calls Try.prog 57 #[(.agg #[.slice s.A r.B.length s.c, .bool r.bad]), .int .u64 mod] w (TakesR Z w (textR r mod)) := by
  have hx2 := fun o1 o2 => ext2 w o1 o2
  have hnl := numR_lt r
  have hcon := fun W (hW : Ext w W) => rdNumber r s 1 W (hr.ext hW) (by omega)
  have hdef : textR r mod = takeR (numR r 1).1 ((numR r 1).2 % mod) := rfl
  have HD := Lib.hid hdef
  clear hdef
  generalize textR r mod = q at *
  generalize numR r 1 = p at *
  obtain ⟨r1, n⟩ := p
  dsimp only at hnl HD
  have hmi : (0 : Int) < (mod : Int) := by omega
  go_enter Try.func57, Try.ntmps57
  go_wp2_with (go_at_call 56; refine (hcon _ (hx2 _ _)).mono ?_; rintro e w1 ⟨s1, rfl, hs1, hx1⟩; obtain ⟨hc1, hf1⟩ := hx1.cells)
  have hz1 := hx1.size
  simp only [World.size_alloc] at hz1
  have a0 : w1.cell? ⟨w.heap.size, 0, none⟩ = some (.slice s.A r.B.length s.c) := by rw [hc1 _ _ (by simp; omega)]; simp [go_sem]
  have a1 : w1.cell? ⟨w.heap.size, 1, none⟩ = some (.bool r.bad) := by rw [hc1 _ _ (by simp; omega)]; simp [go_sem]
  have a2 : w1.cell? ⟨w.heap.size + 1, 0, none⟩ = some (.slice none 0 0) := by rw [hc1 _ _ (by simp)]; simp [go_sem]
  have a3 : w1.cell? ⟨w.heap.size + 1, 1, none⟩ = some (.bool false) := by rw [hc1 _ _ (by simp)]; simp [go_sem]
  have f0 : ∀ o, w1.frozen? ⟨w.heap.size + 1, o, none⟩ = false := fun o => by rw [hf1 _ _ (by simp)]; simp [go_sem]
  have hxw : Ext w w1 := (hx2 _ _).trans hx1
  clear hc1 hf1 hx1 hcon hx2
  generalize hW2 : (w1.setCell ⟨w.heap.size, 0, none⟩ (.slice s1.A r1.B.length s1.c)).setCell ⟨w.heap.size, 1, none⟩ (.bool r1.bad) = W2
  have hs2 : RS Z W2 s1 r1.B := by rw [← hW2]; exact (hs1.set _ a0 (by simp)).set _ (by simp [go_sem, a1]) (by simp) (u := .bool r.bad)
  have b0 : W2.cell? ⟨w.heap.size, 0, none⟩ = some (.slice s1.A r1.B.length s1.c) := by rw [← hW2]; simp [go_sem, a0]
  have b1 : W2.cell? ⟨w.heap.size, 1, none⟩ = some (.bool r1.bad) := by rw [← hW2]; simp [go_sem, a1]
  have b2 : W2.cell? ⟨w.heap.size + 1, 0, none⟩ = some (.slice none 0 0) := by rw [← hW2]; simp [go_sem, a2]
  have b3 : W2.cell? ⟨w.heap.size + 1, 1, none⟩ = some (.bool false) := by rw [← hW2]; simp [go_sem, a3]
  have g0 : ∀ o, W2.frozen? ⟨w.heap.size + 1, o, none⟩ = false := fun o => by rw [← hW2]; simp [go_sem, f0]
  have hx : Ext w W2 := by rw [← hW2]; exact (hxw.setCell (Nat.le_refl _) _).setCell (Nat.le_refl _) _
  have hz2 : w.heap.size + 1 + 1 ≤ W2.heap.size := by rw [← hW2]; simpa [World.setCell] using hz1
  clear hW2 a0 a1 a2 a3 f0 hxw hz1 hs1
  have hb0 := And.intro b0 b1
  have hmz : ¬ mod = 0 := by omega
  have hnm : n % mod ≤ 4096 := by have := Nat.mod_lt n hm0; omega
  have hk : (n : Int).tmod (mod : Int) = ((n % mod : Nat) : Int) := by rw [Int.tmod_eq_emod_of_nonneg (by omega)]; simp
  generalize n % mod = k at *
  have hwr : IntKind.i64.wrap (k : Int) = (k : Int) := IntWalk.i64_in _ (by omega)
  go_region_held3 (fun w' => w'.cell? ⟨w.heap.size, 0, none⟩ = some (.slice s1.A r1.B.length s1.c) ∧ w'.cell? ⟨w.heap.size, 1, none⟩ = some (.bool r1.bad)) (first | exact hb0 | exact hb3 | go_keep) (first | (go_at_call 76; (with_reducible refine (rdTake r1 s1 k _ (hs2.ext (Ext.refl _).drew) hnm).mono ?_); rintro e w3 ⟨s3, t3, rfl, hs3, ht3, hx3⟩; have hb3 := And.intro (hx3.undrew.cell b0) (hx3.undrew.cell b1); have e2 := hx3.undrew.cell b2; have e3 := hx3.undrew.cell b3; have ef := fun o => (hx3.undrew.cells.2 (w.heap.size + 1) o (by omega)).trans (g0 o)))
  go_wp2
  refine bodyPost_ret (v := .tuple #[.agg #[.slice s3.A (takeR r1 k).1.B.length s3.c, .bool (takeR r1 k).1.bad], .slice t3.A (takeR r1 k).2.length t3.c]) (by simp [results, Try.results57, go_sem, e2, e3]) rfl ?_
  rw [HD.out]
  refine ⟨s3, t3, rfl, (hs3.set _ e2 (by simp)).set _ (by simp [go_sem, e3]) (by simp) (u := .bool false), (ht3.set _ e2 (by simp)).set _ (by simp [go_sem, e3]) (by simp) (u := .bool false), ((hx.trans hx3.undrew).setCell (by simp) _).setCell (by simp) _⟩
theorem rdNumber1 (r : Rdr) (s : SA) (w : World) (hr : RS Z w s r.B) : Calls Try.prog 56 #[(.agg #[.slice s.A r.B.length s.c, .bool r.bad]), .int .i64 1] w (NumsR Z w (numR r 1)) := rdNumber r s 1 w hr (by omega)
theorem rdNumber2 (r : Rdr) (s : SA) (w : World) (hr : RS Z w s r.B) : Calls Try.prog 56 #[(.agg #[.slice s.A r.B.length s.c, .bool r.bad]), .int .i64 2] w (NumsR Z w (numR r 2)) := rdNumber r s 2 w hr (by omega)
theorem rdNumber8 (r : Rdr) (s : SA) (w : World) (hr : RS Z w s r.B) : Calls Try.prog 56 #[(.agg #[.slice s.A r.B.length s.c, .bool r.bad]), .int .i64 8] w (NumsR Z w (numR r 8)) := rdNumber r s 8 w hr (by omega)
theorem rdText8 (r : Rdr) (s : SA) (w : World) (hr : RS Z w s r.B) : Calls Try.prog 57 #[(.agg #[.slice s.A r.B.length s.c, .bool r.bad]), .int .u64 8] w (TakesR Z w (textR r 8)) := rdText r s 8 w hr (by omega) (by omega)
theorem rdText64 (r : Rdr) (s : SA) (w : World) (hr : RS Z w s r.B) : Calls Try.prog 57 #[(.agg #[.slice s.A r.B.length s.c, .bool r.bad]), .int .u64 64] w (TakesR Z w (textR r 64)) := rdText r s 64 w hr (by omega) (by omega)
theorem rdText256 (r : Rdr) (s : SA) (w : World) (hr : RS Z w s r.B) : Calls Try.prog 57 #[(.agg #[.slice s.A r.B.length s.c, .bool r.bad]), .int .u64 256] w (TakesR Z w (textR r 256)) := rdText r s 256 w hr (by omega) (by omega)
end Go.Proofs.Ytffepmoicpphfaa
