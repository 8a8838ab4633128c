/- hedgerowref30: Reader.hap, walked. -/
import Derived.Test.YtffepmoicpphfaaR30h
namespace Go.Proofs.Ytffepmoicpphfaa
set_option linter.unusedSimpArgs false
set_option linter.unusedVariables false
open Go.RowKit
variable {Z : Nat}
theorem numR_lt2 (r : Rdr) : (numR r 2).2 < 65536 := by
  have := leNum_lt (takeR r 2).2
  rw [takeR_len] at this
  simpa [numR] using this

set_option maxRecDepth 100000 in
set_option maxHeartbeats 2000000 in
theorem rdHap1 (r : Rdr) (s : SA) (w : World) (hr : RS Z w s r.B) (hk : (numR r 1).2 % 5 = 0) :
    Calls Try.prog 26 #[(.agg #[.slice s.A r.B.length s.c, .bool r.bad])] w (HapsR Z w (hapR r)) := by
  have hn1 := numR_lt r
  have hdef : hapR r = hapR1 (numR r 1).1 := by unfold hapR; simp [hk]
  simp only [hapR1] at hdef
  have HD := Lib.hid hdef
  clear hdef
  generalize hapR r = q at *
  have k1 := fun W (hW : RS Z W s r.B) => rdNumber1 r s W hW
  generalize numR r 1 = p1 at *
  obtain ⟨r1, n1⟩ := p1
  dsimp only at hn1 HD hk
  have hn2 := numR_lt r1
  have k2 := fun W s (hW : RS Z W s r1.B) => rdNumber1 r1 s W hW
  generalize numR r1 1 = p2 at *
  obtain ⟨r2, n2⟩ := p2
  dsimp only at hn2 HD
  have hn3 := numR_lt r2
  have k3 := fun W s (hW : RS Z W s r2.B) => rdNumber1 r2 s W hW
  generalize numR r2 1 = p3 at *
  obtain ⟨r3, n3⟩ := p3
  dsimp only at hn3 HD
  have k4 := fun W s (hW : RS Z W s r3.B) => rdText64 r3 s W hW
  generalize textR r3 64 = p4 at *
  obtain ⟨r4, l4⟩ := p4
  dsimp only at HD
  have k5 := fun W s (hW : RS Z W s r4.B) => rdText64 r4 s W hW
  generalize textR r4 64 = p5 at *
  obtain ⟨r5, l5⟩ := p5
  dsimp only at HD
  have hn6 := numR_lt2 r5
  have k6 := fun W s (hW : RS Z W s r5.B) => rdNumber2 r5 s W hW
  generalize numR r5 2 = p6 at *
  obtain ⟨r6, n6⟩ := p6
  dsimp only at hn6 HD
  have hn7 := numR_lt2 r6
  have k7 := fun W s (hW : RS Z W s r6.B) => rdNumber2 r6 s W hW
  generalize numR r6 2 = p7 at *
  obtain ⟨r7, n7⟩ := p7
  dsimp only at hn7 HD
  have k8 := fun W s (hW : RS Z W s r7.B) => rdNumber8 r7 s W hW
  generalize numR r7 8 = p8 at *
  obtain ⟨r8, n8⟩ := p8
  dsimp only at HD
  have k9 := fun W s (hW : RS Z W s r8.B) => rdText256 r8 s W hW
  generalize textR r8 256 = p9 at *
  obtain ⟨r9, l9⟩ := p9
  dsimp only at HD
  have hk1 : (n1 : Int) % 5 = 0 := by omega
  have hx0 := ext3 w
  go_enter Try.func26, Try.ntmps26
  go_wp2_with (first
    | (go_at_call 56; (with_reducible refine (k1 _ (hr.ext (hx0 _ _ _))).mono ?_); rintro e w1 ⟨s1, rfl, hs1, hx1⟩; have H1 := HS.init' hx1 hs1 1; have hxw := (hx0 _ _ _).trans hx1; have hz1 := hx1.size; simp only [World.size_alloc] at hz1; have a0 := hx1.cell (p := ⟨w.heap.size, 0, none⟩) (v := (.slice s.A r.B.length s.c)) (by simp [go_sem]); have a1 := hx1.cell (p := ⟨w.heap.size, 1, none⟩) (v := .bool r.bad) (by simp [go_sem]); have af := fun o => (hx1.cells.2 w.heap.size o (by simp; omega)).trans (by simp [go_sem] : _ = false); have u0x1 := H1.c0; have u1x1 := H1.c1; have HX1 := Lib.hid (((hxw.setCell (p := ⟨w.heap.size, 0, none⟩) (Nat.le_refl _) (.slice s1.A r1.B.length s1.c)).setCell (p := ⟨w.heap.size, 1, none⟩) (Nat.le_refl _) (.bool r1.bad)).alloc (.cells #[.int .i64 1, .int .i64 0, .int .i64 0, .string ⟨#[]⟩, .string ⟨#[]⟩, .int .i64 0, .int .i64 0, .int .u64 0, .slice none 0 0, .int .i64 0, .slice none 0 0] 35)); clear k1 hx1 hxw)
    | (go_at_call 56; (with_reducible refine (k2 _ s1 H1.rs).mono ?_); rintro e w2 ⟨s2, rfl, hs2, hx2⟩; have G2 := H1.ext hx2; have R2 := HS.rd G2 r2 s2 hs2; have H2 := HS.client R2 ((n2 : Int) % 8); have HX2 := Lib.hid ((((HX1.out.trans hx2).setCell (p := ⟨w.heap.size, 0, none⟩) (Nat.le_refl _) (.slice s2.A r2.B.length s2.c)).setCell (p := ⟨w.heap.size, 1, none⟩) (Nat.le_refl _) (.bool r2.bad)).setCell (p := ⟨w1.heap.size, 1, none⟩) (by simp; omega) (.int .i64 ((n2 : Int) % 8))); clear a0 a1 af u0x1 u1x1 k2 HX1 hx2; have u0g := G2.c0; have u1g := G2.c1; have ufg := G2.fb; have ugg := G2.fh; have qb := R2.box; unfold HapBox at qb; have u0x2 := H2.c0; have u1x2 := H2.c1; clear G2 R2 H1)
    | (go_at_call 56; (with_reducible refine (k3 _ s2 H2.rs).mono ?_); rintro e w3 ⟨s3, rfl, hs3, hx3⟩; have G3 := H2.ext hx3; have R3 := HS.rd G3 r3 s3 hs3; have H3 := HS.ckind R3 ((n3 : Int) % 15); have HX3 := Lib.hid ((((HX2.out.trans hx3).setCell (p := ⟨w.heap.size, 0, none⟩) (Nat.le_refl _) (.slice s3.A r3.B.length s3.c)).setCell (p := ⟨w.heap.size, 1, none⟩) (Nat.le_refl _) (.bool r3.bad)).setCell (p := ⟨w1.heap.size, 2, none⟩) (by simp; omega) (.int .i64 ((n3 : Int) % 15))); clear u0g u1g ufg ugg qb u0x2 u1x2 k3 HX2 hx3; have u0g := G3.c0; have u1g := G3.c1; have ufg := G3.fb; have ugg := G3.fh; have qb := R3.box; unfold HapBox at qb; have u0x3 := H3.c0; have u1x3 := H3.c1; clear G3 R3 H2)
    | (go_at_call 57; (with_reducible refine (k4 _ s3 H3.rs).mono ?_); rintro e w4 ⟨s4, t4, rfl, hs4, ht4, hx4⟩; have G4 := H3.ext hx4; have R4 := HS.rd G4 r4 s4 hs4; have cv4 := RB_str (P := Try.prog) (HS.rb_rd G4 r4 s4 ht4.rb) 31 5 Try.underlying31 Try.underlying5 l4.length t4.c rfl 9 Try.underlying9; have H4 := HS.path R4 l4; have HX4 := Lib.hid ((((HX3.out.trans hx4).setCell (p := ⟨w.heap.size, 0, none⟩) (Nat.le_refl _) (.slice s4.A r4.B.length s4.c)).setCell (p := ⟨w.heap.size, 1, none⟩) (Nat.le_refl _) (.bool r4.bad)).setCell (p := ⟨w1.heap.size, 3, none⟩) (by simp; omega) (.string (strOf l4))); clear u0g u1g ufg ugg qb u0x3 u1x3 k4 HX3 hx4; have u0g := G4.c0; have u1g := G4.c1; have ufg := G4.fb; have ugg := G4.fh; have qb := R4.box; unfold HapBox at qb; have u0x4 := H4.c0; have u1x4 := H4.c1; clear G4 R4 H3)
    | (go_at_call 57; (with_reducible refine (k5 _ s4 H4.rs).mono ?_); rintro e w5 ⟨s5, t5, rfl, hs5, ht5, hx5⟩; have G5 := H4.ext hx5; have R5 := HS.rd G5 r5 s5 hs5; have cv5 := RB_str (P := Try.prog) (HS.rb_rd G5 r5 s5 ht5.rb) 31 5 Try.underlying31 Try.underlying5 l5.length t5.c rfl 9 Try.underlying9; have H5 := HS.to_ R5 l5; have HX5 := Lib.hid ((((HX4.out.trans hx5).setCell (p := ⟨w.heap.size, 0, none⟩) (Nat.le_refl _) (.slice s5.A r5.B.length s5.c)).setCell (p := ⟨w.heap.size, 1, none⟩) (Nat.le_refl _) (.bool r5.bad)).setCell (p := ⟨w1.heap.size, 4, none⟩) (by simp; omega) (.string (strOf l5))); clear u0g u1g ufg ugg qb u0x4 u1x4 k5 HX4 hx5; have u0g := G5.c0; have u1g := G5.c1; have ufg := G5.fb; have ugg := G5.fh; have qb := R5.box; unfold HapBox at qb; have u0x5 := H5.c0; have u1x5 := H5.c1; clear G5 R5 H4)
    | (go_at_call 56; (with_reducible refine (k6 _ s5 H5.rs).mono ?_); rintro e w6 ⟨s6, rfl, hs6, hx6⟩; have G6 := H5.ext hx6; have R6 := HS.rd G6 r6 s6 hs6; have H6 := HS.at_ R6 (n6 : Int); have HX6 := Lib.hid ((((HX5.out.trans hx6).setCell (p := ⟨w.heap.size, 0, none⟩) (Nat.le_refl _) (.slice s6.A r6.B.length s6.c)).setCell (p := ⟨w.heap.size, 1, none⟩) (Nat.le_refl _) (.bool r6.bad)).setCell (p := ⟨w1.heap.size, 5, none⟩) (by simp; omega) (.int .i64 (n6 : Int))); clear u0g u1g ufg ugg qb u0x5 u1x5 k6 HX5 hx6; have u0g := G6.c0; have u1g := G6.c1; have ufg := G6.fb; have ugg := G6.fh; have qb := R6.box; unfold HapBox at qb; have u0x6 := H6.c0; have u1x6 := H6.c1; clear G6 R6 H5)
    | (go_at_call 56; (with_reducible refine (k7 _ s6 H6.rs).mono ?_); rintro e w7 ⟨s7, rfl, hs7, hx7⟩; have G7 := H6.ext hx7; have R7 := HS.rd G7 r7 s7 hs7; have H7 := HS.many R7 (n7 : Int); have HX7 := Lib.hid ((((HX6.out.trans hx7).setCell (p := ⟨w.heap.size, 0, none⟩) (Nat.le_refl _) (.slice s7.A r7.B.length s7.c)).setCell (p := ⟨w.heap.size, 1, none⟩) (Nat.le_refl _) (.bool r7.bad)).setCell (p := ⟨w1.heap.size, 6, none⟩) (by simp; omega) (.int .i64 (n7 : Int))); clear u0g u1g ufg ugg qb u0x6 u1x6 k7 HX6 hx7; have u0g := G7.c0; have u1g := G7.c1; have ufg := G7.fb; have ugg := G7.fh; have qb := R7.box; unfold HapBox at qb; have u0x7 := H7.c0; have u1x7 := H7.c1; clear G7 R7 H6)
    | (go_at_call 56; (with_reducible refine (k8 _ s7 H7.rs).mono ?_); rintro e w8 ⟨s8, rfl, hs8, hx8⟩; have G8 := H7.ext hx8; have R8 := HS.rd G8 r8 s8 hs8; have H8 := HS.key R8 (n8 : Int); have HX8 := Lib.hid ((((HX7.out.trans hx8).setCell (p := ⟨w.heap.size, 0, none⟩) (Nat.le_refl _) (.slice s8.A r8.B.length s8.c)).setCell (p := ⟨w.heap.size, 1, none⟩) (Nat.le_refl _) (.bool r8.bad)).setCell (p := ⟨w1.heap.size, 7, none⟩) (by simp; omega) (.int .u64 (n8 : Int))); clear u0g u1g ufg ugg qb u0x7 u1x7 k8 HX7 hx8; have u0g := G8.c0; have u1g := G8.c1; have ufg := G8.fb; have ugg := G8.fh; have qb := R8.box; unfold HapBox at qb; have u0x8 := H8.c0; have u1x8 := H8.c1; clear G8 R8 H7)
    | (go_at_call 57; (with_reducible refine (k9 _ s8 H8.rs).mono ?_); rintro e w9 ⟨s9, t9, rfl, hs9, ht9, hx9⟩; have G9 := H8.ext hx9; have R9 := HS.rd G9 r9 s9 hs9; have H9 := HS.bytes R9 l9 t9.A t9.c (HS.rb_rd G9 r9 s9 ht9.rb); have HX9 := Lib.hid ((((HX8.out.trans hx9).setCell (p := ⟨w.heap.size, 0, none⟩) (Nat.le_refl _) (.slice s9.A r9.B.length s9.c)).setCell (p := ⟨w.heap.size, 1, none⟩) (Nat.le_refl _) (.bool r9.bad)).setCell (p := ⟨w1.heap.size, 8, none⟩) (by simp; omega) (.slice t9.A l9.length t9.c)); clear u0g u1g ufg ugg qb u0x8 u1x8 k9 HX8 hx9; have u0g := G9.c0; have u1g := G9.c1; have ufg := G9.fb; have ugg := G9.fh; have qb := R9.box; unfold HapBox at qb; have u0x9 := H9.c0; have u1x9 := H9.c1; clear G9 R9 H8))
  generalize hX : ((w9.setCell ⟨w.heap.size, 0, none⟩ (.slice s9.A r9.B.length s9.c)).setCell ⟨w.heap.size, 1, none⟩ (.bool r9.bad)).setCell ⟨w1.heap.size, 8, none⟩ (.slice t9.A l9.length t9.c) = X at *
  clear hX
  obtain ⟨hh, ah, H, HE⟩ : ∃ hh ah, HS Z w.heap.size (w.heap.size + 1) (w.heap.size + 1 + 1) w1.heap.size r9 s9 hh ah X ∧ Hid (hh = ⟨1, (n2 : Int) % 8, ⟨(n3 : Int) % 15, l4, l5, (n6 : Int), (n7 : Int), (n8 : Int), l9⟩, 0, []⟩) := ⟨_, _, H9, rfl⟩
  clear H9 qb u0g u1g ufg ugg u0x9 u1x9
  have VD : X.drew.cell? ⟨w.heap.size, 0, none⟩ = some (.slice s9.A r9.B.length s9.c) ∧ X.drew.cell? ⟨w.heap.size, 1, none⟩ = some (.bool r9.bad) ∧ HapBox X.drew w1.heap.size hh ah := ⟨(cell_drew _ _).trans H.c0, (cell_drew _ _).trans H.c1, H.box.drew⟩
  have K1 := fun u v => H.keep1 u v
  have K2 := fun u v x0 x1 x2 x3 x4 x5 x6 x7 x8 x9 x10 => H.keep2 u v x0 x1 x2 x3 x4 x5 x6 x7 x8 x9 x10
  unfold HapBox at VD K1 K2
  have HK1 := Lib.hid K1
  have HK2 := Lib.hid K2
  clear K1 K2
  have x0 := H.d0
  have x1 := H.d1
  have xr := H.res
  have xf := H.fc
  have xg := H.fd
  have m6 := H.n6
  have m6' := Ne.symm m6
  have F := H.fin (.slice s9.A r9.B.length s9.c) (.bool r9.bad) (.int .i64 hh.kind) (.int .i64 hh.client) (.int .i64 hh.call.kind) (.string (strOf hh.call.path)) (.string (strOf hh.call.to_)) (.int .i64 hh.call.at_) (.int .i64 hh.call.many) (.int .u64 hh.call.key) (.slice ah.A hh.call.bytes.length ah.ca) (.int .i64 hh.n) (.slice ah.P hh.picks.length ah.cp)
  have HL := Lib.hid H
  clear H
  have L := fun {A : Option Addr} {l : List UInt8} => HL.out.last (.slice s9.A r9.B.length s9.c) (.bool r9.bad) (.int .i64 hh.kind) (.int .i64 hh.client) (.int .i64 hh.call.kind) (.string (strOf hh.call.path)) (.string (strOf hh.call.to_)) (.int .i64 hh.call.at_) (.int .i64 hh.call.many) (.int .u64 hh.call.key) (.slice ah.A hh.call.bytes.length ah.ca) (.int .i64 hh.n) (.slice ah.P hh.picks.length ah.cp) (A := A) (l := l)
  simp only [HapBox, zeroCall, strOf] at xr
  go_region_held3 (fun w' => w'.cell? ⟨w.heap.size, 0, none⟩ = some (.slice s9.A r9.B.length s9.c) ∧ w'.cell? ⟨w.heap.size, 1, none⟩ = some (.bool r9.bad) ∧ w'.cell? ⟨w1.heap.size, 0, none⟩ = some (.int .i64 hh.kind) ∧ w'.cell? ⟨w1.heap.size, 1, none⟩ = some (.int .i64 hh.client) ∧ w'.cell? ⟨w1.heap.size, 2, none⟩ = some (.int .i64 hh.call.kind) ∧ w'.cell? ⟨w1.heap.size, 3, none⟩ = some (.string (strOf hh.call.path)) ∧ w'.cell? ⟨w1.heap.size, 4, none⟩ = some (.string (strOf hh.call.to_)) ∧ w'.cell? ⟨w1.heap.size, 5, none⟩ = some (.int .i64 hh.call.at_) ∧ w'.cell? ⟨w1.heap.size, 6, none⟩ = some (.int .i64 hh.call.many) ∧ w'.cell? ⟨w1.heap.size, 7, none⟩ = some (.int .u64 hh.call.key) ∧ w'.cell? ⟨w1.heap.size, 8, none⟩ = some (.slice ah.A hh.call.bytes.length ah.ca) ∧ w'.cell? ⟨w1.heap.size, 9, none⟩ = some (.int .i64 hh.n) ∧ w'.cell? ⟨w1.heap.size, 10, none⟩ = some (.slice ah.P hh.picks.length ah.cp)) (first | with_reducible exact VD | with_reducible exact HK1.out _ _ | with_reducible exact HK2.out _ _ _ _ _ _ _ _ _ _ _ _ _) (fail)
  go_wp2
  refine bodyPost_ret (v := .tuple #[(.agg #[.slice s9.A r9.B.length s9.c, .bool r9.bad]), hapV hh ah]) (by simp [results, Try.results26, go_sem, F, cell_drew]) rfl ?_
  rw [HD.out]
  have hE := HE.out
  subst hE
  exact ⟨s9, ah, rfl, ⟨(L HL.out.rs.rb).drew, HL.out.rs.le, HL.out.rs.ml⟩, ⟨(L HL.out.rh.b).drew, (L HL.out.rh.p).drew⟩, (HX9.out.set13 (by omega) (by omega) _ _ _ _ _ _ _ _ _ _ _ _ _).drew⟩

set_option maxRecDepth 100000 in
set_option maxHeartbeats 2000000 in
theorem rdHap2 (r : Rdr) (s : SA) (w : World) (hr : RS Z w s r.B) (hk : (numR r 1).2 % 5 = 1) :
    Calls Try.prog 26 #[(.agg #[.slice s.A r.B.length s.c, .bool r.bad])] w (HapsR Z w (hapR r)) := by
  have hn1 := numR_lt r
  have hdef : hapR r = ((numR (numR r 1).1 1).1, ⟨2, ((numR (numR r 1).1 1).2 % 8 : Nat), zeroCall, 0, []⟩) := by unfold hapR; simp [hk]
  have HD := Lib.hid hdef
  clear hdef
  generalize hapR r = q at *
  have k1 := fun W (hW : RS Z W s r.B) => rdNumber1 r s W hW
  generalize numR r 1 = p1 at *
  obtain ⟨r1, n1⟩ := p1
  dsimp only at hn1 HD hk
  have hn2 := numR_lt r1
  have k2 := fun W s (hW : RS Z W s r1.B) => rdNumber1 r1 s W hW
  generalize numR r1 1 = p2 at *
  obtain ⟨r2, n2⟩ := p2
  dsimp only at hn2 HD
  have hk1 : (n1 : Int) % 5 = 1 := by omega
  have hx0 := ext3 w
  go_enter Try.func26, Try.ntmps26
  go_wp2_with (first
    | (go_at_call 56; (with_reducible refine (k1 _ (hr.ext (hx0 _ _ _))).mono ?_); rintro e w1 ⟨s1, rfl, hs1, hx1⟩; have H1 := HS.init' hx1 hs1 2; have hxw := (hx0 _ _ _).trans hx1; have hz1 := hx1.size; simp only [World.size_alloc] at hz1; have a0 := hx1.cell (p := ⟨w.heap.size, 0, none⟩) (v := (.slice s.A r.B.length s.c)) (by simp [go_sem]); have a1 := hx1.cell (p := ⟨w.heap.size, 1, none⟩) (v := .bool r.bad) (by simp [go_sem]); have af := fun o => (hx1.cells.2 w.heap.size o (by simp; omega)).trans (by simp [go_sem] : _ = false); have u0x1 := H1.c0; have u1x1 := H1.c1; have HX1 := Lib.hid (((hxw.setCell (p := ⟨w.heap.size, 0, none⟩) (Nat.le_refl _) (.slice s1.A r1.B.length s1.c)).setCell (p := ⟨w.heap.size, 1, none⟩) (Nat.le_refl _) (.bool r1.bad)).alloc (.cells #[.int .i64 2, .int .i64 0, .int .i64 0, .string ⟨#[]⟩, .string ⟨#[]⟩, .int .i64 0, .int .i64 0, .int .u64 0, .slice none 0 0, .int .i64 0, .slice none 0 0] 35)); clear k1 hx1 hxw)
    | (go_at_call 56; (with_reducible refine (k2 _ s1 H1.rs).mono ?_); rintro e w2 ⟨s2, rfl, hs2, hx2⟩; have G2 := H1.ext hx2; have R2 := HS.rd G2 r2 s2 hs2; have H2 := HS.client R2 ((n2 : Int) % 8); have HX2 := Lib.hid ((((HX1.out.trans hx2).setCell (p := ⟨w.heap.size, 0, none⟩) (Nat.le_refl _) (.slice s2.A r2.B.length s2.c)).setCell (p := ⟨w.heap.size, 1, none⟩) (Nat.le_refl _) (.bool r2.bad)).setCell (p := ⟨w1.heap.size, 1, none⟩) (by simp; omega) (.int .i64 ((n2 : Int) % 8))); clear a0 a1 af u0x1 u1x1 k2 HX1 hx2; have u0g := G2.c0; have u1g := G2.c1; have ufg := G2.fb; have ugg := G2.fh; have qb := R2.box; unfold HapBox at qb; have u0x2 := H2.c0; have u1x2 := H2.c1; clear G2 R2 H1))
  generalize hX : ((w2.setCell ⟨w.heap.size, 0, none⟩ (.slice s2.A r2.B.length s2.c)).setCell ⟨w.heap.size, 1, none⟩ (.bool r2.bad)).setCell ⟨w1.heap.size, 1, none⟩ (.int .i64 ((n2 : Int) % 8)) = X at *
  clear hX
  obtain ⟨hh, ah, H, HE⟩ : ∃ hh ah, HS Z w.heap.size (w.heap.size + 1) (w.heap.size + 1 + 1) w1.heap.size r2 s2 hh ah X ∧ Hid (hh = ⟨2, (n2 : Int) % 8, zeroCall, 0, []⟩) := ⟨_, _, H2, rfl⟩
  clear H2 qb u0g u1g ufg ugg u0x2 u1x2
  have VD : X.drew.cell? ⟨w.heap.size, 0, none⟩ = some (.slice s2.A r2.B.length s2.c) ∧ X.drew.cell? ⟨w.heap.size, 1, none⟩ = some (.bool r2.bad) ∧ HapBox X.drew w1.heap.size hh ah := ⟨(cell_drew _ _).trans H.c0, (cell_drew _ _).trans H.c1, H.box.drew⟩
  have K1 := fun u v => H.keep1 u v
  have K2 := fun u v x0 x1 x2 x3 x4 x5 x6 x7 x8 x9 x10 => H.keep2 u v x0 x1 x2 x3 x4 x5 x6 x7 x8 x9 x10
  unfold HapBox at VD K1 K2
  have HK1 := Lib.hid K1
  have HK2 := Lib.hid K2
  clear K1 K2
  have x0 := H.d0
  have x1 := H.d1
  have xr := H.res
  have xf := H.fc
  have xg := H.fd
  have m6 := H.n6
  have m6' := Ne.symm m6
  have F := H.fin (.slice s2.A r2.B.length s2.c) (.bool r2.bad) (.int .i64 hh.kind) (.int .i64 hh.client) (.int .i64 hh.call.kind) (.string (strOf hh.call.path)) (.string (strOf hh.call.to_)) (.int .i64 hh.call.at_) (.int .i64 hh.call.many) (.int .u64 hh.call.key) (.slice ah.A hh.call.bytes.length ah.ca) (.int .i64 hh.n) (.slice ah.P hh.picks.length ah.cp)
  have HL := Lib.hid H
  clear H
  have L := fun {A : Option Addr} {l : List UInt8} => HL.out.last (.slice s2.A r2.B.length s2.c) (.bool r2.bad) (.int .i64 hh.kind) (.int .i64 hh.client) (.int .i64 hh.call.kind) (.string (strOf hh.call.path)) (.string (strOf hh.call.to_)) (.int .i64 hh.call.at_) (.int .i64 hh.call.many) (.int .u64 hh.call.key) (.slice ah.A hh.call.bytes.length ah.ca) (.int .i64 hh.n) (.slice ah.P hh.picks.length ah.cp) (A := A) (l := l)
  simp only [HapBox, zeroCall, strOf] at xr
  go_region_held3 (fun w' => w'.cell? ⟨w.heap.size, 0, none⟩ = some (.slice s2.A r2.B.length s2.c) ∧ w'.cell? ⟨w.heap.size, 1, none⟩ = some (.bool r2.bad) ∧ w'.cell? ⟨w1.heap.size, 0, none⟩ = some (.int .i64 hh.kind) ∧ w'.cell? ⟨w1.heap.size, 1, none⟩ = some (.int .i64 hh.client) ∧ w'.cell? ⟨w1.heap.size, 2, none⟩ = some (.int .i64 hh.call.kind) ∧ w'.cell? ⟨w1.heap.size, 3, none⟩ = some (.string (strOf hh.call.path)) ∧ w'.cell? ⟨w1.heap.size, 4, none⟩ = some (.string (strOf hh.call.to_)) ∧ w'.cell? ⟨w1.heap.size, 5, none⟩ = some (.int .i64 hh.call.at_) ∧ w'.cell? ⟨w1.heap.size, 6, none⟩ = some (.int .i64 hh.call.many) ∧ w'.cell? ⟨w1.heap.size, 7, none⟩ = some (.int .u64 hh.call.key) ∧ w'.cell? ⟨w1.heap.size, 8, none⟩ = some (.slice ah.A hh.call.bytes.length ah.ca) ∧ w'.cell? ⟨w1.heap.size, 9, none⟩ = some (.int .i64 hh.n) ∧ w'.cell? ⟨w1.heap.size, 10, none⟩ = some (.slice ah.P hh.picks.length ah.cp)) (first | with_reducible exact VD | with_reducible exact HK1.out _ _ | with_reducible exact HK2.out _ _ _ _ _ _ _ _ _ _ _ _ _) (fail)
  go_wp2
  refine bodyPost_ret (v := .tuple #[(.agg #[.slice s2.A r2.B.length s2.c, .bool r2.bad]), hapV hh ah]) (by simp [results, Try.results26, go_sem, F, cell_drew]) rfl ?_
  rw [HD.out]
  have hE := HE.out
  subst hE
  exact ⟨s2, ah, rfl, ⟨(L HL.out.rs.rb).drew, HL.out.rs.le, HL.out.rs.ml⟩, ⟨(L HL.out.rh.b).drew, (L HL.out.rh.p).drew⟩, (HX2.out.set13 (by omega) (by omega) _ _ _ _ _ _ _ _ _ _ _ _ _).drew⟩

set_option maxRecDepth 100000 in
set_option maxHeartbeats 2000000 in
theorem rdHap3 (r : Rdr) (s : SA) (w : World) (hr : RS Z w s r.B) (hk : (numR r 1).2 % 5 = 2) :
    Calls Try.prog 26 #[(.agg #[.slice s.A r.B.length s.c, .bool r.bad])] w (HapsR Z w (hapR r)) := by
  have hn1 := numR_lt r
  have hdef : hapR r = ((numR (numR r 1).1 2).1, ⟨3, 0, zeroCall, (numR (numR r 1).1 2).2, []⟩) := by unfold hapR; simp [hk]
  have HD := Lib.hid hdef
  clear hdef
  generalize hapR r = q at *
  have k1 := fun W (hW : RS Z W s r.B) => rdNumber1 r s W hW
  generalize numR r 1 = p1 at *
  obtain ⟨r1, n1⟩ := p1
  dsimp only at hn1 HD hk
  have hn2 := numR_lt2 r1
  have k2 := fun W s (hW : RS Z W s r1.B) => rdNumber2 r1 s W hW
  generalize numR r1 2 = p2 at *
  obtain ⟨r2, n2⟩ := p2
  dsimp only at hn2 HD
  have hk1 : (n1 : Int) % 5 = 2 := by omega
  have hx0 := ext3 w
  go_enter Try.func26, Try.ntmps26
  go_wp2_with (first
    | (go_at_call 56; (with_reducible refine (k1 _ (hr.ext (hx0 _ _ _))).mono ?_); rintro e w1 ⟨s1, rfl, hs1, hx1⟩; have H1 := HS.init' hx1 hs1 3; have hxw := (hx0 _ _ _).trans hx1; have hz1 := hx1.size; simp only [World.size_alloc] at hz1; have a0 := hx1.cell (p := ⟨w.heap.size, 0, none⟩) (v := (.slice s.A r.B.length s.c)) (by simp [go_sem]); have a1 := hx1.cell (p := ⟨w.heap.size, 1, none⟩) (v := .bool r.bad) (by simp [go_sem]); have af := fun o => (hx1.cells.2 w.heap.size o (by simp; omega)).trans (by simp [go_sem] : _ = false); have u0x1 := H1.c0; have u1x1 := H1.c1; have HX1 := Lib.hid (((hxw.setCell (p := ⟨w.heap.size, 0, none⟩) (Nat.le_refl _) (.slice s1.A r1.B.length s1.c)).setCell (p := ⟨w.heap.size, 1, none⟩) (Nat.le_refl _) (.bool r1.bad)).alloc (.cells #[.int .i64 3, .int .i64 0, .int .i64 0, .string ⟨#[]⟩, .string ⟨#[]⟩, .int .i64 0, .int .i64 0, .int .u64 0, .slice none 0 0, .int .i64 0, .slice none 0 0] 35)); clear k1 hx1 hxw)
    | (go_at_call 56; (with_reducible refine (k2 _ s1 H1.rs).mono ?_); rintro e w2 ⟨s2, rfl, hs2, hx2⟩; have G2 := H1.ext hx2; have R2 := HS.rd G2 r2 s2 hs2; have H2 := HS.n R2 (n2 : Int); have HX2 := Lib.hid ((((HX1.out.trans hx2).setCell (p := ⟨w.heap.size, 0, none⟩) (Nat.le_refl _) (.slice s2.A r2.B.length s2.c)).setCell (p := ⟨w.heap.size, 1, none⟩) (Nat.le_refl _) (.bool r2.bad)).setCell (p := ⟨w1.heap.size, 9, none⟩) (by simp; omega) (.int .i64 (n2 : Int))); clear a0 a1 af u0x1 u1x1 k2 HX1 hx2; have u0g := G2.c0; have u1g := G2.c1; have ufg := G2.fb; have ugg := G2.fh; have qb := R2.box; unfold HapBox at qb; have u0x2 := H2.c0; have u1x2 := H2.c1; clear G2 R2 H1))
  generalize hX : ((w2.setCell ⟨w.heap.size, 0, none⟩ (.slice s2.A r2.B.length s2.c)).setCell ⟨w.heap.size, 1, none⟩ (.bool r2.bad)).setCell ⟨w1.heap.size, 9, none⟩ (.int .i64 (n2 : Int)) = X at *
  clear hX
  obtain ⟨hh, ah, H, HE⟩ : ∃ hh ah, HS Z w.heap.size (w.heap.size + 1) (w.heap.size + 1 + 1) w1.heap.size r2 s2 hh ah X ∧ Hid (hh = ⟨3, 0, zeroCall, (n2 : Int), []⟩) := ⟨_, _, H2, rfl⟩
  clear H2 qb u0g u1g ufg ugg u0x2 u1x2
  have VD : X.drew.cell? ⟨w.heap.size, 0, none⟩ = some (.slice s2.A r2.B.length s2.c) ∧ X.drew.cell? ⟨w.heap.size, 1, none⟩ = some (.bool r2.bad) ∧ HapBox X.drew w1.heap.size hh ah := ⟨(cell_drew _ _).trans H.c0, (cell_drew _ _).trans H.c1, H.box.drew⟩
  have K1 := fun u v => H.keep1 u v
  have K2 := fun u v x0 x1 x2 x3 x4 x5 x6 x7 x8 x9 x10 => H.keep2 u v x0 x1 x2 x3 x4 x5 x6 x7 x8 x9 x10
  unfold HapBox at VD K1 K2
  have HK1 := Lib.hid K1
  have HK2 := Lib.hid K2
  clear K1 K2
  have x0 := H.d0
  have x1 := H.d1
  have xr := H.res
  have xf := H.fc
  have xg := H.fd
  have m6 := H.n6
  have m6' := Ne.symm m6
  have F := H.fin (.slice s2.A r2.B.length s2.c) (.bool r2.bad) (.int .i64 hh.kind) (.int .i64 hh.client) (.int .i64 hh.call.kind) (.string (strOf hh.call.path)) (.string (strOf hh.call.to_)) (.int .i64 hh.call.at_) (.int .i64 hh.call.many) (.int .u64 hh.call.key) (.slice ah.A hh.call.bytes.length ah.ca) (.int .i64 hh.n) (.slice ah.P hh.picks.length ah.cp)
  have HL := Lib.hid H
  clear H
  have L := fun {A : Option Addr} {l : List UInt8} => HL.out.last (.slice s2.A r2.B.length s2.c) (.bool r2.bad) (.int .i64 hh.kind) (.int .i64 hh.client) (.int .i64 hh.call.kind) (.string (strOf hh.call.path)) (.string (strOf hh.call.to_)) (.int .i64 hh.call.at_) (.int .i64 hh.call.many) (.int .u64 hh.call.key) (.slice ah.A hh.call.bytes.length ah.ca) (.int .i64 hh.n) (.slice ah.P hh.picks.length ah.cp) (A := A) (l := l)
  simp only [HapBox, zeroCall, strOf] at xr
  go_region_held3 (fun w' => w'.cell? ⟨w.heap.size, 0, none⟩ = some (.slice s2.A r2.B.length s2.c) ∧ w'.cell? ⟨w.heap.size, 1, none⟩ = some (.bool r2.bad) ∧ w'.cell? ⟨w1.heap.size, 0, none⟩ = some (.int .i64 hh.kind) ∧ w'.cell? ⟨w1.heap.size, 1, none⟩ = some (.int .i64 hh.client) ∧ w'.cell? ⟨w1.heap.size, 2, none⟩ = some (.int .i64 hh.call.kind) ∧ w'.cell? ⟨w1.heap.size, 3, none⟩ = some (.string (strOf hh.call.path)) ∧ w'.cell? ⟨w1.heap.size, 4, none⟩ = some (.string (strOf hh.call.to_)) ∧ w'.cell? ⟨w1.heap.size, 5, none⟩ = some (.int .i64 hh.call.at_) ∧ w'.cell? ⟨w1.heap.size, 6, none⟩ = some (.int .i64 hh.call.many) ∧ w'.cell? ⟨w1.heap.size, 7, none⟩ = some (.int .u64 hh.call.key) ∧ w'.cell? ⟨w1.heap.size, 8, none⟩ = some (.slice ah.A hh.call.bytes.length ah.ca) ∧ w'.cell? ⟨w1.heap.size, 9, none⟩ = some (.int .i64 hh.n) ∧ w'.cell? ⟨w1.heap.size, 10, none⟩ = some (.slice ah.P hh.picks.length ah.cp)) (first | with_reducible exact VD | with_reducible exact HK1.out _ _ | with_reducible exact HK2.out _ _ _ _ _ _ _ _ _ _ _ _ _) (fail)
  go_wp2
  refine bodyPost_ret (v := .tuple #[(.agg #[.slice s2.A r2.B.length s2.c, .bool r2.bad]), hapV hh ah]) (by simp [results, Try.results26, go_sem, F, cell_drew]) rfl ?_
  rw [HD.out]
  have hE := HE.out
  subst hE
  exact ⟨s2, ah, rfl, ⟨(L HL.out.rs.rb).drew, HL.out.rs.le, HL.out.rs.ml⟩, ⟨(L HL.out.rh.b).drew, (L HL.out.rh.p).drew⟩, (HX2.out.set13 (by omega) (by omega) _ _ _ _ _ _ _ _ _ _ _ _ _).drew⟩

set_option maxRecDepth 100000 in
set_option maxHeartbeats 2000000 in
theorem rdHap4 (r : Rdr) (s : SA) (w : World) (hr : RS Z w s r.B) (hk : (numR r 1).2 % 5 = 3) :
    Calls Try.prog 26 #[(.agg #[.slice s.A r.B.length s.c, .bool r.bad])] w (HapsR Z w (hapR r)) := by
  have hn1 := numR_lt r
  have hdef : hapR r = ((textR (numR r 1).1 8).1, ⟨4, 0, zeroCall, 0, (textR (numR r 1).1 8).2⟩) := by unfold hapR; simp [hk]
  have HD := Lib.hid hdef
  clear hdef
  generalize hapR r = q at *
  have k1 := fun W (hW : RS Z W s r.B) => rdNumber1 r s W hW
  generalize numR r 1 = p1 at *
  obtain ⟨r1, n1⟩ := p1
  dsimp only at hn1 HD hk
  have k2 := fun W s (hW : RS Z W s r1.B) => rdText8 r1 s W hW
  generalize textR r1 8 = p2 at *
  obtain ⟨r2, l2⟩ := p2
  dsimp only at HD
  have hk1 : (n1 : Int) % 5 = 3 := by omega
  have hx0 := ext3 w
  go_enter Try.func26, Try.ntmps26
  go_wp2_with (first
    | (go_at_call 56; (with_reducible refine (k1 _ (hr.ext (hx0 _ _ _))).mono ?_); rintro e w1 ⟨s1, rfl, hs1, hx1⟩; have H1 := HS.init' hx1 hs1 4; have hxw := (hx0 _ _ _).trans hx1; have hz1 := hx1.size; simp only [World.size_alloc] at hz1; have a0 := hx1.cell (p := ⟨w.heap.size, 0, none⟩) (v := (.slice s.A r.B.length s.c)) (by simp [go_sem]); have a1 := hx1.cell (p := ⟨w.heap.size, 1, none⟩) (v := .bool r.bad) (by simp [go_sem]); have af := fun o => (hx1.cells.2 w.heap.size o (by simp; omega)).trans (by simp [go_sem] : _ = false); have u0x1 := H1.c0; have u1x1 := H1.c1; have HX1 := Lib.hid (((hxw.setCell (p := ⟨w.heap.size, 0, none⟩) (Nat.le_refl _) (.slice s1.A r1.B.length s1.c)).setCell (p := ⟨w.heap.size, 1, none⟩) (Nat.le_refl _) (.bool r1.bad)).alloc (.cells #[.int .i64 4, .int .i64 0, .int .i64 0, .string ⟨#[]⟩, .string ⟨#[]⟩, .int .i64 0, .int .i64 0, .int .u64 0, .slice none 0 0, .int .i64 0, .slice none 0 0] 35)); clear k1 hx1 hxw)
    | (go_at_call 57; (with_reducible refine (k2 _ s1 H1.rs).mono ?_); rintro e w2 ⟨s2, t2, rfl, hs2, ht2, hx2⟩; have G2 := H1.ext hx2; have R2 := HS.rd G2 r2 s2 hs2; have H2 := HS.picks R2 l2 t2.A t2.c (HS.rb_rd G2 r2 s2 ht2.rb); have HX2 := Lib.hid ((((HX1.out.trans hx2).setCell (p := ⟨w.heap.size, 0, none⟩) (Nat.le_refl _) (.slice s2.A r2.B.length s2.c)).setCell (p := ⟨w.heap.size, 1, none⟩) (Nat.le_refl _) (.bool r2.bad)).setCell (p := ⟨w1.heap.size, 10, none⟩) (by simp; omega) (.slice t2.A l2.length t2.c)); clear a0 a1 af u0x1 u1x1 k2 HX1 hx2; have u0g := G2.c0; have u1g := G2.c1; have ufg := G2.fb; have ugg := G2.fh; have qb := R2.box; unfold HapBox at qb; have u0x2 := H2.c0; have u1x2 := H2.c1; clear G2 R2 H1))
  generalize hX : ((w2.setCell ⟨w.heap.size, 0, none⟩ (.slice s2.A r2.B.length s2.c)).setCell ⟨w.heap.size, 1, none⟩ (.bool r2.bad)).setCell ⟨w1.heap.size, 10, none⟩ (.slice t2.A l2.length t2.c) = X at *
  clear hX
  obtain ⟨hh, ah, H, HE⟩ : ∃ hh ah, HS Z w.heap.size (w.heap.size + 1) (w.heap.size + 1 + 1) w1.heap.size r2 s2 hh ah X ∧ Hid (hh = ⟨4, 0, zeroCall, 0, l2⟩) := ⟨_, _, H2, rfl⟩
  clear H2 qb u0g u1g ufg ugg u0x2 u1x2
  have VD : X.drew.cell? ⟨w.heap.size, 0, none⟩ = some (.slice s2.A r2.B.length s2.c) ∧ X.drew.cell? ⟨w.heap.size, 1, none⟩ = some (.bool r2.bad) ∧ HapBox X.drew w1.heap.size hh ah := ⟨(cell_drew _ _).trans H.c0, (cell_drew _ _).trans H.c1, H.box.drew⟩
  have K1 := fun u v => H.keep1 u v
  have K2 := fun u v x0 x1 x2 x3 x4 x5 x6 x7 x8 x9 x10 => H.keep2 u v x0 x1 x2 x3 x4 x5 x6 x7 x8 x9 x10
  unfold HapBox at VD K1 K2
  have HK1 := Lib.hid K1
  have HK2 := Lib.hid K2
  clear K1 K2
  have x0 := H.d0
  have x1 := H.d1
  have xr := H.res
  have xf := H.fc
  have xg := H.fd
  have m6 := H.n6
  have m6' := Ne.symm m6
  have F := H.fin (.slice s2.A r2.B.length s2.c) (.bool r2.bad) (.int .i64 hh.kind) (.int .i64 hh.client) (.int .i64 hh.call.kind) (.string (strOf hh.call.path)) (.string (strOf hh.call.to_)) (.int .i64 hh.call.at_) (.int .i64 hh.call.many) (.int .u64 hh.call.key) (.slice ah.A hh.call.bytes.length ah.ca) (.int .i64 hh.n) (.slice ah.P hh.picks.length ah.cp)
  have HL := Lib.hid H
  clear H
  have L := fun {A : Option Addr} {l : List UInt8} => HL.out.last (.slice s2.A r2.B.length s2.c) (.bool r2.bad) (.int .i64 hh.kind) (.int .i64 hh.client) (.int .i64 hh.call.kind) (.string (strOf hh.call.path)) (.string (strOf hh.call.to_)) (.int .i64 hh.call.at_) (.int .i64 hh.call.many) (.int .u64 hh.call.key) (.slice ah.A hh.call.bytes.length ah.ca) (.int .i64 hh.n) (.slice ah.P hh.picks.length ah.cp) (A := A) (l := l)
  simp only [HapBox, zeroCall, strOf] at xr
  go_region_held3 (fun w' => w'.cell? ⟨w.heap.size, 0, none⟩ = some (.slice s2.A r2.B.length s2.c) ∧ w'.cell? ⟨w.heap.size, 1, none⟩ = some (.bool r2.bad) ∧ w'.cell? ⟨w1.heap.size, 0, none⟩ = some (.int .i64 hh.kind) ∧ w'.cell? ⟨w1.heap.size, 1, none⟩ = some (.int .i64 hh.client) ∧ w'.cell? ⟨w1.heap.size, 2, none⟩ = some (.int .i64 hh.call.kind) ∧ w'.cell? ⟨w1.heap.size, 3, none⟩ = some (.string (strOf hh.call.path)) ∧ w'.cell? ⟨w1.heap.size, 4, none⟩ = some (.string (strOf hh.call.to_)) ∧ w'.cell? ⟨w1.heap.size, 5, none⟩ = some (.int .i64 hh.call.at_) ∧ w'.cell? ⟨w1.heap.size, 6, none⟩ = some (.int .i64 hh.call.many) ∧ w'.cell? ⟨w1.heap.size, 7, none⟩ = some (.int .u64 hh.call.key) ∧ w'.cell? ⟨w1.heap.size, 8, none⟩ = some (.slice ah.A hh.call.bytes.length ah.ca) ∧ w'.cell? ⟨w1.heap.size, 9, none⟩ = some (.int .i64 hh.n) ∧ w'.cell? ⟨w1.heap.size, 10, none⟩ = some (.slice ah.P hh.picks.length ah.cp)) (first | with_reducible exact VD | with_reducible exact HK1.out _ _ | with_reducible exact HK2.out _ _ _ _ _ _ _ _ _ _ _ _ _) (fail)
  go_wp2
  refine bodyPost_ret (v := .tuple #[(.agg #[.slice s2.A r2.B.length s2.c, .bool r2.bad]), hapV hh ah]) (by simp [results, Try.results26, go_sem, F, cell_drew]) rfl ?_
  rw [HD.out]
  have hE := HE.out
  subst hE
  exact ⟨s2, ah, rfl, ⟨(L HL.out.rs.rb).drew, HL.out.rs.le, HL.out.rs.ml⟩, ⟨(L HL.out.rh.b).drew, (L HL.out.rh.p).drew⟩, (HX2.out.set13 (by omega) (by omega) _ _ _ _ _ _ _ _ _ _ _ _ _).drew⟩

set_option maxRecDepth 100000 in
set_option maxHeartbeats 2000000 in
theorem rdHap5 (r : Rdr) (s : SA) (w : World) (hr : RS Z w s r.B) (hk : (numR r 1).2 % 5 = 4) :
    Calls Try.prog 26 #[(.agg #[.slice s.A r.B.length s.c, .bool r.bad])] w (HapsR Z w (hapR r)) := by
  have hn1 := numR_lt r
  have hdef : hapR r = ((numR (numR r 1).1 1).1, ⟨5, 0, zeroCall, (numR (numR r 1).1 1).2 + 1, []⟩) := by unfold hapR; simp [hk]
  have HD := Lib.hid hdef
  clear hdef
  generalize hapR r = q at *
  have k1 := fun W (hW : RS Z W s r.B) => rdNumber1 r s W hW
  generalize numR r 1 = p1 at *
  obtain ⟨r1, n1⟩ := p1
  dsimp only at hn1 HD hk
  have hn2 := numR_lt r1
  have k2 := fun W s (hW : RS Z W s r1.B) => rdNumber1 r1 s W hW
  generalize numR r1 1 = p2 at *
  obtain ⟨r2, n2⟩ := p2
  dsimp only at hn2 HD
  have hk1 : (n1 : Int) % 5 = 4 := by omega
  have hx0 := ext3 w
  go_enter Try.func26, Try.ntmps26
  go_wp2_with (first
    | (go_at_call 56; (with_reducible refine (k1 _ (hr.ext (hx0 _ _ _))).mono ?_); rintro e w1 ⟨s1, rfl, hs1, hx1⟩; have H1 := HS.init' hx1 hs1 5; have hxw := (hx0 _ _ _).trans hx1; have hz1 := hx1.size; simp only [World.size_alloc] at hz1; have a0 := hx1.cell (p := ⟨w.heap.size, 0, none⟩) (v := (.slice s.A r.B.length s.c)) (by simp [go_sem]); have a1 := hx1.cell (p := ⟨w.heap.size, 1, none⟩) (v := .bool r.bad) (by simp [go_sem]); have af := fun o => (hx1.cells.2 w.heap.size o (by simp; omega)).trans (by simp [go_sem] : _ = false); have u0x1 := H1.c0; have u1x1 := H1.c1; have HX1 := Lib.hid (((hxw.setCell (p := ⟨w.heap.size, 0, none⟩) (Nat.le_refl _) (.slice s1.A r1.B.length s1.c)).setCell (p := ⟨w.heap.size, 1, none⟩) (Nat.le_refl _) (.bool r1.bad)).alloc (.cells #[.int .i64 5, .int .i64 0, .int .i64 0, .string ⟨#[]⟩, .string ⟨#[]⟩, .int .i64 0, .int .i64 0, .int .u64 0, .slice none 0 0, .int .i64 0, .slice none 0 0] 35)); clear k1 hx1 hxw)
    | (go_at_call 56; (with_reducible refine (k2 _ s1 H1.rs).mono ?_); rintro e w2 ⟨s2, rfl, hs2, hx2⟩; have G2 := H1.ext hx2; have R2 := HS.rd G2 r2 s2 hs2; have H2 := HS.n R2 ((n2 : Int) + 1); have HX2 := Lib.hid ((((HX1.out.trans hx2).setCell (p := ⟨w.heap.size, 0, none⟩) (Nat.le_refl _) (.slice s2.A r2.B.length s2.c)).setCell (p := ⟨w.heap.size, 1, none⟩) (Nat.le_refl _) (.bool r2.bad)).setCell (p := ⟨w1.heap.size, 9, none⟩) (by simp; omega) (.int .i64 ((n2 : Int) + 1))); clear a0 a1 af u0x1 u1x1 k2 HX1 hx2; have u0g := G2.c0; have u1g := G2.c1; have ufg := G2.fb; have ugg := G2.fh; have qb := R2.box; unfold HapBox at qb; have u0x2 := H2.c0; have u1x2 := H2.c1; clear G2 R2 H1))
  generalize hX : ((w2.setCell ⟨w.heap.size, 0, none⟩ (.slice s2.A r2.B.length s2.c)).setCell ⟨w.heap.size, 1, none⟩ (.bool r2.bad)).setCell ⟨w1.heap.size, 9, none⟩ (.int .i64 ((n2 : Int) + 1)) = X at *
  clear hX
  obtain ⟨hh, ah, H, HE⟩ : ∃ hh ah, HS Z w.heap.size (w.heap.size + 1) (w.heap.size + 1 + 1) w1.heap.size r2 s2 hh ah X ∧ Hid (hh = ⟨5, 0, zeroCall, (n2 : Int) + 1, []⟩) := ⟨_, _, H2, rfl⟩
  clear H2 qb u0g u1g ufg ugg u0x2 u1x2
  have VD : X.drew.cell? ⟨w.heap.size, 0, none⟩ = some (.slice s2.A r2.B.length s2.c) ∧ X.drew.cell? ⟨w.heap.size, 1, none⟩ = some (.bool r2.bad) ∧ HapBox X.drew w1.heap.size hh ah := ⟨(cell_drew _ _).trans H.c0, (cell_drew _ _).trans H.c1, H.box.drew⟩
  have K1 := fun u v => H.keep1 u v
  have K2 := fun u v x0 x1 x2 x3 x4 x5 x6 x7 x8 x9 x10 => H.keep2 u v x0 x1 x2 x3 x4 x5 x6 x7 x8 x9 x10
  unfold HapBox at VD K1 K2
  have HK1 := Lib.hid K1
  have HK2 := Lib.hid K2
  clear K1 K2
  have x0 := H.d0
  have x1 := H.d1
  have xr := H.res
  have xf := H.fc
  have xg := H.fd
  have m6 := H.n6
  have m6' := Ne.symm m6
  have F := H.fin (.slice s2.A r2.B.length s2.c) (.bool r2.bad) (.int .i64 hh.kind) (.int .i64 hh.client) (.int .i64 hh.call.kind) (.string (strOf hh.call.path)) (.string (strOf hh.call.to_)) (.int .i64 hh.call.at_) (.int .i64 hh.call.many) (.int .u64 hh.call.key) (.slice ah.A hh.call.bytes.length ah.ca) (.int .i64 hh.n) (.slice ah.P hh.picks.length ah.cp)
  have HL := Lib.hid H
  clear H
  have L := fun {A : Option Addr} {l : List UInt8} => HL.out.last (.slice s2.A r2.B.length s2.c) (.bool r2.bad) (.int .i64 hh.kind) (.int .i64 hh.client) (.int .i64 hh.call.kind) (.string (strOf hh.call.path)) (.string (strOf hh.call.to_)) (.int .i64 hh.call.at_) (.int .i64 hh.call.many) (.int .u64 hh.call.key) (.slice ah.A hh.call.bytes.length ah.ca) (.int .i64 hh.n) (.slice ah.P hh.picks.length ah.cp) (A := A) (l := l)
  simp only [HapBox, zeroCall, strOf] at xr
  go_region_held3 (fun w' => w'.cell? ⟨w.heap.size, 0, none⟩ = some (.slice s2.A r2.B.length s2.c) ∧ w'.cell? ⟨w.heap.size, 1, none⟩ = some (.bool r2.bad) ∧ w'.cell? ⟨w1.heap.size, 0, none⟩ = some (.int .i64 hh.kind) ∧ w'.cell? ⟨w1.heap.size, 1, none⟩ = some (.int .i64 hh.client) ∧ w'.cell? ⟨w1.heap.size, 2, none⟩ = some (.int .i64 hh.call.kind) ∧ w'.cell? ⟨w1.heap.size, 3, none⟩ = some (.string (strOf hh.call.path)) ∧ w'.cell? ⟨w1.heap.size, 4, none⟩ = some (.string (strOf hh.call.to_)) ∧ w'.cell? ⟨w1.heap.size, 5, none⟩ = some (.int .i64 hh.call.at_) ∧ w'.cell? ⟨w1.heap.size, 6, none⟩ = some (.int .i64 hh.call.many) ∧ w'.cell? ⟨w1.heap.size, 7, none⟩ = some (.int .u64 hh.call.key) ∧ w'.cell? ⟨w1.heap.size, 8, none⟩ = some (.slice ah.A hh.call.bytes.length ah.ca) ∧ w'.cell? ⟨w1.heap.size, 9, none⟩ = some (.int .i64 hh.n) ∧ w'.cell? ⟨w1.heap.size, 10, none⟩ = some (.slice ah.P hh.picks.length ah.cp)) (first | with_reducible exact VD | with_reducible exact HK1.out _ _ | with_reducible exact HK2.out _ _ _ _ _ _ _ _ _ _ _ _ _) (fail)
  go_wp2
  refine bodyPost_ret (v := .tuple #[(.agg #[.slice s2.A r2.B.length s2.c, .bool r2.bad]), hapV hh ah]) (by simp [results, Try.results26, go_sem, F, cell_drew]) rfl ?_
  rw [HD.out]
  have hE := HE.out
  subst hE
  exact ⟨s2, ah, rfl, ⟨(L HL.out.rs.rb).drew, HL.out.rs.le, HL.out.rs.ml⟩, ⟨(L HL.out.rh.b).drew, (L HL.out.rh.p).drew⟩, (HX2.out.set13 (by omega) (by omega) _ _ _ _ _ _ _ _ _ _ _ _ _).drew⟩

theorem rdHap (r : Rdr) (s : SA) (w : World) (hr : RS Z w s r.B) : Calls Try.prog 26 #[(.agg #[.slice s.A r.B.length s.c, .bool r.bad])] w (HapsR Z w (hapR r)) := by
  have : (numR r 1).2 % 5 < 5 := Nat.mod_lt _ (by omega)
  have hc : (numR r 1).2 % 5 = 0 ∨ (numR r 1).2 % 5 = 1 ∨ (numR r 1).2 % 5 = 2 ∨ (numR r 1).2 % 5 = 3 ∨ (numR r 1).2 % 5 = 4 := by omega
  rcases hc with h | h | h | h | h
  · exact rdHap1 r s w hr h
  · exact rdHap2 r s w hr h
  · exact rdHap3 r s w hr h
  · exact rdHap4 r s w hr h
  · exact rdHap5 r s w hr h
end Go.Proofs.Ytffepmoicpphfaa
