/- append onto a row of the call's own, from whatever source: nil, empty or not; strings. -/
import Derived.Test.YtffepmoicpphfaaOwn
import Derived.Lib.AppendStr
import Derived.Lib.ConvBytes
namespace Go.Proofs.Ytffepmoicpphfaa
set_option linter.unusedSimpArgs false
set_option linter.unusedVariables false
open Go.RowKit
variable {Z : Nat}

/-- the cells that lie at a slice's address -/
def RV (w : World) (A : Option Addr) (xs : List Value) : Prop :=
  xs ≠ [] → ∃ b o, A = some ⟨b, o, none⟩ ∧ ∀ (j : Nat) u, xs[j]? = some u → w.cell? ⟨b, o + j, none⟩ = some u
theorem RV.ext {w w' : World} {A xs} (h : RV w A xs) (hb : Ext w w') : RV w' A xs := fun hl => by
  obtain ⟨b, o, hA, hc⟩ := h hl
  exact ⟨b, o, hA, fun j u hj => hb.cell (hc j u hj)⟩
theorem RV.nil (w : World) (A : Option Addr) : RV w A [] := fun h => (h rfl).elim
def bvals (l : List UInt8) : List Value := l.map fun x => .int .u8 (x.toNat : Int)
theorem bvals_length (l : List UInt8) : (bvals l).length = l.length := by simp [bvals]
theorem bvals_append (l m : List UInt8) : bvals (l ++ m) = bvals l ++ bvals m := by simp [bvals]
theorem bvals_one (l : List UInt8) : ∀ u ∈ bvals l, u.oneCell' = true := by
  intro u hu
  simp only [bvals, List.mem_map] at hu
  obtain ⟨x, _, rfl⟩ := hu
  rfl
theorem RB.rv {w : World} {A l} (h : RB Z w A l) : RV w A (bvals l) := fun hl => by
  obtain ⟨b, o, hA, _, hc⟩ := h (by rintro rfl; exact hl rfl)
  refine ⟨b, o, hA, fun j u hj => ?_⟩
  simp only [bvals, List.getElem?_map, Option.map_eq_some_iff] at hj
  obtain ⟨x, hx, rfl⟩ := hj
  obtain ⟨hj, rfl⟩ := List.getElem?_eq_some_iff.1 hx
  exact hc j hj
theorem RV.rb {w : World} {A l} (h : RV w A (bvals l)) (ht : ∀ b o, A = some ⟨b, o, none⟩ → OldOr Z w b) : RB Z w A l := fun hl => by
  obtain ⟨b, o, hA, hc⟩ := h (by intro h; exact hl (by simpa [bvals] using h))
  exact ⟨b, o, hA, ht b o hA, fun j hj => hc j _ (by simp [bvals, hj])⟩
theorem addr_add0 (b o j : Nat) : (⟨b, o, none⟩ : Addr).add j = ⟨b, o + j, none⟩ := by unfold Addr.add; split <;> simp_all

/-- what an owned row's value is: an address, its cells -/
theorem own_rv {w : World} {base : Nat} {e : TypeId} {size n : Nat} {v : Value} {xs : List Value} (h : w.ownsRow base e size v n xs) :
    ∃ A c, v = .slice A n c ∧ n ≤ c ∧ RV w A xs := by
  rcases h.2 with ⟨rfl, rfl⟩ | ⟨g, cap, cur, rfl, hb, hg, hc, _⟩
  · have : xs = [] := List.eq_nil_of_length_eq_zero (by simpa using h.1)
    subst this
    exact ⟨none, 0, rfl, Nat.le_refl _, RV.nil _ _⟩
  · refine ⟨_, _, rfl, hc, fun _ => ⟨g, 0, rfl, fun j u hj => ?_⟩⟩
    have := h.cells (g := g) rfl j u hj
    rwa [addr_add0] at this

section
variable {P : Program} (w : World)
theorem run_app_nil (base : Nat) (t ty e : TypeId) (i : TypeInfo) (size : Nat) (ht : P.underlying t = some (.slice e)) (hi : P.info? e = some i)
    (v : Value) (n : Nat) (xs : List Value) (hown : w.ownsRow base e size v n xs) (c : Nat) : (Builtin.append_ #[t, t] ty #[v, .slice none 0 c]).run P w = .ok v w := by
  rcases hown.2 with ⟨rfl, rfl⟩ | ⟨g, cap, cur, rfl, _, _, hnc, _⟩
  · simp [Builtin.append_, run_underlying ht, sizeOf, typeInfo, hi, Builtin.lenOf, Builtin.firstCells]
  · simp [Builtin.append_, run_underlying ht, sizeOf, typeInfo, hi, Builtin.lenOf, Builtin.firstCells, hnc, storeCells]
theorem run_app (base : Nat) (t ty e : TypeId) (i : TypeInfo) (z : Value) (size bytes : Nat) (ht : P.underlying t = some (.slice e)) (hi : P.info? e = some i) (hz : i.zero = some z)
    (hsize : i.size = size) (hby : i.bytes = bytes) (hzs : z.cells.size = size) (hsz : 0 < size)
    (v : Value) (n : Nat) (xs : List Value) (hown : w.ownsRow base e size v n xs)
    (A : Option Addr) (m c : Nat) (news : List Value) (hl : news.length = m * size) (hr : RV w A news) (h1 : ∀ u ∈ news, u.oneCell' = true)
    (h63 : n + m ≤ maxLen) (hbytes : (n + m) * bytes ≤ 140737488355328) (hbase : base ≤ w.heap.size) :
    ∃ v' w', (Builtin.append_ #[t, t] ty #[v, .slice A m c]).run P w = .ok v' w' ∧ w'.ownsRow base e size v' (n + m) (xs ++ news) ∧ w.grownBy w' v.ownBlock ∧
      (v'.ownBlock = v.ownBlock ∨ v'.ownBlock = some w.heap.size) := by
  by_cases hn : news = []
  · subst hn
    have hm : m = 0 := by
      rcases Nat.eq_zero_or_pos m with h | h
      · exact h
      · have := Nat.mul_pos h hsz
        simp at hl; omega
    subst hm
    cases A with
    | none => exact ⟨v, w, run_app_nil w base t ty e i size ht hi v n xs hown c, by simpa using hown, World.grownBy.refl w _, .inl rfl⟩
    | some a =>
      obtain ⟨v', w', h2, h3, h4, _, h5⟩ := run_append_own_at (P := P) w base t ty e i z size bytes ht hi hz hsize hby hzs hsz v n xs hown a 0 c [] (by simp) (by simp) (by simp) h63 hbytes hbase
      exact ⟨v', w', h2, h3, h4, h5⟩
  · obtain ⟨b, o, rfl, hc⟩ := hr hn
    obtain ⟨v', w', h2, h3, h4, _, h5⟩ := run_append_own_at (P := P) w base t ty e i z size bytes ht hi hz hsize hby hzs hsz v n xs hown ⟨b, o, none⟩ m c news hl (fun j u hj => by rw [addr_add0]; exact hc j u hj) h1 h63 hbytes hbase
    exact ⟨v', w', h2, h3, h4, h5⟩

theorem wp_app {o : Oper} {a : Act} {K : Act → World → Prop} {Q : Exit → Act → World → Prop} (s x : Operand) (t : TypeId)
    (ho : o.op = .call { callee := .builtin .append, args := #[s, x], argTypes := #[t, t] })
    (base : Nat) (e : TypeId) (i : TypeInfo) (z : Value) (size bytes : Nat) (ht : P.underlying t = some (.slice e)) (hi : P.info? e = some i) (hz : i.zero = some z)
    (hsize : i.size = size) (hby : i.bytes = bytes) (hzs : z.cells.size = size) (hsz : 0 < size)
    (v : Value) (n : Nat) (xs : List Value) (hs : a.eval s = v) (hown : w.ownsRow base e size v n xs)
    (A : Option Addr) (m c : Nat) (news : List Value) (hx : a.eval x = .slice A m c) (hl : news.length = m * size) (hr : RV w A news) (h1 : ∀ u ∈ news, u.oneCell' = true)
    (h63 : n + m ≤ maxLen) (hbytes : (n + m) * bytes ≤ 140737488355328) (hbase : base ≤ w.heap.size)
    (h : ∀ v' w', w'.ownsRow base e size v' (n + m) (xs ++ news) → w.grownBy w' v.ownBlock → (v'.ownBlock = v.ownBlock ∨ v'.ownBlock = some w.heap.size) → K (a.put o.dst v') w') : o.wp P a w K Q := by
  obtain ⟨v', w', hrun, h2, h3, h4⟩ := run_app (P := P) w base t o.type e i z size bytes ht hi hz hsize hby hzs hsz v n xs hown A m c news hl hr h1 h63 hbytes hbase
  unfold Oper.wp execOp
  simp only [ho, resolve, invoke, builtin, Sem.run_bind, Sem.run_pure, Result.andThen_ok, List.map_toArray, List.map_cons, List.map_nil, hs, hx, hrun]
  exact h v' w' h2 h3 h4
theorem wpl_app {ops : Array Oper} {rest : List Oper} {o : Oper} {a : Act} {Q : Exit → Act → World → Prop} (hgd : o.guard = none) (s x : Operand) (t : TypeId)
    (ho : o.op = .call { callee := .builtin .append, args := #[s, x], argTypes := #[t, t] })
    (base : Nat) (e : TypeId) (i : TypeInfo) (z : Value) (size bytes : Nat) (ht : P.underlying t = some (.slice e)) (hi : P.info? e = some i) (hz : i.zero = some z)
    (hsize : i.size = size) (hby : i.bytes = bytes) (hzs : z.cells.size = size) (hsz : 0 < size)
    (v : Value) (n : Nat) (xs : List Value) (hs : a.eval s = v) (hown : w.ownsRow base e size v n xs)
    (A : Option Addr) (m c : Nat) (news : List Value) (hx : a.eval x = .slice A m c) (hl : news.length = m * size) (hr : RV w A news) (h1 : ∀ u ∈ news, u.oneCell' = true)
    (h63 : n + m ≤ maxLen) (hbytes : (n + m) * bytes ≤ 140737488355328) (hbase : base ≤ w.heap.size)
    (h : ∀ v' w', w'.ownsRow base e size v' (n + m) (xs ++ news) → w.grownBy w' v.ownBlock → (v'.ownBlock = v.ownBlock ∨ v'.ownBlock = some w.heap.size) → wpList P ops Q rest (a.put o.dst v') w') : wpList P ops Q (o :: rest) a w :=
  wpList_plain hgd fun _ hK => wp_app w s x t ho base e i z size bytes ht hi hz hsize hby hzs hsz v n xs hs hown A m c news hx hl hr h1 h63 hbytes hbase fun v' w' h2 h3 h4 => hK _ _ (h v' w' h2 h3 h4)
end
/-- at a step of a region that draws -/
theorem step_app {P : Program} {w : World} {ops : Array Oper} {o : Oper} {a : Act} {K : Act → World → Prop} {Q : Exit → Act → World → Prop} {E : Prop} (hgd : o.guard = none) (s x : Operand) (t : TypeId)
    (ho : o.op = .call { callee := .builtin .append, args := #[s, x], argTypes := #[t, t] })
    (base : Nat) (e : TypeId) (i : TypeInfo) (z : Value) (size bytes : Nat) (ht : P.underlying t = some (.slice e)) (hi : P.info? e = some i) (hz : i.zero = some z)
    (hsize : i.size = size) (hby : i.bytes = bytes) (hzs : z.cells.size = size) (hsz : 0 < size)
    (v : Value) (n : Nat) (xs : List Value) (hs : a.eval s = v) (hown : w.ownsRow base e size v n xs)
    (A : Option Addr) (m c : Nat) (news : List Value) (hx : a.eval x = .slice A m c) (hl : news.length = m * size) (hr : RV w A news) (h1 : ∀ u ∈ news, u.oneCell' = true)
    (h63 : n + m ≤ maxLen) (hbytes : (n + m) * bytes ≤ 140737488355328) (hbase : base ≤ w.heap.size)
    (h : ∀ v' w', w'.ownsRow base e size v' (n + m) (xs ++ news) → w.grownBy w' v.ownBlock → (v'.ownBlock = v.ownBlock ∨ v'.ownBlock = some w.heap.size) → K (a.put o.dst v') w') :
    if Region.wanted o (yielded ops a.tmps) = true then Oper.wp P o a w K Q else E := by
  have hw : Region.wanted o (yielded ops a.tmps) = true := by simp [Region.wanted, hgd]
  rw [if_pos hw]
  exact wp_app w s x t ho base e i z size bytes ht hi hz hsize hby hzs hsz v n xs hs hown A m c news hx hl hr h1 h63 hbytes hbase h
theorem Ext.conv {w w1 : World} (h : Ext w w1) (e : TypeId) (s : ByteArray) : Ext w (Lib.bytesWorld w1 e s) := by
  refine h.trans ⟨rfl, rfl, rfl, by rw [Lib.bytesWorld_size]; omega, fun k hk => Lib.bytesWorld_at_old w1 e s k hk⟩
theorem rb_conv (w : World) (l : List UInt8) : RB Z (Lib.bytesWorld w 5 (strOf l)) (some ⟨w.heap.size, 0, none⟩) l := fun _ =>
  ⟨w.heap.size, 0, rfl, .inr ⟨_, _, Lib.bytesWorld_at_new w 5 (strOf l)⟩, fun j hj => by
    have := Lib.bytesWorld_cell w 5 (strOf l) j (by simpa [strOf_size] using hj)
    simpa [strOf, List.getD, hj] using this⟩
/-- bytes of the call's own -/
def OB (w : World) (base : Nat) (v : Value) (l : List UInt8) : Prop := w.ownsRow base 5 1 v l.length (bvals l)
theorem OB.nil (w : World) (base : Nat) : OB w base (.slice none 0 0) [] := World.ownsRow_nil w base _ 1
theorem OB.rb {w : World} {base v l} (h : OB w base v l) : ∃ A c, v = .slice A l.length c ∧ l.length ≤ c ∧ c ≤ maxLen ∧ RB Z w A l := by
  have hh := h
  obtain ⟨A, c, hv, hc, hr⟩ := own_rv h
  have hm : c ≤ maxLen := by
    rcases hh.2 with ⟨e, _⟩ | ⟨g, cap, cur, e, _, _, _, hm, _⟩
    · rw [hv] at e; injection e with _ _ e; subst e; exact Nat.zero_le _
    · rw [hv] at e; injection e with _ _ e; subst e; exact hm
  refine ⟨A, c, hv, hc, hm, hr.rb fun b o hA => ?_⟩
  rcases hh.2 with ⟨e, _⟩ | ⟨g, cap, cur, e, _, hg, _⟩
  · rw [hv, hA] at e; injection e with e; cases e
  · rw [hv, hA] at e
    injection e with e
    injection e with e
    injection e with e
    subst e
    exact .inr ⟨_, _, hg⟩
theorem OB.alloc {w : World} {base v l} (h : OB w base v l) (o : Obj) : OB (w.alloc o) base v l := World.ownsRow.alloc h o
theorem OB.ext {w w' : World} {base v l} (h : OB w base v l) (hx : Ext w w') : OB w' base v l := by
  refine World.ownsRow.kept h (row := none) ⟨hx.os, hx.tape, hx.output, hx.size, fun k hk _ => hx.block k hk⟩ ?_
  cases v.ownBlock <;> simp
/-- the cells appended by 'append(out, x)': one byte in a block of its own -/
theorem rv_new (w : World) (x : Value) (t : TypeId) : RV (w.alloc (.cells #[x] t)) (some ⟨w.heap.size, 0, none⟩) [x] := fun _ => ⟨w.heap.size, 0, rfl, fun j u hj => by
  have := cell_one_new w x t j u hj
  rwa [addr_add0] at this⟩
theorem rb_new (w : World) (n : Int) (x : UInt8) (h : n = (x.toNat : Int)) : RB Z (w.alloc (.cells #[.int .u8 n] 5)) (some ⟨w.heap.size, 0, none⟩) [x] := by
  subst h
  refine RV.rb (rv_new w _ 5) fun b o hA => ?_
  injection hA with hA
  injection hA with hA
  subst hA
  exact .inr ⟨_, _, heap_alloc_new w _⟩
/-- a slice literal is a row of the call's own -/
theorem own_new (w : World) (base : Nat) (e : TypeId) (size n : Nat) (xs : Array Value) (hs : xs.size = n * size) (hn : n ≤ maxLen) (hb : base ≤ w.heap.size) :
    (w.alloc (.cells xs e)).ownsRow base e size (.slice (some ⟨w.heap.size, 0, none⟩) n n) n xs.toList :=
  ⟨by simpa using hs, .inr ⟨w.heap.size, n, xs, rfl, hb, heap_alloc_new w _, Nat.le_refl _, hn, hs, by rw [← hs]; exact List.take_of_length_le (by simp)⟩⟩
theorem ob_new (w : World) (base : Nat) (n : Int) (x : UInt8) (h : n = (x.toNat : Int)) (hb : base ≤ w.heap.size) : OB (w.alloc (.cells #[.int .u8 n] 5)) base (.slice (some ⟨w.heap.size, 0, none⟩) 1 1) [x] := by
  subst h
  exact own_new w base 5 1 1 #[_] rfl (by decide) hb
theorem rv_lit (w : World) (cs : Array Value) (t : TypeId) (g : Nat) (hg : w.heap.size = g) : RV (w.alloc (.cells cs t)) (some ⟨g, 0, none⟩) cs.toList := fun _ => ⟨g, 0, rfl, fun j u hj => by
  subst hg
  have := World.news_of_block (heap_alloc_new w (.cells cs t)) j u hj
  rwa [addr_add0] at this⟩
theorem rb_lit (w : World) (l : List UInt8) (cs : Array Value) (g : Nat) (hg : w.heap.size = g) (h : cs.toList = bvals l) : RB Z (w.alloc (.cells cs 5)) (some ⟨g, 0, none⟩) l := by
  have := rv_lit w cs 5 g hg
  rw [h] at this
  refine this.rb fun b o hA => ?_
  injection hA with hA
  injection hA with hA
  subst hA
  subst hg
  exact .inr ⟨_, _, heap_alloc_new w _⟩
theorem ob_lit (w : World) (base : Nat) (l : List UInt8) (cs : Array Value) (n g : Nat) (hg : w.heap.size = g) (h : cs.toList = bvals l) (hn : n = l.length) (hb : base ≤ g) (hm : n ≤ maxLen) : OB (w.alloc (.cells cs 5)) base (.slice (some ⟨g, 0, none⟩) n n) l := by
  subst hg
  subst hn
  have hs : cs.size = l.length * 1 := by rw [← Array.length_toList, h, bvals_length, Nat.mul_one]
  have := own_new w base 5 1 l.length cs hs hm hb
  rw [h] at this
  exact this
/-- append of bytes onto bytes of the call's own: what a walk gives. -/
theorem wpl_bytes {w : World} {ops : Array Oper} {rest : List Oper} {o : Oper} {a : Act} {Q : Exit → Act → World → Prop} (hgd : o.guard = none) (s x : Operand) (t : TypeId)
    (ho : o.op = .call { callee := .builtin .append, args := #[s, x], argTypes := #[t, t] })
    (base : Nat) (ht : Try.prog.underlying t = some (.slice 5)) (v : Value) (l : List UInt8) (hs : a.eval s = v) (hown : OB w base v l)
    (A : Option Addr) (m c : Nat) (news : List UInt8) (hx : a.eval x = .slice A m c) (hm : m = news.length) (hr : RB Z w A news) (hlen : l.length + news.length ≤ 140737488355328) (hbase : base ≤ w.heap.size)
    (h : ∀ v' w', OB w' base v' (l ++ news) → w.grownBy w' v.ownBlock → (v'.ownBlock = v.ownBlock ∨ v'.ownBlock = some w.heap.size) → wpList Try.prog ops Q rest (a.put o.dst v') w') : wpList Try.prog ops Q (o :: rest) a w := by
  subst hm
  have hinfo : (Try.prog.info? 5).map (fun i => (i.zero, i.size, i.bytes)) = some (some (.int .u8 0), 1, 1) := by kernel_rfl
  obtain ⟨i0, hi0, hz0, hz1, hz2⟩ := info_parts hinfo
  refine wpl_app w hgd s x t ho base 5 i0 _ 1 1 ht hi0 hz0 hz1 hz2 rfl (by decide) v l.length (bvals l) hs hown A news.length c (bvals news) hx (by simp [bvals]) hr.rv (bvals_one _) (by simp only [maxLen]; omega) (by omega) hbase ?_
  intro v' w' h1 h2 h3
  exact h v' w' (by unfold OB; rw [List.length_append, bvals_append]; exact h1) h2 h3
theorem step_bytes {w : World} {ops : Array Oper} {o : Oper} {a : Act} {K : Act → World → Prop} {Q : Exit → Act → World → Prop} {E : Prop} (hgd : o.guard = none) (s x : Operand) (t : TypeId)
    (ho : o.op = .call { callee := .builtin .append, args := #[s, x], argTypes := #[t, t] })
    (base : Nat) (ht : Try.prog.underlying t = some (.slice 5)) (v : Value) (l : List UInt8) (hs : a.eval s = v) (hown : OB w base v l)
    (A : Option Addr) (m c : Nat) (news : List UInt8) (hx : a.eval x = .slice A m c) (hm : m = news.length) (hr : RB Z w A news) (hlen : l.length + news.length ≤ 140737488355328) (hbase : base ≤ w.heap.size)
    (h : ∀ v' w', OB w' base v' (l ++ news) → w.grownBy w' v.ownBlock → (v'.ownBlock = v.ownBlock ∨ v'.ownBlock = some w.heap.size) → K (a.put o.dst v') w') :
    if Region.wanted o (yielded ops a.tmps) = true then Oper.wp Try.prog o a w K Q else E := by
  subst hm
  have hinfo : (Try.prog.info? 5).map (fun i => (i.zero, i.size, i.bytes)) = some (some (.int .u8 0), 1, 1) := by kernel_rfl
  obtain ⟨i0, hi0, hz0, hz1, hz2⟩ := info_parts hinfo
  refine step_app hgd s x t ho base 5 i0 _ 1 1 ht hi0 hz0 hz1 hz2 rfl (by decide) v l.length (bvals l) hs hown A news.length c (bvals news) hx (by simp [bvals]) hr.rv (bvals_one _) (by simp only [maxLen]; omega) (by omega) hbase ?_
  intro v' w' h1 h2 h3
  exact h v' w' (by unfold OB; rw [List.length_append, bvals_append]; exact h1) h2 h3
theorem rb_conv' (w : World) (l : List UInt8) (g : Nat) (hg : w.heap.size = g) : RB Z (Lib.bytesWorld w 5 (strOf l)) (some ⟨g, 0, none⟩) l := by subst hg; exact rb_conv w l
theorem conv_cell (w : World) (e : TypeId) (s : ByteArray) (b o : Nat) (h : b < w.heap.size) : (Lib.bytesWorld w e s).cell? ⟨b, o, none⟩ = w.cell? ⟨b, o, none⟩ := Lib.bytesWorld_old w e s ⟨b, o, none⟩ h
/-- bytes stay where a row of things of another kind grows -/
theorem append_tx {P : Program} (w : World) (t tx ty e e' : TypeId) (ht : P.underlying t = some (.slice e)) (htx : P.underlying tx = some (.slice e')) (v x : Value) :
    (Builtin.append_ #[t, tx] ty #[v, x]).run P w = (Builtin.append_ #[t, t] ty #[v, x]).run P w := by
  cases v with
  | slice a n c => simp [Builtin.append_, run_underlying ht, run_underlying htx]
  | _ => simp [Builtin.append_, run_underlying ht, run_underlying htx]
theorem at_string {P : Program} (w : World) (base : Nat) (t u ty e : TypeId) (i : TypeInfo) (ht : P.underlying t = some (.slice e)) (hu : P.underlying u = some .string) (hi : P.info? e = some i) (hz : i.zero = some (.int .u8 0))
    (hsize : i.size = 1) (hby : i.bytes = 1) (v : Value) (n : Nat) (xs : List Value) (hown : w.ownsRow base e 1 v n xs) (s : ByteArray) (hbytes : n + s.size ≤ 140737488355328)
    {v' : Value} {w' : World} (h : (Builtin.append_ #[t, u] ty #[v, .string s]).run P w = .ok v' w') : v'.ownBlock = v.ownBlock ∨ v'.ownBlock = some w.heap.size := by
  have hxl : xs.length = n := by simpa using hown.1
  rcases hown.2 with ⟨rfl, rfl⟩ | ⟨g, cap, cur, rfl, hbg, hg, hnc, hcm, hcs, htake⟩
  · by_cases hm : s.size = 0
    · have hf := Lib.run_firstCells_string (P := P) w 1 s
      rw [hm] at hf
      simp [Builtin.append_, run_underlying ht, run_underlying hu, sizeOf, typeInfo, hi, hsize, Builtin.lenOf, hm, hf] at h
      exact .inl (by rw [← h.1])
    · have hr := run_append_nil_string (P := P) w t u ty e i (.int .u8 0) ht hu hi hz s (by omega) (by omega) (by rw [hby]; omega)
      rw [hr] at h
      injection h with h _
      exact .inr (by rw [← h]; rfl)
  · by_cases hroom : n + s.size ≤ cap
    · have hcs' : cur.size = cap := by simpa using hcs
      have hr := Lib.run_append_room_string (P := P) w t u ty e i ht hu hi hsize g n cap cur hg s hroom (by omega)
      rw [hr] at h
      injection h with h _
      exact .inl (by rw [← h]; rfl)
    · have holds : ∀ j u, xs[j]? = some u → w.cell? ((⟨g, 0, none⟩ : Addr).add j) = some u := hown.cells (g := g) rfl
      have hr := Lib.run_append_grow_string (P := P) w t u ty e i (.int .u8 0) ht hu hi hz ⟨g, 0, none⟩ n cap xs (by rw [hsize]; simpa using hxl) holds s (by omega) (by omega) (by rw [hby]; exact growslice_fits (by omega) (by omega))
      rw [hr] at h
      injection h with h _
      exact .inr (by rw [← h]; rfl)
/-- append(bytes of the call's own, bytes of another slice type) -/
theorem wpl_bytesx {w : World} {ops : Array Oper} {rest : List Oper} {o : Oper} {a : Act} {Q : Exit → Act → World → Prop} (hgd : o.guard = none) (s x : Operand) (t tx e' : TypeId)
    (ho : o.op = .call { callee := .builtin .append, args := #[s, x], argTypes := #[t, tx] })
    (base : Nat) (ht : Try.prog.underlying t = some (.slice 5)) (htx : Try.prog.underlying tx = some (.slice e')) (v : Value) (l : List UInt8) (hs : a.eval s = v) (hown : OB w base v l)
    (A : Option Addr) (m c : Nat) (news : List UInt8) (hx : a.eval x = .slice A m c) (hm : m = news.length) (hr : RB Z w A news) (hlen : l.length + news.length ≤ 140737488355328) (hbase : base ≤ w.heap.size)
    (h : ∀ v' w', OB w' base v' (l ++ news) → w.grownBy w' v.ownBlock → (v'.ownBlock = v.ownBlock ∨ v'.ownBlock = some w.heap.size) → wpList Try.prog ops Q rest (a.put o.dst v') w') : wpList Try.prog ops Q (o :: rest) a w := by
  subst hm
  have hinfo : (Try.prog.info? 5).map (fun i => (i.zero, i.size, i.bytes)) = some (some (.int .u8 0), 1, 1) := by kernel_rfl
  obtain ⟨i0, hi0, hz0, hz1, hz2⟩ := info_parts hinfo
  obtain ⟨v', w', hrun, h2, h3, h4⟩ := run_app (P := Try.prog) w base t o.type 5 i0 _ 1 1 ht hi0 hz0 hz1 hz2 rfl (by decide) v l.length (bvals l) hown A news.length c (bvals news) (by simp [bvals]) hr.rv (bvals_one _) (by simp only [maxLen]; omega) (by omega) hbase
  refine wpList_plain hgd fun _ hK => ?_
  unfold Oper.wp execOp
  simp only [ho, resolve, invoke, builtin, Sem.run_bind, Sem.run_pure, Result.andThen_ok, List.map_toArray, List.map_cons, List.map_nil, hs, hx, append_tx w t tx o.type 5 e' ht htx, hrun]
  exact hK _ _ (h v' w' (by unfold OB; rw [List.length_append, bvals_append]; exact h2) h3 h4)
/-- append(bytes of the call's own, a string) -/
theorem wpl_str {w : World} {ops : Array Oper} {rest : List Oper} {o : Oper} {a : Act} {Q : Exit → Act → World → Prop} (hgd : o.guard = none) (s x : Operand) (t tx : TypeId)
    (ho : o.op = .call { callee := .builtin .append, args := #[s, x], argTypes := #[t, tx] })
    (base : Nat) (ht : Try.prog.underlying t = some (.slice 5)) (htx : Try.prog.underlying tx = some .string) (v : Value) (l : List UInt8) (hs : a.eval s = v) (hown : OB w base v l)
    (news : List UInt8) (hx : a.eval x = .string (strOf news)) (hlen : l.length + news.length ≤ 140737488355328) (hbase : base ≤ w.heap.size)
    (h : ∀ v' w', OB w' base v' (l ++ news) → w.grownBy w' v.ownBlock → (v'.ownBlock = v.ownBlock ∨ v'.ownBlock = some w.heap.size) → wpList Try.prog ops Q rest (a.put o.dst v') w') : wpList Try.prog ops Q (o :: rest) a w := by
  have hinfo : (Try.prog.info? 5).map (fun i => (i.zero, i.size, i.bytes)) = some (some (.int .u8 0), 1, 1) := by kernel_rfl
  obtain ⟨i0, hi0, hz0, hz1, hz2⟩ := info_parts hinfo
  obtain ⟨v', w', hrun, h2, h3, _⟩ := Lib.run_append_own_string (P := Try.prog) w base t tx o.type 5 i0 ht htx hi0 hz0 hz1 hz2 v l.length (bvals l) hown (strOf news) (by rw [strOf_size]; simp only [maxLen]; omega) (by rw [strOf_size]; omega) hbase
  have h4 := at_string (P := Try.prog) w base t tx o.type 5 i0 ht htx hi0 hz0 hz1 hz2 v l.length (bvals l) hown (strOf news) (by rw [strOf_size]; omega) hrun
  refine wpList_plain hgd fun _ hK => ?_
  unfold Oper.wp execOp
  simp only [ho, resolve, invoke, builtin, Sem.run_bind, Sem.run_pure, Result.andThen_ok, List.map_toArray, List.map_cons, List.map_nil, hs, hx, hrun]
  refine hK _ _ (h v' w' ?_ h3 h4)
  unfold OB
  rw [List.length_append, bvals_append]
  rw [strOf_size] at h2
  exact h2
theorem RB.grown {w w' : World} {A l} (h : RB Z w A l) {base : Nat} {e : TypeId} {size n : Nat} {v : Value} {xs : List Value} (hown : w.ownsRow base e size v n xs) (he : e ≠ 5) (hb : Z ≤ base) (hg : w.grownBy w' v.ownBlock) : RB Z w' A l := fun hl => by
  obtain ⟨b, o, hA, ht, hc⟩ := h hl
  have hne : some b ≠ v.ownBlock := by
    intro e'
    rcases ht with ht | ⟨cs, fr, ht⟩
    · have := (hown.lt b e'.symm).1
      omega
    · rcases hown.2 with ⟨rfl, _⟩ | ⟨g, cap, cur, rfl, _, hh, _⟩
      · simp [Value.ownBlock] at e'
      · have : b = g := by simpa [Value.ownBlock] using e'
        subst this
        rw [ht] at hh
        injection hh with hh
        injection hh with _ hh
        exact he hh.symm
  have hbl : b < w.heap.size := by
    have h0 : 0 < l.length := List.length_pos_iff.2 hl
    exact World.block_lt_of_cell? w _ (hc 0 h0)
  refine ⟨b, o, hA, ?_, fun j hj => hg.cell (hc j hj) hne⟩
  rcases ht with ht | ⟨cs, fr, ht⟩
  · exact .inl ht
  · exact .inr ⟨cs, fr, (hg.block b hbl hne).trans ht⟩
theorem ne_own {v v' : Value} {cb n : Nat} (hne : some cb ≠ v.ownBlock) (hlt : cb < n) (hat : v'.ownBlock = v.ownBlock ∨ v'.ownBlock = some n) : some cb ≠ v'.ownBlock := by
  rcases hat with e | e <;> rw [e]
  · exact hne
  · intro h; injection h with h; omega
/-- a row of the call's own that grows, behind what it began with -/
theorem Ext.own {w w1 w2 : World} {v : Value} (h : Ext w w1) (hg : w1.grownBy w2 v.ownBlock) {e size n xs} (hown : w1.ownsRow w.heap.size e size v n xs) : Ext w w2 :=
  h.grown hg (fun k hk => (hown.lt k hk).1)
end Go.Proofs.Ytffepmoicpphfaa
