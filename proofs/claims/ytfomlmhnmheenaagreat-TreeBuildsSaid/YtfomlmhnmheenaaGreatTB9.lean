/- part 9 of the proof of tree_builds. -/
import Derived.Test.YtfomlmhnmheenaaGreatTB8
import Derived.WalkKit
import Derived.WalkSpells
import Derived.WalkLawsBesides
import Derived.Lib.Hide
import Derived.Maps.AppendAt
import Derived.Maps.OwnOps
import Derived.Maps.Views
import Derived.Deep.AppendLies
import Derived.Deep.Draws
import Derived.Deep.RegionHeld3
import Derived.Deep.QuietTactic
import Derived.BigQuiet
import Derived.Deep.RegionWith
import Derived.Test.YtfomlmhnmheenaaGreatProg
import Derived.Laws.MakeOwn
import Derived.Laws.OwnMore
import Derived.RangeFuncNested
import Derived.RangeFuncBound
import Derived.RangeFuncCalls
import Derived.RangeFuncLeaves
import Derived.Shelf.RegionOpen
import Derived.OwnWalkIn
import Derived.TacticsInMore
import Derived.LoopNIn
import Derived.LoopIn
import Derived.Scope
import Derived.Shelf.Abstract
import Derived.OrdersHeld
import Derived.OrdersIn
import Derived.Maps.OwnIn
import Derived.RangeFuncOwn
import Derived.WalkArith
import Derived.Laws.CopyOwn
import Derived.Lib.AppendZerosOnto
import Derived.Lib.Overlaps
import Derived.Laws.Externs
import Derived.Shelf.RegionOpenPlain
import Derived.Lib.JoinLaws
import Derived.Lib.SliceRun
import Derived.Recover
import Derived.RecoverIn
import Derived.ProofKit
import Derived.OpenShut
import Derived.Deep.Slices
import Derived.Deep.SlicePairs
set_option linter.unusedSimpArgs false
set_option linter.unusedVariables false
namespace Go.Proofs.YtfomlmhnmheenaaGreat
open Go.RowKit
variable {Z:Nat}
def Ext (w w':World):Prop:=Below w.heap.size w w'
theorem Ext.refl (w:World):Ext w w:=Below.refl _ w
theorem Ext.trans {w w1 w2:World} (h:Ext w w1) (k:Ext w1 w2):Ext w w2:=Below.trans h (Below.mono k (Below.size h))
theorem Ext.drew {w w1:World} (h:Ext w w1):Ext w w1.drew:=Below.drew h
theorem Ext.alloc {w w1:World} (h:Ext w w1) (o:Obj):Ext w (w1.alloc o):=Below.alloc h (Below.size h) o
theorem Ext.setCell {w w1:World} (h:Ext w w1) {p:Addr} (hp:w.heap.size≤p.block) (u:Value):Ext w (w1.setCell p u):=Below.setCell h hp u
theorem Ext.grown {w w1 w2:World} {row:Option Nat} (h:Ext w w1) (hg:w1.grownBy w2 row) (hr:∀ k,row=some k→w.heap.size≤k):Ext w w2:=Below.grown h hg (Below.size h) hr
theorem Ext.size {w w1:World} (h:Ext w w1):w.heap.size≤w1.heap.size:=Below.size h
theorem Ext.below {w w1:World} (h:Ext w w1):Below w.heap.size w w1:=h
theorem Ext.of {w w1:World} (h:Below w.heap.size w w1):Ext w w1:=h
theorem Ext.cells {W w1:World} (hb:Ext W w1):(∀ b o,b < W.heap.size→w1.cell? ⟨b,o,none⟩=W.cell? ⟨b,o,none⟩)∧(∀ b o,b < W.heap.size→w1.frozen? ⟨b,o,none⟩=W.frozen? ⟨b,o,none⟩) :=
 ⟨fun b o h=>Below.cell hb (p:=⟨b,o,none⟩) h,fun b o h=>Below.frozen hb (p:=⟨b,o,none⟩) h⟩
theorem Ext.cell {w w1:World} (h:Ext w w1) {p:Addr} {v:Value} (hc:w.cell? p=some v):w1.cell? p=some v:=(Below.cell h (World.block_lt_of_cell? w _ hc)).trans hc
theorem Ext.block {w w1:World} (h:Ext w w1) {b:Nat} {o:Obj} (hc:w.heap[b]?=some o):w1.heap[b]?=some o:=(Below.block h b (Array.getElem?_eq_some_iff.1 hc).1).trans hc
theorem zud (w:World) (o1:Obj):Ext w (w.alloc o1):=(Ext.refl w).alloc o1
theorem Ext.grownBy {w w1:World} (h:Ext w w1) (row:Option Nat):w.grownBy w1 row:=⟨h.os,h.tape,h.output,h.size,fun k hk _=>Below.block h k hk⟩
theorem zeg (b o j:Nat):(⟨b,o,none⟩:Addr).add j=⟨b,o + j,none⟩:=by unfold Addr.add;split <;> simp_all
def Typ (w:World) (b:Nat) (t:TypeId):Prop:=∃ cs fr,w.heap[b]?=some (.cells cs t fr)
theorem Typ.lt {w:World} {b:Nat} {t:TypeId} (h:Typ w b t):b < w.heap.size:=by obtain ⟨_,_,h⟩:=h;exact (Array.getElem?_eq_some_iff.1 h).1
theorem Typ.ext {w w':World} {b:Nat} {t:TypeId} (h:Typ w b t) (hb:Ext w w'):Typ w' b t:=by obtain ⟨cs,fr,h⟩:=h;exact ⟨cs,fr,hb.block h⟩
theorem Typ.set {w:World} {b:Nat} {t:TypeId} (h:Typ w b t) (p:Addr) (v:Value):Typ (w.setCell p v) b t:=by
 obtain ⟨cs,fr,h⟩:=h
 by_cases e:p.block=b
 ·subst e
  exact ⟨_,_,by simp [World.setCell,Array.getElem?_modify,h];exact ⟨rfl,rfl⟩⟩
 ·exact ⟨cs,fr,(Below.heap_setCell w p v b (fun x=>e x.symm)).trans h⟩
theorem Typ.same {w w':World} {b:Nat} {t:TypeId} (h:Typ w b t) (he:w'.heap[b]?=w.heap[b]?):Typ w' b t:=by obtain ⟨cs,fr,h⟩:=h;exact ⟨cs,fr,he.trans h⟩
theorem Typ.one {w:World} {b:Nat} {t t':TypeId} (h:Typ w b t) (h':Typ w b t'):t=t':=by
 obtain ⟨cs,fr,h⟩:=h
 obtain ⟨cs',fr',h'⟩:=h'
 rw [h] at h'
 injection h' with h'
 injection h' with _ h'
theorem Typ.new (w:World) (cs:Array Value) (t:TypeId):Typ (w.alloc (.cells cs t)) w.heap.size t:=⟨_,_,heap_alloc_new w _⟩
theorem zs0 {w:World} {base:Nat} {e:TypeId} {size n:Nat} {v:Value} {xs:List Value} (h:w.ownsRow base e size v n xs) {b:Nat} (hb:v.ownBlock=some b):Typ w b e:=by
 rcases h.2 with ⟨rfl,_⟩ | ⟨g,cap,cur,rfl,_,hg,_⟩
 ·simp [Value.ownBlock] at hb
 ·simp [Value.ownBlock] at hb
  subst hb
  exact ⟨_,_,hg⟩
def zfU (t:TypeId) (Z:Nat) (w:World) (b:Nat):Prop:=b < Z∨Typ w b t
theorem zfU.same {w w':World} {b:Nat} {t:TypeId} (h:zfU t Z w b) (he:w'.heap[b]?=w.heap[b]?):zfU t Z w' b:=h.imp id fun h=>h.same he
theorem zfU.ne {w:World} {b X:Nat} {t t':TypeId} (h:zfU t Z w b) (hX:Z≤X) (ht:Typ w X t') (hne:t' ≠ t):b ≠ X:=by
 rintro rfl
 rcases h with h | h
 ·omega
 ·exact hne (ht.one h)
def RT (t:TypeId) (Z:Nat) (w:World) (A:Option Addr) (xs:List Value):Prop :=
 xs ≠ []→∃ b o,A=some ⟨b,o,none⟩∧zfU t Z w b∧∀ (j:Nat) u,xs[j]?=some u→w.cell? ⟨b,o + j,none⟩=some u
variable {t:TypeId}
theorem RT.nil (w:World) (A:Option Addr):RT t Z w A []:=fun h=>(h rfl).elim
theorem RT.move {w w':World} {A xs} (h:RT t Z w A xs) (hb:∀ b o,A=some ⟨b,o,none⟩→zfU t Z w b→b < w.heap.size→w'.heap[b]?=w.heap[b]?):RT t Z w' A xs:=fun hl=>by
 obtain ⟨b,o,hA,ht,hc⟩:=h hl
 have hlt:b < w.heap.size:=by
  obtain ⟨u,l,rfl⟩:=List.exists_cons_of_ne_nil hl
  exact World.block_lt_of_cell? w _ (hc 0 u rfl)
 have he:=hb b o hA ht hlt
 exact ⟨b,o,hA,ht.same he,fun j u hj=>(World.cell?_of_block (a:=⟨b,o + j,none⟩) he).trans (hc j u hj)⟩
theorem RT.ext {w w':World} {A xs} (h:RT t Z w A xs) (hb:Ext w w'):RT t Z w' A xs:=h.move fun b _ _ _ hl=>Below.block hb b hl
theorem RT.drew {w:World} {A xs} (h:RT t Z w A xs):RT t Z w.drew A xs:=h.ext (Ext.refl _).drew
theorem RT.alloc {w:World} {A xs} (h:RT t Z w A xs) (o:Obj):RT t Z (w.alloc o) A xs:=h.ext (zud _ _)
theorem RT.grown {w w':World} {A xs} (h:RT t Z w A xs) {base:Nat} {e:TypeId} {size n:Nat} {v:Value} {ys:List Value} (hown:w.ownsRow base e size v n ys) (he:e ≠ t) (hb:Z≤base) (hg:w.grownBy w' v.ownBlock):RT t Z w' A xs :=
 h.move fun b _ _ ht hl=>hg.block b hl fun e'=>ht.ne (Nat.le_trans hb (hown.lt b e'.symm).1) (zs0 hown e'.symm) he rfl
theorem RT.set {w:World} {A xs} (h:RT t Z w A xs) {p:Addr} {e:TypeId} (hp:Z≤p.block) (ht:Typ w p.block e) (he:e ≠ t) (v:Value):RT t Z (w.setCell p v) A xs :=
 h.move fun b _ _ ho _=>Below.heap_setCell w p v b (ho.ne hp ht he)
theorem RT.lt {w:World} {A xs} (h:RT t Z w A xs) {b o:Nat} (hA:A=some ⟨b,o,none⟩) (hl:xs ≠ []):b < w.heap.size:=by
 obtain ⟨b',o',hA',_,hc⟩:=h hl
 rw [hA] at hA'
 injection hA' with hA'
 injection hA' with hA' hA2
 subst hA'
 subst hA2
 obtain ⟨u,l,rfl⟩:=List.exists_cons_of_ne_nil hl
 exact World.block_lt_of_cell? w _ (hc 0 u rfl)
theorem RT.old {w:World} {A xs} (h:RT t Z w A xs) {t':TypeId}:RT t' w.heap.size w A xs:=fun hl=>by
 obtain ⟨b,o,hA,_,hc⟩:=h hl
 exact ⟨b,o,hA,.inl (h.lt hA hl),hc⟩
theorem RT.mono {w:World} {A xs} (h:RT t Z w A xs) {Z':Nat} (hz:Z≤Z'):RT t Z' w A xs:=fun hl=>by
 obtain ⟨b,o,hA,ht,hc⟩:=h hl
 exact ⟨b,o,hA,ht.imp (fun h=>Nat.lt_of_lt_of_le h hz) id,hc⟩
theorem RT.sub {w:World} {b o:Nat} {xs} (h:RT t Z w (some ⟨b,o,none⟩) xs) (k n:Nat):RT t Z w (some ⟨b,o + k,none⟩) ((xs.drop k).take n):=fun hl=>by
 have hne:xs ≠ []:=by rintro rfl;simp at hl
 obtain ⟨b',o',hA,ht,hc⟩:=h hne
 injection hA with hA
 injection hA with h1 h2
 subst h1;subst h2
 refine ⟨b,o + k,rfl,ht,fun j u hj=>?_⟩
 rw [List.getElem?_take] at hj
 split at hj
 ·rw [List.getElem?_drop] at hj
  have:=hc (k + j) u hj
  rwa [← Nat.add_assoc] at this
 ·cases hj
theorem RT.drop {w:World} {b o:Nat} {xs} (h:RT t Z w (some ⟨b,o,none⟩) xs) (k:Nat):RT t Z w (some ⟨b,o + k,none⟩) (xs.drop k):=by
 have:=h.sub k (xs.drop k).length
 rwa [List.take_length] at this
theorem RT.take {w:World} {A xs} (h:RT t Z w A xs) (n:Nat):RT t Z w A (xs.take n):=fun hl=>by
 have hne:xs ≠ []:=by rintro rfl;simp at hl
 obtain ⟨b,o,hA,ht,hc⟩:=h hne
 refine ⟨b,o,hA,ht,fun j u hj=>hc j u ?_⟩
 rw [List.getElem?_take] at hj
 split at hj
 ·exact hj
 ·cases hj
theorem ztk {w:World} {base:Nat} {e:TypeId} {size n:Nat} {v:Value} {xs:List Value} (h:w.ownsRow base e size v n xs) :
  ∃ A c,v=.slice A n c∧n≤c∧c≤maxLen∧RT e Z w A xs∧∀ b o,A=some ⟨b,o,none⟩→base≤b∧b < w.heap.size∧o=0∧v.ownBlock=some b:=by
 rcases h.2 with ⟨rfl,rfl⟩ | ⟨g,cap,cur,rfl,hb,hg,hc,hm,_⟩
 ·have:xs=[]:=List.eq_nil_of_length_eq_zero (by simpa using h.1)
  subst this
  exact ⟨none,0,rfl,Nat.le_refl _,Nat.zero_le _,RT.nil _ _,fun _ _ h=>by cases h⟩
 ·refine ⟨_,_,rfl,hc,hm,fun _=>⟨g,0,rfl,.inr ⟨_,_,hg⟩,fun j u hj=>?_⟩,fun b o e=>?_⟩
  ·have:=h.cells (g:=g) rfl j u hj
   rwa [zeg] at this
  ·injection e with e
   injection e with e1 e2
   subst e1;subst e2
   exact ⟨hb,(Array.getElem?_eq_some_iff.1 hg).1,rfl,rfl⟩
theorem zsB {w w':World} {base:Nat} {e:TypeId} {size n:Nat} {v:Value} {xs:List Value} (h:w.ownsRow base e size v n xs) (hx:Ext w w'):w'.ownsRow base e size v n xs:=by
 refine World.ownsRow.kept h (row:=none) (hx.grownBy none) ?_
 cases v.ownBlock <;> simp
theorem Ext.own {w w1 w2:World} {v:Value} (h:Ext w w1) (hg:w1.grownBy w2 v.ownBlock) {e size n xs} (hown:w1.ownsRow w.heap.size e size v n xs):Ext w w2 :=
 h.grown hg (fun k hk=>(hown.lt k hk).1)
section
variable {P:Program} (w:World)
end
structure Lay (α:Type) where
 t:TypeId
 size:Nat
 bytes:Nat
 enc:α→List Value
 len:∀ a,(enc a).length=size
 one:∀ a,∀ u∈enc a,u.oneCell'=true
 pos:0 < size
 z:Value
 info:(Tryz.prog.info? t).map (fun i=>(i.zero,i.size,i.bytes))=some (some z,size,bytes)
 zs:z.cells.size=size
variable {α:Type} {L:Lay α}
def Lay.all (L:Lay α) (l:List α):List Value:=l.flatMap L.enc
theorem Lay.all_nil (L:Lay α):L.all []=[]:=rfl
theorem Lay.all_cons (L:Lay α) (a:α) (l:List α):L.all (a::l)=L.enc a++L.all l:=rfl
theorem Lay.all_one (L:Lay α) (a:α):L.all [a]=L.enc a:=by simp [Lay.all]
theorem Lay.all_len (L:Lay α) (l:List α):(L.all l).length=l.length * L.size:=by
 induction l with
 | nil=>simp [Lay.all]
 | cons a l ih=>rw [L.all_cons,List.length_append,L.len,ih,List.length_cons,Nat.succ_mul,Nat.add_comm]
theorem Lay.all_oneCell (L:Lay α) (l:List α):∀ u∈L.all l,u.oneCell'=true:=by
 intro u hu
 obtain ⟨a,_,ha⟩:=List.mem_flatMap.1 hu
 exact L.one a u ha
theorem Lay.all_at (L:Lay α):∀ (l:List α) (j:Nat) (a:α),l[j]?=some a→∀ i u,(L.enc a)[i]?=some u→(L.all l)[j * L.size + i]?=some u
 | [],_,_,h,_,_,_=>by simp at h
 | x::l,0,a,h,i,u,hu=>by
  simp at h
  subst h
  have hi:i < (L.enc x).length:=(List.getElem?_eq_some_iff.1 hu).1
  rw [L.all_cons,Nat.zero_mul,Nat.zero_add,List.getElem?_append_left hi]
  exact hu
 | x::l,j + 1,a,h,i,u,hu=>by
  have hi:i < L.size:=by rw [← L.len a];exact (List.getElem?_eq_some_iff.1 hu).1
  rw [L.all_cons,List.getElem?_append_right (by rw [L.len];rw [Nat.succ_mul];omega),L.len]
  have:=L.all_at l j a (by simpa using h) i u hu
  rw [show (j + 1) * L.size + i - L.size=j * L.size + i by rw [Nat.succ_mul];omega]
  exact this
theorem Lay.all_drop (L:Lay α):∀ (k:Nat) (l:List α),L.all (l.drop k)=(L.all l).drop (k * L.size)
 | 0,l=>by simp
 | k + 1,[]=>by simp [Lay.all]
 | k + 1,x::l=>by
  have e:(k + 1) * L.size=L.size + k * L.size:=by rw [Nat.succ_mul,Nat.add_comm]
  rw [List.drop_succ_cons,L.all_drop k l,L.all_cons,e,← List.drop_drop]
  have e2:List.drop L.size (L.enc x++L.all l)=L.all l:=by
   have:=List.drop_left (l₁:=L.enc x) (l₂:=L.all l)
   rwa [L.len] at this
  rw [e2]
theorem Lay.all_take (L:Lay α):∀ (k:Nat) (l:List α),L.all (l.take k)=(L.all l).take (k * L.size)
 | 0,l=>by simp [Lay.all]
 | k + 1,[]=>by simp [Lay.all]
 | k + 1,x::l=>by
  have e:(k + 1) * L.size=(L.enc x).length + k * L.size:=by rw [Nat.succ_mul,Nat.add_comm,L.len]
  rw [List.take_succ_cons,L.all_cons,L.all_take k l,L.all_cons,e,List.take_length_add_append]
theorem Lay.all_ne (L:Lay α) {l:List α} (h:l ≠ []):L.all l ≠ []:=by
 intro e
 have:=L.all_len l
 rw [e] at this
 have h0:=Nat.mul_pos (List.length_pos_iff.2 h) L.pos
 rw [List.length_nil] at this
 omega
def RL (L:Lay α) (Z:Nat) (w:World) (A:Option Addr) (l:List α):Prop:=RT L.t Z w A (L.all l)
theorem RL.nil (w:World) (A:Option Addr):RL L Z w A []:=RT.nil w A
theorem RL.ext {w w':World} {A} {l:List α} (h:RL L Z w A l) (hb:Ext w w'):RL L Z w' A l:=RT.ext h hb
theorem RL.alloc {w:World} {A} {l:List α} (h:RL L Z w A l) (o:Obj):RL L Z (w.alloc o) A l:=RT.alloc h o
theorem RL.drew {w:World} {A} {l:List α} (h:RL L Z w A l):RL L Z w.drew A l:=RT.drew h
theorem RL.old {w:World} {A} {l:List α} (h:RL L Z w A l):RL L w.heap.size w A l:=RT.old h
theorem RL.at {w:World} {A} {l:List α} (h:RL L Z w A l) (hl:l ≠ []):∃ b o,A=some ⟨b,o,none⟩∧b < w.heap.size∧zfU L.t Z w b∧∀ j a,l[j]?=some a→∀ i u,(L.enc a)[i]?=some u→w.cell? ⟨b,o + (j * L.size + i),none⟩=some u:=by
 obtain ⟨b,o,hA,ht,hc⟩:=h (L.all_ne hl)
 exact ⟨b,o,hA,RT.lt h hA (L.all_ne hl),ht,fun j a hj i u hu=>hc _ u (L.all_at l j a hj i u hu)⟩
theorem RL.sub {w:World} {b o:Nat} {l:List α} (h:RL L Z w (some ⟨b,o,none⟩) l) (k n:Nat):RL L Z w (some ⟨b,o + k * L.size,none⟩) ((l.drop k).take n):=by
 unfold RL
 rw [L.all_take,L.all_drop]
 exact RT.sub h (k * L.size) (n * L.size)
theorem RL.take {w:World} {A} {l:List α} (h:RL L Z w A l) (n:Nat):RL L Z w A (l.take n):=by
 unfold RL
 rw [L.all_take]
 exact RT.take h _
def OL (L:Lay α) (w:World) (base:Nat) (v:Value) (l:List α):Prop:=w.ownsRow base L.t L.size v l.length (L.all l)
theorem OL.nil (L:Lay α) (w:World) (base:Nat):OL L w base (.slice none 0 0) []:=World.ownsRow_nil w base _ _
theorem OL.rl {w:World} {base v} {l:List α} (h:OL L w base v l):∃ A c,v=.slice A l.length c∧l.length≤c∧c≤maxLen∧RL L Z w A l∧∀ b o,A=some ⟨b,o,none⟩→base≤b∧b < w.heap.size∧o=0∧v.ownBlock=some b:=ztk h
theorem OL.alloc {w:World} {base v} {l:List α} (h:OL L w base v l) (o:Obj):OL L (w.alloc o) base v l:=World.ownsRow.alloc h o
theorem OL.ext {w w':World} {base v} {l:List α} (h:OL L w base v l) (hx:Ext w w'):OL L w' base v l:=zsB h hx
abbrev Pr:=Nat × Nat
structure zo where
 level:Nat
 sib:Nat
 low:Nat
 left:Nat
 way:Nat
 pairs:List Pr
structure NA where
 n:zo
 A:Option Addr
 c:Nat
def LU:Lay Nat:=⟨24,1,8,fun x=>[.int .u64 x],fun _=>rfl,fun _ u hu=>(by simp only [List.mem_cons,List.not_mem_nil,or_false] at hu;subst hu;rfl),by decide,.int .u64 0,by kernel_rfl,rfl⟩
def LI:Lay Int:=⟨3,1,8,fun x=>[.int .i64 x],fun _=>rfl,fun _ u hu=>(by simp only [List.mem_cons,List.not_mem_nil,or_false] at hu;subst hu;rfl),by decide,.int .i64 0,by kernel_rfl,rfl⟩
def LP:Lay Pr:=⟨66,2,16,fun x=>[.int .u64 x.1,.int .u64 x.2],fun _=>rfl,fun _ u hu=>(by simp only [List.mem_cons,List.not_mem_nil,or_false] at hu;rcases hu with rfl | rfl <;> rfl),by decide,.agg #[.int .u64 0,.int .u64 0],by kernel_rfl,rfl⟩
def LT:Lay (Int × Nat):=⟨83,2,16,fun x=>[.int .i64 x.1,.int .u64 x.2],fun _=>rfl,fun _ u hu=>(by simp only [List.mem_cons,List.not_mem_nil,or_false] at hu;rcases hu with rfl | rfl <;> rfl),by decide,.agg #[.int .i64 0,.int .u64 0],by kernel_rfl,rfl⟩
def LN:Lay NA:=⟨124,6,64,fun x=>[.int .i64 x.n.level,.int .i64 x.n.sib,.int .u64 x.n.low,.int .u64 x.n.left,.int .i64 x.n.way,.slice x.A x.n.pairs.length x.c],fun _=>rfl,
 fun _ u hu=>(by simp only [List.mem_cons,List.not_mem_nil,or_false] at hu;rcases hu with rfl | rfl | rfl | rfl | rfl | rfl <;> rfl),by decide,.agg #[.int .i64 0,.int .i64 0,.int .u64 0,.int .u64 0,.int .i64 0,.slice none 0 0],by kernel_rfl,rfl⟩
theorem RL.u64 {w:World} {A} {l:List Nat} (h:RL LU Z w A l) (hl:l ≠ []):∃ b o,A=some ⟨b,o,none⟩∧b < w.heap.size∧zfU 24 Z w b∧∀ j (hj:j < l.length),w.cell? ⟨b,o + j,none⟩=some (.int .u64 (l[j]:Nat)):=by
 obtain ⟨b,o,hA,hb,ht,hc⟩:=h.at hl
 refine ⟨b,o,hA,hb,ht,fun j hj=>?_⟩
 have:=hc j l[j] (List.getElem?_eq_getElem hj) 0 (.int .u64 (l[j]:Nat)) rfl
 simpa [LU] using this
theorem RL.int {w:World} {A} {l:List Int} (h:RL LI Z w A l) (hl:l ≠ []):∃ b o,A=some ⟨b,o,none⟩∧b < w.heap.size∧zfU 3 Z w b∧∀ j (hj:j < l.length),w.cell? ⟨b,o + j,none⟩=some (.int .i64 l[j]):=by
 obtain ⟨b,o,hA,hb,ht,hc⟩:=h.at hl
 refine ⟨b,o,hA,hb,ht,fun j hj=>?_⟩
 have:=hc j l[j] (List.getElem?_eq_getElem hj) 0 (.int .i64 l[j]) rfl
 simpa [LI] using this
theorem RL.put {w:World} {A} {l:List (Int × Nat)} (h:RL LT Z w A l) (hl:l ≠ []):∃ b o,A=some ⟨b,o,none⟩∧b < w.heap.size∧zfU 83 Z w b∧∀ j (hj:j < l.length),w.cell? ⟨b,o + j * 2,none⟩=some (.int .i64 l[j].1)∧w.cell? ⟨b,o + j * 2 + 1,none⟩=some (.int .u64 (l[j].2:Nat)):=by
 obtain ⟨b,o,hA,hb,ht,hc⟩:=h.at hl
 refine ⟨b,o,hA,hb,ht,fun j hj=>⟨?_,?_⟩⟩
 ·have:=hc j l[j] (List.getElem?_eq_getElem hj) 0 (.int .i64 l[j].1) rfl
  simpa [LT] using this
 ·have:=hc j l[j] (List.getElem?_eq_getElem hj) 1 (.int .u64 (l[j].2:Nat)) rfl
  simpa [LT,Nat.add_assoc] using this
def zke (w:World) (b o:Nat) (x:NA):Prop :=
 w.cell? ⟨b,o,none⟩=some (.int .i64 x.n.level)∧w.cell? ⟨b,o + 1,none⟩=some (.int .i64 x.n.sib)∧w.cell? ⟨b,o + 2,none⟩=some (.int .u64 x.n.low)∧w.cell? ⟨b,o + 3,none⟩=some (.int .u64 x.n.left) ∧
 w.cell? ⟨b,o + 4,none⟩=some (.int .i64 x.n.way)∧w.cell? ⟨b,o + 5,none⟩=some (.slice x.A x.n.pairs.length x.c)
theorem zke.ext {w w':World} {b o:Nat} {x:NA} (h:zke w b o x) (hx:Ext w w'):zke w' b o x:=⟨hx.cell h.1,hx.cell h.2.1,hx.cell h.2.2.1,hx.cell h.2.2.2.1,hx.cell h.2.2.2.2.1,hx.cell h.2.2.2.2.2⟩
theorem RL.node {w:World} {A} {l:List NA} (h:RL LN Z w A l) (hl:l ≠ []):∃ b o,A=some ⟨b,o,none⟩∧b < w.heap.size∧zfU 124 Z w b∧∀ j (hj:j < l.length),zke w b (o + j * 6) l[j]:=by
 obtain ⟨b,o,hA,hb,ht,hc⟩:=h.at hl
 refine ⟨b,o,hA,hb,ht,fun j hj=>?_⟩
 have hh:=hc j l[j] (List.getElem?_eq_getElem hj)
 refine ⟨?_,?_,?_,?_,?_,?_⟩
 ·simpa [LN] using hh 0 _ rfl
 ·simpa [LN,Nat.add_assoc] using hh 1 _ rfl
 ·simpa [LN,Nat.add_assoc] using hh 2 _ rfl
 ·simpa [LN,Nat.add_assoc] using hh 3 _ rfl
 ·simpa [LN,Nat.add_assoc] using hh 4 _ rfl
 ·simpa [LN,Nat.add_assoc] using hh 5 _ rfl
structure RN (Z:Nat) (w:World) (A:Option Addr) (l:List NA):Prop where
 row:RL LN Z w A l
 sub:∀ x∈l,RL LP Z w x.A x.n.pairs
theorem RN.ext {w w':World} {A} {l:List NA} (h:RN Z w A l) (hx:Ext w w'):RN Z w' A l:=⟨h.row.ext hx,fun x hm=>(h.sub x hm).ext hx⟩
theorem Ext.frozen {w w1:World} (h:Ext w w1) {b o:Nat} {u:Bool} (hc:w.frozen? ⟨b,o,none⟩=u) (hb:b < w.heap.size):w1.frozen? ⟨b,o,none⟩=u:=(h.cells.2 b o hb).trans hc

end Go.Proofs.YtfomlmhnmheenaaGreat
namespace Go.Proofs.YtfomlmhnmheenaaGreat
open Go.RowKit
def zbI (left n:Nat):Bool:=decide (left ≠ 0) && decide (n % 2=0) && decide (2≤n / 2) && decide (n / 2≤28)
def zbm:List Nat→Nat
 | _::p::l=>if p=0 then 0 else zbm l + 1
 | _=>0
def zb5:Nat→List Nat→List Pr
 | prev,k::p::l=>if p=0 then [] else if p=prev then zb5 p l else (k,p)::zb5 p l
 | _,_=>[]
def zbs (left:Nat) (l:List Nat):List Pr:=if zbI left l.length=true then zb5 left l else []
def zag:List Pr→Bool
 | a::b::l=>decide (a.1 < b.1) && zag (b::l)
 | _=>true
def zb6:List Nat→List Pr→Bool
 | seen,p::l=>!seen.contains p.2 && zb6 (p.2::seen) l
 | _,[]=>true
def zd0:List Nat→Bool
 | _::p::l=>decide (p=0) && zd0 l
 | _=>true
def zda (left:Nat) (l:List Nat):Bool :=
 zag (zbs left l) && zb6 [left] (zbs left l) && decide ((zbs left l).length=zbm l) && decide ((zbs left l).length < l.length / 2) && zd0 (l.drop (2 * (zbs left l).length))
def zcK (left:Nat) (l:List Nat):Nat:=if zbI left l.length=true then if zda left l=true then 0 else 190 else 2
theorem zmf (l:List Nat) (j:Nat) (h:2 * j + 1 < l.length):l.drop (2 * j)=l[2 * j]::l[2 * j + 1]::l.drop (2 * (j + 1)):=by
 rw [List.drop_eq_getElem_cons (i:=2 * j) (by omega),List.drop_eq_getElem_cons (i:=2 * j + 1) h]
 rfl
theorem ziP:∀ l:List Nat,2 * zbm l≤l.length
 | []=>by simp [zbm]
 | [_]=>by simp [zbm]
 | _::p::l=>by
  have:=ziP l
  rw [zbm]
  split <;> simp <;> omega
end Go.Proofs.YtfomlmhnmheenaaGreat
namespace Go.Proofs.YtfomlmhnmheenaaGreat
open Go.RowKit
variable {Z:Nat}
set_option maxRecDepth 100000
@[reducible] def zfr (A:Option Addr) (n c left:Nat):Value:=.agg #[.slice A n c,.int .u64 (left:Nat)]
def zdq (left:Nat) (l:List Nat) (j:Nat):Nat:=if j=0 then left else l.getD (2 * (j - 1) + 1) 0
end Go.Proofs.YtfomlmhnmheenaaGreat
namespace Go.Proofs.YtfomlmhnmheenaaGreat
open Go.RowKit
attribute [local go_sem] Oper.semAt_some
structure zdc (n0:Nat) (t:TypeId) (A B:World):Prop where
 size:A.heap.size≤B.heap.size
 low:∀ b,b < n0→b < A.heap.size→B.heap[b]?=A.heap[b]?
 own:∀ b,Typ A b t→B.heap[b]?=A.heap[b]?
theorem zdc.refl (n0:Nat) (t:TypeId) (A:World):zdc n0 t A A:=⟨Nat.le_refl _,fun _ _ _=>rfl,fun _ _=>rfl⟩
theorem zdc.trans {n0:Nat} {t:TypeId} {A B C:World} (h:zdc n0 t A B) (k:zdc n0 t B C):zdc n0 t A C :=
 ⟨Nat.le_trans h.size k.size,fun b h1 h2=>(k.low b h1 (Nat.lt_of_lt_of_le h2 h.size)).trans (h.low b h1 h2),fun b hb=>(k.own b (hb.same (h.own b hb))).trans (h.own b hb)⟩
theorem zdc.ext {n0:Nat} {t:TypeId} {A B:World} (h:Ext A B):zdc n0 t A B:=⟨h.size,fun b _ hb=>Below.block h b hb,fun b hb=>Below.block h b hb.lt⟩
theorem zdc.cell {n0:Nat} {t:TypeId} {A B:World} (h:zdc n0 t A B) {b o:Nat} {u:Value} (hb:b < n0∨Typ A b t) (hc:A.cell? ⟨b,o,none⟩=some u):B.cell? ⟨b,o,none⟩=some u :=
 (World.cell?_of_block (a:=⟨b,o,none⟩) (hb.elim (fun hb=>h.low b hb (World.block_lt_of_cell? A ⟨b,o,none⟩ hc)) (h.own b))).trans hc
theorem zdc.rl {α:Type} {L:Lay α} {n0:Nat} {t:TypeId} {A B:World} (h:zdc n0 t A B) {S:Option Addr} {l:List α} {Z:Nat} (hr:RL L Z A S l) (hb:∀ b o,S=some ⟨b,o,none⟩→l ≠ []→b < n0):RL L Z B S l:=by
 by_cases hl:l=[]
 ·subst hl;exact RL.nil _ _
 ·exact RT.move hr fun b o hA _ hlt=>h.low b (hb b o hA hl) hlt
def zgs (n0:Nat) (t:TypeId) (I:World→Prop) (Ix:Code→World→Prop) (A:World):Exit→Act→World→Prop
 | .normal,_,B=>KeepsOthers A B∧zdc n0 t A B∧I B
 | .ret,_,B=>KeepsOthers A B∧zdc n0 t A B∧Ix .ret B
 | .exit id,_,B=>KeepsOthers A B∧zdc n0 t A B∧Ix (.exit id) B
 | _,_,_=>False
theorem Typ.cells {w:World} {b:Nat} {t:TypeId} (h:Typ w b t):∃ o,w.heap[b]?=some o∧o.isCells=true:=by
 obtain ⟨cs,fr,h⟩:=h
 exact ⟨_,h,rfl⟩
theorem RT.putObj {t:TypeId} {Z:Nat} {w:World} {A:Option Addr} {l:List Value} {L:Nat} {o:Obj} (h:RT t Z w A l) (hL:w.heap[L]?=some o) (ho:o.isCells=false) (hZ:Z≤L) (o':Obj):RT t Z (w.putObj L o') A l :=
 h.move fun b _ _ hb _=>World.putObj_heap_other (by
  rintro rfl
  rcases hb with hb | ⟨cs,fr,hb⟩
  ·omega
  ·rw [hL] at hb;injection hb with hb;subst hb;cases ho)
section
variable {n:Nat} {P:Program} {ops:Array Oper} {Q:Exit→Act→World→Prop} {md:Region.Mode} {S:World→Prop}
end
end Go.Proofs.YtfomlmhnmheenaaGreat
namespace Go.Proofs.YtfomlmhnmheenaaGreat
open Go.RowKit
variable {Z:Nat}
set_option maxRecDepth 100000
attribute [local go_sem] Oper.semAt_some
def zbN:Nat→Nat→List Nat→List (Nat × Pr)
 | j,prev,k::p::l=>if p=0 then [] else if p=prev then zbN (j + 1) p l else (j,(k,p))::zbN (j + 1) p l
 | _,_,_=>[]
theorem zcM:∀ (l:List Nat) (j prev:Nat),(zbN j prev l).map Prod.snd=zb5 prev l
 | [],_,_=>rfl
 | [_],_,_=>rfl
 | k::p::l,j,prev=>by
  rw [zbN,zb5]
  split
  ·rfl
  ·split
   ·exact zcM l _ _
   ·rw [List.map_cons,zcM l]
def zck (left:Nat) (l:List Nat):List (Nat × Pr):=if zbI left l.length=true then zbN 0 left l else []
theorem zeZ (left:Nat) (l:List Nat):(zck left l).map Prod.snd=zbs left l:=by
 unfold zck zbs
 split
 ·exact zcM _ _ _
 ·rfl
end Go.Proofs.YtfomlmhnmheenaaGreat
namespace Go.Proofs.YtfomlmhnmheenaaGreat
open Go.RowKit
variable {Z:Nat} {α:Type}
variable {L:Lay α} {th:TypeId} {w:World} {bx base:Nat} {l:List α}
end Go.Proofs.YtfomlmhnmheenaaGreat
namespace Go.Proofs.YtfomlmhnmheenaaGreat
open Go.RowKit
variable {Z:Nat}
set_option maxRecDepth 100000
attribute [local go_sem] Oper.semAt_some
theorem zkz:∀ (l:List Nat) (j p:Nat),2 * (zbN j p l).length≤l.length
 | [],_,_=>by simp [zbN]
 | [_],_,_=>by simp [zbN]
 | k::q::l,j,p=>by
  rw [zbN]
  have h1:=zkz l (j + 1) q
  split
  ·simp
  ·split <;> simp <;> omega
theorem zqd (left:Nat) (l:List Nat):(zck left l).length≤28:=by
 unfold zck
 split
 ·rename_i h
  simp only [zbI,Bool.and_eq_true,decide_eq_true_eq] at h
  have:=zkz l 0 left
  omega
 ·simp
theorem zej (left:Nat) (l:List Nat):(zbs left l).length≤28:=by
 rw [← zeZ,List.length_map];exact zqd _ _

end Go.Proofs.YtfomlmhnmheenaaGreat
namespace Go.Proofs.YtfomlmhnmheenaaGreat
open Go.RowKit Go.Maps
variable {Z:Nat}
structure zt2 where
 t:TypeId
 k:TypeId
 q:IntKind
 hk:Tryz.prog.underlying k=some (.int q)
 ht:Tryz.prog.underlying t=some (.map k 3)
variable {M:zt2} {B:Nat} {S:List Int}
theorem RT.map {t:TypeId} {w w':World} {A xs} (h:RT t Z w A xs) {o:Obj} (ho:w.heap[B]?=some o) (hc:o.isCells=false) (hB:Z≤B) (hg:w.grownBy w' (some B)):RT t Z w' A xs :=
 h.move fun b _ _ ht hl=>hg.block b hl fun e=>by
  injection e with e
  subst e
  rcases ht with ht | ⟨cs,fr,ht⟩
  ·omega
  ·rw [ho] at ht;injection ht with ht;subst ht;cases hc
end Go.Proofs.YtfomlmhnmheenaaGreat
namespace Go.Proofs.YtfomlmhnmheenaaGreat
open Go.RowKit
variable {Z:Nat}
set_option maxRecDepth 100000
def zpm (l:List Nat):List Int:=l.map fun (x:Nat)=>(x:Int)
theorem OL.read {α:Type} {L:Lay α} {w:World} {base n c:Nat} {A:Option Addr} {l:List α} (h:OL L w base (.slice A n c) l):n=l.length∧RL L Z w A l∧∀ b o,A=some ⟨b,o,none⟩→base≤b∧b < w.heap.size:=by
 obtain ⟨A',c',hv,_,_,hr,hb⟩:=OL.rl (Z:=Z) h
 injection hv with h1 h2 h3
 subst h1;subst h2;subst h3
 exact ⟨rfl,hr,fun b o e=>⟨(hb b o e).1,(hb b o e).2.1⟩⟩
theorem zqC {P:Program} (w:World) (dT sT ty elem:TypeId) (size g o dLen dCap:Nat) (a:Addr) (sLen sCap:Nat) (cur:List Value) (t:TypeId) (cs:List Value)
  (hu:P.underlying dT=some (.slice elem)) (hs:(P.info? elem).map (·.size)=some size)
  (hg:w.heap[g]?=some (.cells cur.toArray t (0,0))) (hn:cs.length=Nat.min sLen dLen * size)
  (hsrc:∀ j v,cs[j]?=some v→w.cell? (a.add j)=some v) (hfit:o + cs.length≤cur.length) (h1:∀ v∈cs,v.oneCell'=true) :
  (Builtin.copy_ #[dT,sT] ty #[.slice (some ⟨g,o,none⟩) dLen dCap,.slice (some a) sLen sCap]).run P w =
   .ok (goInt (Nat.min sLen dLen:Nat)) (w.setRow g (splice cur o cs).toArray):=by
 have hl:=run_loadCells_list (P:=P) w a cs hsrc
 have hst:=run_storeCells_at P g o t cs 0 cur.toArray w hg (by simpa using hfit) h1
 cases hq:P.info? elem with
 | none=>simp [hq] at hs
 | some i =>
  have hi:i.size=size:=by simpa [hq] using hs
  simp only [Nat.add_zero,List.append_assoc] at hst
  simp [Builtin.copy_,run_underlying hu,Builtin.lenOf,Builtin.firstCells,sizeOf,typeInfo,hq,hi,← hn,hl,hst,splice]
theorem znY {α:Type} (R X S:List α) (hX:X.length=2):splice (splice R 0 X) 2 S=X++(S++R.drop (2 + S.length)):=by
 have e1:splice R 0 X=X++R.drop 2:=by unfold splice;simp [hX]
 rw [e1]
 unfold splice
 rw [List.take_append_of_le_length (by omega),List.take_of_length_le (by omega),List.drop_append,List.drop_eq_nil_of_le (by omega),List.drop_drop,List.nil_append]
 congr 3;omega
theorem zm5 {α:Type} (C X S:List α) (hX:X.length=2) (hC:2≤C.length):splice (splice C 2 S) 0 X=X++(S++C.drop (2 + S.length)):=by
 unfold splice
 rw [List.take_zero,List.nil_append,Nat.zero_add,hX,List.drop_append,List.drop_eq_nil_of_le (by rw [List.length_take];omega),List.length_take,List.nil_append,show 2 - min 2 C.length=0 by omega,List.drop_zero]
theorem zie (w:World) (g:Nat) (cs:Array Value):w.grownBy (w.setRow g cs) (some g) :=
 ⟨rfl,rfl,rfl,by simp [World.setRow],fun k _ hk=>setRow_other w g k cs (fun e=>hk (by rw [e]))⟩
theorem zcv {w:World} {ops:Array Oper} {rest:List Oper} {o:Oper} {a:Act} {Q:Exit→Act→World→Prop} (hgd:o.guard=none) (d s:Operand) (dT sT:TypeId)
  (ho:o.op=.call { callee:=.builtin .copy,args:=#[d,s],argTypes:=#[dT,sT] }) (elem:TypeId) (hu:Tryz.prog.underlying dT=some (.slice elem)) (size:Nat) (hsz:(Tryz.prog.info? elem).map (·.size)=some size)
  (g off dLen dCap:Nat) (ad:Addr) (sLen sCap:Nat) (hd:a.eval d=.slice (some ⟨g,off,none⟩) dLen dCap) (hs:a.eval s=.slice (some ad) sLen sCap)
  (cur:List Value) (t:TypeId) (hg:w.heap[g]?=some (.cells cur.toArray t (0,0))) (cs:List Value) (hn:cs.length=Nat.min sLen dLen * size)
  (hsrc:∀ j v,cs[j]?=some v→w.cell? (ad.add j)=some v) (hfit:off + cs.length≤cur.length) (h1:∀ v∈cs,v.oneCell'=true)
  (h:∀ w',Hid (w'.heap[g]?=some (.cells (splice cur off cs).toArray t (0,0)))→Hid (w.grownBy w' (some g))→wpList Tryz.prog ops Q rest (a.put o.dst (goInt (Nat.min sLen dLen:Nat))) w'):wpList Tryz.prog ops Q (o::rest) a w:=by
 refine wpList_plain hgd fun K hK=>?_
 have hrun:=zqC (P:=Tryz.prog) w dT sT o.type elem size g off dLen dCap ad sLen sCap cur t cs hu hsz hg hn hsrc hfit h1
 unfold Oper.wp
 simp [execOp,ho,resolve,invoke,builtin,hd,hs,hrun,Result.andThen]
 exact hK _ _ (h _ (Lib.hid (setRow_heap w g _ _ t _ hg)) (Lib.hid (zie _ _ _)))
theorem zoP {w:World} {ops:Array Oper} {o:Oper} {a:Act} {K:Act→World→Prop} {Q:Exit→Act→World→Prop} {E:Prop} (hgd:o.guard=none) (d s:Operand) (dT sT:TypeId)
  (ho:o.op=.call { callee:=.builtin .copy,args:=#[d,s],argTypes:=#[dT,sT] }) (elem:TypeId) (hu:Tryz.prog.underlying dT=some (.slice elem)) (size:Nat) (hsz:(Tryz.prog.info? elem).map (·.size)=some size)
  (g off dLen dCap:Nat) (ad:Addr) (sLen sCap:Nat) (hd:a.eval d=.slice (some ⟨g,off,none⟩) dLen dCap) (hs:a.eval s=.slice (some ad) sLen sCap)
  (cur:List Value) (t:TypeId) (hg:w.heap[g]?=some (.cells cur.toArray t (0,0))) (cs:List Value) (hn:cs.length=Nat.min sLen dLen * size)
  (hsrc:∀ j v,cs[j]?=some v→w.cell? (ad.add j)=some v) (hfit:off + cs.length≤cur.length) (h1:∀ v∈cs,v.oneCell'=true)
  (h:∀ w',Hid (w'.heap[g]?=some (.cells (splice cur off cs).toArray t (0,0)))→Hid (w.grownBy w' (some g))→K (a.put o.dst (goInt (Nat.min sLen dLen:Nat))) w') :
  if Region.wanted o (yielded ops a.tmps)=true then Oper.wp Tryz.prog o a w K Q else E:=by
 have hw:Region.wanted o (yielded ops a.tmps)=true:=by simp [Region.wanted,hgd]
 rw [if_pos hw]
 have hrun:=zqC (P:=Tryz.prog) w dT sT o.type elem size g off dLen dCap ad sLen sCap cur t cs hu hsz hg hn hsrc hfit h1
 unfold Oper.wp
 simp [execOp,ho,resolve,invoke,builtin,hd,hs,hrun,Result.andThen]
 exact h _ (Lib.hid (setRow_heap w g _ _ t _ hg)) (Lib.hid (zie _ _ _))
theorem zbw:(Tryz.prog.info? 83).map (·.size)=some 2:=by
 obtain ⟨i0,hi0,hz0,hz1,hz2⟩:=info_parts LT.info
 rw [show 83=LT.t from rfl,hi0]
 simp [hz1,LT]
set_option maxHeartbeats 4000000 in
theorem zqH (l:List (Int × Nat)) (x:Int × Nat) (base g c vb vc:Nat) (w:World) (hl:l ≠ []) (hn:l.length≤100000) (hroom:¬ l.length + 1≤c)
  (h:OL LT w base (.slice (some ⟨g,0,none⟩) l.length c) l) (hv:RL LT Z w (some ⟨vb,0,none⟩) [x]) (hb:base≤w.heap.size) :
  Calls Tryz.prog 127 #[.slice (some ⟨g,0,none⟩) l.length c,.int .i64 0,.slice (some ⟨vb,0,none⟩) 1 vc] w fun e w'=>∃ v,e=.returned v∧OL LT w' base v (x::l)∧Below base w w'∧(∃ g' c',v=.slice (some ⟨g',0,none⟩) (l.length + 1) c'∧(g'=g∨w.heap.size≤g'))∧∀ k,k ≠ g→k < w.heap.size→w'.heap[k]?=w.heap[k]?:=by
 obtain ⟨A,c',hv',hlc,hcm,hrl,hbd⟩:=OL.rl (Z:=0) h
 injection hv' with e1 e2 e3
 subst e1;subst e3
 have hgb:=hbd g 0 rfl
 have hpos:0 < l.length:=List.length_pos_iff.2 hl
 obtain rfl:c=l.length:=by omega
 obtain ⟨bb,oo,hbo,hvw,_,hvc⟩:=RL.at hv (by simp)
 injection hbo with hbo;injection hbo with hbo1 hbo2;subst hbo1;subst hbo2
 obtain ⟨i0,hi0,hz0,hzs,hzb⟩:=info_parts LT.info
 have hxl:(LT.all l).length=l.length * 2:=LT.all_len l
 have hxv:∀ j u,(LT.all [x])[j]?=some u→w.cell? ((⟨vb,0,none⟩:Addr).add j)=some u:=fun j u hj=>by
  rw [zeg]
  have:=hvc 0 x rfl j u (by rwa [LT.all_one] at hj)
  simpa using this
 have hxs:∀ j u,(LT.all l)[j]?=some u→w.cell? ((⟨g,0,none⟩:Addr).add j)=some u:=World.ownsRow.cells h rfl
 have h1s:∀ u∈LT.all l,u.oneCell'=true:=LT.all_oneCell l
 have h1x:∀ u∈LT.all [x],u.oneCell'=true:=LT.all_oneCell [x]
 have hxl1:(LT.all [x]).length=2:=LT.all_len [x]
 have hold:(Builtin.firstCells i0.size 0 (.slice (some ⟨g,0,none⟩) 0 l.length)).run Tryz.prog w.drew=.ok ([]:List Value).toArray w.drew :=
  run_firstCells_some w.drew _ 0 ⟨g,0,none⟩ 0 l.length [] (by simp) (fun j v hj=>by simp at hj)
 have hrz:∀ ty,(Builtin.append_ #[30,3] ty #[.slice (some ⟨g,0,none⟩) 0 l.length,.int .i64 ((l.length:Int) + 1)]).run Tryz.prog w =
   .ok (.slice (some ⟨w.heap.size,0,none⟩) (l.length + 1) (grownCap w (l.length + 1) l.length 83)) (w.drew.alloc (.cells (([]:List Value).toArray++Builtin.zeroCells LT.z.cells (l.length + 1)++Builtin.zeroCells LT.z.cells (grownCap w (l.length + 1) l.length 83 - (l.length + 1))) 83)):=fun ty=>by
  have h:=Lib.run_append_grow_zeros w 30 3 ty 83 i0 _ .i64 .i64 Tryz.underlying30 Tryz.underlying3 hi0 hz0 (some ⟨g,0,none⟩) 0 l.length [] hold (l.length + 1) (by omega) (by rw [hzs];exact LT.pos) (by omega) (by omega) (by rw [hzb];simp only [LT];omega) (by rw [hzb];exact growslice_fits (by omega) (by simp only [LT];omega))
  simp only [Nat.zero_add] at h
  exact h
 have hGn:=grownCap_ge w (l.length + 1) l.length 83
 have hGm:=grownCap_le_maxLen w (l.length + 1) l.length 83 (by simp only [maxLen];omega)
 obtain ⟨G,hG⟩:∃ G,G=grownCap w (l.length + 1) l.length 83:=⟨_,rfl⟩
 rw [← hG] at hrz hGn hGm
 obtain ⟨ROW,hROW⟩:∃ ROW:List Value,ROW.toArray=([]:List Value).toArray++Builtin.zeroCells LT.z.cells (l.length + 1)++Builtin.zeroCells LT.z.cells (G - (l.length + 1)):=⟨_,Array.toArray_toList⟩
 rw [← hROW] at hrz
 have hRl:ROW.length=G * 2:=by
  have:=congrArg Array.size hROW
  simp only [List.size_toArray,Array.size_append,size_zeroCells,List.length_nil] at this
  rw [show LT.z.cells.size=2 from rfl] at this
  omega
 have hg1:(w.drew.alloc (.cells ROW.toArray 83)).heap[w.heap.size]?=some (.cells ROW.toArray 83 (0,0)):=heap_alloc_new w.drew _
 have hx1:Ext w (w.drew.alloc (.cells ROW.toArray 83)):=((Ext.refl w).drew).alloc _
 obtain ⟨W1,hW1⟩:∃ W1,W1=w.drew.alloc (.cells ROW.toArray 83):=⟨_,rfl⟩
 rw [← hW1] at hrz hg1 hx1
 clear hW1 hROW hG hold
 have hsz1:w.heap.size + 1≤W1.heap.size:=(Array.getElem?_eq_some_iff.1 hg1).1
 have hg63:G≤9223372036854775807:=by simp only [maxLen] at hGm;omega
 have k1:¬ ((l.length:Int)=0):=by omega
 have k1':¬ ((0:Int)=(l.length:Int)):=by omega
 have k2:¬ G=0:=by omega
 have k3:¬ G=1:=by omega
 have k4:¬ l.length=0:=by omega
 have k5:(l.length:Int) < (l.length:Int) + 1:=by omega
 have k6:(0:Int)≤(l.length:Int):=by omega
 have mixed:Tryz.prog.follows Departure.mixedOrders=true:=by kernel_rfl
 have k7:IntKind.i64.wrap 1=1:=by rw [IntKind.wrap_i64];omega
 have k8:(1:Int)≤(l.length:Int) + 1:=by omega
 have k9:(1:Int).toNat=1:=rfl
 have HG1:=Lib.hid hg1
 have HXV:=Lib.hid hxv
 have HXS:=Lib.hid hxs
 have H1S:=Lib.hid h1s
 have H1X:=Lib.hid h1x
 have HL:=Lib.hid hxl
 have HL1:=Lib.hid hxl1
 have HRL:=Lib.hid hRl
 have HX1:=Lib.hid hx1
 have HO:=Lib.hid h
 have HGB:=Lib.hid (And.intro hgb.1 hgb.2.1)
 clear hg1 hxv hxs h1s h1x hxl hxl1 hRl hx1 hrl hbd hgb hvc e2 hlc hcm h hv hi0 hz0 hzs hzb
 go_enter Tryz.func127,Tryz.ntmps127
 iterate 137 go_step
 refine Lib.wpList_append_run _ rfl _ _ _ _ rfl _ _ rfl rfl _ _ (hrz _) ?_
 iterate 20 go_step
 refine zcv rfl _ _ 30 30 rfl 83 Tryz.underlying30 2 zbw w.heap.size 0 _ _ ⟨vb,0,none⟩ 1 _ rfl rfl ROW 83 HG1.out (LT.all [x]) (by show _=min _ _ * 2;rw [HL1.out];omega) (fun j u hj=>HX1.out.cell (HXV.out j u hj)) (by rw [HL1.out,HRL.out];omega) H1X.out ?_
 intro w2 hg2 hy2
 iterate 4 go_step
 have hc2:∀ j u,(LT.all l)[j]?=some u→(w2.drew).cell? ((⟨g,0,none⟩:Addr).add j)=some u:=fun j u hj=>by
  have h1:=HX1.out.cell (HXS.out j u hj)
  rw [zeg] at h1 ⊢
  exact hy2.out.cell h1 (fun e=>by injection e with e;have:=HGB.out.2;dsimp only at e;omega)
 have hl2:(splice ROW 0 (LT.all [x])).length=G * 2:=by rw [length_splice _ _ _ (by rw [HL1.out,HRL.out];omega)];exact HRL.out
 have HC2:=Lib.hid hc2
 have HL2:=Lib.hid hl2
 clear hc2 hl2
 go_region_law_o (refine zoP rfl _ _ 30 30 rfl 83 Tryz.underlying30 2 zbw w.heap.size 2 l.length (G - 1) ⟨g,0,none⟩ l.length l.length (by simp [Act.eval,Act.put]) (by simp [Act.eval,Act.put]) (splice ROW 0 (LT.all [x])) 83 hg2.out (LT.all l) (by show _=min _ _ * 2;rw [HL.out];omega) HC2.out (by rw [HL.out,HL2.out];omega) H1S.out ?_;intro w4 hg4 hy4)
 go_wp2
 go_ret
 refine ⟨_,rfl,⟨?_,.inr ⟨w.heap.size,G,_,rfl,by omega,hg4.out,hGn,hGm,?_,?_⟩⟩,?_,?_,?_⟩
 ·rw [LT.all_len]
 ·rw [List.size_toArray,length_splice _ _ _ (by rw [HL.out,HL2.out];omega),HL2.out];rfl
 ·have e1:splice (splice ROW 0 (LT.all [x])) 2 (LT.all l)=LT.all (x::l)++ROW.drop (2 + (LT.all l).length):=by
   rw [znY _ _ _ HL1.out,LT.all_cons x l,← LT.all_one x,List.append_assoc]
  rw [show (splice (splice ROW 0 (LT.all [x])) 2 (LT.all l)).toArray.toList=splice (splice ROW 0 (LT.all [x])) 2 (LT.all l) from rfl,e1]
  rw [List.take_append_of_le_length (by rw [LT.all_len];simp [LT]),List.take_of_length_le (by rw [LT.all_len];simp [LT])]
 ·have b1:Below base w W1:=HX1.out.below.mono hb
  have b2:=(b1.grown hy2.out (by have:=HX1.out.size;omega) (fun k e=>by injection e with e;omega)).drew
  exact b2.grown hy4.out (by have:=hy2.out.size;have:=HX1.out.size;show base≤w2.heap.size;omega) (fun k e=>by injection e with e;omega)
 ·have hle:=Nat.le_refl w.heap.size
  first | exact ⟨_,_,rfl,.inr hle⟩ | exact ⟨_,⟨_,rfl⟩,.inr hle⟩
 ·have b1:Below w.heap.size w W1:=HX1.out.below
  have b2:=(b1.grown hy2.out (by have:=HX1.out.size;omega) (fun k e=>by injection e with e;omega)).drew
  have b3:=b2.grown hy4.out (by have:=hy2.out.size;have:=HX1.out.size;show w.heap.size≤w2.heap.size;omega) (fun k e=>by injection e with e;omega)
  exact fun k _ hk=>b3.block k hk
set_option maxHeartbeats 4000000 in
theorem zo6 (l:List (Int × Nat)) (x:Int × Nat) (base g c vb vc:Nat) (w:World) (hl:l ≠ []) (hn:l.length≤100000) (hroom:l.length + 1≤c)
  (h:OL LT w base (.slice (some ⟨g,0,none⟩) l.length c) l) (hv:RL LT Z w (some ⟨vb,0,none⟩) [x]) (hvg:vb ≠ g) (tA:TypeId) (kA:Nat) (hsa:w.shape? vb=some (tA,kA)) (hfa:w.frozen? ⟨vb,0,none⟩=false) (hfe:w.frozen? ⟨vb,kA,none⟩=false) (hb:base≤w.heap.size) :
  Calls Tryz.prog 127 #[.slice (some ⟨g,0,none⟩) l.length c,.int .i64 0,.slice (some ⟨vb,0,none⟩) 1 vc] w fun e w'=>∃ v,e=.returned v∧OL LT w' base v (x::l)∧Below base w w'∧(∃ g' c',v=.slice (some ⟨g',0,none⟩) (l.length + 1) c'∧(g'=g∨w.heap.size≤g'))∧∀ k,k ≠ g→k < w.heap.size→w'.heap[k]?=w.heap[k]?:=by
 rcases h with ⟨hxl,⟨h1,_⟩ | ⟨g',cap,cur,h1,hbg,hg,hnc,hcm,hcs,htk⟩⟩
 ·cases h1
 injection h1 with e1 _ e3
 injection e1 with e1;injection e1 with e1
 subst e1;subst e3
 have hpos:0 < l.length:=List.length_pos_iff.2 hl
 obtain ⟨bb,oo,hbo,hvw,_,hvc⟩:=RL.at hv (by simp)
 injection hbo with hbo;injection hbo with hbo1 hbo2;subst hbo1;subst hbo2
 have hxl:(LT.all l).length=l.length * 2:=LT.all_len l
 have hxv:∀ j u,(LT.all [x])[j]?=some u→w.cell? ((⟨vb,0,none⟩:Addr).add j)=some u:=fun j u hj=>by
  rw [zeg]
  have:=hvc 0 x rfl j u (by rwa [LT.all_one] at hj)
  simpa using this
 have hcl:cur.toList.length=c * 2:=by rw [Array.length_toList];exact hcs
 have hxs:∀ j u,(LT.all l)[j]?=some u→w.cell? ((⟨g,0,none⟩:Addr).add j)=some u:=fun j u hj=>by
  rw [zeg,Nat.zero_add]
  rw [← htk,List.getElem?_take] at hj
  split at hj
  ·simp only [World.cell?,hg]
   rw [← Array.getElem?_toList]
   exact hj
  ·cases hj
 have h1s:∀ u∈LT.all l,u.oneCell'=true:=LT.all_oneCell l
 have h1x:∀ u∈LT.all [x],u.oneCell'=true:=LT.all_oneCell [x]
 have hxl1:(LT.all [x]).length=2:=LT.all_len [x]
 have hsb:w.shape? g=some (83,cur.size):=by show _=some (LT.t,_);simp [World.shape?,hg]
 have hov:∀ lb cb,(callFunc 179 #[.slice (some ⟨vb,0,none⟩) 1 vc,.slice (some ⟨g,2,none⟩) lb cb]).run Tryz.prog w=.ok (.value (.bool false)) w:=fun lb cb=>by
  obtain ⟨i0,hi0,hz0,hzs,hzb⟩:=info_parts LT.info
  rw [run_callFunc_extern Tryz.func179 (by kernel_rfl) (by kernel_rfl) (by kernel_rfl) (e:=Extern.SlicesOverlaps.overlaps #[30,30] #[4]) (by kernel_rfl),
   Lib.run_overlaps_apart w 30 4 83 Tryz.underlying30 2 (fun w=>by kernel_rfl) ⟨vb,0,none⟩ ⟨g,2,none⟩ 1 vc lb cb hvg tA 83 kA cur.size hsa hsb (by rw [hcs];simp only [LT];omega) hfa hfe]
  rfl
 have mixed:Tryz.prog.follows Departure.mixedOrders=true:=by kernel_rfl
 have hc63:c≤9223372036854775807:=by simp only [maxLen] at hcm;omega
 have k1:¬ ((l.length:Int)=0):=by omega
 have k1':¬ ((0:Int)=(l.length:Int)):=by omega
 have k2:¬ c=0:=by omega
 have k3:¬ c=1:=by omega
 have k5:¬ (c:Int) < (l.length:Int) + 1:=by omega
 have k6:(0:Int)≤(l.length:Int):=by omega
 have k7:IntKind.i64.wrap 1=1:=by rw [IntKind.wrap_i64];omega
 have k8:(1:Int)≤(l.length:Int) + 1:=by omega
 have k9:(1:Int).toNat=1:=rfl
 have k10:(0:Int)≤(l.length:Int) + 1:=by omega
 have HG1:Hid (w.drew.heap[g]?=some (.cells cur.toList.toArray 83 (0,0))):=Lib.hid hg
 have HXV:=Lib.hid hxv
 have HXS:Hid (∀ j u,(LT.all l)[j]?=some u→w.drew.cell? ((⟨g,0,none⟩:Addr).add j)=some u):=Lib.hid hxs
 have H1S:=Lib.hid h1s
 have H1X:=Lib.hid h1x
 have HL:=Lib.hid hxl
 have HL1:=Lib.hid hxl1
 have HCL:=Lib.hid hcl
 have HBG:=Lib.hid hbg
 have HCM:=Lib.hid hcm
 clear hxv hxs h1s h1x hxl hxl1 hcl hbg hcm hv hvc hg hcs htk hsb hsa hfa hfe hnc
 generalize cur.toList=CUR at *
 go_enter Tryz.func127,Tryz.ntmps127
 go_wp2_with (simp only [hov])
 go_region_law_o (refine zoP rfl _ _ 30 30 rfl 83 Tryz.underlying30 2 zbw g 2 l.length (c - 1) ⟨g,0,none⟩ (l.length + 1) c (by simp [Act.eval,Act.put]) (by simp [Act.eval,Act.put]) CUR 83 HG1.out (LT.all l) (by show _=min _ _ * 2;rw [HL.out];omega) HXS.out (by rw [HL.out,HCL.out];omega) H1S.out ?_;intro w4 hg4 hy4)
 have hc4:∀ j u,(LT.all [x])[j]?=some u→w4.cell? ((⟨vb,0,none⟩:Addr).add j)=some u:=fun j u hj=>by
  have h1:=HXV.out j u hj
  rw [zeg] at h1 ⊢
  exact hy4.out.cell h1 (fun e=>by injection e with e;exact hvg e)
 have hl4:(splice CUR 2 (LT.all l)).length=c * 2:=by rw [length_splice _ _ _ (by rw [HL.out,HCL.out];omega)];exact HCL.out
 have HC4:=Lib.hid hc4
 have HL4:=Lib.hid hl4
 clear hc4 hl4
 first
 | ((iterate 10 (go_step));refine zcv rfl _ _ 30 30 rfl 83 Tryz.underlying30 2 zbw g 0 _ _ ⟨vb,0,none⟩ 1 _ rfl rfl (splice CUR 2 (LT.all l)) 83 hg4.out (LT.all [x]) (by show _=min _ _ * 2;rw [HL1.out];omega) HC4.out (by rw [HL1.out,HL4.out];omega) H1X.out ?_)
 | ((iterate 11 (go_step));refine zcv rfl _ _ 30 30 rfl 83 Tryz.underlying30 2 zbw g 0 _ _ ⟨vb,0,none⟩ 1 _ rfl rfl (splice CUR 2 (LT.all l)) 83 hg4.out (LT.all [x]) (by show _=min _ _ * 2;rw [HL1.out];omega) HC4.out (by rw [HL1.out,HL4.out];omega) H1X.out ?_)
 | ((iterate 12 (go_step));refine zcv rfl _ _ 30 30 rfl 83 Tryz.underlying30 2 zbw g 0 _ _ ⟨vb,0,none⟩ 1 _ rfl rfl (splice CUR 2 (LT.all l)) 83 hg4.out (LT.all [x]) (by show _=min _ _ * 2;rw [HL1.out];omega) HC4.out (by rw [HL1.out,HL4.out];omega) H1X.out ?_)
 | ((iterate 13 (go_step));refine zcv rfl _ _ 30 30 rfl 83 Tryz.underlying30 2 zbw g 0 _ _ ⟨vb,0,none⟩ 1 _ rfl rfl (splice CUR 2 (LT.all l)) 83 hg4.out (LT.all [x]) (by show _=min _ _ * 2;rw [HL1.out];omega) HC4.out (by rw [HL1.out,HL4.out];omega) H1X.out ?_)
 | ((iterate 14 (go_step));refine zcv rfl _ _ 30 30 rfl 83 Tryz.underlying30 2 zbw g 0 _ _ ⟨vb,0,none⟩ 1 _ rfl rfl (splice CUR 2 (LT.all l)) 83 hg4.out (LT.all [x]) (by show _=min _ _ * 2;rw [HL1.out];omega) HC4.out (by rw [HL1.out,HL4.out];omega) H1X.out ?_)
 | ((iterate 15 (go_step));refine zcv rfl _ _ 30 30 rfl 83 Tryz.underlying30 2 zbw g 0 _ _ ⟨vb,0,none⟩ 1 _ rfl rfl (splice CUR 2 (LT.all l)) 83 hg4.out (LT.all [x]) (by show _=min _ _ * 2;rw [HL1.out];omega) HC4.out (by rw [HL1.out,HL4.out];omega) H1X.out ?_)
 | ((iterate 16 (go_step));refine zcv rfl _ _ 30 30 rfl 83 Tryz.underlying30 2 zbw g 0 _ _ ⟨vb,0,none⟩ 1 _ rfl rfl (splice CUR 2 (LT.all l)) 83 hg4.out (LT.all [x]) (by show _=min _ _ * 2;rw [HL1.out];omega) HC4.out (by rw [HL1.out,HL4.out];omega) H1X.out ?_)
 | ((iterate 17 (go_step));refine zcv rfl _ _ 30 30 rfl 83 Tryz.underlying30 2 zbw g 0 _ _ ⟨vb,0,none⟩ 1 _ rfl rfl (splice CUR 2 (LT.all l)) 83 hg4.out (LT.all [x]) (by show _=min _ _ * 2;rw [HL1.out];omega) HC4.out (by rw [HL1.out,HL4.out];omega) H1X.out ?_)
 | ((iterate 18 (go_step));refine zcv rfl _ _ 30 30 rfl 83 Tryz.underlying30 2 zbw g 0 _ _ ⟨vb,0,none⟩ 1 _ rfl rfl (splice CUR 2 (LT.all l)) 83 hg4.out (LT.all [x]) (by show _=min _ _ * 2;rw [HL1.out];omega) HC4.out (by rw [HL1.out,HL4.out];omega) H1X.out ?_)
 | ((iterate 19 (go_step));refine zcv rfl _ _ 30 30 rfl 83 Tryz.underlying30 2 zbw g 0 _ _ ⟨vb,0,none⟩ 1 _ rfl rfl (splice CUR 2 (LT.all l)) 83 hg4.out (LT.all [x]) (by show _=min _ _ * 2;rw [HL1.out];omega) HC4.out (by rw [HL1.out,HL4.out];omega) H1X.out ?_)
 | ((iterate 20 (go_step));refine zcv rfl _ _ 30 30 rfl 83 Tryz.underlying30 2 zbw g 0 _ _ ⟨vb,0,none⟩ 1 _ rfl rfl (splice CUR 2 (LT.all l)) 83 hg4.out (LT.all [x]) (by show _=min _ _ * 2;rw [HL1.out];omega) HC4.out (by rw [HL1.out,HL4.out];omega) H1X.out ?_)
 | ((iterate 21 (go_step));refine zcv rfl _ _ 30 30 rfl 83 Tryz.underlying30 2 zbw g 0 _ _ ⟨vb,0,none⟩ 1 _ rfl rfl (splice CUR 2 (LT.all l)) 83 hg4.out (LT.all [x]) (by show _=min _ _ * 2;rw [HL1.out];omega) HC4.out (by rw [HL1.out,HL4.out];omega) H1X.out ?_)
 | ((iterate 22 (go_step));refine zcv rfl _ _ 30 30 rfl 83 Tryz.underlying30 2 zbw g 0 _ _ ⟨vb,0,none⟩ 1 _ rfl rfl (splice CUR 2 (LT.all l)) 83 hg4.out (LT.all [x]) (by show _=min _ _ * 2;rw [HL1.out];omega) HC4.out (by rw [HL1.out,HL4.out];omega) H1X.out ?_)
 | ((iterate 23 (go_step));refine zcv rfl _ _ 30 30 rfl 83 Tryz.underlying30 2 zbw g 0 _ _ ⟨vb,0,none⟩ 1 _ rfl rfl (splice CUR 2 (LT.all l)) 83 hg4.out (LT.all [x]) (by show _=min _ _ * 2;rw [HL1.out];omega) HC4.out (by rw [HL1.out,HL4.out];omega) H1X.out ?_)
 | ((iterate 24 (go_step));refine zcv rfl _ _ 30 30 rfl 83 Tryz.underlying30 2 zbw g 0 _ _ ⟨vb,0,none⟩ 1 _ rfl rfl (splice CUR 2 (LT.all l)) 83 hg4.out (LT.all [x]) (by show _=min _ _ * 2;rw [HL1.out];omega) HC4.out (by rw [HL1.out,HL4.out];omega) H1X.out ?_)
 | ((iterate 25 (go_step));refine zcv rfl _ _ 30 30 rfl 83 Tryz.underlying30 2 zbw g 0 _ _ ⟨vb,0,none⟩ 1 _ rfl rfl (splice CUR 2 (LT.all l)) 83 hg4.out (LT.all [x]) (by show _=min _ _ * 2;rw [HL1.out];omega) HC4.out (by rw [HL1.out,HL4.out];omega) H1X.out ?_)
 intro w5 hg5 hy5
 go_wp2
 go_ret
 refine ⟨_,rfl,⟨?_,.inr ⟨g,c,_,rfl,HBG.out,hg5.out,hroom,HCM.out,?_,?_⟩⟩,?_,⟨_,_,rfl,.inl rfl⟩,?_⟩
 ·rw [LT.all_len]
 ·rw [List.size_toArray,length_splice _ _ _ (by rw [HL1.out,HL4.out];omega),HL4.out];rfl
 ·have e1:splice (splice CUR 2 (LT.all l)) 0 (LT.all [x])=LT.all (x::l)++CUR.drop (2 + (LT.all l).length):=by
   rw [zm5 _ _ _ HL1.out (by rw [HCL.out];omega),LT.all_cons x l,← LT.all_one x,List.append_assoc]
  rw [show (splice (splice CUR 2 (LT.all l)) 0 (LT.all [x])).toArray.toList=splice (splice CUR 2 (LT.all l)) 0 (LT.all [x]) from rfl,e1]
  rw [List.take_append_of_le_length (by rw [LT.all_len];simp [LT]),List.take_of_length_le (by rw [LT.all_len];simp [LT])]
 ·have b2:=(Below.refl base w).drew.grown hy4.out hb (fun k e=>by injection e with e;have:=HBG.out;omega)
  exact b2.grown hy5.out (by have:=hy4.out.size;exact Nat.le_trans hb this) (fun k e=>by injection e with e;have:=HBG.out;omega)
 ·intro k hk hlt
  obtain ⟨_,_,_,s4,f4⟩:=hy4.out
  obtain ⟨_,_,_,s5,f5⟩:=hy5.out
  exact (f5 k (Nat.lt_of_lt_of_le hlt s4) (fun e=>hk (by injection e))).trans (f4 k hlt (fun e=>hk (by injection e)))
end Go.Proofs.YtfomlmhnmheenaaGreat
namespace Go.Proofs.YtfomlmhnmheenaaGreat
open Go.RowKit
namespace Tw
variable {ρ ρ':Rho} {Z:Nat} {h h':TH} {w:World}
set_option maxRecDepth 100000
theorem zif:∀ (n:Nat) (l:List TV) (r:List (Int × Nat)) (cs:List Value),l.length≤n→ze9 l=some r→VL ρ l cs→cs=LT.all r∧l.length=r.length * 2
 | n,[],r,cs,_,h,hv=>by
  simp only [ze9] at h
  injection h with h;subst h
  exact ⟨by rw [hv.of_nil];rfl,rfl⟩
 | 0,_::_,r,cs,hn,h,hv=>by simp at hn
 | n + 1,x::l0,r,cs,hn,h,hv=>by
  unfold ze9 at h
  split at h
  ·rename_i e;cases e
  ·rename_i a b l e
   injection e with e1 e2;subst e1;subst e2
   split at h
   ·rename_i r' hr
    injection h with h;subst h
    obtain ⟨y,c1,rfl,v1,hvA⟩:=hv.of_cons
    obtain ⟨z,c2,rfl,v2,hvB⟩:=hvA.of_cons
    cases v1;cases v2
    obtain ⟨h1,h2⟩:=zif n l r' c2 (by simp at hn;omega) hr hvB
    exact ⟨by rw [h1,LT.all_cons];rfl,by simp [h2];omega⟩
   ·cases h
  ·cases h
theorem zkP:∀ (n:Nat) (l:List TV) (r:List (Int × Nat)),l.length≤n→ze9 l=some r→∀ x∈l,x.one=true
 | n,[],r,_,h=>by simp
 | 0,_::_,r,hn,h=>by simp at hn
 | n + 1,x::l0,r,hn,h=>by
  unfold ze9 at h
  split at h
  ·rename_i e;cases e
  ·rename_i a b l e
   injection e with e1 e2;subst e1;subst e2
   split at h
   ·rename_i r' hr
    intro y hy
    rcases List.mem_cons.1 hy with rfl | hy
    ·rfl
    ·rcases List.mem_cons.1 hy with rfl | hy
     ·rfl
     ·exact zkP n l r' (by simp at hn;omega) hr y hy
   ·cases h
  ·cases h
theorem VR.sl_inv {b g o n q z:Nat} {v:Value} (h:VR ρ (.sl b g o n q z) v):∃ loc o' c,v=.slice (some ⟨loc.r,o',none⟩) n c∧ρ b g=some loc∧n≤q / 2∧q / 2≤c∧o + q / 2 * z≤loc.L∧(o'=o∨n=0∧c=0∧o ≠ 0)∧(q % 2=0→o + c * z=loc.S)∧c≤maxLen:=by
 cases h
 exact ⟨_,_,_,rfl,‹_›,‹_›,‹_›,‹_›,‹_›,‹_›,‹_›⟩
theorem zoQ (k:WR Tryz.prog Z ρ h w) {b g n:Nat} {loc:Loc} (hl:ρ b g=some loc) {M len:Nat} {cells:Tr TV} (hro:h.get b=some (.row 83 g M len cells)) {news old:List TV} {x:Int × Nat} {l:List (Int × Nat)} (hn:l.length=n) (hv:VL ρ (news++old) (LT.all (x::l))) (h1:∀ y∈news++old,y.one=true)
  {v:Value} {w':World} (hO:OL LT w' Z v (x::l)) (hb:Below Z w w') {g' c':Nat} (hvv:v=.slice (some ⟨g',0,none⟩) (l.length + 1) c') (hg:g'=loc.r∨w.heap.size≤g') (hfr:∀ k,k ≠ loc.r→k < w.heap.size→w'.heap[k]?=w.heap[k]?) :
  zhz Tryz.prog Z ρ h (h.set b (.row 83 (g + 1) (g + 1) ((n + 1) * 2) (Tr.putL .nil 0 (news++old)))) w (.ret (.sl b (g + 1) 0 (n + 1) (2 * (n + 1)) 2)) (.returned v) w':=by
 subst hn
 obtain ⟨ob,hob,hor⟩:=k.obj _ _ _ hl
 rw [hro] at hob;injection hob with hob;subst hob
 have hZo:∀ g loc,ρ b g=some loc→Z≤loc.r:=fun g loc hl=>(k.dom b g loc hl).2.1.resolve_right fun ⟨cs,h1⟩=>by rw [hro] at h1;cases h1
 have hnone:ρ b (g + 1)=none:=by
  cases hh:ρ b (g + 1) with
  | none=>rfl
  | some l2=>have:=hor.2.1 _ _ hh;omega
 rcases hO with ⟨hlen,⟨e1,_⟩ | ⟨g2,cap,cur,e1,hb2,hg2,hn2,hm2,hs2,ht2⟩⟩
 ·rw [hvv] at e1;cases e1
 ·have e2:=hvv.symm.trans e1
  injection e2 with e2 e3 e4
  injection e2 with e2;injection e2 with e2
  subst e2;subst e4
  have hm:=Rho.add_more (loc:=⟨g',(l.length + 1) * 2,c' * 2⟩) hnone
  have hdm:=k.dom _ _ _ hl
  have hcc:l.length + 1≤c':=by simpa using hn2
  have hsz:g' < w'.heap.size:=(Array.getElem?_eq_some_iff.1 hg2).1
  have hall:(LT.all (x::l)).length=(l.length + 1) * 2:=by rw [LT.all_len];simp [LT]
  have hcs:cur.size=c' * 2:=hs2
  have k2:=k.change (b:=b) (ρ':=ρ.add b (g + 1) ⟨g',(l.length + 1) * 2,c' * 2⟩) (x':=.row 83 (g + 1) (g + 1) ((l.length + 1) * 2) (Tr.putL .nil 0 (news++old))) hm (fun c hc g0=>Rho.add_ne hc g0) hl (w':=w') hb.size (fun c g0 l0 hc hl0=>hfr _ (fun e=>hc (k.sep _ _ _ _ _ _ hl0 hl e (by rw [e];exact hZo _ _ hl))) (k.dom _ _ _ hl0).2.2)
   ⟨Nat.le_refl _,fun g0 l0 h0=>by
    rcases Rho.add_inv h0 with ⟨_,e,_⟩ | h0
    ·omega
    ·have:=hor.2.1 _ _ h0;omega,fun g0 ha hb0=>by
    have:g0=g + 1:=by omega
    subst this
    refine ⟨_,cur,Rho.add_same _ _ _ _,hg2,fun _=>hcs,Nat.le_refl _,by rw [hcs];dsimp only;omega,fun _=>rfl,fun i hi=>?_⟩
    dsimp only at hi
    have hi2:i < (news++old).length:=by rw [hv.1,hall];exact hi
    have hx0:(news++old)[i]?=some (news++old)[i]:=List.getElem?_eq_getElem hi2
    obtain ⟨y,y1,y2⟩:=hv.at hx0
    refine ⟨_,y,?_,?_,h1 _ (List.getElem_mem hi2),y2.mono hm⟩
    ·rw [Tr.get_putL,if_pos (by omega)];simp
    ·have e5:cur.toList.take ((l.length + 1) * 2)=LT.all (x::l):=by simpa [LT] using ht2
     rw [← e5,List.getElem?_take,if_pos hi] at y1
     simpa using y1⟩
   (fun g0 l0 h0=>by
    rcases Rho.add_inv h0 with ⟨_,_,e⟩ | h0
    ·subst e;exact ⟨hb2,hsz⟩
    ·have:=k.dom _ _ _ h0;exact ⟨hZo _ _ h0,Nat.lt_of_lt_of_le this.2.2 hb.size⟩)
   (fun g0 l0 h0 c g1 l1 hc h1' e=>by
    rcases Rho.add_inv h0 with ⟨_,_,e6⟩ | h0
    ·subst e6
     rcases hg with hg | hg
     ·exact hc (k.sep _ _ _ _ _ _ h1' hl (by dsimp only at e;omega) (by have:=hZo _ _ hl;dsimp only at e;omega))
     ·have:=(k.dom _ _ _ h1').2.2;dsimp only at e;omega
    ·exact hc (k.sep _ _ _ _ _ _ h1' h0 e.symm (by have:=hZo _ _ h0;omega)))
  refine ⟨_,⟨hm,fun c hc hn g0=>?_⟩,k2,hb,Nat.le_refl _,_,rfl,?_⟩
  ·have hcb:c ≠ b:=fun e=>by rw [e,] at hn;rw [hn g] at hl;cases hl
   rw [Rho.add_ne hcb];exact hn g0
  ·rw [hvv]
   exact .sl (Rho.add_same _ _ _ _) (by omega) (by omega) (by dsimp only;omega) (.inl rfl) (fun _=>by dsimp only;omega) hm2
theorem zm2 (k:WR Tryz.prog Z ρ h w) (hZ:Z≤w.heap.size) {args:List TV} {args':List Value} (hv:VL ρ args args') {r:TE} (hr:zlj 83 args h=some (r,h')) :
  CallsIn (Fr none) 0 Tryz.prog 127 args'.toArray w (zhz Tryz.prog Z ρ h h' w r):=by
 unfold zlj at hr
 split at hr
 ·rename_i b g n q z bx gx qx zx
  unfold zsi at hr
  split at hr
  ·rename_i rx ro news hrx hro hnews
   obtain ⟨c1,hr1⟩:=zA hr
   obtain ⟨c2,hr2⟩:=zA hr1
   obtain ⟨c3,hr3⟩:=zA hr2
   obtain ⟨c4,hr4⟩:=zA hr3
   obtain ⟨c5,hr5⟩:=zA hr4
   obtain ⟨c6,hr6⟩:=zA hr5
   have c2:=Nat.eq_of_beq_eq_true c2
   have c3:=Nat.eq_of_beq_eq_true c3
   have c4:=Nat.eq_of_beq_eq_true c4
   have c5:=Nat.le_of_ble_eq_true c5
   have c6:=Nat.le_of_ble_eq_true c6
   subst c2;subst c3
   cases hbb:Nat.beq b bx with
   | true=>rw [hbb] at hr6;cases hr6
   | false =>
    have hbne:b ≠ bx:=fun e=>by rw [e,Nat.beq_refl] at hbb;cases hbb
    rw [hbb] at hr6
    simp only [cond_false] at hr6
    cases ro with
    | map=>cases hr6
    | dfr=>cases hr6
    | loop=>cases hr6
    | ro=>cases hr6
    | row e G M len cells =>
     simp only [zsc] at hr6
     obtain ⟨d1,hr7⟩:=zA hr6
     obtain ⟨d2,hr8⟩:=zA hr7
     obtain ⟨d3,hr9⟩:=zA hr8
     have d1:=Nat.eq_of_beq_eq_true d1
     have d2:=Nat.eq_of_beq_eq_true d2
     have d3:=Nat.eq_of_beq_eq_true d3
     subst d1;subst d2;subst d3
     cases hold:cells.getL 0 (n * 2) with
     | none=>rw [hold] at hr9;cases hr9
     | some old =>
      rw [hold] at hr9
      simp only [zsf] at hr9
      split at hr9
      ·rename_i pn po hpn hpo
       injection hr9 with hr9;injection hr9 with hr9 hr10;subst hr9;subst hr10
       obtain ⟨s',t1,rfl,v1,hv⟩:=hv.of_cons
       obtain ⟨i',t2,rfl,v2,hv⟩:=hv.of_cons
       obtain ⟨x',t3,rfl,v3,hv⟩:=hv.of_cons
       obtain rfl:=hv.of_nil
       cases v2
       obtain ⟨loc,o',c,rfl,hl,hn,hq,hc,ho,hs,hm⟩:=v1.sl_inv
       have ho:o'=0:=by omega
       subst ho
       obtain ⟨A,mx,cx0,csx,ex,_,vnews,lnews,onews,cnews⟩:=zha (n:=1) (esz:=2) k v3 (l:=news) (by simp only [zdG,Nat.beq_refl,cond_true];exact hnews) (Nat.le_refl _)
       obtain ⟨locx,ox',cx,rfl,hlx,hnx,hqx,hcx,hox,hsx,hmx⟩:=v3.sl_inv
       have hox:ox'=0:=by omega
       subst hox
       injection ex with ex1 ex2 ex3
       subst ex1
       obtain ⟨ob,hob,hor⟩:=k.obj _ _ _ hl
       rw [hro] at hob;injection hob with hob;subst hob
       obtain ⟨loc1,cur,q1,q2,q3,q4,q5,q6,q7⟩:=hor.2.2 g hor.1 (Nat.le_refl _)
       rw [hl] at q1;injection q1 with q1;subst q1
       have hS:=hs c4
       have hL:=q6 rfl
       have hcurS:=q3 rfl
       obtain ⟨lo1,lo2⟩:=Tr.getL_some hold
       have htl:(cur.toList.take (n * 2)).length=n * 2:=by rw [List.length_take,Array.length_toList,hcurS];omega
       have vold:VL ρ old (cur.toList.take (n * 2)):=⟨by rw [lo1,htl],fun i x y hx hy=>by
        have hi:i < n * 2:=by have:=(List.getElem?_eq_some_iff.1 hx).1;omega
        obtain ⟨x0,v0,z1,z2,_,z4⟩:=q7 i (by omega)
        rw [lo2 i hi,Nat.zero_add,z1] at hx
        rw [List.getElem?_take,if_pos hi,Array.getElem?_toList,z2] at hy
        injection hx with hx;injection hy with hy;subst hx;subst hy
        exact z4⟩
       obtain ⟨po1,po2⟩:=zif _ _ _ _ (Nat.le_refl _) hpo vold
       obtain ⟨pn1,pn2⟩:=zif _ _ _ _ (Nat.le_refl _) hpn vnews
       have hpol:po.length=n:=by omega
       have hln:news.length=2:=by rw [vnews.1,lnews]
       have hpnl:pn.length=1:=by omega
       obtain ⟨p,rfl⟩:∃ p,pn=[p]:=List.length_eq_one_iff.1 hpnl
       obtain ⟨a,ea,hcell⟩:=cnews (by omega)
       injection ea with ea
       subst ea
       have hdm:=k.dom _ _ _ hl
       have hdZ:Z≤loc.r:=hdm.2.1.resolve_right fun ⟨cs,h1⟩=>by rw [hro] at h1;cases h1
       have hO:OL LT w Z (.slice (some ⟨loc.r,0,none⟩) po.length c) po:=⟨by rw [LT.all_len],.inr ⟨loc.r,c,cur,rfl,hdZ,q2,by omega,hm,by rw [hcurS,← hS];simp [LT],by rw [hpol,← po1];rfl⟩⟩
       have hRL:RL LT (locx.r + 1) w (some ⟨locx.r,0,none⟩) [p]:=fun _=>⟨locx.r,0,rfl,.inl (Nat.lt_succ_self _),fun j u hu=>by
        have:=hcell j u (by rw [pn1];exact hu)
        simpa [zcX] using this⟩
       have hpne:po ≠ []:=fun e=>by subst e;simp at hpol;omega
       have hvall:VL ρ (news++old) (LT.all (p::po)):=by
        have:=vnews.app vold
        rw [pn1,po1] at this
        rw [LT.all_cons,← LT.all_one];exact this
       have hone:∀ y∈news++old,y.one=true:=fun y hy=>by
        rcases List.mem_append.1 hy with hy | hy
        ·exact onews y hy
        ·exact zkP _ _ _ (Nat.le_refl _) hpo y hy
       have hargs:([.slice (some ⟨loc.r,0,none⟩) n c,.int .i64 (.ofNat 0),.slice (some ⟨locx.r,0,none⟩) 1 cx]:List Value).toArray=#[.slice (some ⟨loc.r,0,none⟩) po.length c,.int .i64 0,.slice (some ⟨locx.r,0,none⟩) 1 cx]:=by rw [hpol];rfl
       rw [hargs]
       refine callsIn_wide.2 ?_
       have hne:locx.r ≠ loc.r:=fun e=>hbne (k.sep _ _ _ _ _ _ hlx hl e (by rw [e];exact hdZ)).symm
       by_cases hroom:po.length + 1≤c
       ·obtain ⟨obx,hobx,horx⟩:=k.obj _ _ _ hlx
        rw [hrx] at hobx;injection hobx with hobx;subst hobx
        cases rx with
        | map=>cases c1
        | dfr=>cases c1
        | loop=>cases c1
        | ro=>cases c1
        | row e2 G2 M2 len2 cells2 =>
         have hnews2:=hnews
         simp only [zaA,hrx,ze0] at hnews2
         obtain ⟨m1,hnews3⟩:=zA hnews2
         obtain ⟨m2,_⟩:=zA hnews3
         obtain ⟨locy,cury,y1,y2,_⟩:=horx.2.2 gx (Nat.le_of_ble_eq_true m1) (Nat.le_of_ble_eq_true m2)
         rw [hlx] at y1;injection y1 with y1;subst y1
         refine (zo6 po p Z loc.r c locx.r cx w hpne (by omega) hroom hO hRL hne e2 cury.size (by simp [World.shape?,y2]) (frozen_of_row w _ _ _ _ y2) (frozen_of_row w _ _ _ _ y2) hZ).mono ?_
         rintro e w' ⟨v,rfl,o1,o2,⟨g',c',o3,o4⟩,o5⟩
         exact zoQ k hl hro hpol hvall hone o1 o2 o3 o4 o5
       ·refine (zqH po p Z loc.r c locx.r cx w hpne (by omega) hroom hO hRL hZ).mono ?_
        rintro e w' ⟨v,rfl,o1,o2,⟨g',c',o3,o4⟩,o5⟩
        exact zoQ k hl hro hpol hvall hone o1 o2 o3 o4 o5
      ·cases hr9
  ·cases hr
 ·cases hr
end Tw
end Go.Proofs.YtfomlmhnmheenaaGreat
namespace Go.Proofs.YtfomlmhnmheenaaGreat
open Go.RowKit
namespace Tw
set_option maxRecDepth 100000
theorem zjh (v:Value) (t:TypeId) (w:World):(Instr.typeAssert (.iface 31 v) t 31 true).run Tryz.prog w=.ok (.tuple #[v,.bool true]) w:=by
 simp [Instr.typeAssert,run_underlying Tryz.underlying31,Result.andThen]
set_option maxHeartbeats 1000000 in
theorem ztj (n:Int) (eb g:Nat) (cap:Array Value) (w:World) (R:World→Prop) (hent:∀ w,(callFunc g cap).run Tryz.prog w=.ok (.enter g cap) w) (hg:Calls Tryz.prog g cap w fun e w'=>e=.returned (.tuple #[])∧R w') (hR:∀ w',R w'→(∃ v,w'.cell? ⟨eb,0,none⟩=some v)∧w'.frozen? ⟨eb,0,none⟩=false) :
  CallsDIn Fence.wide 0 Tryz.prog 35 #[.pointer (some ⟨eb,0,none⟩),.func (.func g) #[] cap] (.panicking [{ v:=.iface 31 (.int .i64 n),recovered:=false }]) w fun e u' w'=>(∃ v,e=.returned v)∧u'=.panicking [{ v:=.iface 31 (.int .i64 n),recovered:=true }]∧∃ w1,R w1∧w'=w1.setCell ⟨eb,0,none⟩ (.int .i64 n):=by
 refine callsDIn_of_wpSIn Tryz.func35 rfl trivial fun c₀ cs hu=>?_
 apply wpSIn_seq
 apply wpSIn_region
 generalize hQ:Exit.thenS _ _=QQ
 simp [wpOpsSIn,go_sem,recoverD,hu,Tryz.ntmps35,Fence.wide]
 subst hQ
 simp only [Exit.thenS]
 refine wpSIn_of_wpIn rfl (wpIn_wide.2 ?_)
 have HN:=Lib.hid hg
 have HU:=Lib.hid hu
 have HRR:=Lib.hid hR
 clear hu hg hR
 generalize hR:(fun e a' w'=>bodyPostS Tryz.prog Tryz.f35 c₀ cs _ e a' _ w')=RR
 have HR:=Lib.hid hR
 clear hR
 have hta:=zjh
 have hen:=hent
 simp only [Array.replicate,List.replicate]
 go_wp2_with (first | ((with_reducible refine HN.out.mono ?_);rintro e w1 ⟨rfl,hr1⟩;obtain ⟨⟨v1,e1⟩,ef⟩:=HRR.out _ hr1))
 rw [← HR.out]
 exact ⟨rfl,_,rfl,.tuple #[],by simp [results,Tryz.results35,go_sem],⟨_,rfl⟩,rfl,_,hr1,rfl⟩
set_option maxHeartbeats 1000000 in
theorem zsM (p' c':Value) (w:World) :
  CallsDIn Fence.wide 0 Tryz.prog 35 #[p',c'] .returning w fun e u' w'=>(∃ v,e=.returned v)∧u'=.returning∧w'=w:=by
 refine callsDIn_of_wpSIn Tryz.func35 rfl trivial fun c₀ cs hu=>?_
 apply wpSIn_seq
 apply wpSIn_region
 generalize hQ:Exit.thenS _ _=QQ
 simp [wpOpsSIn,go_sem,recoverD,hu,Tryz.ntmps35,Fence.wide]
 subst hQ
 simp only [Exit.thenS]
 refine wpSIn_of_wpIn rfl (wpIn_wide.2 ?_)
 generalize hR:(fun e a' w'=>bodyPostS Tryz.prog Tryz.f35 c₀ cs _ e a' _ w')=RR
 have HR:=Lib.hid hR
 have HU:=Lib.hid hu
 clear hR hu
 simp only [Array.replicate,List.replicate]
 go_wp2
 rw [← HR.out]
 cases c₀
 exact ⟨rfl,_,by have:=HU.out;subst this;rfl,.tuple #[],by simp [results,Tryz.results35,go_sem],⟨_,rfl⟩,rfl,rfl⟩
theorem zlS:zhL Tryz.prog 31 35:=⟨enters_of Tryz.func35 (by kernel_rfl) rfl,fun p' c' w=>zsM p' c' w,fun n eb gid cap w R hent hg hR=>ztj n eb gid cap w R hent (callsIn_wide.1 hg) hR⟩
set_option maxHeartbeats 1000000 in
theorem zsz (n:Int) (eb g:Nat) (cap:Array Value) (w:World) (R:World→Prop) (hent:∀ w,(callFunc g cap).run Tryz.prog w=.ok (.enter g cap) w) (hg:Calls Tryz.prog g cap w fun e w'=>e=.returned (.tuple #[])∧R w') (hR:∀ w',R w'→(∃ v,w'.cell? ⟨eb,0,none⟩=some v)∧w'.frozen? ⟨eb,0,none⟩=false) :
  CallsDIn Fence.wide 0 Tryz.prog 128 #[.pointer (some ⟨eb,0,none⟩),.func (.func g) #[] cap] (.panicking [{ v:=.iface 31 (.int .i64 n),recovered:=false }]) w fun e u' w'=>(∃ v,e=.returned v)∧u'=.panicking [{ v:=.iface 31 (.int .i64 n),recovered:=true }]∧∃ w1,R w1∧w'=w1.setCell ⟨eb,0,none⟩ (.int .i64 n):=by
 refine callsDIn_of_wpSIn Tryz.func128 rfl trivial fun c₀ cs hu=>?_
 apply wpSIn_seq
 apply wpSIn_region
 generalize hQ:Exit.thenS _ _=QQ
 simp [wpOpsSIn,go_sem,recoverD,hu,Tryz.ntmps128,Fence.wide]
 subst hQ
 simp only [Exit.thenS]
 refine wpSIn_of_wpIn rfl (wpIn_wide.2 ?_)
 have HN:=Lib.hid hg
 have HU:=Lib.hid hu
 have HRR:=Lib.hid hR
 clear hu hg hR
 generalize hR:(fun e a' w'=>bodyPostS Tryz.prog Tryz.f128 c₀ cs _ e a' _ w')=RR
 have HR:=Lib.hid hR
 clear hR
 have hta:=zjh
 have hen:=hent
 simp only [Array.replicate,List.replicate]
 go_wp2_with (first | ((with_reducible refine HN.out.mono ?_);rintro e w1 ⟨rfl,hr1⟩;obtain ⟨⟨v1,e1⟩,ef⟩:=HRR.out _ hr1))
 rw [← HR.out]
 exact ⟨rfl,_,rfl,.tuple #[],by simp [results,Tryz.results128,go_sem],⟨_,rfl⟩,rfl,_,hr1,rfl⟩
set_option maxHeartbeats 1000000 in
theorem zrg (p' c':Value) (w:World) :
  CallsDIn Fence.wide 0 Tryz.prog 128 #[p',c'] .returning w fun e u' w'=>(∃ v,e=.returned v)∧u'=.returning∧w'=w:=by
 refine callsDIn_of_wpSIn Tryz.func128 rfl trivial fun c₀ cs hu=>?_
 apply wpSIn_seq
 apply wpSIn_region
 generalize hQ:Exit.thenS _ _=QQ
 simp [wpOpsSIn,go_sem,recoverD,hu,Tryz.ntmps128,Fence.wide]
 subst hQ
 simp only [Exit.thenS]
 refine wpSIn_of_wpIn rfl (wpIn_wide.2 ?_)
 generalize hR:(fun e a' w'=>bodyPostS Tryz.prog Tryz.f128 c₀ cs _ e a' _ w')=RR
 have HR:=Lib.hid hR
 have HU:=Lib.hid hu
 clear hR hu
 simp only [Array.replicate,List.replicate]
 go_wp2
 rw [← HR.out]
 cases c₀
 exact ⟨rfl,_,by have:=HU.out;subst this;rfl,.tuple #[],by simp [results,Tryz.results128,go_sem],⟨_,rfl⟩,rfl,rfl⟩
theorem zkM:zhL Tryz.prog 31 128:=⟨enters_of Tryz.func128 (by kernel_rfl) rfl,fun p' c' w=>zrg p' c' w,fun n eb gid cap w R hent hg hR=>zsz n eb gid cap w R hent (callsIn_wide.1 hg) hR⟩
theorem zib:zfd=((Tr.nil:Tr Unit).set 35 (some ())).set 128 (some ()):=by kernel_rfl
theorem ztr:zeF Tryz.prog E12:=by
 refine ⟨by kernel_rfl,fun f F h=>zjo f F h,fun f g hg Z ρ w args args' h r h' hr k hZ hv=>?_,fun f hf=>?_⟩
 ·have hg:(bif Nat.beq f 127 then some (zlj 83) else none)=some g:=hg
  obtain ⟨h1,hg2⟩:=zA hg
  have h1:=Nat.eq_of_beq_eq_true h1
  subst h1
  injection hg2 with hg2;subst hg2
  exact ⟨fun w=>enters_of Tryz.func127 (by kernel_rfl) rfl _ w,zm2 k hZ hv hr⟩
 ·have hf:zfd.get f=some ():=hf
  rw [zib,Tr.get_set,Tr.get_set] at hf
  split at hf
  ·rename_i e;subst e;exact zkM
  ·split at hf
   ·rename_i e;subst e;exact zlS
   ·cases hf
theorem zpP {x:Option (TE × TH)} (h:znE x=true):∃ h',x=some (.ret (.bool true),h'):=by
 unfold znE at h
 split at h
 ·exact ⟨_,rfl⟩
 ·cases h
end Tw
theorem zpM (w:World):Calls Tryz.prog 9 #[] w fun e w'=>e=.returned (.bool true)∧Below w.heap.size w w':=by
 obtain ⟨h',hr⟩:=Tw.zpP Tw.w12
 obtain ⟨_,h2⟩:=Tw.zpZ Tw.ztr hr w
 refine (callsIn_wide.1 h2).mono ?_
 rintro e w' ⟨hb,ρ,v',rfl,hv⟩
 cases hv
 exact ⟨rfl,hb⟩
end Go.Proofs.YtfomlmhnmheenaaGreat
namespace Go.Proofs.YtfomlmhnmheenaaGreat
open Go.RowKit Go.WideShapes Go.ChangeShapes
namespace Fv
open Tw
set_option maxRecDepth 100000
theorem ztO:zeF Tryz.prog ET:=by
 refine ⟨by kernel_rfl,fun f F h=>?_,fun f g hg Z ρ w args args' h r h' hr k hZ hv=>?_,fun f hf=>?_⟩
 ·have h:(zee.set 9 none).get f=some F:=h
  rw [Tr.get_set] at h
  split at h
  ·cases h
  ·exact zjo f F h
 ·have hg:(bif Nat.beq f 127 then some (zlj 83) else bif Nat.beq f 9 then some zkO else none)=some g:=hg
  cases h1:Nat.beq f 127 with
  | true =>
   rw [h1] at hg
   have h1:=Nat.eq_of_beq_eq_true h1
   subst h1
   injection hg with hg2;subst hg2
   exact ⟨fun w=>enters_of Tryz.func127 (by kernel_rfl) rfl _ w,zm2 k hZ hv hr⟩
  | false =>
   rw [h1] at hg
   obtain ⟨h2,hg2⟩:=zA hg
   have h2:=Nat.eq_of_beq_eq_true h2
   subst h2
   injection hg2 with hg2;subst hg2
   exact zsE (fun w=>enters_of Tryz.func9 (by kernel_rfl) rfl _ w) (fun w=>callsIn_wide.2 (zpM w)) Z ρ w args args' h r h' hr k hZ hv
 ·have hf:zfd.get f=some ():=hf
  rw [zib,Tr.get_set,Tr.get_set] at hf
  split at hf
  ·rename_i e;subst e;exact zkM
  ·split at hf
   ·rename_i e;subst e;exact zlS
   ·cases hf
theorem zf4:∀ l:List Pr,(l.map pv).flatMap PV.cells=(zbW l).map uv
 | []=>rfl
 | x::l=>by rw [List.map_cons,List.flatMap_cons,zf4 l,zdh];rfl
theorem zgU:∀ l:List Int,(l.map iv).flatMap PV.cells=l.map iv
 | []=>rfl
 | x::l=>by rw [List.map_cons,List.flatMap_cons,zgU l];rfl
theorem zkw:∀ (l:List Pr) (i:Nat),(zbW l)[2 * i]?=l[i]?.map Prod.fst
 | [],i=>by simp [zbW]
 | x::l,0=>by rw [zdh];rfl
 | x::l,i + 1=>by rw [zdh,show 2 * (i + 1)=2 * i + 1 + 1 by omega,List.getElem?_cons_succ,List.getElem?_cons_succ,zkw l i,List.getElem?_cons_succ]
theorem zj2:∀ (l:List Pr) (i:Nat),(zbW l)[2 * i + 1]?=l[i]?.map Prod.snd
 | [],i=>by simp [zbW]
 | x::l,0=>by rw [zdh];rfl
 | x::l,i + 1=>by rw [zdh,show 2 * (i + 1) + 1=2 * i + 1 + 1 + 1 by omega,List.getElem?_cons_succ,List.getElem?_cons_succ,zj2 l i,List.getElem?_cons_succ]
theorem zl8 {P:Program} {w:World} {r:Reach} {base:Nat} {t e:TypeId} {a:Addr} {len cap:Nat} (ht:P.underlying t=some (.slice e)) (h:Value.okWide P w r base t (.slice (some a) len cap)):a.block < w.heap.size∧a.spot=none:=by
 simp only [Value.okWide,ht,Cell.okWide,Cell.ok,World.has] at h
 obtain ⟨_,_,_,h2,row,cells,h3,_⟩:=h
 refine ⟨?_,h2⟩
 unfold World.shape? at h3
 rcases Nat.lt_or_ge a.block w.heap.size with hl | hl
 ·exact hl
 ·rw [Array.getElem?_eq_none hl] at h3;cases h3
theorem zr7 {w:World} {p:Nat} {l:List Pr} {b o c:Nat} (hb:b < w.heap.size) (hlc:l.length≤c) (hcm:c≤maxLen) (hcell:∀ (i:Nat) (x:Pr),l[i]?=some x→w.cell? ⟨b,o + i * 2,none⟩=some (.int .u64 x.1)∧w.cell? ⟨b,o + (i * 2 + 1),none⟩=some (.int .u64 x.2)):CI w (psv p l) (.slice (some ⟨b,o,none⟩) l.length c):=by
 have e:l.length=(l.map pv).length:=(List.length_map ..).symm
 rw [e]
 refine CI.list (cs:=(zbW l).map fun n:Nat=>Value.int .u64 n) hb (by rw [List.length_map];exact hlc) hcm (fun v hv=>by obtain ⟨x,_,rfl⟩:=List.mem_map.1 hv;rfl) (by rw [zf4];simp) (fun i x y hx hy=>?_) (fun j v hv=>?_) (fun x hx=>?_)
 ·rw [zf4,List.getElem?_map] at hx
  rw [List.getElem?_map] at hy
  cases hn:(zbW l)[i]? with
  | none=>rw [hn] at hx;cases hx
  | some n=>rw [hn] at hx hy;injection hx with hx;injection hy with hy;subst hx hy;exact .int _ _
 ·rw [List.getElem?_map] at hv
  rcases Nat.mod_two_eq_zero_or_one j with hj | hj
  ·obtain ⟨i,rfl⟩:∃ i,j=2 * i:=⟨j / 2,by omega⟩
   rw [zkw] at hv
   cases hx:l[i]? with
   | none=>rw [hx] at hv;cases hv
   | some x=>rw [hx] at hv;injection hv with hv;subst hv;rw [Nat.mul_comm 2 i];exact (hcell i x hx).1
  ·obtain ⟨i,rfl⟩:∃ i,j=2 * i + 1:=⟨j / 2,by omega⟩
   rw [zj2] at hv
   cases hx:l[i]? with
   | none=>rw [hx] at hv;cases hv
   | some x=>rw [hx] at hv;injection hv with hv;subst hv;rw [Nat.mul_comm 2 i];exact (hcell i x hx).2
 ·rw [zf4] at hx
  obtain ⟨n,_,rfl⟩:=List.mem_map.1 hx
  rfl
theorem zsR {w:World} {p:Nat} {l:List Int} {b o c:Nat} (hb:b < w.heap.size) (hlc:l.length≤c) (hcm:c≤maxLen) (hcell:∀ (i:Nat) (x:Int),l[i]?=some x→w.cell? ⟨b,o + i,none⟩=some (.int .i64 x)):CI w (.list p 1 (l.map iv)) (.slice (some ⟨b,o,none⟩) l.length c):=by
 have e:l.length=(l.map iv).length:=(List.length_map ..).symm
 rw [e]
 refine CI.list (cs:=l.map fun n:Int=>Value.int .i64 n) hb (by rw [List.length_map];exact hlc) hcm (fun v hv=>by obtain ⟨x,_,rfl⟩:=List.mem_map.1 hv;rfl) (by rw [zgU];simp) (fun i x y hx hy=>?_) (fun j v hv=>?_) (fun x hx=>?_)
 ·rw [zgU,List.getElem?_map] at hx
  rw [List.getElem?_map] at hy
  cases hn:l[i]? with
  | none=>rw [hn] at hx;cases hx
  | some n=>rw [hn] at hx hy;injection hx with hx;injection hy with hy;subst hx hy;exact .int _ _
 ·rw [List.getElem?_map] at hv
  cases hx:l[j]? with
  | none=>rw [hx] at hv;cases hv
  | some x=>rw [hx] at hv;injection hv with hv;subst hv;exact hcell j x hx
 ·rw [zgU] at hx
  obtain ⟨n,_,rfl⟩:=List.mem_map.1 hx
  rfl
end Fv
end Go.Proofs.YtfomlmhnmheenaaGreat
