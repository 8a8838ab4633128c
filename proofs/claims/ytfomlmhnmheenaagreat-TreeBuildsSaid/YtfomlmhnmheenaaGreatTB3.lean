/- part 3 of the proof of tree_builds. -/
import Derived.Test.YtfomlmhnmheenaaGreatTB2
import Derived.IntWalk
set_option linter.unusedSimpArgs false
set_option linter.unusedVariables false
namespace Go.Proofs.YtfomlmhnmheenaaGreat
namespace Fv
open Tw
inductive PV where
 | bad
 | bool (b:Bool)
 | int (k:IntKind) (n:Int)
 | str (s:List Nat)
 | nilptr
 | nilsl
 | nilmap
 | nilfn
 | niliface
 | iface (t:Nat) (v:PV)
 | list (p z:Nat) (l:List PV)
 | elem (cs:List PV)
 | sl (id g o n q z:Nat)
 | ptr (id g i o n:Nat)
 | map (id:Nat)
 | fn (f:Nat) (cap:List PV)
 | yield (id:Nat)
 | agg (vs:List PV)
 | tuple (vs:List PV)
 deriving Inhabited
def PV.cells:PV→List PV
 | .agg l=>l
 | .tuple _=>[]
 | v=>[v]
inductive FX where
 | norm | exit (id:Nat) | goto (l:Nat) | ret | panic (v:PV)
inductive zk where
 | row (e z G M:Nat) (l:List PV)
 | map0
 | mapI (k:IntKind) (m:Int→Option PV)
 | dfr (shut:Bool)
 | loop (st:LoopState) (pe:FX) (tm:Nat→PV) (ps:List Nat) (aS bo:zah) (m:Nat)
 | void
abbrev zdA:=Nat→Nat→Prop
inductive PR (S:zdA) (h:TH):PV→TV→Prop
 | bool (b:Bool):PR S h (.bool b) (.bool b)
 | int (k:IntKind) (n:Int):PR S h (.int k n) (.int k n)
 | str (s:List Nat):PR S h (.str s) (.str s)
 | nilptr:PR S h .nilptr .nilptr
 | nilsl:PR S h .nilsl .nilsl
 | nilmap:PR S h .nilmap .nilmap
 | nilfn:PR S h .nilfn .nilfn
 | niliface:PR S h .niliface .niliface
 | iface {t:Nat} {v:PV} {u:TV}:PR S h v u→PR S h (.iface t v) (.iface t u)
 | listnil (p z:Nat):PR S h (.list p z []) .nilsl
 | list {p z:Nat} {l:List PV} {b g o q:Nat} {cs:List TV}:S p b→zaA h b g o (l.length * z)=some cs→2 * l.length≤q→(∀ v∈l,v.cells.length=z)→(l.flatMap PV.cells).length=cs.length →
   (∀ (i:Nat) (x:PV) (y:TV),(l.flatMap PV.cells)[i]?=some x→cs[i]?=some y→PR S h x y)→PR S h (.list p z l) (.sl b g o l.length q z)
 | elem {vs:List PV} {p b g o:Nat} {cs:List TV}:S p b→zaA h b g o vs.length=some cs→vs.length=cs.length→(∀ (i:Nat) (x:PV) (y:TV),vs[i]?=some x→cs[i]?=some y→PR S h x y)→PR S h (.elem vs) (.ptr b g o vs.length)
 | fn {f:Nat} {vs:List PV} {cs:List TV}:vs.length=cs.length→(∀ (i:Nat) (x:PV) (y:TV),vs[i]?=some x→cs[i]?=some y→PR S h x y)→PR S h (.fn f vs) (.fn f cs)
 | agg {vs:List PV} {cs:List TV}:vs.length=cs.length→(∀ (i:Nat) (x:PV) (y:TV),vs[i]?=some x→cs[i]?=some y→PR S h x y)→PR S h (.agg vs) (.agg cs)
 | tuple {vs:List PV} {cs:List TV}:vs.length=cs.length→(∀ (i:Nat) (x:PV) (y:TV),vs[i]?=some x→cs[i]?=some y→PR S h x y)→PR S h (.tuple vs) (.tuple cs)
structure Cx where
 S:zdA
 ρ:Nat→Option (Nat × Nat × Nat)
 L:Nat→Prop
inductive VR (c:Cx) (h:TH):PV→TV→Prop
 | pure {v:PV} {u:TV}:PR c.S h v u→VR c h v u
 | sl {id b d z g o n q:Nat}:c.ρ id=some (b,d,z)→VR c h (.sl id (g + d) o n q z) (.sl b g (o * z) n q z)
 | slnil {id:Nat} (z:Nat):c.L id→VR c h (.sl id 0 0 0 0 z) .nilsl
 | ptr {id b d z g i o n:Nat}:c.ρ id=some (b,d,z)→VR c h (.ptr id (g + d) i o n) (.ptr b g (i * z + o) n)
 | map {id b d z:Nat}:c.ρ id=some (b,d,z)→VR c h (.map id) (.map b)
 | yield {id b d z:Nat}:c.ρ id=some (b,d,z)→VR c h (.yield id) (.yield b)
 | iface {t:Nat} {v:PV} {u:TV}:VR c h v u→VR c h (.iface t v) (.iface t u)
 | fn {f:Nat} {vs:List PV} {cs:List TV}:vs.length=cs.length→(∀ (i:Nat) (x:PV) (y:TV),vs[i]?=some x→cs[i]?=some y→VR c h x y)→VR c h (.fn f vs) (.fn f cs)
 | agg {vs:List PV} {cs:List TV}:vs.length=cs.length→(∀ (i:Nat) (x:PV) (y:TV),vs[i]?=some x→cs[i]?=some y→VR c h x y)→VR c h (.agg vs) (.agg cs)
 | tuple {vs:List PV} {cs:List TV}:vs.length=cs.length→(∀ (i:Nat) (x:PV) (y:TV),vs[i]?=some x→cs[i]?=some y→VR c h x y)→VR c h (.tuple vs) (.tuple cs)
def LR (R:PV→TV→Prop) (l:List PV) (cs:List TV):Prop:=l.length=cs.length∧∀ (i:Nat) (x:PV) (y:TV),l[i]?=some x→cs[i]?=some y→R x y
section lists
variable {R R':PV→TV→Prop}
theorem LR.nil:LR R [] []:=⟨rfl,fun i x y h=>by simp at h⟩
theorem LR.cons {x:PV} {y:TV} {l:List PV} {cs:List TV} (h:R x y) (hl:LR R l cs):LR R (x::l) (y::cs) :=
 ⟨by simp [hl.1],fun i a b ha hb=>by
  cases i with
  | zero=>simp at ha hb;subst ha;subst hb;exact h
  | succ i=>simp at ha hb;exact hl.2 i a b ha hb⟩
theorem LR.of_cons {x:PV} {l:List PV} {cs:List TV} (h:LR R (x::l) cs):∃ y cs',cs=y::cs'∧R x y∧LR R l cs':=by
 cases cs with
 | nil=>have:=h.1;simp at this
 | cons y cs=>exact ⟨y,cs,rfl,h.2 0 x y rfl rfl,by have:=h.1;simp at this;exact this,fun i a b ha hb=>h.2 (i + 1) a b (by simpa using ha) (by simpa using hb)⟩
theorem LR.of_nil {cs:List TV} (h:LR R [] cs):cs=[]:=by
 cases cs with
 | nil=>rfl
 | cons y cs=>have:=h.1;simp at this
theorem LR.mono (hR:∀ x y,R x y→R' x y) {l:List PV} {cs:List TV} (h:LR R l cs):LR R' l cs:=⟨h.1,fun i x y hx hy=>hR _ _ (h.2 i x y hx hy)⟩
theorem LR.app {l m:List PV} {cs ds:List TV} (h:LR R l cs) (k:LR R m ds):LR R (l++m) (cs++ds):=by
 refine ⟨by simp [h.1,k.1],fun i x y hx hy=>?_⟩
 by_cases hi:i < l.length
 ·rw [List.getElem?_append_left hi] at hx
  rw [List.getElem?_append_left (by rw [← h.1];exact hi)] at hy
  exact h.2 i x y hx hy
 ·rw [List.getElem?_append_right (by omega)] at hx
  rw [List.getElem?_append_right (by rw [← h.1];omega),← h.1] at hy
  exact k.2 _ x y hx hy
theorem LR.drop {l:List PV} {cs:List TV} (h:LR R l cs) (k:Nat):LR R (l.drop k) (cs.drop k) :=
 ⟨by simp [h.1],fun i x y hx hy=>by rw [List.getElem?_drop] at hx hy;exact h.2 _ x y hx hy⟩
theorem LR.take {l:List PV} {cs:List TV} (h:LR R l cs) (k:Nat):LR R (l.take k) (cs.take k):=by
 refine ⟨by simp [h.1],fun i x y hx hy=>?_⟩
 rw [List.getElem?_take] at hx hy
 split at hx
 ·rename_i hi;rw [if_pos hi] at hy;exact h.2 _ x y hx hy
 ·cases hx
theorem LR.at {l:List PV} {cs:List TV} (h:LR R l cs) {i:Nat} {x:PV} (hx:l[i]?=some x):∃ y,cs[i]?=some y∧R x y:=by
 have hi:i < l.length:=(List.getElem?_eq_some_iff.1 hx).1
 have hi2:i < cs.length:=by rw [← h.1];exact hi
 exact ⟨cs[i],List.getElem?_eq_getElem hi2,h.2 i x _ hx (List.getElem?_eq_getElem hi2)⟩
end lists
structure ER (R:PV→TV→Prop) (z:Nat) (l:List PV) (cs:List TV):Prop where
 one:∀ v∈l,v.cells.length=z
 all:LR R (l.flatMap PV.cells) cs
theorem zjz {z:Nat}:∀ {l:List PV},(∀ v∈l,v.cells.length=z)→(l.flatMap PV.cells).length=l.length * z
 | [],_=>by simp
 | v::l,h=>by
  rw [List.flatMap_cons,List.length_append,h v (by simp),zjz (fun x hx=>h x (by simp [hx])),List.length_cons,Nat.succ_mul,Nat.add_comm]
theorem zlp {z:Nat}:∀ {l:List PV},(∀ v∈l,v.cells.length=z)→∀ k,(l.drop k).flatMap PV.cells=(l.flatMap PV.cells).drop (k * z)
 | [],_,k=>by simp
 | v::l,h,0=>by simp
 | v::l,h,k + 1=>by
  rw [List.drop_succ_cons,zlp (fun x hx=>h x (by simp [hx])) k,List.flatMap_cons,Nat.succ_mul,Nat.add_comm,← List.drop_drop,← h v (by simp),List.drop_left]
theorem zlz {z:Nat}:∀ {l:List PV},(∀ v∈l,v.cells.length=z)→∀ k,(l.take k).flatMap PV.cells=(l.flatMap PV.cells).take (k * z)
 | [],_,k=>by simp
 | v::l,h,0=>by simp
 | v::l,h,k + 1=>by
  rw [List.take_succ_cons,List.flatMap_cons,zlz (fun x hx=>h x (by simp [hx])) k,List.flatMap_cons,Nat.succ_mul,Nat.add_comm,← h v (by simp),List.take_length_add_append]
section elems
variable {R R':PV→TV→Prop} {z:Nat}
theorem ER.len {l:List PV} {cs:List TV} (h:ER R z l cs):cs.length=l.length * z:=by rw [← h.all.1,zjz h.one]
theorem ER.nil:ER R z [] []:=⟨fun v h=>by simp at h,LR.nil⟩
theorem ER.drop {l:List PV} {cs:List TV} (h:ER R z l cs) (k:Nat):ER R z (l.drop k) (cs.drop (k * z)) :=
 ⟨fun v hv=>h.one v (List.mem_of_mem_drop hv),by rw [zlp h.one];exact h.all.drop _⟩
theorem ER.take {l:List PV} {cs:List TV} (h:ER R z l cs) (k:Nat):ER R z (l.take k) (cs.take (k * z)) :=
 ⟨fun v hv=>h.one v (List.mem_of_mem_take hv),by rw [zlz h.one];exact h.all.take _⟩
theorem ER.app {l m:List PV} {cs ds:List TV} (h:ER R z l cs) (k:ER R z m ds):ER R z (l++m) (cs++ds) :=
 ⟨fun v hv=>by rcases List.mem_append.1 hv with hv | hv;exact h.one v hv;exact k.one v hv,by rw [List.flatMap_append];exact h.all.app k.all⟩
theorem ER.mono (hR:∀ x y,R x y→R' x y) {l:List PV} {cs:List TV} (h:ER R z l cs):ER R' z l cs:=⟨h.one,h.all.mono hR⟩
theorem ER.at {l:List PV} {cs:List TV} (h:ER R z l cs) {i:Nat} {v:PV} (hv:l[i]?=some v):LR R v.cells ((cs.drop (i * z)).take z):=by
 have h1:=(h.drop i).take 1
 have hd:(l.drop i).take 1=[v]:=by
  have hi:i < l.length:=(List.getElem?_eq_some_iff.1 hv).1
  rw [List.drop_eq_getElem_cons hi]
  have:=(List.getElem?_eq_some_iff.1 hv).2
  simp [this]
 rw [hd,Nat.one_mul] at h1
 have h2:=h1.all
 simpa using h2
theorem ER.one' {v:PV} {cs:List TV} (h1:v.cells.length=z) (h:LR R v.cells cs):ER R z [v] cs:=⟨fun x hx=>by simp at hx;subst hx;exact h1,by simpa using h⟩
theorem ER.set {l:List PV} {cs:List TV} (h:ER R z l cs) {i:Nat} (hi:i < l.length) {v:PV} {ds:List TV} (hv:v.cells.length=z) (hd:LR R v.cells ds):ER R z (l.set i v) (cs.take (i * z)++ds++cs.drop ((i + 1) * z)):=by
 rw [List.set_eq_take_append_cons_drop,if_pos hi]
 have h1:=h.take i
 have h2:=h.drop (i + 1)
 rw [List.append_assoc]
 exact h1.app ((ER.one' hv hd).app h2)
end elems
theorem znk {α:Type} {t:Tr α}:∀ {n i m:Nat} {a b:List α},t.getL i n=some a→t.getL (i + n) m=some b→t.getL i (n + m)=some (a++b)
 | 0,i,m,a,b,h,k=>by simp [Tr.getL] at h;subst h;simpa using k
 | n + 1,i,m,a,b,h,k=>by
  rw [show n + 1 + m=(n + m) + 1 by omega]
  unfold Tr.getL at h
  split at h
  ·cases h
  ·rename_i x hx
   split at h
   ·cases h
   ·rename_i l hl
    injection h with h
    subst h
    have:=znk hl (by rw [show i + 1 + n=i + (n + 1) by omega];exact k)
    simp only [Tr.getL,hx,this]
    rfl
theorem ziu {α:Type} {t:Tr α}:∀ {n i m:Nat} {a:List α},t.getL i (n + m)=some a→t.getL i n=some (a.take n)∧t.getL (i + n) m=some (a.drop n)
 | 0,i,m,a,h=>by simp [Tr.getL];simpa using h
 | n + 1,i,m,a,h=>by
  rw [show n + 1 + m=(n + m) + 1 by omega] at h
  unfold Tr.getL at h
  split at h
  ·cases h
  ·rename_i x hx
   split at h
   ·cases h
   ·rename_i l hl
    injection h with h
    subst h
    obtain ⟨h1,h2⟩:=ziu hl
    refine ⟨?_,?_⟩
    ·simp only [Tr.getL,hx,h1];rfl
    ·rw [show i + (n + 1)=i + 1 + n by omega];exact h2
theorem zgx {α:Type} {t:Tr α} {n i:Nat} {a:List α} (h:t.getL i n=some a) {k m:Nat} (hk:k + m≤n):t.getL (i + k) m=some ((a.drop k).take m):=by
 obtain ⟨r,rfl⟩:=Nat.le.dest hk
 rw [Nat.add_assoc] at h
 obtain ⟨_,h2⟩:=ziu h
 exact (ziu h2).1
theorem zgg {α:Type} {t:Tr α}:∀ {a:List α} {i:Nat},(∀ j,j < a.length→t.get (i + j)=a[j]?)→t.getL i a.length=some a
 | [],i,_=>rfl
 | x::a,i,h=>by
  have h0:=h 0 (by simp)
  have h1:=zgg (t:=t) (a:=a) (i:=i + 1) fun j hj=>by
   have:=h (j + 1) (by simpa using hj)
   rw [show i + 1 + j=i + (j + 1) by omega,this];simp
  rw [List.length_cons]
  unfold Tr.getL
  rw [Nat.add_zero] at h0
  rw [h0]
  simp only [List.getElem?_cons_zero]
  rw [h1]
theorem zoT {α:Type} {t t':Tr α} {n i:Nat} (h:∀ j,i≤j→j < i + n→t'.get j=t.get j) {a:List α} (ha:t.getL i n=some a):t'.getL i n=some a:=by
 obtain ⟨h1,h2⟩:=Tr.getL_some ha
 subst h1
 exact zgg fun j hj=>by rw [h _ (by omega) (by omega),← h2 j hj]
theorem zb2 {a b:Nat} (h:a≤b):Nat.ble a b=true:=Nat.ble_eq_true_of_le h
theorem zaR {a b:Nat} (h:a=b):Nat.beq a b=true:=by subst h;exact Nat.beq_refl a
theorem zmm {a b:Nat} (h:Nat.beq a b=true):a=b:=Nat.eq_of_beq_eq_true h
theorem zsj {a b:Nat} (h:¬ a=b):Nat.beq a b=false:=by
 cases hb:Nat.beq a b
 ·rfl
 ·exact absurd (zmm hb) h
theorem zg5 {h:TH} {b e G M len:Nat} {cells:Tr TV} (hg:h.get b=some (.row e G M len cells)) {g o n:Nat} {cs:List TV} (h1:M≤g) (h2:g≤G) (hc:cells.getL o n=some cs):zaA h b g o n=some cs:=by
 unfold zaA
 rw [hg]
 unfold ze0
 dsimp only
 rw [zb2 h1,zb2 h2]
 exact hc
theorem zeX {h:TH} {b g o n:Nat} {cs:List TV} (hr:zaA h b g o n=some cs):∃ x,h.get b=some x∧ze0 g o n x=some cs:=by
 unfold zaA at hr
 split at hr
 ·rename_i x hx;exact ⟨x,hx,hr⟩
 ·cases hr
theorem zeB {h:TH} {b g o n:Nat} {x:TO} {cs:List TV} (hx:h.get b=some x) (hr:ze0 g o n x=some cs):zaA h b g o n=some cs:=by
 unfold zaA
 rw [hx]
 exact hr
theorem zqJ {g o n:Nat} {x:TO} {cs:List TV} (hr:ze0 g o n x=some cs) {k m:Nat} (hk:k + m≤n):ze0 g (o + k) m x=some ((cs.drop k).take m):=by
 unfold ze0 at hr ⊢
 split at hr
 ·rename_i e G M len cells
  cases h1:Nat.ble M g
  ·rw [h1] at hr;cases hr
  ·cases h2:Nat.ble g G
   ·rw [h1,h2] at hr;cases hr
   ·rw [h1,h2] at hr
    exact zgx hr hk
 ·rename_i cells
  cases h1:Nat.beq g 0
  ·rw [h1] at hr;cases hr
  ·rw [h1] at hr
   exact zgx hr hk
 ·cases hr
theorem zdv {h:TH} {b g o n:Nat} {cs:List TV} (hr:zaA h b g o n=some cs) {k m:Nat} (hk:k + m≤n):zaA h b g (o + k) m=some ((cs.drop k).take m):=by
 obtain ⟨x,h1,h2⟩:=zeX hr
 exact zeB h1 (zqJ h2 hk)
theorem PR.mono {S S':zdA} {h h':TH} (hS:∀ p b,S p b→S' p b) (hr:∀ p b,S p b→∀ g o n cs,zaA h b g o n=some cs→zaA h' b g o n=some cs) {v:PV} {u:TV} (k:PR S h v u):PR S' h' v u:=by
 induction k with
 | bool b=>exact .bool b
 | int k n=>exact .int k n
 | str s=>exact .str s
 | nilptr=>exact .nilptr
 | nilsl=>exact .nilsl
 | nilmap=>exact .nilmap
 | nilfn=>exact .nilfn
 | niliface=>exact .niliface
 | iface _ ih=>exact .iface ih
 | listnil p z=>exact .listnil p z
 | list h1 h2 h3 h4 h5 _ ih=>exact .list (hS _ _ h1) (hr _ _ h1 _ _ _ _ h2) h3 h4 h5 ih
 | elem h1 h2 h3 _ ih=>exact .elem (hS _ _ h1) (hr _ _ h1 _ _ _ _ h2) h3 ih
 | fn h1 _ ih=>exact .fn h1 ih
 | agg h1 _ ih=>exact .agg h1 ih
 | tuple h1 _ ih=>exact .tuple h1 ih
structure Mo (c c':Cx) (h h':TH):Prop where
 S:∀ p b,c.S p b→c'.S p b
 ρ:∀ id x,c.ρ id=some x→c'.ρ id=some x
 L:∀ id,c.L id→c'.L id
 rd:∀ p b,c.S p b→∀ g o n cs,zaA h b g o n=some cs→zaA h' b g o n=some cs
theorem Mo.refl (c:Cx) (h:TH):Mo c c h h:=⟨fun _ _ h=>h,fun _ _ h=>h,fun _ h=>h,fun _ _ _ _ _ _ _ h=>h⟩
theorem Mo.trans {c c' c'':Cx} {h h' h'':TH} (a:Mo c c' h h') (b:Mo c' c'' h' h''):Mo c c'' h h'' :=
 ⟨fun p x hx=>b.S _ _ (a.S _ _ hx),fun id x hx=>b.ρ _ _ (a.ρ _ _ hx),fun id hx=>b.L _ (a.L _ hx),fun p x hx g o n cs hc=>b.rd _ _ (a.S _ _ hx) _ _ _ _ (a.rd _ _ hx _ _ _ _ hc)⟩
theorem VR.mono {c c':Cx} {h h':TH} (m:Mo c c' h h') {v:PV} {u:TV} (k:VR c h v u):VR c' h' v u:=by
 induction k with
 | pure k=>exact .pure (k.mono m.S m.rd)
 | sl h=>exact .sl (m.ρ _ _ h)
 | slnil z h=>exact .slnil z (m.L _ h)
 | ptr h=>exact .ptr (m.ρ _ _ h)
 | map h=>exact .map (m.ρ _ _ h)
 | yield h=>exact .yield (m.ρ _ _ h)
 | iface _ ih=>exact .iface ih
 | fn h1 _ ih=>exact .fn h1 ih
 | agg h1 _ ih=>exact .agg h1 ih
 | tuple h1 _ ih=>exact .tuple h1 ih
theorem PR.aggL {S:zdA} {h:TH} {l:List PV} {cs:List TV} (k:LR (PR S h) l cs):PR S h (.agg l) (.agg cs):=.agg k.1 k.2
theorem VR.aggL {c:Cx} {h:TH} {l:List PV} {cs:List TV} (k:LR (VR c h) l cs):VR c h (.agg l) (.agg cs):=.agg k.1 k.2
theorem VR.tupL {c:Cx} {h:TH} {l:List PV} {cs:List TV} (k:LR (VR c h) l cs):VR c h (.tuple l) (.tuple cs):=.tuple k.1 k.2
theorem VR.fnL {c:Cx} {h:TH} {f:Nat} {l:List PV} {cs:List TV} (k:LR (VR c h) l cs):VR c h (.fn f l) (.fn f cs):=.fn k.1 k.2
theorem LR.pure {c:Cx} {h:TH} {l:List PV} {cs:List TV} (k:LR (PR c.S h) l cs):LR (VR c h) l cs:=k.mono fun _ _=>.pure
theorem VR.agg_inv {c:Cx} {h:TH} {l:List PV} {u:TV} (k:VR c h (.agg l) u):∃ cs,u=.agg cs∧LR (VR c h) l cs:=by
 cases k with
 | pure k=>cases k with | agg h1 h2=>exact ⟨_,rfl,LR.pure ⟨h1,h2⟩⟩
 | agg h1 h2=>exact ⟨_,rfl,h1,h2⟩
theorem VR.tuple_inv {c:Cx} {h:TH} {l:List PV} {u:TV} (k:VR c h (.tuple l) u):∃ cs,u=.tuple cs∧LR (VR c h) l cs:=by
 cases k with
 | pure k=>cases k with | tuple h1 h2=>exact ⟨_,rfl,LR.pure ⟨h1,h2⟩⟩
 | tuple h1 h2=>exact ⟨_,rfl,h1,h2⟩
theorem VR.fn_inv {c:Cx} {h:TH} {f:Nat} {l:List PV} {u:TV} (k:VR c h (.fn f l) u):∃ cs,u=.fn f cs∧LR (VR c h) l cs:=by
 cases k with
 | pure k=>cases k with | fn h1 h2=>exact ⟨_,rfl,LR.pure ⟨h1,h2⟩⟩
 | fn h1 h2=>exact ⟨_,rfl,h1,h2⟩
theorem VR.iface_inv {c:Cx} {h:TH} {t:Nat} {v:PV} {u:TV} (k:VR c h (.iface t v) u):∃ u',u=.iface t u'∧VR c h v u':=by
 cases k with
 | pure k=>cases k with | iface h1=>exact ⟨_,rfl,.pure h1⟩
 | iface h1=>exact ⟨_,rfl,h1⟩
theorem VR.int_inv {c:Cx} {h:TH} {k:IntKind} {n:Int} {u:TV} (x:VR c h (.int k n) u):u=.int k n:=by
 cases x with | pure x=>cases x;rfl
theorem VR.bool_inv {c:Cx} {h:TH} {b:Bool} {u:TV} (x:VR c h (.bool b) u):u=.bool b:=by
 cases x with | pure x=>cases x;rfl
theorem VR.str_inv {c:Cx} {h:TH} {s:List Nat} {u:TV} (x:VR c h (.str s) u):u=.str s:=by
 cases x with | pure x=>cases x;rfl
theorem VR.bad_inv {c:Cx} {h:TH} {u:TV} (x:VR c h .bad u):False:=by
 cases x with | pure x=>cases x
theorem VR.cells {c:Cx} {h:TH} {v:PV} {u:TV} (k:VR c h v u):LR (VR c h) v.cells u.cells:=by
 cases k with
 | pure k =>
  cases k with
  | bool b=>exact LR.cons (.pure (.bool b)) LR.nil
  | int kk n=>exact LR.cons (.pure (.int kk n)) LR.nil
  | str s=>exact LR.cons (.pure (.str s)) LR.nil
  | nilptr=>exact LR.cons (.pure .nilptr) LR.nil
  | nilsl=>exact LR.cons (.pure .nilsl) LR.nil
  | nilmap=>exact LR.cons (.pure .nilmap) LR.nil
  | nilfn=>exact LR.cons (.pure .nilfn) LR.nil
  | niliface=>exact LR.cons (.pure .niliface) LR.nil
  | iface h1=>exact LR.cons (.pure (.iface h1)) LR.nil
  | listnil p z=>exact LR.cons (.pure (.listnil p z)) LR.nil
  | list h1 h2 h3 h4 h5 h6=>exact LR.cons (.pure (.list h1 h2 h3 h4 h5 h6)) LR.nil
  | elem h1 h2 h3 h4=>exact LR.cons (.pure (.elem h1 h2 h3 h4)) LR.nil
  | fn h1 h2=>exact LR.cons (.pure (.fn h1 h2)) LR.nil
  | agg h1 h2=>exact LR.pure ⟨h1,h2⟩
  | tuple h1 h2=>exact LR.nil
 | sl h1=>exact LR.cons (.sl h1) LR.nil
 | slnil z h1=>exact LR.cons (.slnil z h1) LR.nil
 | ptr h1=>exact LR.cons (.ptr h1) LR.nil
 | map h1=>exact LR.cons (.map h1) LR.nil
 | yield h1=>exact LR.cons (.yield h1) LR.nil
 | iface h1=>exact LR.cons (.iface h1) LR.nil
 | fn h1 h2=>exact LR.cons (.fn h1 h2) LR.nil
 | agg h1 h2=>exact ⟨h1,h2⟩
 | tuple h1 h2=>exact LR.nil
def lk (x:Int):List zbU→Option TV
 | []=>none
 | e::l=>match e.k with
  | .int _ n=>if n=x then some e.v else lk x l
  | _=>lk x l
structure MR (R:PV→TV→Prop) (k:IntKind) (m:Int→Option PV) (es:List zbU):Prop where
 keys:∀ e∈es,∃ n,e.k=.int k n
 some:∀ x v,m x=some v→∃ u,lk x es=some u∧R v u
 none:∀ x,m x=none→lk x es=none
def tmR (c:Cx) (h:TH) (tm:Nat→PV) (t:Tr TV):Prop:=∀ i,tm i=.bad∨∃ u,t.get i=some u∧VR c h (tm i) u
inductive XR (c:Cx) (h:TH):FX→TX→Prop
 | norm:XR c h .norm .norm
 | exit (id:Nat):XR c h (.exit id) (.exit id)
 | goto (l:Nat):XR c h (.goto l) (.goto l)
 | ret:XR c h .ret .ret
 | panic {v:PV} {u:TV}:VR c h v u→XR c h (.panic v) (.panic u)
def OR (c:Cx) (h:TH) (id:Nat):zk→Prop
 | .row e z G M l=>(l=[]∧G=0∧c.ρ id=none∧c.L id)∨∃ b d G' M' cells cs,c.ρ id=some (b,d,z)∧h.get b=some (.row e G' M' (l.length * z) cells)∧G=G' + d∧M'≤M - d∧cells.getL 0 (l.length * z)=some cs∧ER (VR c h) z l cs
 | .map0=>∃ b d z clock,c.ρ id=some (b,d,z)∧h.get b=some (.map [] clock)
 | .mapI k m=>∃ b d z es clock,c.ρ id=some (b,d,z)∧h.get b=some (.map es clock)∧MR (VR c h) k m es
 | .dfr shut=>∃ b d z,c.ρ id=some (b,d,z)∧h.get b=some (.dfr shut)
 | .loop st pe tm ps aS bo m=>∃ b d z bm dm zm t pe',c.ρ id=some (b,d,z)∧c.ρ m=some (bm,dm,zm)∧h.get b=some (.loop st pe' t ps aS bo bm)∧tmR c h tm t∧XR c h pe pe'
 | .void=>True
structure Ba where
 β:Nat
 h0:TH
 S:zdA
structure HR (B:Ba) (c:Cx) (H:List zk) (h:TH):Prop where
 le:B.β≤h.next
 keep:∀ b,b < B.β→h.get b=B.h0.get b
 old:∀ p b,c.S p b→B.S p b∨(p=0∧B.β≤b)
 S:∀ p b,c.S p b→b < h.next∧∀ id x,c.ρ id=some x→x.1 ≠ b
 own:∀ id x,c.ρ id=some x→B.β≤x.1∧x.1 < h.next∧id < H.length
 lz:∀ id,c.L id→id < H.length∧∀ x,c.ρ id=some x→x.2.1=1
 inj:∀ id id' x x',c.ρ id=some x→c.ρ id'=some x'→x.1=x'.1→id=id'
 obj:∀ id o,H[id]?=some o→OR c h id o
def PV.toT:PV→Option TV
 | .bool b=>some (.bool b)
 | .int k n=>some (.int k n)
 | .str s=>some (.str s)
 | _=>none
def ofT:TV→Option PV
 | .bool b=>some (.bool b)
 | .int k n=>some (.int k n)
 | .str s=>some (.str s)
 | _=>none
theorem zj9 {c:Cx} {h:TH} {v:PV} {u u':TV} (k:VR c h v u) (ht:v.toT=some u'):u=u':=by
 cases v <;> simp [PV.toT] at ht <;> subst ht
 ·exact k.bool_inv
 ·exact k.int_inv
 ·exact k.str_inv
theorem zmE {c:Cx} {h:TH} {v:PV} {u:TV} (ht:ofT u=some v):VR c h v u:=by
 cases u <;> simp [ofT] at ht <;> subst ht
 ·exact .pure (.bool _)
 ·exact .pure (.int _ _)
 ·exact .pure (.str _)
def sc1 (f:TV→Option TV):List PV→Option PV
 | [x]=>match x.toT with
  | some u=>(match f u with | some w=>ofT w | none=>none)
  | none=>none
 | _=>none
def sc2 (f:TV→TV→Option TV):List PV→Option PV
 | [x,y]=>match x.toT with
  | some u=>(match y.toT with
   | some t=>(match f u t with | some w=>ofT w | none=>none)
   | none=>none)
  | none=>none
 | _=>none
def zbj:List PV→Option (List TV)
 | []=>some []
 | x::l=>match x.toT with
  | some u=>(match zbj l with | some us=>some (u::us) | none=>none)
  | none=>none
def scL (f:List TV→Option TV) (l:List PV):Option PV:=match zbj l with
 | some us=>(match f us with | some w=>ofT w | none=>none)
 | none=>none
section plain
variable {c:Cx} {h:TH}
theorem zkA {f:TV→Option TV} {vs:List PV} {us:List TV} {v:PV} (hv:LR (VR c h) vs us) (hp:sc1 f vs=some v):∃ u,zbT us f=some u∧VR c h v u:=by
 unfold sc1 at hp
 split at hp
 ·rename_i x
  obtain ⟨y,cs,rfl,h1,h2⟩:=hv.of_cons
  obtain rfl:=h2.of_nil
  split at hp
  ·rename_i u hu
   obtain rfl:=zj9 h1 hu
   split at hp
   ·rename_i w hw
    exact ⟨w,hw,zmE hp⟩
   ·cases hp
  ·cases hp
 ·cases hp
theorem ziv {f:TV→TV→Option TV} {vs:List PV} {us:List TV} {v:PV} (hv:LR (VR c h) vs us) (hp:sc2 f vs=some v):∃ u,zbO us f=some u∧VR c h v u:=by
 unfold sc2 at hp
 split at hp
 ·rename_i x x'
  obtain ⟨y,cs,rfl,h1,h2⟩:=hv.of_cons
  obtain ⟨y',cs',rfl,h3,h4⟩:=h2.of_cons
  obtain rfl:=h4.of_nil
  split at hp
  ·rename_i u hu
   obtain rfl:=zj9 h1 hu
   split at hp
   ·rename_i u' hu'
    obtain rfl:=zj9 h3 hu'
    split at hp
    ·rename_i w hw
     exact ⟨w,hw,zmE hp⟩
    ·cases hp
   ·cases hp
  ·cases hp
 ·cases hp
theorem ziM:∀ {vs:List PV} {us us':List TV},LR (VR c h) vs us→zbj vs=some us'→us=us'
 | [],us,us',hv,hp=>by simp [zbj] at hp;subst hp;exact hv.of_nil
 | x::l,us,us',hv,hp=>by
  obtain ⟨y,cs,rfl,h1,h2⟩:=hv.of_cons
  unfold zbj at hp
  split at hp
  ·rename_i u hu
   obtain rfl:=zj9 h1 hu
   split at hp
   ·rename_i ws hws
    injection hp with hp;subst hp
    rw [ziM h2 hws]
   ·cases hp
  ·cases hp
theorem ztd {f:List TV→Option TV} {vs:List PV} {us:List TV} {v:PV} (hv:LR (VR c h) vs us) (hp:scL f vs=some v):∃ u,f us=some u∧VR c h v u:=by
 unfold scL at hp
 split at hp
 ·rename_i ws hws
  obtain rfl:=ziM hv hws
  split at hp
  ·rename_i w hw;exact ⟨w,hw,zmE hp⟩
  ·cases hp
 ·cases hp
end plain
def zbd (f:TV→Option PV):List TV→Option (List PV)
 | []=>some []
 | x::l=>match f x with
  | some v=>(match zbd f l with | some vs=>some (v::vs) | none=>none)
  | none=>none
def ofC:Nat→TV→Option PV
 | 0,_=>none
 | n + 1,u=>match u with
  | .bool b=>some (.bool b)
  | .int k m=>some (.int k m)
  | .str s=>some (.str s)
  | .nilptr=>some .nilptr
  | .nilsl=>some .nilsl
  | .nilmap=>some .nilmap
  | .nilfn=>some .nilfn
  | .niliface=>some .niliface
  | .fn f []=>some (.fn f [])
  | .iface t v=>(match ofC n v with | some v=>some (.iface t v) | none=>none)
  | .agg l=>(match zbd (ofC n) l with | some l=>some (.agg l) | none=>none)
  | .tuple l=>(match zbd (ofC n) l with | some l=>some (.tuple l) | none=>none)
  | _=>none
theorem zeK {f:TV→Option PV} {S:zdA} {h:TH} (hf:∀ u v,f u=some v→PR S h v u):∀ {us:List TV} {vs:List PV},zbd f us=some vs→LR (PR S h) vs us
 | [],vs,hp=>by simp [zbd] at hp;subst hp;exact LR.nil
 | u::us,vs,hp=>by
  unfold zbd at hp
  split at hp
  ·rename_i v hv
   split at hp
   ·rename_i ws hws
    injection hp with hp;subst hp
    exact LR.cons (hf _ _ hv) (zeK hf hws)
   ·cases hp
  ·cases hp
theorem ze3 {S:zdA} {h:TH}:∀ {n:Nat} {u:TV} {v:PV},ofC n u=some v→PR S h v u
 | 0,u,v,hp=>by cases hp
 | n + 1,u,v,hp=>by
  unfold ofC at hp
  split at hp <;> first | (injection hp with hp;subst hp;constructor;done) | skip
  ·injection hp with hp;subst hp;exact .fn rfl (fun i x y hx=>by simp at hx)
  ·split at hp
   ·rename_i w hw;injection hp with hp;subst hp;exact .iface (ze3 hw)
   ·cases hp
  ·split at hp
   ·rename_i w hw;injection hp with hp;subst hp
    have:=zeK (fun u v=>ze3 (S:=S) (h:=h)) hw
    exact .agg this.1 this.2
   ·cases hp
  ·split at hp
   ·rename_i w hw;injection hp with hp;subst hp
    have:=zeK (fun u v=>ze3 (S:=S) (h:=h)) hw
    exact .tuple this.1 this.2
   ·cases hp
  ·cases hp
def zae:PV→Bool
 | .agg _=>false
 | .tuple _=>false
 | .bad=>false
 | _=>true
theorem zpN {v:PV} (h:zae v=true):v.cells=[v]:=by cases v <;> first | rfl | cases h
def zbh (agg:Bool) (l:List PV):Option PV:=if agg then some (.agg l) else match l with
 | [x]=>some x
 | _=>none
def zbf (H:List zk) (id g i:Nat):Option PV:=match H[id]? with
 | some (.row _ _ G M l)=>if M≤g∧g≤G then l[i]? else none
 | _=>none
def zax (H:List zk) (agg:Bool) (n:Nat):List PV→Option PV
 | [.elem cs]=>if n≤cs.length then zbh agg (cs.take n) else none
 | [.ptr id g i o m]=>if n≤m then (match zbf H id g i with
  | some v=>if o + n≤v.cells.length then zbh agg ((v.cells.drop o).take n) else none
  | none=>none) else none
 | _=>none
def zan (off size:Nat):List PV→Option PV
 | [.elem cs]=>if off + size≤cs.length then some (.elem ((cs.drop off).take size)) else none
 | [.ptr id g i o m]=>if off + size≤m then some (.ptr id g i (o + off) size) else none
 | _=>none
def zaq (esz:Nat):List PV→Option PV
 | [.list _ z l,.int _ j]=>if esz=z∧0≤j then (match l[j.toNat]? with
  | some v=>some (.elem v.cells)
  | none=>none) else none
 | [.sl id g o n _ z,.int _ j]=>if esz=z∧0≤j∧j.toNat < n then some (.ptr id g (o + j.toNat) 0 z) else none
 | _=>none
def zkT (len esz:Nat):List PV→Option PV
 | [.elem cs,.int _ j]=>if 0≤j∧j.toNat < len∧len * esz≤cs.length then some (.elem ((cs.drop (j.toNat * esz)).take esz)) else none
 | [.ptr id g i o m,.int _ j]=>if 0≤j∧j.toNat < len∧len * esz≤m then some (.ptr id g i (o + j.toNat * esz) esz) else none
 | _=>none
def bnd (m:Nat):PV→Option Nat
 | .int _ j=>if 0≤j∧j.toNat≤m then some j.toNat else none
 | _=>none
def zas (lo hi mx:Bool) (p z:Nat) (l:List PV):List PV→Option PV
 | []=>if lo=false∧hi=false∧mx=false then some (.list p z l) else none
 | [x]=>if mx=true∨lo=hi then none else (match bnd l.length x with
  | some a=>some (.list p z (if lo then l.drop a else l.take a))
  | none=>none)
 | [x,y]=>if lo=true∧hi=true∧mx=false∧0 < l.length then (match bnd l.length y with
  | some b=>(match bnd b x with
   | some a=>some (.list p z ((l.take b).drop a))
   | none=>none)
  | none=>none) else none
 | [x,y,w]=>if lo=true∧hi=true∧mx=true∧0 < l.length then (match bnd l.length w with
  | some m=>(match bnd m y with
   | some b=>(match bnd b x with
    | some a=>some (.list p z ((l.take b).drop a))
    | none=>none)
   | none=>none)
  | none=>none) else none
 | _=>none
def zat (lo hi mx:Bool) (id g o n q z:Nat):List PV→Option PV
 | []=>if lo=false∧hi=false∧mx=false then some (.sl id g o n q z) else none
 | [x]=>if mx=true∨lo=hi∨q=0 then none else if lo then (match bnd n x with
   | some a=>some (.sl id g (o + a) (n - a) (q - 2 * a) z)
   | none=>none) else (match bnd (q / 2) x with
   | some a=>some (.sl id g o a q z)
   | none=>none)
 | [x,y]=>if lo=true∧hi=true∧mx=false∧0 < q then (match bnd (q / 2) y with
  | some b=>(match bnd b x with
   | some a=>some (.sl id g (o + a) (b - a) (q - 2 * a) z)
   | none=>none)
  | none=>none) else none
 | [x,y,m]=>if lo=true∧hi=true∧mx=true∧0 < q then (match bnd (q / 2) m with
  | some m=>(match bnd m y with
   | some b=>(match bnd b x with
    | some a=>some (.sl id g (o + a) (b - a) (2 * m + 1 - 2 * a) z)
    | none=>none)
   | none=>none)
  | none=>none) else none
 | _=>none
def zao (esz:Nat) (lo hi mx:Bool):List PV→Option PV
 | .list p z l::bs=>if esz=z then zas lo hi mx p z l bs else none
 | .sl id g o n q z::bs=>if esz=z then zat lo hi mx id g o n q z bs else none
 | _=>none
def zbx (f:Nat) (vs:List PV):Option PV:=match f with
 | 1=>(match vs with
  | [.nilsl]=>some (.int .i64 0)
  | [.list _ _ l]=>some (.int .i64 l.length)
  | [.sl _ _ _ n _ _]=>some (.int .i64 n)
  | _=>none)
 | 3=>sc1 zpa vs
 | _=>none
def okF (ok:Bool) (v:PV) (b:Bool):PV:=if ok then .tuple [v,.bool b] else v
def zaF (H:List zk) (kf:Nat) (zero:TV) (ok:Bool):List PV→Option PV
 | [.map id,.int k x]=>if kf=1 then (match H[id]? with
  | some .map0=>(match ofC 3 zero with | some z=>some (okF ok z false) | none=>none)
  | some (.mapI k' m)=>if k=k' then (match m x with
   | some v=>some (okF ok v true)
   | none=>(match ofC 3 zero with | some z=>some (okF ok z false) | none=>none)) else none
  | _=>none) else none
 | [.nilmap,.int _ _]=>if kf=1 then (match ofC 3 zero with | some z=>some (okF ok z false) | none=>none) else none
 | _=>none
def zaO (f:Nat) (v:PV):Option Bool:=match f,v with
 | 1,.nilptr=>some true
 | 1,.ptr ..=>some false
 | 1,.elem _=>some false
 | 2,.nilsl=>some true
 | 2,.list _ _ (_::_)=>some false
 | 3,.nilmap=>some true
 | 3,.map _=>some false
 | 4,.nilfn=>some true
 | 4,.fn ..=>some false
 | 5,.niliface=>some true
 | 5,.iface ..=>some false
 | _,_=>none
def zbl (neg:Bool):Option Bool→Option PV
 | some b=>some (.bool (if neg then !b else b))
 | none=>none
def zam (neg:Bool) (ks:List Nat):List PV→Option PV
 | [.agg l,.agg m]=>(match zbj l with
  | some l=>(match zbj m with
   | some m=>zbl neg (zen ks l m)
   | none=>none)
  | none=>none)
 | _=>none
def zal (cells:List PV):List (Nat × Nat)→List PV→Option (List PV)
 | [],[]=>some cells
 | (off,size)::ps,v::vs=>if v.cells.length=size∧off + size≤cells.length then zal (cells.take off++v.cells++cells.drop (off + size)) ps vs else none
 | _,_=>none
def zaL (agg:Bool) (off size:Nat) (l:List PV):Option PV :=
 if agg then (if off + size≤l.length then some (.agg ((l.drop off).take size)) else none) else l[off]?
def zaV (H:List zk) (k:zO) (vs:List PV):Option PV :=
 match k with
 | .mov=>(match vs with | [v]=>some v | _=>none)
 | .pick=>(match vs with | [.bool c,a,b]=>some (if c then a else b) | _=>none)
 | .load agg n=>zax H agg n vs
 | .nilchk=>(match vs with
  | [.elem cs]=>some (.elem cs)
  | [.ptr id g i o n]=>some (.ptr id g i o n)
  | [.fn f c]=>some (.fn f c)
  | _=>none)
 | .bin op=>sc2 (zcu op) vs
 | .eqnil neg f=>(match vs with
  | [x,y]=>zbl neg (zT (zaO f x) (zaO f y))
  | _=>none)
 | .eqB neg=>sc2 (zk5 neg) vs
 | .cstr=>sc1 zpu vs
 | .eqagg neg ks=>zam neg ks vs
 | .un op=>sc1 (pUn op) vs
 | .conv k=>sc1 (ziR k) vs
 | .mkif t=>(match vs with | [v]=>some (.iface t v) | _=>none)
 | .mkfn f=>some (.fn f vs)
 | .slice esz lo hi mx=>zao esz lo hi mx vs
 | .slstr lo hi=>scL (ziA lo hi) vs
 | .faddr off size=>zan off size vs
 | .fld agg off size=>(match vs with | [.agg l]=>zaL agg off size l | _=>none)
 | .iaddr esz=>zaq esz vs
 | .iaddrA len esz=>zkT len esz vs
 | .idxstr=>sc2 ziK vs
 | .look kf zero ok=>zaF H kf zero ok vs
 | .tassert t zero ok=>(match vs with
  | [.iface t' v]=>if t=t' then some (okF ok v true) else if ok then (match ofC 3 zero with | some z=>some (.tuple [z,.bool false]) | none=>none) else none
  | [.niliface]=>if ok then (match ofC 3 zero with | some z=>some (.tuple [z,.bool false]) | none=>none) else none
  | _=>none)
 | .extr i=>(match vs with | [.tuple l]=>l[i]? | _=>none)
 | .len f=>zbx f vs
 | .maxI=>sc2 (zg8 true) vs
 | .minI=>sc2 (zg8 false) vs
 | .build zero places=>(match zbd (ofC 3) zero with
  | some z=>(match zal z places vs with
   | some l=>some (.agg l)
   | none=>none)
  | none=>none)
 | _=>none
end Fv
end Go.Proofs.YtfomlmhnmheenaaGreat
namespace Go.Proofs.YtfomlmhnmheenaaGreat
namespace Fv
open Tw
variable {B:Ba} {h:TH} {c:Cx} {H:List zk} {vs:List PV} {us:List TV} {v:PV}
theorem zky {agg:Bool} {l:List PV} {cs:List TV} (hl:LR (VR c h) l cs) (hp:zbh agg l=some v):∃ u,one agg cs=some u∧VR c h v u:=by
 unfold zbh at hp
 unfold one
 cases agg
 ·simp only [Bool.false_eq_true,if_false] at hp
  split at hp
  ·rename_i x
   injection hp with hp;subst hp
   obtain ⟨y,cs',rfl,h1,h2⟩:=hl.of_cons
   obtain rfl:=h2.of_nil
   exact ⟨y,rfl,h1⟩
  ·cases hp
 ·simp only [if_true] at hp
  injection hp with hp;subst hp
  exact ⟨_,rfl,VR.aggL hl⟩
theorem zjU {i n z:Nat} (h:i < n):i * z + z≤n * z:=by
 have:=Nat.mul_le_mul_right z (Nat.succ_le_of_lt h)
 rwa [Nat.succ_mul] at this
theorem zmb {α:Type} (cs:List α) {a o n z:Nat} (hz:o + n≤z):((((cs.drop a).take z).drop o).take n)=(cs.drop (a + o)).take n:=by
 rw [List.drop_take,List.take_take,List.drop_drop,Nat.min_eq_left (by omega)]
theorem znj (k:HR B c H h) {id g i b d z:Nat} (hr:zbf H id (g + d) i=some v) (hρ:c.ρ id=some (b,d,z)):v.cells.length=z∧∀ o n,o + n≤z→∃ ds,zaA h b g (i * z + o) n=some ds∧LR (VR c h) ((v.cells.drop o).take n) ds:=by
 unfold zbf at hr
 split at hr
 ·rename_i e z' G M l hH
  split at hr
  ·rename_i hg
   rcases k.obj _ _ hH with ⟨rfl,_⟩ | ⟨b',d',G',M',cells,cs,h1,h2,h3,h4,h5,h6⟩
   ·simp at hr
   ·rw [hρ] at h1
    injection h1 with h1;injection h1 with h1 h7;injection h7 with h7 h8
    subst h1;subst h7;subst h8;subst h3
    have hi:i < l.length:=(List.getElem?_eq_some_iff.1 hr).1
    have hm:=zjU (z:=z) hi
    have hvl:=h6.one v (List.mem_of_getElem? hr)
    refine ⟨hvl,fun o n hon=>?_⟩
    refine ⟨(cs.drop (i * z + o)).take n,zg5 h2 (by omega) (by omega) ?_,?_⟩
    ·have:=zgx h5 (k:=i * z + o) (m:=n) (by omega)
     rwa [Nat.zero_add] at this
    ·rw [← zmb cs hon]
     exact ((h6.at hr).drop o).take n
  ·cases hr
 ·cases hr
theorem zdy {id g i o n:Nat} {u:TV} (x:VR c h (.ptr id g i o n) u):∃ b d z g',c.ρ id=some (b,d,z)∧g=g' + d∧u=.ptr b g' (i * z + o) n:=by
 cases x with
 | pure x=>cases x
 | ptr hρ=>exact ⟨_,_,_,_,hρ,rfl,rfl⟩
theorem zeb {cs:List PV} {u:TV} (x:VR c h (.elem cs) u):∃ p b g o ds,c.S p b∧u=.ptr b g o cs.length∧zaA h b g o cs.length=some ds∧LR (PR c.S h) cs ds:=by
 cases x with
 | pure x=>cases x with | elem h1 h2 h3 h4=>exact ⟨_,_,_,_,_,h1,rfl,h2,h3,h4⟩
theorem zmA {cs:List PV} {p b g o:Nat} {ds:List TV} (hS:c.S p b) (hr:zaA h b g o cs.length=some ds) (hl:LR (PR c.S h) cs ds) {a n:Nat} (ha:a + n≤cs.length):VR c h (.elem ((cs.drop a).take n)) (.ptr b g (o + a) n):=by
 have hn:((cs.drop a).take n).length=n:=by simp;omega
 have h1:=zdv hr ha
 have h2:=(hl.drop a).take n
 have:=PR.elem (S:=c.S) (h:=h) hS (by rw [hn];exact h1) h2.1 h2.2
 rw [hn] at this
 exact .pure this
theorem zoB (k:HR B c H h) {agg:Bool} {n:Nat} (hv:LR (VR c h) vs us) (hp:zax H agg n vs=some v):∃ u,zbT us (zez agg n h)=some u∧VR c h v u:=by
 unfold zax at hp
 split at hp
 ·rename_i cs
  obtain ⟨y,cs',rfl,h1,h2⟩:=hv.of_cons
  obtain rfl:=h2.of_nil
  split at hp
  ·rename_i hn
   obtain ⟨p,b,g,o,ds,s1,rfl,s2,s3⟩:=zeb h1
   have s4:=zdv s2 (k:=0) (m:=n) (by omega)
   rw [Nat.add_zero] at s4
   obtain ⟨u,u1,u2⟩:=zky (LR.pure (s3.take n)) hp
   refine ⟨u,?_,u2⟩
   simp only [zbT,zez]
   rw [zb2 hn,s4]
   exact u1
  ·cases hp
 ·rename_i id g i o m
  obtain ⟨y,cs',rfl,h1,h2⟩:=hv.of_cons
  obtain rfl:=h2.of_nil
  split at hp
  ·rename_i hn
   split at hp
   ·rename_i w hw
    split at hp
    ·rename_i ho
     obtain ⟨b,d,z,g',s1,rfl,rfl⟩:=zdy h1
     obtain ⟨s2,s3⟩:=znj k hw s1
     obtain ⟨ds,s4,s5⟩:=s3 o n (by rw [← s2];exact ho)
     obtain ⟨u,u1,u2⟩:=zky s5 hp
     refine ⟨u,?_,u2⟩
     simp only [zbT,zez]
     rw [zb2 hn,s4]
     exact u1
    ·cases hp
   ·cases hp
  ·cases hp
 ·cases hp
theorem zq8 {off size:Nat} (hv:LR (VR c h) vs us) (hp:zan off size vs=some v):∃ u,zbT us (zhi off size)=some u∧VR c h v u:=by
 unfold zan at hp
 split at hp
 ·rename_i cs
  obtain ⟨y,cs',rfl,h1,h2⟩:=hv.of_cons
  obtain rfl:=h2.of_nil
  split at hp
  ·rename_i hn
   injection hp with hp;subst hp
   obtain ⟨p,b,g,o,ds,s1,rfl,s2,s3⟩:=zeb h1
   refine ⟨.ptr b g (o + off) size,?_,zmA s1 s2 s3 hn⟩
   simp only [zbT,zhi]
   rw [zb2 hn];rfl
  ·cases hp
 ·rename_i id g i o m
  obtain ⟨y,cs',rfl,h1,h2⟩:=hv.of_cons
  obtain rfl:=h2.of_nil
  split at hp
  ·rename_i hn
   injection hp with hp;subst hp
   obtain ⟨b,d,z,g',s1,rfl,rfl⟩:=zdy h1
   refine ⟨.ptr b g' (i * z + o + off) size,?_,?_⟩
   ·simp only [zbT,zhi]
    rw [zb2 hn];rfl
   ·rw [Nat.add_assoc];exact .ptr s1
  ·cases hp
 ·cases hp
theorem zeM {j:Int} (h:0≤j):zpm j=some j.toNat:=by
 obtain ⟨n,rfl⟩:=Int.eq_ofNat_of_zero_le h
 rfl
theorem zdf {p z:Nat} {l:List PV} {u:TV} (x:VR c h (.list p z l) u):(l=[]∧u=.nilsl)∨∃ b g o q ds,u=.sl b g o l.length q z∧c.S p b∧zaA h b g o (l.length * z)=some ds∧2 * l.length≤q∧ER (PR c.S h) z l ds:=by
 cases x with
 | pure x=>cases x with
  | listnil=>exact .inl ⟨rfl,rfl⟩
  | list h1 h2 h3 h4 h5 h6=>exact .inr ⟨_,_,_,_,_,rfl,h1,h2,h3,h4,h5,h6⟩
theorem sl_inv {id g o n q z:Nat} {u:TV} (x:VR c h (.sl id g o n q z) u):(g=0∧o=0∧n=0∧q=0∧u=.nilsl∧c.L id)∨∃ b d g',c.ρ id=some (b,d,z)∧g=g' + d∧u=.sl b g' (o * z) n q z:=by
 cases x with
 | pure x=>cases x
 | sl hρ=>exact .inr ⟨_,_,_,hρ,rfl,rfl⟩
 | slnil _ hL=>exact .inl ⟨rfl,rfl,rfl,rfl,rfl,hL⟩
theorem zrO {esz:Nat} (hv:LR (VR c h) vs us) (hp:zaq esz vs=some v):∃ u,zbO us (zhc esz)=some u∧VR c h v u:=by
 unfold zaq at hp
 split at hp
 ·rename_i p z l k j
  obtain ⟨y,cs',rfl,h1,h2⟩:=hv.of_cons
  obtain ⟨y',cs'',rfl,h3,h4⟩:=h2.of_cons
  obtain rfl:=h4.of_nil
  obtain rfl:=h3.int_inv
  split at hp
  ·rename_i hc
   obtain ⟨rfl,hj⟩:=hc
   split at hp
   ·rename_i w hw
    injection hp with hp;subst hp
    have hi:j.toNat < l.length:=(List.getElem?_eq_some_iff.1 hw).1
    rcases zdf h1 with ⟨rfl,_⟩ | ⟨b,g,o,q,ds,rfl,s1,s2,s3,s4⟩
    ·simp at hi
    ·have hm:=zjU (z:=esz) hi
     have hwl:=s4.one w (List.mem_of_getElem? hw)
     refine ⟨.ptr b g (o + j.toNat * esz) esz,?_,?_⟩
     ·simp only [zbO,zhc,zdb,zeM hj]
      rw [zaR rfl,zgX hi];rfl
     ·have s5:=zdv s2 (k:=j.toNat * esz) (m:=esz) hm
      have s6:=s4.at hw
      have:=PR.elem (S:=c.S) (h:=h) s1 (by rw [hwl];exact s5) s6.1 s6.2
      rw [hwl] at this
      exact .pure this
   ·cases hp
  ·cases hp
 ·rename_i id g o n q z k j
  obtain ⟨y,cs',rfl,h1,h2⟩:=hv.of_cons
  obtain ⟨y',cs'',rfl,h3,h4⟩:=h2.of_cons
  obtain rfl:=h4.of_nil
  obtain rfl:=h3.int_inv
  split at hp
  ·rename_i hc
   obtain ⟨rfl,hj,hi⟩:=hc
   injection hp with hp;subst hp
   rcases sl_inv h1 with ⟨_,_,rfl,_⟩ | ⟨b,d,g',s1,rfl,rfl⟩
   ·omega
   ·refine ⟨.ptr b g' (o * esz + j.toNat * esz) esz,?_,?_⟩
    ·simp only [zbO,zhc,zdb,zeM hj]
     rw [zaR rfl,zgX hi];rfl
    ·have:=VR.ptr (h:=h) (g:=g') (i:=o + j.toNat) (o:=0) (n:=esz) s1
     rwa [Nat.add_mul,Nat.add_zero] at this
  ·cases hp
 ·cases hp
theorem zqn {len esz:Nat} (hv:LR (VR c h) vs us) (hp:zkT len esz vs=some v):∃ u,zbO us (zf8 len esz)=some u∧VR c h v u:=by
 unfold zkT at hp
 split at hp
 ·rename_i cs k j
  obtain ⟨y,cs',rfl,h1,h2⟩:=hv.of_cons
  obtain ⟨y',cs'',rfl,h3,h4⟩:=h2.of_cons
  obtain rfl:=h4.of_nil
  obtain rfl:=h3.int_inv
  split at hp
  ·rename_i hc
   obtain ⟨hj,hi,hn⟩:=hc
   injection hp with hp;subst hp
   obtain ⟨p,b,g,o,ds,s1,rfl,s2,s3⟩:=zeb h1
   have hm:=zjU (z:=esz) hi
   refine ⟨.ptr b g (o + j.toNat * esz) esz,?_,zmA s1 s2 s3 (by omega)⟩
   simp only [zbO,zf8,zdb,zeM hj]
   rw [zgX hi,zb2 hn];rfl
  ·cases hp
 ·rename_i id g i o m k j
  obtain ⟨y,cs',rfl,h1,h2⟩:=hv.of_cons
  obtain ⟨y',cs'',rfl,h3,h4⟩:=h2.of_cons
  obtain rfl:=h4.of_nil
  obtain rfl:=h3.int_inv
  split at hp
  ·rename_i hc
   obtain ⟨hj,hi,hn⟩:=hc
   injection hp with hp;subst hp
   obtain ⟨b,d,z,g',s1,rfl,rfl⟩:=zdy h1
   refine ⟨.ptr b g' (i * z + o + j.toNat * esz) esz,?_,?_⟩
   ·simp only [zbO,zf8,zdb,zeM hj]
    rw [zgX hi,zb2 hn];rfl
   ·rw [Nat.add_assoc];exact .ptr s1
  ·cases hp
 ·cases hp
theorem zc6 {m a:Nat} {x:PV} {u:TV} (hx:VR c h x u) (hb:bnd m x=some a):zcy u m=some a∧a≤m:=by
 unfold bnd at hb
 split at hb
 ·rename_i k j
  obtain rfl:=hx.int_inv
  split at hb
  ·rename_i hc
   injection hb with hb;subst hb
   refine ⟨?_,hc.2⟩
   unfold zcy
   simp only [zdb,zeM hc.1]
   rw [zb2 hc.2];rfl
  ·cases hb
 ·cases hb
theorem zgM {p z:Nat} {l:List PV} {b g o q:Nat} {ds:List TV} (s1:c.S p b) (s2:zaA h b g o (l.length * z)=some ds) (s4:ER (PR c.S h) z l ds) {a e:Nat} (ha:a≤e) (he:e≤l.length) (hq:2 * (e - a)≤q):VR c h (.list p z ((l.take e).drop a)) (.sl b g (o + a * z) (e - a) q z):=by
 have hl:((l.take e).drop a).length=e - a:=by simp;omega
 have hm:a * z + (e - a) * z≤l.length * z:=by
  rw [← Nat.add_mul,Nat.add_sub_cancel' ha];exact Nat.mul_le_mul_right z he
 have s5:=zdv s2 (k:=a * z) (m:=(e - a) * z) hm
 have s6:=(s4.take e).drop a
 have s7:(ds.take (e * z)).drop (a * z)=(ds.drop (a * z)).take ((e - a) * z):=by
  rw [List.drop_take,Nat.sub_mul]
 rw [s7] at s6
 have:=PR.list (S:=c.S) (h:=h) (q:=q) s1 (by rw [hl];exact s5) (by rw [hl];exact hq) s6.one s6.all.1 s6.all.2
 rw [hl] at this
 exact .pure this
theorem zrP {esz:Nat} {lo hi mx:Bool} (hv:LR (VR c h) vs us) (hp:zao esz lo hi mx vs=some v):∃ u,zgk esz lo hi mx us=some u∧VR c h v u:=by
 unfold zao at hp
 split at hp
 ·rename_i p z l bs
  obtain ⟨y,cs',rfl,h1,h2⟩:=hv.of_cons
  split at hp
  ·rename_i he
   subst he
   simp only [zgk]
   unfold zas at hp
   split at hp
   ·obtain rfl:=h2.of_nil
    split at hp
    ·rename_i hc
     obtain ⟨rfl,rfl,rfl⟩:=hc
     injection hp with hp;subst hp
     rcases zdf h1 with ⟨rfl,rfl⟩ | ⟨b,g,o,q,ds,rfl,_⟩
     ·exact ⟨_,rfl,.pure (.listnil _ _)⟩
     ·refine ⟨_,?_,h1⟩
      simp only [zc2]
      rw [zaR rfl];rfl
    ·cases hp
   ·rename_i x
    obtain ⟨y',cs'',rfl,h3,h4⟩:=h2.of_cons
    obtain rfl:=h4.of_nil
    split at hp
    ·cases hp
    ·rename_i hc
     simp only [not_or,Bool.not_eq_true] at hc
     obtain ⟨rfl,hlh⟩:=hc
     split at hp
     ·rename_i a hb
      injection hp with hp;subst hp
      obtain ⟨b1,b2⟩:=zc6 h3 hb
      rcases zdf h1 with ⟨rfl,rfl⟩ | ⟨b,g,o,q,ds,rfl,s1,s2,s3,s4⟩
      ·simp at b2;subst b2
       simp only [zc2,zh6]
       simp only [List.length_nil] at b1
       rw [b1]
       cases lo <;> cases hi <;> first | exact absurd rfl hlh | exact ⟨_,rfl,by simpa using VR.pure (.listnil _ _)⟩
      ·simp only [zc2]
       rw [zaR rfl]
       simp only [cond_true,zel,cond_false]
       cases lo <;> cases hi <;> first | exact absurd rfl hlh | skip
       ·simp only [cond_true,cond_false,zoR]
        have b3:zcy y' (q / 2)=some a:=by
         revert b1;unfold zcy;cases zdb y' <;> intro b1 <;> first | (cases b1;done) | skip
         rename_i w
         dsimp only at b1 ⊢
         cases hw:Nat.ble w l.length
         ·rw [hw] at b1;cases b1
         ·rw [hw] at b1;injection b1 with b1;subst b1
          rw [zb2 (by omega)];rfl
        rw [b3]
        refine ⟨_,rfl,?_⟩
        have:=zgM (a:=0) (e:=a) (q:=q) s1 s2 s4 (Nat.zero_le _) b2 (by omega)
        simpa using this
       ·simp only [cond_true,cond_false,zfO]
        rw [b1]
        refine ⟨_,rfl,?_⟩
        have:=zgM (a:=a) (e:=l.length) (q:=q - 2 * a) s1 s2 s4 b2 (Nat.le_refl _) (by omega)
        simpa using this
     ·cases hp
   ·rename_i x y0
    obtain ⟨y',cs'',rfl,h3,h4⟩:=h2.of_cons
    obtain ⟨y2,cs3,rfl,h5,h6⟩:=h4.of_cons
    obtain rfl:=h6.of_nil
    split at hp
    ·rename_i hc
     obtain ⟨rfl,rfl,rfl,hpos⟩:=hc
     split at hp
     ·rename_i e hb
      obtain ⟨b1,b2⟩:=zc6 h5 hb
      split at hp
      ·rename_i a hb'
       obtain ⟨b3,b4⟩:=zc6 h3 hb'
       injection hp with hp;subst hp
       rcases zdf h1 with ⟨rfl,rfl⟩ | ⟨b,g,o,q,ds,rfl,s1,s2,s3,s4⟩
       ·simp at hpos
       ·simp only [zc2]
        rw [zaR rfl]
        simp only [cond_true,zel,cond_false,zjX,zfO]
        have b5:zcy y2 (q / 2)=some e:=by
         revert b1;unfold zcy;cases zdb y2 <;> intro b1 <;> first | (cases b1;done) | skip
         rename_i w
         dsimp only at b1 ⊢
         cases hw:Nat.ble w l.length
         ·rw [hw] at b1;cases b1
         ·rw [hw] at b1;injection b1 with b1;subst b1
          rw [zb2 (by omega)];rfl
        rw [b5]
        dsimp only
        rw [b3]
        exact ⟨_,rfl,zgM s1 s2 s4 b4 b2 (by omega)⟩
      ·cases hp
     ·cases hp
    ·cases hp
   ·rename_i x y0 w0
    obtain ⟨y',cs'',rfl,h3,h4⟩:=h2.of_cons
    obtain ⟨y2,cs3,rfl,h5,h6⟩:=h4.of_cons
    obtain ⟨y3,cs4,rfl,h7,h8⟩:=h6.of_cons
    obtain rfl:=h8.of_nil
    split at hp
    ·rename_i hc
     obtain ⟨rfl,rfl,rfl,hpos⟩:=hc
     split at hp
     ·rename_i m hbm
      obtain ⟨m1,m2⟩:=zc6 h7 hbm
      split at hp
      ·rename_i e hb
       obtain ⟨b1,b2⟩:=zc6 h5 hb
       split at hp
       ·rename_i a hb'
        obtain ⟨b3,b4⟩:=zc6 h3 hb'
        injection hp with hp;subst hp
        rcases zdf h1 with ⟨rfl,rfl⟩ | ⟨b,g,o,q,ds,rfl,s1,s2,s3,s4⟩
        ·simp at hpos
        ·simp only [zc2]
         rw [zaR rfl]
         simp only [cond_true,zel,zmt]
         have b5:zcy y3 (q / 2)=some m:=by
          revert m1;unfold zcy;cases zdb y3 <;> intro m1 <;> first | (cases m1;done) | skip
          rename_i w
          dsimp only at m1 ⊢
          cases hw:Nat.ble w l.length
          ·rw [hw] at m1;cases m1
          ·rw [hw] at m1;injection m1 with m1;subst m1
           rw [zb2 (by omega)];rfl
         rw [b5]
         dsimp only
         rw [b1]
         simp only [zfO]
         rw [b3]
         exact ⟨_,rfl,zgM s1 s2 s4 b4 (by omega) (by omega)⟩
       ·cases hp
      ·cases hp
     ·cases hp
    ·cases hp
   ·cases hp
  ·cases hp
 ·rename_i id g o n q z bs
  obtain ⟨y,cs',rfl,h1,h2⟩:=hv.of_cons
  split at hp
  ·rename_i he
   subst he
   simp only [zgk]
   unfold zat at hp
   split at hp
   ·obtain rfl:=h2.of_nil
    split at hp
    ·rename_i hc
     obtain ⟨rfl,rfl,rfl⟩:=hc
     injection hp with hp;subst hp
     rcases sl_inv h1 with ⟨rfl,rfl,rfl,rfl,rfl,hL⟩ | ⟨b,d,g',s1,rfl,rfl⟩
     ·exact ⟨_,rfl,.slnil _ hL⟩
     ·refine ⟨_,?_,h1⟩
      simp only [zc2]
      rw [zaR rfl];rfl
    ·cases hp
   ·rename_i x
    obtain ⟨y',cs'',rfl,h3,h4⟩:=h2.of_cons
    obtain rfl:=h4.of_nil
    split at hp
    ·cases hp
    ·rename_i hc
     simp only [not_or,Bool.not_eq_true] at hc
     obtain ⟨rfl,hlh,hq⟩:=hc
     rcases sl_inv h1 with ⟨rfl,rfl,rfl,rfl,rfl,hL⟩ | ⟨b,d,g',s1,rfl,rfl⟩
     ·exact absurd rfl hq
     ·simp only [zc2]
      rw [zaR rfl]
      simp only [cond_true,zel,cond_false]
      cases lo <;> cases hi <;> first | exact absurd rfl hlh | skip
      ·simp only [Bool.false_eq_true,if_false] at hp
       split at hp
       ·rename_i a hb
        injection hp with hp;subst hp
        obtain ⟨b1,b2⟩:=zc6 h3 hb
        simp only [cond_true,cond_false,zoR]
        rw [b1]
        exact ⟨_,rfl,.sl s1⟩
       ·cases hp
      ·simp only [if_true] at hp
       split at hp
       ·rename_i a hb
        injection hp with hp;subst hp
        obtain ⟨b1,b2⟩:=zc6 h3 hb
        simp only [cond_true,cond_false,zfO]
        rw [b1]
        refine ⟨_,rfl,?_⟩
        have:=VR.sl (h:=h) (g:=g') (o:=o + a) (n:=n - a) (q:=q - 2 * a) s1
        rwa [Nat.add_mul] at this
       ·cases hp
   ·rename_i x y0
    obtain ⟨y',cs'',rfl,h3,h4⟩:=h2.of_cons
    obtain ⟨y2,cs3,rfl,h5,h6⟩:=h4.of_cons
    obtain rfl:=h6.of_nil
    split at hp
    ·rename_i hc
     obtain ⟨rfl,rfl,rfl,hq⟩:=hc
     rcases sl_inv h1 with ⟨rfl,rfl,rfl,rfl,rfl,hL⟩ | ⟨b,d,g',s1,rfl,rfl⟩
     ·exact absurd hq (Nat.lt_irrefl _)
     ·split at hp
      ·rename_i e hb
       obtain ⟨b1,b2⟩:=zc6 h5 hb
       split at hp
       ·rename_i a hb'
        obtain ⟨b3,b4⟩:=zc6 h3 hb'
        injection hp with hp;subst hp
        simp only [zc2]
        rw [zaR rfl]
        simp only [cond_true,zel,cond_false,zjX,zfO]
        rw [b1]
        dsimp only
        rw [b3]
        refine ⟨_,rfl,?_⟩
        have:=VR.sl (h:=h) (g:=g') (o:=o + a) (n:=e - a) (q:=q - 2 * a) s1
        rwa [Nat.add_mul] at this
       ·cases hp
      ·cases hp
    ·cases hp
   ·rename_i x y0 m0
    obtain ⟨y',cs'',rfl,h3,h4⟩:=h2.of_cons
    obtain ⟨y2,cs3,rfl,h5,h6⟩:=h4.of_cons
    obtain ⟨y3,cs4,rfl,h7,h8⟩:=h6.of_cons
    obtain rfl:=h8.of_nil
    split at hp
    ·rename_i hc
     obtain ⟨rfl,rfl,rfl,hq⟩:=hc
     rcases sl_inv h1 with ⟨rfl,rfl,rfl,rfl,rfl,hL⟩ | ⟨b,d,g',s1,rfl,rfl⟩
     ·exact absurd hq (Nat.lt_irrefl _)
     ·split at hp
      ·rename_i m hbm
       obtain ⟨b6,b7⟩:=zc6 h7 hbm
       split at hp
       ·rename_i e hb
        obtain ⟨b1,b2⟩:=zc6 h5 hb
        split at hp
        ·rename_i a hb'
         obtain ⟨b3,b4⟩:=zc6 h3 hb'
         injection hp with hp;subst hp
         simp only [zc2]
         rw [zaR rfl]
         simp only [cond_true,zel,cond_false,zmt,zfO]
         rw [b6]
         dsimp only
         rw [b1]
         dsimp only
         rw [b3]
         refine ⟨_,rfl,?_⟩
         have:=VR.sl (h:=h) (g:=g') (o:=o + a) (n:=e - a) (q:=2 * m + 1 - 2 * a) s1
         rwa [Nat.add_mul] at this
        ·cases hp
       ·cases hp
      ·cases hp
    ·cases hp
   ·cases hp
  ·cases hp
 ·cases hp
theorem zgm {n:Nat} {u:TV} {w:PV} (hp:ofC n u=some w):VR c h w u:=.pure (ze3 hp)
theorem zi4 {k:IntKind} {x:Int}:∀ {es:List zbU} {i:Nat},(∀ e∈es,∃ n,e.k=.int k n)→(zdL (.int k x) es i=some none∧lk x es=none)∨∃ j e,zdL (.int k x) es i=some (some (j,e))∧lk x es=some e.v
 | [],i,_=>.inl ⟨rfl,rfl⟩
 | e::l,i,hk=>by
  obtain ⟨n,hn⟩:=hk e (by simp)
  have hl:=fun e' he'=>hk e' (List.mem_cons_of_mem _ he')
  unfold zdL lk
  rw [hn]
  simp only [zgP]
  rw [zaR rfl]
  simp only [cond_true,zcg]
  by_cases hx:x=n
  ·subst hx
   exact .inr ⟨i,e,by simp,by simp⟩
  ·have hb:(x == n)=false:=by simpa using hx
   rw [hb]
   simp only [if_neg (Ne.symm hx)]
   exact zi4 hl
theorem zh8 {ok:Bool} {b:Bool} {w:PV} {u:TV} (k:VR c h w u):VR c h (okF ok w b) (okT ok u b):=by
 unfold okF okT
 cases ok
 ·exact k
 ·exact VR.tupL (LR.cons k (LR.cons (.pure (.bool b)) LR.nil))
theorem zhh {id:Nat} {u:TV} (x:VR c h (.map id) u):∃ b d z,c.ρ id=some (b,d,z)∧u=.map b:=by
 cases x with
 | pure x=>cases x
 | map h=>exact ⟨_,_,_,h,rfl⟩
theorem zsF (k:HR B c H h) {kf:Nat} {zero:TV} {ok:Bool} (hv:LR (VR c h) vs us) (hp:zaF H kf zero ok vs=some v):∃ u,zbO us (zfY kf zero ok h)=some u∧VR c h v u:=by
 unfold zaF at hp
 split at hp
 ·rename_i id kk x
  obtain ⟨y,cs',rfl,h1,h2⟩:=hv.of_cons
  obtain ⟨y',cs'',rfl,h3,h4⟩:=h2.of_cons
  obtain rfl:=h4.of_nil
  obtain rfl:=h3.int_inv
  obtain ⟨b,d,z,s1,rfl⟩:=zhh h1
  split at hp
  ·rename_i hkf
   subst hkf
   split at hp
   ·rename_i hH
    obtain ⟨b',d',z',clock,s2,s3⟩:=k.obj _ _ hH
    rw [s1] at s2;injection s2 with s2;injection s2 with s2 _;subst s2
    split at hp
    ·rename_i w hw
     injection hp with hp;subst hp
     refine ⟨okT ok zero false,?_,zh8 (zgm hw)⟩
     simp only [zbO,zfY,zdN,zgz,cond_true]
     rw [s3]
     rfl
    ·cases hp
   ·rename_i k' m hH
    obtain ⟨b',d',z',es,clock,s2,s3,s4⟩:=k.obj _ _ hH
    rw [s1] at s2;injection s2 with s2;injection s2 with s2 _;subst s2
    split at hp
    ·rename_i hk
     subst hk
     split at hp
     ·rename_i w hw
      injection hp with hp;subst hp
      obtain ⟨u,u1,u2⟩:=s4.some _ _ hw
      rcases zi4 (x:=x) (i:=0) s4.keys with ⟨f1,f2⟩ | ⟨j,e,f1,f2⟩
      ·rw [f2] at u1;cases u1
      ·rw [f2] at u1;injection u1 with u1;subst u1
       refine ⟨okT ok e.v true,?_,zh8 u2⟩
       simp only [zbO,zfY,zdN,zgz,cond_true]
       rw [s3]
       simp only [zmo]
       rw [f1]
     ·rename_i hw
      split at hp
      ·rename_i w hw'
       injection hp with hp;subst hp
       have u1:=s4.none _ hw
       rcases zi4 (x:=x) (i:=0) s4.keys with ⟨f1,f2⟩ | ⟨j,e,f1,f2⟩
       ·refine ⟨okT ok zero false,?_,zh8 (zgm hw')⟩
        simp only [zbO,zfY,zdN,zgz,cond_true]
        rw [s3]
        simp only [zmo]
        rw [f1]
       ·rw [f2] at u1;cases u1
      ·cases hp
    ·cases hp
   ·cases hp
  ·cases hp
 ·rename_i kk x
  obtain ⟨y,cs',rfl,h1,h2⟩:=hv.of_cons
  obtain ⟨y',cs'',rfl,h3,h4⟩:=h2.of_cons
  obtain rfl:=h4.of_nil
  obtain rfl:=h3.int_inv
  obtain rfl:y=.nilmap:=by cases h1 with | pure h1=>cases h1;rfl
  split at hp
  ·rename_i hkf
   subst hkf
   split at hp
   ·rename_i w hw
    injection hp with hp;subst hp
    exact ⟨okT ok zero false,rfl,zh8 (zgm hw)⟩
   ·cases hp
  ·cases hp
 ·cases hp
theorem zpK {f:Nat} {x:PV} {u:TV} {b:Bool} (hx:VR c h x u) (hn:zaO f x=some b):zj7 f u=some b:=by
 unfold zaO at hn
 split at hn <;> first | (cases hn;done) | (injection hn with hn;subst hn)
 ·cases hx with | pure hx=>cases hx;rfl
 ·obtain ⟨_,_,_,_,_,_,rfl⟩:=zdy hx;rfl
 ·obtain ⟨_,_,_,_,_,_,rfl,_⟩:=zeb hx;rfl
 ·cases hx with | pure hx=>cases hx;rfl
 ·rcases zdf hx with ⟨h1,_⟩ | ⟨_,_,_,_,_,rfl,_⟩
  ·cases h1
  ·rfl
 ·cases hx with | pure hx=>cases hx;rfl
 ·obtain ⟨_,_,_,_,rfl⟩:=zhh hx;rfl
 ·cases hx with | pure hx=>cases hx;rfl
 ·obtain ⟨_,rfl,_⟩:=hx.fn_inv;rfl
 ·cases hx with | pure hx=>cases hx;rfl
 ·obtain ⟨_,rfl,_⟩:=hx.iface_inv;rfl
theorem zp9 {neg:Bool} {x:Option Bool} (hp:zbl neg x=some v):∃ u,zkl neg x=some u∧VR c h v u:=by
 unfold zbl at hp
 split at hp
 ·injection hp with hp;subst hp
  refine ⟨_,rfl,?_⟩
  cases neg <;> exact .pure (.bool _)
 ·cases hp
theorem zrb {neg:Bool} {ks:List Nat} (hv:LR (VR c h) vs us) (hp:zam neg ks vs=some v):∃ u,zbO us (zkk neg ks)=some u∧VR c h v u:=by
 unfold zam at hp
 split at hp
 ·obtain ⟨y,cs',rfl,h1,h2⟩:=hv.of_cons
  obtain ⟨y',cs'',rfl,h3,h4⟩:=h2.of_cons
  obtain rfl:=h4.of_nil
  obtain ⟨a,rfl,a1⟩:=h1.agg_inv
  obtain ⟨a',rfl,a2⟩:=h3.agg_inv
  split at hp
  ·rename_i l' hl'
   obtain rfl:=ziM a1 hl'
   split at hp
   ·rename_i m' hm'
    obtain rfl:=ziM a2 hm'
    exact zp9 hp
   ·cases hp
  ·cases hp
 ·cases hp
theorem zk8:∀ {places:List (Nat × Nat)} {vs:List PV} {us:List TV} {l m:List PV} {cs:List TV},LR (VR c h) l cs→LR (VR c h) vs us→zal l places vs=some m→∃ ds,zgH cs places us=some ds∧LR (VR c h) m ds
 | [],[],us,l,m,cs,hl,hv,hp=>by
  obtain rfl:=hv.of_nil
  simp only [zal] at hp
  injection hp with hp;subst hp
  exact ⟨cs,rfl,hl⟩
 | [],_::_,us,l,m,cs,hl,hv,hp=>by simp [zal] at hp
 | _::_,[],us,l,m,cs,hl,hv,hp=>by simp [zal] at hp
 | (off,size)::ps,v::vs,us,l,m,cs,hl,hv,hp=>by
  obtain ⟨y,us',rfl,h1,h2⟩:=hv.of_cons
  unfold zal at hp
  split at hp
  ·rename_i hc
   have h3:=h1.cells
   obtain ⟨ds,d1,d2⟩:=zk8 (((hl.take off).app h3).app (hl.drop (off + size))) h2 hp
   refine ⟨ds,?_,d2⟩
   unfold zgH
   dsimp only
   rw [zaR (by rw [← h3.1];exact hc.1),zb2 (by rw [← hl.1];exact hc.2)]
   exact d1
  ·cases hp
theorem zgq:∀ (l:List TV) (n:Nat),nth l n=l[n]?
 | [],n=>by simp [nth]
 | x::l,0=>rfl
 | x::l,n + 1=>by simp only [nth,List.getElem?_cons_succ];exact zgq l n
theorem zsl {agg:Bool} {off size:Nat} {l:List PV} {cs:List TV} (hl:LR (VR c h) l cs) (hp:zaL agg off size l=some v):∃ u,zi3 agg off size cs=some u∧VR c h v u:=by
 unfold zaL at hp
 unfold zi3
 cases agg
 ·simp only [Bool.false_eq_true,if_false] at hp
  obtain ⟨y,y1,y2⟩:=hl.at hp
  exact ⟨y,by simp only [cond_false];rw [zgq];exact y1,y2⟩
 ·simp only [if_true] at hp
  split at hp
  ·rename_i hc
   injection hp with hp;subst hp
   refine ⟨_,?_,VR.aggL ((hl.drop off).take size)⟩
   simp only [cond_true]
   rw [zb2 (by rw [← hl.1];exact hc)];rfl
  ·cases hp
theorem zrM {neg:Bool} {f:Nat} (hv:LR (VR c h) vs us) (hp:zaV H (.eqnil neg f) vs=some v):∃ u,pas (.eqnil neg f) us h=some u∧VR c h v u:=by
 simp only [zaV] at hp
 split at hp
 ·rename_i x x'
  obtain ⟨y,cs',rfl,h1,h2⟩:=hv.of_cons
  obtain ⟨y',cs'',rfl,h3,h4⟩:=h2.of_cons
  obtain rfl:=h4.of_nil
  simp only [pas,zbO,zgO]
  have e1:zT (zj7 f y) (zj7 f y')=zT (zaO f x) (zaO f x'):=by
   revert hp
   cases hx:zaO f x with
   | none=>intro hp;simp [zT,zbl] at hp
   | some b =>
    cases hx':zaO f x' with
    | none=>intro hp;simp [zT,zbl] at hp
    | some b'=>intro _;rw [zpK h1 hx,zpK h3 hx']
  rw [e1]
  exact zp9 hp
 ·cases hp
theorem zpA {t:Nat} {zero:TV} {ok:Bool} (hv:LR (VR c h) vs us) (hp:zaV H (.tassert t zero ok) vs=some v):∃ u,pas (.tassert t zero ok) us h=some u∧VR c h v u:=by
 simp only [zaV] at hp
 split at hp
 ·rename_i t' w
  obtain ⟨y,cs',rfl,h1,h2⟩:=hv.of_cons
  obtain rfl:=h2.of_nil
  obtain ⟨u',rfl,h3⟩:=h1.iface_inv
  simp only [pas,zbT,zhJ]
  split at hp
  ·rename_i ht
   subst ht
   injection hp with hp;subst hp
   rw [zaR rfl]
   exact ⟨_,rfl,zh8 h3⟩
  ·rename_i ht
   split at hp
   ·rename_i hok
    subst hok
    split at hp
    ·rename_i z hz
     injection hp with hp;subst hp
     rw [zsj ht]
     exact ⟨_,rfl,VR.tupL (LR.cons (zgm hz) (LR.cons (.pure (.bool _)) LR.nil))⟩
    ·cases hp
   ·cases hp
 ·obtain ⟨y,cs',rfl,h1,h2⟩:=hv.of_cons
  obtain rfl:=h2.of_nil
  obtain rfl:y=.niliface:=by cases h1 with | pure h1=>cases h1;rfl
  split at hp
  ·rename_i hok
   subst hok
   split at hp
   ·rename_i z hz
    injection hp with hp;subst hp
    exact ⟨_,rfl,VR.tupL (LR.cons (zgm hz) (LR.cons (.pure (.bool _)) LR.nil))⟩
   ·cases hp
  ·cases hp
 ·cases hp
theorem zkb (k:HR B c H h) {kind:zO} (hv:LR (VR c h) vs us) (hp:zaV H kind vs=some v):∃ u,pas kind us h=some u∧VR c h v u:=by
 unfold zaV at hp
 split at hp
 ·split at hp
  ·obtain ⟨y,cs',rfl,h1,h2⟩:=hv.of_cons
   obtain rfl:=h2.of_nil
   injection hp with hp;subst hp
   exact ⟨y,rfl,h1⟩
  ·cases hp
 ·split at hp
  ·rename_i b x x'
   obtain ⟨y,cs',rfl,h1,h2⟩:=hv.of_cons
   obtain ⟨y',cs'',rfl,h3,h4⟩:=h2.of_cons
   obtain ⟨y2,cs3,rfl,h5,h6⟩:=h4.of_cons
   obtain rfl:=h6.of_nil
   obtain rfl:=h1.bool_inv
   injection hp with hp;subst hp
   cases b
   ·exact ⟨y2,rfl,h5⟩
   ·exact ⟨y',rfl,h3⟩
  ·cases hp
 ·exact zoB k hv hp
 ·split at hp
  ·obtain ⟨y,cs',rfl,h1,h2⟩:=hv.of_cons
   obtain rfl:=h2.of_nil
   injection hp with hp;subst hp
   obtain ⟨p,b,g,o,ds,s1,rfl,s2,s3⟩:=zeb h1
   exact ⟨_,rfl,h1⟩
  ·obtain ⟨y,cs',rfl,h1,h2⟩:=hv.of_cons
   obtain rfl:=h2.of_nil
   injection hp with hp;subst hp
   obtain ⟨b,d,z,g',s1,rfl,rfl⟩:=zdy h1
   exact ⟨_,rfl,h1⟩
  ·obtain ⟨y,cs',rfl,h1,h2⟩:=hv.of_cons
   obtain rfl:=h2.of_nil
   injection hp with hp;subst hp
   obtain ⟨cs,rfl,_⟩:=h1.fn_inv
   exact ⟨_,rfl,h1⟩
  ·cases hp
 ·exact ziv hv hp
 ·exact zrM (H:=H) hv hp
 ·exact ziv hv hp
 ·exact zkA hv hp
 ·exact zrb hv hp
 ·exact zkA hv hp
 ·exact zkA hv hp
 ·split at hp
  ·obtain ⟨y,cs',rfl,h1,h2⟩:=hv.of_cons
   obtain rfl:=h2.of_nil
   injection hp with hp;subst hp
   exact ⟨_,rfl,.iface h1⟩
  ·cases hp
 ·injection hp with hp;subst hp
  exact ⟨_,rfl,VR.fnL hv⟩
 ·exact zrP hv hp
 ·exact ztd hv hp
 ·exact zq8 hv hp
 ·split at hp
  ·obtain ⟨y,cs',rfl,h1,h2⟩:=hv.of_cons
   obtain rfl:=h2.of_nil
   obtain ⟨cs,rfl,h3⟩:=h1.agg_inv
   exact zsl h3 hp
  ·cases hp
 ·exact zrO hv hp
 ·exact zqn hv hp
 ·exact ziv hv hp
 ·exact zsF k hv hp
 ·exact zpA (H:=H) hv hp
 ·split at hp
  ·obtain ⟨y,cs',rfl,h1,h2⟩:=hv.of_cons
   obtain rfl:=h2.of_nil
   obtain ⟨cs,rfl,h3⟩:=h1.tuple_inv
   obtain ⟨u,u1,u2⟩:=h3.at hp
   exact ⟨u,by simp only [pas,zbT,zml,zgq];exact u1,u2⟩
  ·cases hp
 ·unfold zbx at hp
  split at hp
  ·split at hp
   ·obtain ⟨y,cs',rfl,h1,h2⟩:=hv.of_cons
    obtain rfl:=h2.of_nil
    injection hp with hp;subst hp
    obtain rfl:y=.nilsl:=by cases h1 with | pure h1=>cases h1;rfl
    exact ⟨_,rfl,.pure (.int _ _)⟩
   ·obtain ⟨y,cs',rfl,h1,h2⟩:=hv.of_cons
    obtain rfl:=h2.of_nil
    injection hp with hp;subst hp
    rcases zdf h1 with ⟨rfl,rfl⟩ | ⟨_,_,_,_,_,rfl,_⟩
    ·exact ⟨_,rfl,.pure (.int _ _)⟩
    ·exact ⟨_,rfl,.pure (.int _ _)⟩
   ·obtain ⟨y,cs',rfl,h1,h2⟩:=hv.of_cons
    obtain rfl:=h2.of_nil
    injection hp with hp;subst hp
    rcases sl_inv h1 with ⟨rfl,rfl,rfl,rfl,rfl,_⟩ | ⟨_,_,_,_,_,rfl⟩
    ·exact ⟨_,rfl,.pure (.int _ _)⟩
    ·exact ⟨_,rfl,.pure (.int _ _)⟩
   ·cases hp
  ·exact zkA hv hp
  ·cases hp
 ·exact ziv hv hp
 ·exact ziv hv hp
 ·split at hp
  ·rename_i z hz
   split at hp
   ·rename_i l hl
    injection hp with hp;subst hp
    obtain ⟨ds,d1,d2⟩:=zk8 (LR.pure (c:=c) (zeK (fun u v=>ze3) hz)) hv hl
    exact ⟨.agg ds,by simp only [pas,zkG];rw [d1],VR.aggL d2⟩
   ·cases hp
  ·cases hp
 ·cases hp
def Cx.add (c:Cx) (id b d z:Nat):Cx:=⟨c.S,fun i=>if i=id then some (b,d,z) else c.ρ i,c.L⟩
theorem zoG {h:TH} {b g o n:Nat} {cs:List TV} (x:TO) (hr:zaA h b g o n=some cs):zaA (h.push x) b g o n=some cs:=by
 obtain ⟨y,h1,h2⟩:=zeX hr
 refine zeB (x:=y) ?_ h2
 rw [TH.get_push,if_neg (by have:=TH.get_lt h1;omega)]
 exact h1
theorem MR.mono {R R':PV→TV→Prop} (hR:∀ x y,R x y→R' x y) {k:IntKind} {m:Int→Option PV} {es:List zbU} (a:MR R k m es):MR R' k m es :=
 ⟨a.keys,fun x v hx=>by obtain ⟨u,u1,u2⟩:=a.some x v hx;exact ⟨u,u1,hR _ _ u2⟩,a.none⟩
theorem OR.move {c c':Cx} {h h':TH} (m:Mo c c' h h') {id:Nat} {o:zk} (hρ:c'.ρ id=c.ρ id) (hL:c.L id→c'.L id) (hb:∀ x,c.ρ id=some x→h'.get x.1=h.get x.1) (k:OR c h id o):OR c' h' id o:=by
 cases o with
 | row e z G M l =>
  rcases k with ⟨h1,h2,h3,h4⟩ | ⟨b,d,G',M',cells,cs,h1,h2,h3,h4,h5,h6⟩
  ·exact .inl ⟨h1,h2,by rw [hρ];exact h3,hL h4⟩
  ·exact .inr ⟨b,d,G',M',cells,cs,by rw [hρ];exact h1,by rw [hb _ h1];exact h2,h3,h4,h5,h6.mono fun _ _=>VR.mono m⟩
 | map0 =>
  obtain ⟨b,d,z,clock,h1,h2⟩:=k
  exact ⟨b,d,z,clock,by rw [hρ];exact h1,by rw [hb _ h1];exact h2⟩
 | mapI k m' =>
  obtain ⟨b,d,z,es,clock,h1,h2,h3⟩:=k
  exact ⟨b,d,z,es,clock,by rw [hρ];exact h1,by rw [hb _ h1];exact h2,h3.mono fun _ _=>VR.mono m⟩
 | dfr shut =>
  obtain ⟨b,d,z,h1,h2⟩:=k
  exact ⟨b,d,z,by rw [hρ];exact h1,by rw [hb _ h1];exact h2⟩
 | loop st pe tm ps aS bo mk =>
  obtain ⟨b,d,z,bm,dm,zm,t,pe',h1,h2,h3,h4,h5⟩:=k
  refine ⟨b,d,z,bm,dm,zm,t,pe',by rw [hρ];exact h1,m.ρ _ _ h2,by rw [hb _ h1];exact h3,fun i=>?_,?_⟩
  ·rcases h4 i with h4 | ⟨u,u1,u2⟩
   ·exact .inl h4
   ·exact .inr ⟨u,u1,u2.mono m⟩
  ·cases h5 with
   | norm=>exact .norm
   | exit id=>exact .exit id
   | goto l=>exact .goto l
   | ret=>exact .ret
   | panic k=>exact .panic (k.mono m)
 | void=>trivial
theorem HR.push (k:HR B c H h) {o:zk} {x:TO} {z:Nat} (ho:Mo c (c.add H.length h.next 0 z) h (h.push x)→OR (c.add H.length h.next 0 z) (h.push x) H.length o) :
  Mo c (c.add H.length h.next 0 z) h (h.push x)∧HR B (c.add H.length h.next 0 z) (H++[o]) (h.push x):=by
 have hnone:c.ρ H.length=none:=by
  cases hc:c.ρ H.length with
  | none=>rfl
  | some y=>have:=(k.own _ _ hc).2.2;omega
 have m:Mo c (c.add H.length h.next 0 z) h (h.push x):=⟨fun _ _ h=>h,fun id y hy=>by
  show (if id=H.length then _ else _)=_
  rw [if_neg (fun e=>by subst e;rw [hnone] at hy;cases hy)];exact hy,fun _ h=>h,fun _ _ _ _ _ _ _ hr=>zoG x hr⟩
 have hget:∀ b,b < h.next→(h.push x).get b=h.get b:=fun b hb=>by rw [TH.get_push,if_neg (by omega)]
 have hρ:∀ id y,(c.add H.length h.next 0 z).ρ id=some y→(id=H.length∧y=(h.next,0,z))∨c.ρ id=some y:=fun id y hy=>by
  have hy:(if id=H.length then some (h.next,0,z) else c.ρ id)=some y:=hy
  split at hy
  ·rename_i e;injection hy with hy;exact .inl ⟨e,hy.symm⟩
  ·exact .inr hy
 refine ⟨m,⟨?_,fun b hb=>?_,k.old,fun p b hb=>?_,fun id y hy=>?_,fun id hL=>?_,fun id id' y y' hy hy' e=>?_,fun id o' ho'=>?_⟩⟩
 ·rw [TH.next_push];exact Nat.le_succ_of_le k.le
 ·rw [hget b (Nat.lt_of_lt_of_le hb k.le)];exact k.keep b hb
 ·obtain ⟨h1,h2⟩:=k.S p b hb
  refine ⟨by rw [TH.next_push];omega,fun id y hy=>?_⟩
  rcases hρ id y hy with ⟨_,rfl⟩ | hy
  ·dsimp only;omega
  ·exact h2 id y hy
 ·rw [TH.next_push,List.length_append]
  rcases hρ id y hy with ⟨rfl,rfl⟩ | hy
  ·exact ⟨k.le,Nat.lt_succ_self _,by simp⟩
  ·obtain ⟨h1,h2,h3⟩:=k.own id y hy
   exact ⟨h1,by omega,by simp;omega⟩
 ·obtain ⟨h1,h2⟩:=k.lz id hL
  refine ⟨by simp;omega,fun y hy=>?_⟩
  rcases hρ id y hy with ⟨rfl,rfl⟩ | hy
  ·omega
  ·exact h2 y hy
 ·rcases hρ id y hy with ⟨rfl,rfl⟩ | hy <;> rcases hρ id' y' hy' with ⟨rfl,rfl⟩ | hy'
  ·rfl
  ·have:=(k.own _ _ hy').2.1;dsimp only at e;omega
  ·have:=(k.own _ _ hy).2.1;dsimp only at e;omega
  ·exact k.inj _ _ _ _ hy hy' e
 ·by_cases hi:id < H.length
  ·rw [List.getElem?_append_left hi] at ho'
   have h1:=k.obj id o' ho'
   refine h1.move m (by show (if id=H.length then _ else _)=_;rw [if_neg (by omega)]) (fun h=>h) fun y hy=>hget _ (k.own _ _ hy).2.1
  ·rw [List.getElem?_append_right (by omega)] at ho'
   have hi2:id - H.length=0:=by
    cases hd:id - H.length with
    | zero=>rfl
    | succ n=>rw [hd] at ho';simp at ho'
   rw [hi2] at ho'
   simp at ho'
   subst ho'
   obtain rfl:id=H.length:=by omega
   exact ho m
theorem ztt {h:TH} {b b' g o n:Nat} {cs:List TV} (x:TO) (hb:b' < h.next) (hne:b ≠ b') (hr:zaA h b g o n=some cs):zaA (h.set b' x) b g o n=some cs:=by
 obtain ⟨y,h1,h2⟩:=zeX hr
 refine zeB (x:=y) ?_ h2
 rw [TH.get_set _ _ _ _ hb,if_neg hne]
 exact h1
theorem HR.set (k:HR B c H h) {id b d z:Nat} (hρ:c.ρ id=some (b,d,z)) {o:zk} {x:TO} (ho:Mo c c h (h.set b x)→OR c (h.set b x) id o) :
    Mo c c h (h.set b x)∧HR B c (H.set id o) (h.set b x):=by
  obtain ⟨hb1,hb2,hid⟩:=k.own _ _ hρ
  have hget:∀ b',b' ≠ b→(h.set b x).get b'=h.get b':=fun b' hb'=>by rw [TH.get_set _ _ _ _ hb2,if_neg hb']
  have m:Mo c c h (h.set b x):=⟨fun _ _ h=>h,fun _ _ h=>h,fun _ h=>h,fun p b' hb' g o n cs hr=>ztt x hb2 (fun e=>(k.S p b' hb').2 _ _ hρ e.symm) hr⟩
  refine ⟨m,⟨by rw [TH.next_set];exact k.le,fun b' hb'=>?_,k.old,fun p b' hb'=>?_,fun id' y hy=>?_,fun id' hL=>?_,k.inj,fun id' o' ho'=>?_⟩⟩
  · rw [hget b' (by dsimp only at hb1;omega)];exact k.keep b' hb'
  · rw [TH.next_set];exact k.S p b' hb'
  · rw [TH.next_set,List.length_set];exact k.own _ _ hy
  · rw [List.length_set];exact k.lz id' hL
  · rw [List.getElem?_set] at ho'
    split at ho'
    · rename_i e
      subst e
      first
        | (split at ho'
           · injection ho' with ho';subst ho';exact ho m
           · cases ho')
        | (injection ho' with ho';subst ho';exact ho m)
    · rename_i hne
      exact (k.obj id' o' ho').move m rfl (fun h=>h) fun y hy=>hget _ fun e=>hne (k.inj _ _ _ _ hρ hy e.symm)
def zS (l:List PV):PV:=match l with
 | [x]=>x
 | l=>.agg l
theorem zcO {l:List PV} (h:l.all zae=true):(zS l).cells=l:=by
 unfold zS
 split
 ·rename_i x
  simp at h
  exact zpN h
 ·rfl
def zap (esz:Nat):Nat→List PV→List PV
 | 0,_=>[]
 | n + 1,l=>zS (l.take esz)::zap esz n (l.drop esz)
theorem zl4 {R:PV→TV→Prop} {esz:Nat}:∀ {n:Nat} {l:List PV} {cs:List TV},l.all zae=true→l.length=n * esz→LR R l cs→ER R esz (zap esz n l) cs
 | 0,l,cs,ha,hl,hr=>by
  obtain rfl:l=[]:=List.length_eq_zero_iff.1 (by simpa using hl)
  obtain rfl:=hr.of_nil
  exact ER.nil
 | n + 1,l,cs,ha,hl,hr=>by
  have ht:(l.take esz).all zae=true:=by
   rw [List.all_eq_true] at ha ⊢
   exact fun x hx=>ha x (List.mem_of_mem_take hx)
  have hd:(l.drop esz).all zae=true:=by
   rw [List.all_eq_true] at ha ⊢
   exact fun x hx=>ha x (List.mem_of_mem_drop hx)
  have hle:esz≤l.length:=by rw [hl,Nat.succ_mul];omega
  have h1:ER R esz [zS (l.take esz)] (cs.take esz):=ER.one' (by rw [zcO ht];simp;omega) (by rw [zcO ht];exact hr.take esz)
  have h2:=zl4 (esz:=esz) (n:=n) hd (by rw [List.length_drop,hl,Nat.succ_mul];omega) (hr.drop esz)
  have:=h1.app h2
  rw [List.take_append_drop] at this
  exact this
def zbi (l:List PV):Nat→List PV
 | 0=>[]
 | n + 1=>l++zbi l n
theorem zlk {R:PV→TV→Prop} {l:List PV} {cs:List TV} (h:LR R l cs):∀ n,LR R (zbi l n) (zc5 cs n)
 | 0=>LR.nil
 | n + 1=>h.app (zlk h n)
theorem zno (l:List PV):∀ n,(zbi l n).length=n * l.length
 | 0=>by simp [zbi]
 | n + 1=>by rw [zbi,List.length_append,zno l n,Nat.succ_mul,Nat.add_comm]
theorem zlD:∀ {places:List (Nat × Nat)} {vs l m:List PV},zal l places vs=some m→m.length=l.length
 | [],[],l,m,hp=>by simp only [zal] at hp;injection hp with hp;rw [hp]
 | [],_::_,l,m,hp=>by simp [zal] at hp
 | _::_,[],l,m,hp=>by simp [zal] at hp
 | (off,size)::ps,v::vs,l,m,hp=>by
  unfold zal at hp
  split at hp
  ·rename_i hc
   rw [zlD hp]
   simp only [List.length_append,List.length_take,List.length_drop,hc.1]
   omega
  ·cases hp
def zbg (id:Nat) (k:zO) (vs:List PV):Option (zk × PV) :=
 match k with
 | .box e n=>(match vs with
  | [v]=>if v.cells.length=n then some (.row e n 0 0 [v],.ptr id 0 0 0 n) else none
  | _=>none)
 | .alloc e zero=>(match vs,zbd (ofC 3) zero with
  | [],some zs=>if zs.all zae=true then some (.row e zero.length 0 0 [zS zs],.ptr id 0 0 0 zero.length) else none
  | _,_=>none)
 | .bslice e esz len zero places=>(match zbd (ofC 3) zero with
  | some zs=>if len * esz≤16777216∧zero.length=esz then (match zal (zbi zs len) places vs with
   | some l=>if l.all zae=true then some (.row e esz 0 0 (zap esz len l),.sl id 0 0 len (2 * len) esz) else none
   | none=>none) else none
  | none=>none)
 | .mkslice e esz bytes zero=>(match vs,zbd (ofC 3) zero with
  | [.int _ n,.int _ m],some zs=>if 0≤n∧n≤m∧m≤1000000∧m * bytes≤140737488355328∧zs.all zae=true∧zero.length=esz then some (.row e esz 0 0 (List.replicate n.toNat (zS zs)),.sl id 0 0 n.toNat (2 * n.toNat) esz) else none
  | _,_=>none)
 | .mkmap=>(match vs with
  | []=>some (.map0,.map id)
  | [.int _ _]=>some (.map0,.map id)
  | _=>none)
 | _=>none
theorem add_same (c:Cx) (id b d z:Nat):(c.add id b d z).ρ id=some (b,d,z):=by simp [Cx.add]
theorem zl6 {α:Type} (l:List α):(Tr.putL .nil 0 l).getL 0 l.length=some l:=zgg fun j hj=>by
 rw [Tr.get_putL,if_pos (by omega)];simp
theorem zmL (v:PV):∀ n,(List.replicate n v).flatMap PV.cells=zbi v.cells n
 | 0=>rfl
 | n + 1=>by rw [List.replicate_succ,List.flatMap_cons,zmL v n];rfl
theorem zgp (k:HR B c H h) {e z:Nat} {l:List PV} {cs:List TV} (hl:ER (VR c h) z l cs) :
  Mo c (c.add H.length h.next 0 z) h (h.push (zbS e cs))∧HR B (c.add H.length h.next 0 z) (H++[.row e z 0 0 l]) (h.push (zbS e cs)) :=
 k.push fun m=>.inr ⟨h.next,0,0,0,Tr.putL .nil 0 cs,cs,add_same ..,by rw [TH.get_push,if_pos rfl,zbS,hl.len],rfl,Nat.zero_le _,by rw [← hl.len];exact zl6 cs,hl.mono fun _ _=>VR.mono m⟩
theorem zj4 (k:HR B c H h) {kind:zO} {o:zk} (hv:LR (VR c h) vs us) (hp:zbg H.length kind vs=some (o,v)) :
  ∃ x c',lay kind us h.next=some x∧Mo c c' h (h.push x.o)∧HR B c' (H++[o]) (h.push x.o)∧VR c' (h.push x.o) v x.v∧(∃ z,c'.ρ H.length=some (h.next,0,z))∧zc7 x.v=some h.next:=by
 cases kind with
 | box e n =>
  simp only [zbg] at hp
  split at hp
  ·rename_i w
   obtain ⟨y,cs',rfl,h1,h2⟩:=hv.of_cons
   obtain rfl:=h2.of_nil
   split at hp
   ·rename_i hn
    injection hp with hp;injection hp with hp1 hp2;subst hp1;subst hp2
    have hc:=h1.cells
    obtain ⟨m,k'⟩:=zgp k (e:=e) (ER.one' hn hc)
    refine ⟨⟨zbS e y.cells,.ptr h.next 0 0 n⟩,_,?_,m,k',?_,⟨_,add_same ..⟩,rfl⟩
    ·simp only [lay,zk6]
     rw [zaR (by rw [← hc.1];exact hn)];rfl
    ·have:=VR.ptr (h:=h.push (zbS e y.cells)) (g:=0) (i:=0) (o:=0) (n:=n) (add_same c H.length h.next 0 n)
     simpa using this
   ·cases hp
  ·cases hp
 | alloc e zero =>
  simp only [zbg] at hp
  split at hp
  ·rename_i zs hz
   obtain rfl:=hv.of_nil
   split at hp
   ·rename_i ha
    injection hp with hp;injection hp with hp1 hp2;subst hp1;subst hp2
    have hc:=zeK (S:=c.S) (h:=h) (fun u v=>ze3) hz
    have hlen:(zS zs).cells.length=zero.length:=by rw [zcO ha];exact hc.1
    obtain ⟨m,k'⟩:=zgp k (e:=e) (ER.one' (R:=VR c h) hlen (by rw [zcO ha];exact LR.pure hc))
    refine ⟨⟨zbS e zero,.ptr h.next 0 0 zero.length⟩,_,rfl,m,k',?_,⟨_,add_same ..⟩,rfl⟩
    have:=VR.ptr (h:=h.push (zbS e zero)) (g:=0) (i:=0) (o:=0) (n:=zero.length) (add_same c H.length h.next 0 zero.length)
    simpa using this
   ·cases hp
  ·cases hp
 | bslice e esz len zero places =>
  simp only [zbg] at hp
  split at hp
  ·rename_i zs hz
   split at hp
   ·rename_i hcond
    split at hp
    ·rename_i l hl
     split at hp
     ·rename_i ha
      injection hp with hp;injection hp with hp1 hp2;subst hp1;subst hp2
      have hc:=zeK (S:=c.S) (h:=h) (fun u v=>ze3) hz
      obtain ⟨ds,d1,d2⟩:=zk8 (zlk (LR.pure (c:=c) hc) len) hv hl
      have hlen:l.length=len * esz:=by rw [zlD hl,zno,hc.1,hcond.2]
      obtain ⟨m,k'⟩:=zgp k (e:=e) (zl4 ha hlen d2)
      refine ⟨⟨zbS e ds,.sl h.next 0 0 len (2 * len) esz⟩,_,?_,m,k',?_,⟨_,add_same ..⟩,rfl⟩
      ·simp only [lay,zgh]
       rw [zb2 hcond.1,d1];rfl
      ·have:=VR.sl (h:=h.push (zbS e ds)) (g:=0) (o:=0) (n:=len) (q:=2 * len) (add_same c H.length h.next 0 esz)
       simpa using this
     ·cases hp
    ·cases hp
   ·cases hp
  ·cases hp
 | mkslice e esz bytes zero =>
  simp only [zbg] at hp
  split at hp
  ·rename_i k1 n k2 mm zs hz
   obtain ⟨y,cs',rfl,h1,h2⟩:=hv.of_cons
   obtain ⟨y',cs'',rfl,h3,h4⟩:=h2.of_cons
   obtain rfl:=h4.of_nil
   obtain rfl:=h1.int_inv
   obtain rfl:=h3.int_inv
   split at hp
   ·rename_i hcond
    obtain ⟨c1,c2,c3,c4,c5,c6⟩:=hcond
    injection hp with hp;injection hp with hp1 hp2;subst hp1;subst hp2
    have hc:=zeK (S:=c.S) (h:=h) (fun u v=>ze3) hz
    have hel:ER (VR c h) esz (List.replicate n.toNat (zS zs)) (zc5 zero n.toNat):=by
     refine ⟨fun w hw=>?_,?_⟩
     ·rw [List.eq_of_mem_replicate hw,zcO c5,hc.1,c6]
     ·rw [zmL,zcO c5]
      exact zlk (LR.pure hc) _
    obtain ⟨m,k'⟩:=zgp k (e:=e) hel
    refine ⟨⟨zbS e (zc5 zero n.toNat),.sl h.next 0 0 n.toNat (2 * n.toNat) esz⟩,_,?_,m,k',?_,⟨_,add_same ..⟩,rfl⟩
    ·simp only [lay,zeS,zdb,zeM c1,zeM (Int.le_trans c1 c2)]
     have e4:mm.toNat * bytes≤140737488355328:=by
      have:((mm.toNat * bytes:Nat):Int)=mm * bytes:=by rw [Int.natCast_mul,Int.toNat_of_nonneg (Int.le_trans c1 c2)]
      omega
     rw [zb2 (show n.toNat≤mm.toNat by omega),zb2 (show mm.toNat≤1000000 by omega),zb2 e4];rfl
    ·have:=VR.sl (h:=h.push (zbS e (zc5 zero n.toNat))) (g:=0) (o:=0) (n:=n.toNat) (q:=2 * n.toNat) (add_same c H.length h.next 0 esz)
     simpa using this
   ·cases hp
  ·cases hp
 | mkmap =>
  simp only [zbg] at hp
  have hmap:∃ x,lay .mkmap us h.next=some x∧x.o=.map [] 0∧x.v=.map h.next∧o=.map0∧v=.map H.length:=by
   split at hp
   ·obtain rfl:=hv.of_nil
    injection hp with hp;injection hp with hp1 hp2
    exact ⟨_,rfl,rfl,rfl,hp1.symm,hp2.symm⟩
   ·obtain ⟨y,cs',rfl,h1,h2⟩:=hv.of_cons
    obtain rfl:=h2.of_nil
    obtain rfl:=h1.int_inv
    injection hp with hp;injection hp with hp1 hp2
    exact ⟨_,rfl,rfl,rfl,hp1.symm,hp2.symm⟩
   ·cases hp
  obtain ⟨⟨xo,xv⟩,h1,h2,h3,rfl,rfl⟩:=hmap
  dsimp only at h2 h3
  subst h2;subst h3
  obtain ⟨m,k'⟩:=k.push (o:=.map0) (x:=.map [] 0) (z:=0) fun m=>⟨h.next,0,0,0,add_same ..,by rw [TH.get_push,if_pos rfl]⟩
  exact ⟨_,_,h1,m,k',.map (add_same ..),⟨_,add_same ..⟩,rfl⟩
 | _=>simp only [zbg] at hp;cases hp
theorem zmQ {α:Type} {t:Tr α} {cs u:List α} {a:Nat} (h:t.getL 0 cs.length=some cs) (ha:a + u.length≤cs.length):(t.putL a u).getL 0 cs.length=some (cs.take a++u++cs.drop (a + u.length)):=by
 have hlen:(cs.take a++u++cs.drop (a + u.length)).length=cs.length:=by simp;omega
 have:=zgg (t:=t.putL a u) (a:=cs.take a++u++cs.drop (a + u.length)) (i:=0) fun j hj=>by
  rw [hlen] at hj
  have h2:=(Tr.getL_some h).2 j hj
  rw [Nat.zero_add] at h2 ⊢
  rw [Tr.get_putL]
  by_cases h1:j < a
  ·rw [if_neg (by omega),List.append_assoc,List.getElem?_append_left (by simp;omega),List.getElem?_take,if_pos h1,← h2]
  ·by_cases h3:j < a + u.length
   ·rw [if_pos (by omega),List.append_assoc,List.getElem?_append_right (by simp;omega),List.getElem?_append_left (by simp;omega)]
    congr 1
    simp;omega
   ·rw [if_neg (by omega),List.getElem?_append_right (by simp;omega),List.getElem?_drop,← h2]
    congr 1
    simp;omega
 rwa [hlen] at this
theorem zob {α:Type} {t:Tr α} {cs u:List α} (h:t.getL 0 cs.length=some cs):(t.putL cs.length u).getL 0 (cs.length + u.length)=some (cs++u):=by
 refine znk (zoT (fun j h1 h2=>?_) h) ?_
 ·rw [Tr.get_putL,if_neg (by omega)]
 ·rw [Nat.zero_add]
  exact zgg fun j hj=>by
   rw [Tr.get_putL,if_pos (by omega)]
   congr 1
   omega
def spl (old v:PV) (o n z:Nat):PV:=if n=z then v else .agg (old.cells.take o++v.cells++old.cells.drop (o + n))
structure AR where
 v:PV
 H:List zk
 W:List Nat
def zak (H:List zk) (n:Nat):List PV→Option AR
 | [.ptr id g i o m,v]=>if v.cells.length=n∧n≤m then (match H[id]? with
  | some (.row e z G _ l)=>if g=G∧o + n≤z then (match l[i]? with
   | some old=>some ⟨.tuple [],H.set id (.row e z G G (l.set i (spl old v o n z))),[id]⟩
   | none=>none) else none
  | _=>none) else none
 | _=>none
def zbr (H:List zk) (esz:Nat):PV→Option (List PV)
 | .nilsl=>some []
 | .list _ z l=>if esz=z then some l else none
 | .sl id g o n _ z=>if esz=z then (match H[id]? with
  | some (.row _ _ G M l)=>if M≤g∧g≤G∧o + n≤l.length then some ((l.drop o).take n) else none
  | _=>none) else none
 | _=>none
def z9 (H:List zk) (e esz bytes:Nat):List PV→Option AR
 | [s,x]=>(match zbr H esz x with
  | none=>none
  | some news=>match s with
   | .nilsl=>if news.length=0 then some ⟨.nilsl,H,[]⟩ else if news.length * (bytes + 1)≤140737488355328 then some ⟨.sl H.length 0 0 news.length (2 * news.length) esz,H++[.row e esz 0 0 news],[]⟩ else none
   | .sl id g o n q z=>if news.length=0 then some ⟨.sl id g o n q z,H,[]⟩ else if o=0∧q % 2=0∧esz=z then (match H[id]? with
    | some (.row e' z' G M l)=>if e=e'∧z=z'∧g=G∧n=l.length∧(n + news.length) * (bytes + 1)≤140737488355328 then some ⟨.sl id (G + 1) 0 (n + news.length) (2 * (n + news.length)) z,H.set id (.row e z (G + 1) M (l++news)),[id]⟩ else none
    | _=>none) else none
   | _=>none)
 | _=>none
def lenP:PV→Nat
 | .list _ _ l=>l.length
 | .sl _ _ _ n _ _=>n
 | _=>0
def zo5 (H:List zk) (esz:Nat):List PV→Option AR
 | [.nilsl,x]=>(match zbr H esz x with
  | some _=>some ⟨.int .i64 0,H,[]⟩
  | none=>none)
 | [.sl id g o n _ z,x]=>(match zbr H esz x with
  | none=>none
  | some news=>if min news.length n=0 then some ⟨.int .i64 0,H,[]⟩ else if esz=z then (match H[id]? with
   | some (.row e z' G _ l)=>if z=z'∧g=G∧o + min news.length n≤l.length then some ⟨.int .i64 (min news.length n:Nat),H.set id (.row e z G G (l.take o++news.take (min news.length n)++l.drop (o + min news.length n))),[id]⟩ else none
   | _=>none) else none)
 | _=>none
def zaK (H:List zk) (kf:Nat):List PV→Option AR
 | [.map id,.int k x,v]=>if kf=1 then (match H[id]? with
  | some .map0=>some ⟨.tuple [],H.set id (.mapI k fun y=>if y=x then some v else none),[id]⟩
  | some (.mapI k' m)=>if k=k' then some ⟨.tuple [],H.set id (.mapI k fun y=>if y=x then some v else m y),[id]⟩ else none
  | _=>none) else none
 | _=>none
def zbo (H:List zk) (k:zO) (vs:List PV):Option AR :=
 match k with
 | .store n=>zak H n vs
 | .append e esz bytes=>z9 H e esz bytes vs
 | .copy esz=>zo5 H esz vs
 | .mupd kf=>zaK H kf vs
 | _=>none
structure zjB (B:Ba) (c:Cx) (H:List zk) (h:TH) (a:AR) (u:TV) (h':TH) (c':Cx):Prop where
 mo:Mo c c' h h'
 hr:HR B c' a.H h'
 v:VR c' h' a.v u
 W:∀ id,id ∉ a.W→∀ x,c.ρ id=some x→h'.get x.1=h.get x.1
theorem zjT (k:HR B c H h) {id b d z:Nat} (hρ:c.ρ id=some (b,d,z)) (x:TO):∀ id',id' ∉ [id]→∀ y,c.ρ id'=some y→(h.set b x).get y.1=h.get y.1:=fun id' hn y hy=>by
 rw [TH.get_set _ _ _ _ (k.own _ _ hρ).2.1,if_neg]
 intro e
 exact hn (by rw [k.inj _ _ _ _ hy hρ e];simp)
theorem zge (k:HR B c H h) {id e z G M:Nat} {l:List PV} (hH:H[id]?=some (.row e z G M l)) {b d z':Nat} (hρ:c.ρ id=some (b,d,z')) :
  z'=z∧∃ G' M' cells cs,h.get b=some (.row e G' M' (l.length * z) cells)∧G=G' + d∧M'≤M - d∧cells.getL 0 (l.length * z)=some cs∧ER (VR c h) z l cs:=by
 rcases k.obj _ _ hH with ⟨_,_,h1,_⟩ | ⟨b',d',G',M',cells,cs,h1,h2⟩
 ·rw [hρ] at h1;cases h1
 ·rw [hρ] at h1
  injection h1 with h1;injection h1 with h1 h7;injection h7 with h7 h8
  subst h1;subst h7;subst h8
  exact ⟨rfl,G',M',cells,cs,h2⟩
theorem zqf {α:Type} (cs u:List α) {a o n z:Nat} (hon:o + n≤z) (hu:u.length=n):cs.take a++(((cs.drop a).take z).take o++u++((cs.drop a).take z).drop (o + n))++cs.drop (a + z)=cs.take (a + o)++u++cs.drop (a + o + u.length):=by
 have h1:cs.take (a + o)=cs.take a++(cs.drop a).take o:=List.take_add
 have h2:cs.drop (a + o + u.length)=((cs.drop a).take z).drop (o + n)++cs.drop (a + z):=by
  rw [hu,Nat.add_assoc,← List.drop_drop,← List.drop_drop (i:=z) (j:=a)]
  by_cases hz:z≤(cs.drop a).length
  ·conv=>lhs;rw [← List.take_append_drop z (cs.drop a)]
   rw [List.drop_append_of_le_length (by rw [List.length_take,Nat.min_eq_left hz];exact hon)]
  ·rw [List.take_of_length_le (by omega),List.drop_of_length_le (l:=cs.drop a) (i:=z) (by omega),List.append_nil]
 rw [h1,h2,List.take_take,Nat.min_eq_left (by omega)]
 simp only [List.append_assoc]
theorem znn (k:HR B c H h) {n:Nat} {a:AR} (hv:LR (VR c h) vs us) (hp:zak H n vs=some a):∃ u h' c',zfa n h us=some (.ok u h')∧zjB B c H h a u h' c':=by
 unfold zak at hp
 split at hp
 ·rename_i id g i o m w
  obtain ⟨y,cs',rfl,h1,h2⟩:=hv.of_cons
  obtain ⟨y',cs'',rfl,h3,h4⟩:=h2.of_cons
  obtain rfl:=h4.of_nil
  obtain ⟨b,d,z',g',s1,rfl,rfl⟩:=zdy h1
  split at hp
  ·rename_i hc
   obtain ⟨hc1,hc2⟩:=hc
   split at hp
   ·rename_i e z G M l hH
    split at hp
    ·rename_i hc
     obtain ⟨hg,ho⟩:=hc
     split at hp
     ·rename_i old hold
      injection hp with hp;subst hp
      obtain ⟨rfl,G',M',cells,cs,r1,r2,r3,r4,r5⟩:=zge k hH s1
      have hgG:g'=G':=by omega
      subst hgG
      have hi:i < l.length:=(List.getElem?_eq_some_iff.1 hold).1
      have hm:=zjU (z:=z') hi
      have hcells:=h3.cells
      have hol:=r5.one old (List.mem_of_getElem? hold)
      have hcl:=r5.len
      have hsc:(spl old w o n z').cells=old.cells.take o++w.cells++old.cells.drop (o + n):=by
       unfold spl
       split
       ·rename_i e;subst e
        obtain rfl:o=0:=by omega
        rw [Nat.zero_add,List.drop_of_length_le (by omega)];simp
       ·rfl
      have hn':y'.cells.length=n:=by rw [← hcells.1];exact hc1
      have hold2:=r5.at hold
      have hnew:ER (VR c h) z' (l.set i (spl old w o n z')) (cs.take (i * z' + o)++y'.cells++cs.drop (i * z' + o + y'.cells.length)):=by
       have hsl:(spl old w o n z').cells.length=z':=by rw [hsc];simp;omega
       have hds:LR (VR c h) (spl old w o n z').cells (((cs.drop (i * z')).take z').take o++y'.cells++((cs.drop (i * z')).take z').drop (o + n)):=by
        rw [hsc];exact ((hold2.take o).app hcells).app (hold2.drop (o + n))
       have hset:=r5.set hi hsl hds
       have e1:cs.take (i * z')++(((cs.drop (i * z')).take z').take o++y'.cells++((cs.drop (i * z')).take z').drop (o + n))++cs.drop ((i + 1) * z')=cs.take (i * z' + o)++y'.cells++cs.drop (i * z' + o + y'.cells.length):=by
        rw [Nat.succ_mul];exact zqf cs y'.cells ho hn'
       rw [e1] at hset
       exact hset
      obtain ⟨m1,k1⟩:=k.set (o:=.row e z' G G (l.set i (spl old w o n z'))) (x:=.row e g' g' (l.length * z') (cells.putL (i * z' + o) y'.cells)) s1 fun mm =>
       .inr ⟨b,d,g',g',cells.putL (i * z' + o) y'.cells,cs.take (i * z' + o)++y'.cells++cs.drop (i * z' + o + y'.cells.length),s1,by rw [TH.get_set _ _ _ _ (k.own _ _ s1).2.1,if_pos rfl,List.length_set],r2,by omega,by
        rw [List.length_set,← hcl]
        exact zmQ (by rw [hcl];exact r4) (by rw [hcl];omega),hnew.mono fun _ _=>VR.mono mm⟩
      refine ⟨.tuple [],_,c,?_,m1,k1,VR.tupL LR.nil,zjT k s1 _⟩
      simp only [zfa,zcP]
      rw [zaR hn',zb2 hc2,r1]
      simp only [cond_true,zkq]
      rw [zaR rfl,zb2 (by omega)]
      rfl
     ·cases hp
    ·cases hp
   ·cases hp
  ·cases hp
 ·cases hp
theorem znc (k:HR B c H h) {esz:Nat} {x:PV} {u:TV} {l:List PV} (hx:VR c h x u) (hp:zbr H esz x=some l):l.length=lenP x∧lenV u=l.length∧∀ m,m≤l.length→∃ cs,zdG h esz u m=some cs∧ER (VR c h) esz (l.take m) cs:=by
 unfold zbr at hp
 split at hp
 ·injection hp with hp;subst hp
  obtain rfl:u=.nilsl:=by cases hx with | pure hx=>cases hx;rfl
  exact ⟨rfl,rfl,fun m hm=>⟨[],rfl,by simpa using ER.nil⟩⟩
 ·split at hp
  ·rename_i he
   injection hp with hp;subst hp;subst he
   rcases zdf hx with ⟨rfl,rfl⟩ | ⟨b,g,o,q,ds,rfl,s1,s2,s3,s4⟩
   ·exact ⟨rfl,rfl,fun m hm=>⟨[],rfl,by simpa using ER.nil⟩⟩
   ·refine ⟨rfl,rfl,fun m hm=>⟨ds.take (m * esz),?_,(s4.take m).mono fun _ _=>.pure⟩⟩
    unfold zdG
    dsimp only
    rw [zaR rfl]
    have:=zdv s2 (k:=0) (m:=m * esz) (by rw [Nat.zero_add];exact Nat.mul_le_mul_right esz hm)
    simpa using this
  ·cases hp
 ·rename_i id g o n q z
  split at hp
  ·rename_i he
   subst he
   split at hp
   ·rename_i e z' G M l' hH
    split at hp
    ·rename_i hc
     obtain ⟨c1,c2,c3⟩:=hc
     injection hp with hp;subst hp
     have hln:((l'.drop o).take n).length=n:=by simp;omega
     rcases sl_inv hx with ⟨rfl,rfl,rfl,rfl,rfl,hL⟩ | ⟨b,d,g',s1,rfl,rfl⟩
     ·exact ⟨by simp [lenP],by simp [lenV],fun m hm=>⟨[],rfl,by simpa using ER.nil⟩⟩
     ·obtain ⟨rfl,G',M',cells,cs,r1,r2,r3,r4,r5⟩:=zge k hH s1
      refine ⟨hln,by rw [hln];rfl,fun m hm=>⟨((cs.drop (o * esz)).take (n * esz)).take (m * esz),?_,((r5.drop o).take n).take m⟩⟩
      rw [hln] at hm
      unfold zdG
      dsimp only
      rw [zaR rfl,List.take_take,Nat.min_eq_left (Nat.mul_le_mul_right esz hm)]
      refine zg5 r1 (by omega) (by omega) ?_
      have h9:o * esz + m * esz≤l'.length * esz:=by rw [← Nat.add_mul];exact Nat.mul_le_mul_right _ (by omega)
      have:=zgx r4 h9
      rwa [Nat.zero_add] at this
    ·cases hp
   ·cases hp
  ·cases hp
 ·cases hp
theorem HR.first (k:HR B c H h) {id e e' z G M:Nat} {l:List PV} (hH:H[id]?=some (.row e' z G M l)) (hρ:c.ρ id=none) (hL:c.L id) {news:List PV} {cs:List TV} (hn:ER (VR c h) z news cs) :
  Mo c (c.add id h.next 1 z) h (h.push (zbS e cs))∧HR B (c.add id h.next 1 z) (H.set id (.row e z 1 M news)) (h.push (zbS e cs)):=by
 have hid:id < H.length:=(List.getElem?_eq_some_iff.1 hH).1
 have m:Mo c (c.add id h.next 1 z) h (h.push (zbS e cs)):=⟨fun _ _ h=>h,fun i y hy=>by
  show (if i=id then _ else _)=_
  rw [if_neg (fun e=>by subst e;rw [hρ] at hy;cases hy)];exact hy,fun _ h=>h,fun _ _ _ _ _ _ _ hr=>zoG _ hr⟩
 have hget:∀ b,b < h.next→(h.push (zbS e cs)).get b=h.get b:=fun b hb=>by rw [TH.get_push,if_neg (by omega)]
 have hr:∀ i y,(c.add id h.next 1 z).ρ i=some y→(i=id∧y=(h.next,1,z))∨c.ρ i=some y:=fun i y hy=>by
  have hy:(if i=id then some (h.next,1,z) else c.ρ i)=some y:=hy
  split at hy
  ·rename_i e;injection hy with hy;exact .inl ⟨e,hy.symm⟩
  ·exact .inr hy
 refine ⟨m,⟨?_,fun b hb=>?_,k.old,fun p b hb=>?_,fun i y hy=>?_,fun i hi=>?_,fun i i' y y' hy hy' e=>?_,fun i o' ho'=>?_⟩⟩
 ·rw [TH.next_push];exact Nat.le_succ_of_le k.le
 ·rw [hget b (Nat.lt_of_lt_of_le hb k.le)];exact k.keep b hb
 ·obtain ⟨h1,h2⟩:=k.S p b hb
  refine ⟨by rw [TH.next_push];omega,fun i y hy=>?_⟩
  rcases hr i y hy with ⟨_,rfl⟩ | hy
  ·dsimp only;omega
  ·exact h2 i y hy
 ·rw [TH.next_push,List.length_set]
  rcases hr i y hy with ⟨rfl,rfl⟩ | hy
  ·exact ⟨k.le,Nat.lt_succ_self _,hid⟩
  ·obtain ⟨h1,h2,h3⟩:=k.own i y hy
   exact ⟨h1,by omega,h3⟩
 ·rw [List.length_set]
  obtain ⟨h1,h2⟩:=k.lz i hi
  refine ⟨h1,fun y hy=>?_⟩
  rcases hr i y hy with ⟨rfl,rfl⟩ | hy
  ·rfl
  ·exact h2 y hy
 ·rcases hr i y hy with ⟨a1,a2⟩ | h5 <;> rcases hr i' y' hy' with ⟨b1,b2⟩ | h6
  ·rw [a1,b1]
  ·have:=(k.own _ _ h6).2.1;rw [a2] at e;dsimp only at e;omega
  ·have:=(k.own _ _ h5).2.1;rw [b2] at e;dsimp only at e;omega
  ·exact k.inj _ _ _ _ h5 h6 e
 ·by_cases hii:id=i
  ·subst hii
   rw [List.getElem?_set_self hid] at ho'
   injection ho' with ho';subst ho'
   exact .inr ⟨h.next,1,0,0,Tr.putL .nil 0 cs,cs,add_same ..,by rw [TH.get_push,if_pos rfl,zbS,hn.len],rfl,Nat.zero_le _,by rw [← hn.len];exact zl6 cs,hn.mono fun _ _=>VR.mono m⟩
  ·rw [List.getElem?_set_ne hii] at ho'
   exact (k.obj i o' ho').move m (by show (if i=id then _ else _)=_;rw [if_neg (Ne.symm hii)]) (fun h=>h) fun y hy=>hget _ (k.own _ _ hy).2.1
theorem zqs (k:HR B c H h) {e esz bytes:Nat} {a:AR} (hv:LR (VR c h) vs us) (hp:z9 H e esz bytes vs=some a):∃ u h' c',zem e esz bytes h us=some (.ok u h')∧zjB B c H h a u h' c':=by
 unfold z9 at hp
 split at hp
 ·rename_i s x
  obtain ⟨y,cs',rfl,h1,h2⟩:=hv.of_cons
  obtain ⟨y',cs'',rfl,h3,h4⟩:=h2.of_cons
  obtain rfl:=h4.of_nil
  split at hp
  ·cases hp
  ·rename_i news hs
   obtain ⟨_,t2,t3⟩:=znc k h3 hs
   obtain ⟨cs,t4,t5⟩:=t3 _ (Nat.le_refl _)
   rw [List.take_length] at t5
   simp only [zem,zpD]
   rw [t2,t4]
   dsimp only
   have hpush:∀ b,b < h.next→(h.push (zbS e cs)).get b=h.get b:=fun b hb=>by rw [TH.get_push,if_neg (by omega)]
   split at hp
   ·obtain rfl:y=.nilsl:=by cases h1 with | pure h1=>cases h1;rfl
    dsimp only
    split at hp
    ·rename_i hz
     injection hp with hp;subst hp
     rw [hz]
     exact ⟨_,h,c,rfl,Mo.refl _ _,k,h1,fun _ _ _ _=>rfl⟩
    ·rename_i hz
     split at hp
     ·rename_i hb
      injection hp with hp;subst hp
      obtain ⟨m1,k1⟩:=zgp k (e:=e) t5
      refine ⟨.sl h.next 0 0 news.length (2 * news.length) esz,_,_,?_,m1,k1,?_,fun id _ y hy=>hpush _ (k.own _ _ hy).2.1⟩
      ·have:Nat.beq news.length 0=false:=by
        cases hb:Nat.beq news.length 0
        ·rfl
        ·exact absurd (zmm hb) hz
       rw [this]
       simp only [cond_false,zil]
       rw [zb2 hb];rfl
      ·have:=VR.sl (h:=h.push (zbS e cs)) (g:=0) (o:=0) (n:=news.length) (q:=2 * news.length) (add_same c H.length h.next 0 esz)
       simpa using this
     ·cases hp
   ·rename_i id g o n q z
    split at hp
    ·rename_i hz
     injection hp with hp;subst hp
     refine ⟨y,h,c,?_,Mo.refl _ _,k,h1,fun _ _ _ _=>rfl⟩
     rcases sl_inv h1 with ⟨rfl,rfl,rfl,rfl,rfl,hL⟩ | ⟨b,d,g',s1,rfl,rfl⟩ <;> (dsimp only;rw [hz];rfl)
    ·rename_i hz
     have hbz:Nat.beq news.length 0=false:=by
      cases hb:Nat.beq news.length 0
      ·rfl
      ·exact absurd (zmm hb) hz
     split at hp
     ·rename_i hc
      obtain ⟨rfl,hq,rfl⟩:=hc
      split at hp
      ·rename_i e' z' G M l hH
       split at hp
       ·rename_i hc
        obtain ⟨rfl,rfl,rfl,rfl,hbnd⟩:=hc
        injection hp with hp;subst hp
        rcases sl_inv h1 with ⟨rfl,_,hl0,rfl,rfl,hL⟩ | ⟨b,d,g',s1,hgd,rfl⟩
        ·have hl:l=[]:=List.length_eq_zero_iff.1 hl0
         subst hl
         have hn:c.ρ id=none:=by
          rcases k.obj _ _ hH with ⟨_,_,hn,_⟩ | ⟨b,d,G',M',cells,cs,p1,p2,p3,_⟩
          ·exact hn
          ·have:=(k.lz id hL).2 _ p1
           dsimp only at this
           omega
         obtain ⟨m1,k1⟩:=k.first (e:=e) hH hn hL t5
         refine ⟨.sl h.next 0 0 news.length (2 * news.length) esz,h.push (zbS e cs),_,?_,m1,by simpa using k1,?_,fun i hi y hy=>hpush _ (k.own _ _ hy).2.1⟩
         ·dsimp only
          rw [hbz]
          simp only [cond_false,zil]
          rw [zb2 (by simpa using hbnd)];rfl
         ·have:=VR.sl (h:=h.push (zbS e cs)) (g:=0) (o:=0) (n:=news.length) (q:=2 * news.length) (add_same c id h.next 1 esz)
          simpa using this
        ·obtain ⟨_,G',M',cells,ds,r1,r2,r3,r4,r5⟩:=zge k hH s1
         have hgG:g'=G':=by omega
         subst hgG
         have hdl:=r5.len
         obtain ⟨m1,k1⟩:=k.set (o:=.row e esz (g + 1) M (l++news)) (x:=.row e (g' + 1) M' (l.length * esz + cs.length) (cells.putL (l.length * esz) cs)) s1 fun mm =>
          .inr ⟨b,d,g' + 1,M',cells.putL (l.length * esz) cs,ds++cs,s1,by rw [TH.get_set _ _ _ _ (k.own _ _ s1).2.1,if_pos rfl,List.length_append,Nat.add_mul,t5.len],by omega,by omega,by
           rw [List.length_append,Nat.add_mul,← t5.len,← hdl]
           exact zob (by rw [hdl];exact r4),(r5.app t5).mono fun _ _=>VR.mono mm⟩
         refine ⟨.sl b (g' + 1) 0 (l.length + news.length) (2 * (l.length + news.length)) esz,_,c,?_,m1,k1,?_,zjT k s1 _⟩
         ·dsimp only
          rw [hbz]
          simp only [cond_false]
          rw [zaR (show 0 * esz=0 by simp),zaR hq,zaR (rfl:esz=esz),r1]
          simp only [cond_true,zkJ]
          rw [zaR rfl,zaR rfl,zaR rfl,zb2 hbnd]
          rfl
         ·have:=VR.sl (h:=h.set b (.row e (g' + 1) M' (l.length * esz + cs.length) (cells.putL (l.length * esz) cs))) (g:=g' + 1) (o:=0) (n:=l.length + news.length) (q:=2 * (l.length + news.length)) s1
          rw [show g' + 1 + d=g + 1 by omega] at this
          simpa using this
       ·cases hp
      ·cases hp
     ·cases hp
   ·cases hp
 ·cases hp
theorem zsp {a b:Nat} (h:¬ min a b=0):Nat.beq (min a b) 0=false:=by
 cases hb:Nat.beq (min a b) 0
 ·rfl
 ·exact absurd (zmm hb) h
theorem zs3 (k:HR B c H h) {esz:Nat} {a:AR} (hv:LR (VR c h) vs us) (hp:zo5 H esz vs=some a):∃ u h' c',zer esz h us=some (.ok u h')∧zjB B c H h a u h' c':=by
 unfold zo5 at hp
 split at hp
 ·rename_i x
  obtain ⟨y,cs',rfl,h1,h2⟩:=hv.of_cons
  obtain ⟨y',cs'',rfl,h3,h4⟩:=h2.of_cons
  obtain rfl:=h4.of_nil
  obtain rfl:y=.nilsl:=by cases h1 with | pure h1=>cases h1;rfl
  split at hp
  ·rename_i news hs
   injection hp with hp;subst hp
   obtain ⟨_,t2,t3⟩:=znc k h3 hs
   obtain ⟨cs,t4,t5⟩:=t3 0 (Nat.zero_le _)
   refine ⟨_,h,c,?_,Mo.refl _ _,k,.pure (.int _ _),fun _ _ _ _=>rfl⟩
   simp only [zer,lenV,Nat.min_zero]
   rw [t4]
   rfl
  ·cases hp
 ·rename_i id g o n q z x
  obtain ⟨y,cs',rfl,h1,h2⟩:=hv.of_cons
  obtain ⟨y',cs'',rfl,h3,h4⟩:=h2.of_cons
  obtain rfl:=h4.of_nil
  split at hp
  ·cases hp
  ·rename_i news hs
   obtain ⟨_,t2,t3⟩:=znc k h3 hs
   obtain ⟨cs,t4,t5⟩:=t3 (min news.length n) (Nat.min_le_left _ _)
   split at hp
   ·rename_i hz
    injection hp with hp;subst hp
    refine ⟨.int .i64 (.ofNat 0),h,c,?_,Mo.refl _ _,k,.pure (.int _ _),fun _ _ _ _=>rfl⟩
    rcases sl_inv h1 with ⟨rfl,rfl,rfl,rfl,rfl,hL⟩ | ⟨b,d,g',s1,rfl,rfl⟩
    ·simp only [zer,lenV,Nat.min_zero]
     simp only [Nat.min_zero] at t4
     rw [t4]
    ·simp only [zer]
     rw [t2,show lenV (.sl b g' (o * z) n q z)=n from rfl,t4,hz]
     rfl
   ·rename_i hz
    split at hp
    ·rename_i he
     subst he
     split at hp
     ·rename_i e z' G M l hH
      split at hp
      ·rename_i hc
       obtain ⟨rfl,rfl,hle⟩:=hc
       injection hp with hp;subst hp
       rcases sl_inv h1 with ⟨_,_,rfl,_⟩ | ⟨b,d,g',s1,hgd,rfl⟩
       ·simp at hz
       ·obtain ⟨_,G',M',cells,ds,r1,r2,r3,r4,r5⟩:=zge k hH s1
        have hgG:g'=G':=by omega
        subst hgG
        have hdl:=r5.len
        have htl:(news.take (min news.length n)).length=min news.length n:=by simp
        have hcl:cs.length=min news.length n * esz:=by rw [t5.len,htl]
        have hlen:o * esz + cs.length≤l.length * esz:=by rw [hcl,← Nat.add_mul];exact Nat.mul_le_mul_right _ hle
        have hnew:=((r5.take o).app t5).app (r5.drop (o + min news.length n))
        have hll:(l.take o++news.take (min news.length n)++l.drop (o + min news.length n)).length=l.length:=by simp;omega
        obtain ⟨m1,k1⟩:=k.set (o:=.row e esz g g (l.take o++news.take (min news.length n)++l.drop (o + min news.length n))) (x:=.row e g' g' (l.length * esz) (cells.putL (o * esz) cs)) s1 fun mm =>
         .inr ⟨b,d,g',g',cells.putL (o * esz) cs,ds.take (o * esz)++cs++ds.drop (o * esz + cs.length),s1,by rw [TH.get_set _ _ _ _ (k.own _ _ s1).2.1,if_pos rfl,hll],r2,by omega,by
          rw [hll,← hdl]
          exact zmQ (by rw [hdl];exact r4) (by rw [hdl];exact hlen),by
          rw [hcl,← Nat.add_mul]
          exact hnew.mono fun _ _=>VR.mono mm⟩
        refine ⟨.int .i64 (.ofNat (min news.length n)),_,c,?_,m1,k1,.pure (.int _ _),zjT k s1 _⟩
        simp only [zer]
        rw [t2,show lenV (.sl b g' (o * esz) n q esz)=n from rfl,t4]
        dsimp only
        rw [zsp hz,zaR (rfl:esz=esz)]
        simp only [cond_false,cond_true,zcP]
        rw [r1]
        simp only [zkq]
        rw [zaR rfl,zb2 hlen]
        rfl
      ·cases hp
     ·cases hp
    ·cases hp
 ·cases hp
theorem ziS (x:Int) (e:zbU) (l:List zbU):lk x (e::l)=match e.k with
  | .int _ n=>if n=x then some e.v else lk x l
  | _=>lk x l:=rfl
theorem znm {x:Int}:∀ {es:List zbU} {fs:List zbU},lk x es=none→lk x (es++fs)=lk x fs
  | [],fs,_=>rfl
  | e::l,fs,h=>by
    have ih:=znm (x:=x) (es:=l) (fs:=fs)
    rw [List.cons_append,ziS]
    rw [ziS] at h
    revert h
    generalize e.k=kk
    cases kk <;> intro h <;> first
      | exact ih h
      | (dsimp only at h ⊢
         split at h
         · cases h
         · rename_i hne
           rw [if_neg hne]
           exact ih h)
theorem zi8 {x:Int} {u:TV}:∀ {es:List zbU} {fs:List zbU},lk x es=some u→lk x (es++fs)=some u
  | [],fs,h=>by cases h
  | e::l,fs,h=>by
    have ih:=zi8 (x:=x) (u:=u) (es:=l) (fs:=fs)
    rw [List.cons_append,ziS]
    rw [ziS] at h
    revert h
    generalize e.k=kk
    cases kk <;> intro h <;> first
      | exact ih h
      | (dsimp only at h ⊢
         split at h
         · rename_i he
           rw [if_pos he]
           exact h
         · rename_i hne
           rw [if_neg hne]
           exact ih h)
theorem zoI {k:IntKind} {x:Int}:∀ {es:List zbU} {i j:Nat} {e:zbU},(∀ e∈es,∃ n,e.k=.int k n)→zdL (.int k x) es i=some (some (j,e))→∃ t,j=i + t∧(∀ u,(∀ e∈setE t (.int k x) u es,∃ n,e.k=.int k n)∧lk x (setE t (.int k x) u es)=some u∧∀ y,y ≠ x→lk y (setE t (.int k x) u es)=lk y es)
 | [],i,j,e,hk,h=>by simp [zdL] at h
 | e0::l,i,j,e,hk,h=>by
  obtain ⟨n,hn⟩:=hk e0 (by simp)
  have hl:=fun e' he'=>hk e' (List.mem_cons_of_mem _ he')
  unfold zdL at h
  rw [hn] at h
  simp only [zgP] at h
  rw [zaR rfl] at h
  simp only [cond_true,zcg] at h
  by_cases hx:x=n
  ·subst hx
   simp at h
   refine ⟨0,h.1.symm,fun u=>⟨fun e' he'=>?_,?_,fun y hy=>?_⟩⟩
   ·simp only [setE,List.mem_cons] at he'
    rcases he' with rfl | he'
    ·exact ⟨x,rfl⟩
    ·exact hl e' he'
   ·simp [setE,lk]
   ·simp only [setE,lk,hn,if_neg (Ne.symm hy)]
  ·have hb:(x == n)=false:=by simpa using hx
   rw [hb] at h
   dsimp only at h
   obtain ⟨t,rfl,ht⟩:=zoI hl h
   refine ⟨t + 1,by omega,fun u=>?_⟩
   obtain ⟨t1,t2,t3⟩:=ht u
   refine ⟨fun e' he'=>?_,?_,fun y hy=>?_⟩
   ·simp only [setE,List.mem_cons] at he'
    rcases he' with rfl | he'
    ·exact ⟨n,hn⟩
    ·exact t1 e' he'
   ·simp only [setE,lk,hn,if_neg (Ne.symm hx)];exact t2
   ·simp only [setE,lk,hn]
    split
    ·rfl
    ·exact t3 y hy
theorem zsZ (k:HR B c H h) {kf:Nat} {a:AR} (hv:LR (VR c h) vs us) (hp:zaK H kf vs=some a):∃ u h' c',zhS kf h us=some (.ok u h')∧zjB B c H h a u h' c':=by
 unfold zaK at hp
 split at hp
 ·rename_i id kk x w
  obtain ⟨y,cs',rfl,h1,h2⟩:=hv.of_cons
  obtain ⟨y',cs'',rfl,h3,h4⟩:=h2.of_cons
  obtain ⟨y2,cs3,rfl,h5,h6⟩:=h4.of_cons
  obtain rfl:=h6.of_nil
  obtain rfl:=h3.int_inv
  obtain ⟨b,d,z,s1,rfl⟩:=zhh h1
  split at hp
  ·rename_i hkf
   subst hkf
   have main:∀ (m:Int→Option PV) (es:List zbU) (clock:Nat),h.get b=some (.map es clock)→MR (VR c h) kk m es→∃ u h' c',zhS 1 h [.map b,.int kk x,y2]=some (.ok u h')∧zjB B c H h ⟨.tuple [],H.set id (.mapI kk fun y=>if y=x then some w else m y),[id]⟩ u h' c':=fun m es clock hg hm=>by
    simp only [zhS,zdN,zgz,cond_true]
    rw [hg]
    simp only [zo7]
    rcases zi4 (x:=x) (i:=0) hm.keys with ⟨f1,f2⟩ | ⟨j,e,f1,f2⟩
    ·rw [f1]
     dsimp only
     obtain ⟨m1,k1⟩:=k.set (o:=.mapI kk fun y=>if y=x then some w else m y) (x:=.map (es++[⟨.int kk x,y2,clock⟩]) (clock + 1)) s1 fun mm =>
      ⟨b,d,z,es++[⟨.int kk x,y2,clock⟩],clock + 1,s1,by rw [TH.get_set _ _ _ _ (k.own _ _ s1).2.1,if_pos rfl],⟨fun e he=>by
       rcases List.mem_append.1 he with he | he
       ·exact hm.keys e he
       ·simp at he;subst he;exact ⟨x,rfl⟩,fun x' v' hx'=>by
       try dsimp only at hx'
       split at hx'
       ·rename_i e;subst e
        injection hx' with hx';subst hx'
        exact ⟨y2,by rw [znm f2];simp [lk],h5.mono mm⟩
       ·obtain ⟨u,u1,u2⟩:=hm.some _ _ hx'
        exact ⟨u,zi8 u1,u2.mono mm⟩,fun x' hx'=>by
       try dsimp only at hx'
       split at hx'
       ·cases hx'
       ·rename_i hne
        rw [znm (hm.none _ hx')]
        simp only [lk,if_neg (Ne.symm hne)]⟩⟩
     exact ⟨_,_,c,rfl,m1,k1,VR.tupL LR.nil,zjT k s1 _⟩
    ·rw [f1]
     dsimp only
     obtain ⟨t,rfl,ht⟩:=zoI hm.keys f1
     obtain ⟨t1,t2,t3⟩:=ht y2
     rw [Nat.zero_add]
     obtain ⟨m1,k1⟩:=k.set (o:=.mapI kk fun y=>if y=x then some w else m y) (x:=.map (setE t (.int kk x) y2 es) clock) s1 fun mm =>
      ⟨b,d,z,setE t (.int kk x) y2 es,clock,s1,by rw [TH.get_set _ _ _ _ (k.own _ _ s1).2.1,if_pos rfl],⟨t1,fun x' v' hx'=>by
       try dsimp only at hx'
       split at hx'
       ·rename_i e;subst e
        injection hx' with hx';subst hx'
        exact ⟨y2,t2,h5.mono mm⟩
       ·rename_i hne
        obtain ⟨u,u1,u2⟩:=hm.some _ _ hx'
        exact ⟨u,by rw [t3 _ hne];exact u1,u2.mono mm⟩,fun x' hx'=>by
       try dsimp only at hx'
       split at hx'
       ·cases hx'
       ·rename_i hne
        rw [t3 _ hne];exact hm.none _ hx'⟩⟩
     exact ⟨_,_,c,rfl,m1,k1,VR.tupL LR.nil,zjT k s1 _⟩
   split at hp
   ·rename_i hH
    injection hp with hp;subst hp
    obtain ⟨b',d',z',clock,s2,s3⟩:=k.obj _ _ hH
    rw [s1] at s2;injection s2 with s2;injection s2 with s2 _;subst s2
    exact main (fun _=>none) [] clock s3 ⟨fun e he=>by simp at he,fun x v h=>(by cases h),fun x _=>rfl⟩
   ·rename_i k' m hH
    obtain ⟨b',d',z',es,clock,s2,s3,s4⟩:=k.obj _ _ hH
    rw [s1] at s2;injection s2 with s2;injection s2 with s2 _;subst s2
    split at hp
    ·rename_i hk
     subst hk
     injection hp with hp;subst hp
     exact main m es clock s3 s4
    ·cases hp
   ·cases hp
  ·cases hp
 ·cases hp
theorem zkd (k:HR B c H h) {C:zaB} {caught:Tr Unit} {kind:zO} {a:AR} (hv:LR (VR c h) vs us) (hp:zbo H kind vs=some a):∃ u h' c',act C caught kind us h=some (.ok u h')∧zjB B c H h a u h' c':=by
 unfold zbo at hp
 split at hp
 ·exact znn k hv hp
 ·exact zqs k hv hp
 ·exact zs3 k hv hp
 ·exact zsZ k hv hp
 ·cases hp
end Fv
end Go.Proofs.YtfomlmhnmheenaaGreat
namespace Go.Proofs.YtfomlmhnmheenaaGreat
namespace Fv
open Tw
def EN (E:Env) (N:Nat):Env:={ E with N:=N }
def Ev (E:Env) (φ:zaB→Nat→Prop):Prop:=∃ K,∀ N,K≤N→∀ d,K≤d→φ (zcA (EN E N) d) N
section ev
variable {E:Env} {φ ψ χ:zaB→Nat→Prop}
theorem Ev.all (h:∀ C N,φ C N):Ev E φ:=⟨0,fun _ _ _ _=>h _ _⟩
theorem Ev.mono (hh:∀ C N,φ C N→ψ C N) (h:Ev E φ):Ev E ψ:=by
 obtain ⟨K,hK⟩:=h
 exact ⟨K,fun N hN d hd=>hh _ _ (hK N hN d hd)⟩
theorem Ev.and2 (hh:∀ C N,φ C N→ψ C N→χ C N) (h:Ev E φ) (k:Ev E ψ):Ev E χ:=by
 obtain ⟨K,hK⟩:=h
 obtain ⟨L,hL⟩:=k
 exact ⟨max K L,fun N hN d hd=>hh _ _ (hK N (by omega) d (by omega)) (hL N (by omega) d (by omega))⟩
end ev
inductive FD where
 | caught (p clear:PV)
 | mark (id:Nat)
structure FSt where
 tm:Nat→PV
 df:List FD
 H:List zk
def upd (tm:Nat→PV) (d:Nat) (v:PV):Nat→PV:=fun t=>if t=d then v else tm t
def FSt.put (s:FSt) (d:Option Nat) (v:PV):FSt:=match d with
 | none=>s
 | some d=>⟨upd s.tm d v,s.df,s.H⟩
def DR (c:Cx) (h:TH):FD→TD→Prop
 | .caught p l,.caught p' l'=>VR c h p p'∧VR c h l l'
 | .mark id,.mark b=>∃ d z,c.ρ id=some (b,d,z)
 | _,_=>False
def dfR (c:Cx) (h:TH):List FD→List TD→Prop
 | [],[]=>True
 | x::l,y::m=>DR c h x y∧dfR c h l m
 | _,_=>False
structure SR (B:Ba) (c:Cx) (s:FSt) (t:St):Prop where
 hr:HR B c s.H t.h
 tm:tmR c t.h s.tm t.tm
 df:dfR c t.h s.df t.df
section mono
variable {c c':Cx} {h h':TH}
theorem tmR.mono (m:Mo c c' h h') {tm:Nat→PV} {t:Tr TV} (k:tmR c h tm t):tmR c' h' tm t:=fun i=>by
 rcases k i with k | ⟨u,u1,u2⟩
 ·exact .inl k
 ·exact .inr ⟨u,u1,u2.mono m⟩
theorem DR.mono (m:Mo c c' h h') {x:FD} {y:TD} (k:DR c h x y):DR c' h' x y:=by
 cases x <;> cases y <;> first | exact k.elim | skip
 ·exact ⟨k.1.mono m,k.2.mono m⟩
 ·obtain ⟨d,z,k⟩:=k;exact ⟨d,z,m.ρ _ _ k⟩
theorem dfR.mono (m:Mo c c' h h'):∀ {l:List FD} {l':List TD},dfR c h l l'→dfR c' h' l l'
 | [],[],_=>trivial
 | _::_,_::_,k=>⟨k.1.mono m,k.2.mono m⟩
 | [],_::_,k=>k.elim
 | _::_,[],k=>k.elim
theorem tmR.put {tm:Nat→PV} {t:Tr TV} (k:tmR c h tm t) {d:Nat} {v:PV} {u:TV} (hv:VR c h v u):tmR c h (upd tm d v) (t.set d (some u)):=fun i=>by
 unfold upd
 rw [Tr.get_set]
 by_cases e:i=d
 ·rw [if_pos e,if_pos e];exact .inr ⟨u,rfl,hv⟩
 ·rw [if_neg e,if_neg e];exact k i
theorem XR.mono (m:Mo c c' h h') {x:FX} {y:TX} (k:XR c h x y):XR c' h' x y:=by
 cases k with
 | norm=>exact .norm
 | exit id=>exact .exit id
 | goto l=>exact .goto l
 | ret=>exact .ret
 | panic k=>exact .panic (k.mono m)
end mono
theorem SR.put {B:Ba} {c c':Cx} {s:FSt} {t:St} (k:SR B c s t) {H':List zk} {h':TH} (m:Mo c c' t.h h') (hr:HR B c' H' h') {v:PV} {u:TV} (hv:VR c' h' v u) (d:Option Nat) :
  SR B c' (FSt.put ⟨s.tm,s.df,H'⟩ d v) (St.put ⟨t.tm,t.df,h'⟩ d u):=by
 cases d with
 | none=>exact ⟨hr,k.tm.mono m,k.df.mono m⟩
 | some d=>exact ⟨hr,(k.tm.mono m).put hv,k.df.mono m⟩
theorem put_h (t:St) (d:Option Nat) (u:TV):(t.put d u).h=t.h:=by cases d <;> rfl
def okv:PV→Option PV
 | .bad=>none
 | v=>some v
def ev (tm:Nat→PV):TOp→Option PV
 | .tmp t=>okv (tm t)
 | .new _=>none
 | .const u=>ofC 4 u
 | .fn f=>some (.fn f [])
def evs (tm:Nat→PV):List TOp→Option (List PV)
 | []=>some []
 | x::l=>match ev tm x with
  | none=>none
  | some v=>match evs tm l with
   | none=>none
   | some vs=>some (v::vs)
def zac (b:Bool):Option PV→Option Bool
 | some (.bool c)=>some (if b then c else !c)
 | some (.tuple _)=>some false
 | _=>none
def z7 (tm:Nat→PV):Option (TOp × Bool)→Option Bool
 | none=>some true
 | some (x,b)=>zac b (ev tm x)
theorem zjH {v w:PV} (h:okv v=some w):v=w∧v ≠ .bad:=by
 cases v <;> first | (cases h;done) | (injection h with h;subst h;exact ⟨rfl,fun e=>by cases e⟩)
section operands
variable {c:Cx} {h:TH} {tm:Nat→PV} {t:Tr TV}
theorem zhU (k:tmR c h tm t) {x:TOp} {v:PV} (hx:ev tm x=some v):∃ u,zdW t x=some u∧VR c h v u:=by
 cases x with
 | tmp i =>
  obtain ⟨h1,h2⟩:=zjH hx
  rcases k i with h3 | ⟨u,u1,u2⟩
  ·exact absurd h3 h2
  ·exact ⟨u,u1,by rw [← h1];exact u2⟩
 | new i=>cases hx
 | const u=>exact ⟨u,rfl,zgm hx⟩
 | fn f=>injection hx with hx;subst hx;exact ⟨_,rfl,VR.fnL LR.nil⟩
theorem zhf (k:tmR c h tm t):∀ {l:List TOp} {vs:List PV},evs tm l=some vs→∃ us,zcT t l=some us∧LR (VR c h) vs us
 | [],vs,hv=>by injection hv with hv;subst hv;exact ⟨[],rfl,LR.nil⟩
 | x::l,vs,hv=>by
  unfold evs at hv
  split at hv
  ·cases hv
  ·rename_i v hx
   split at hv
   ·cases hv
   ·rename_i ws hw
    injection hv with hv;subst hv
    obtain ⟨u,u1,u2⟩:=zhU k hx
    obtain ⟨us,w1,w2⟩:=zhf k hw
    refine ⟨u::us,?_,LR.cons u2 w2⟩
    unfold zcT
    rw [u1,w1]
theorem zdw (k:tmR c h tm t) {g:Option (TOp × Bool)} {b:Bool} (hg:z7 tm g=some b):zdz t g=some b:=by
 cases g with
 | none=>exact hg
 | some x =>
  obtain ⟨x,b'⟩:=x
  change zac b' (ev tm x)=some b at hg
  unfold zac at hg
  split at hg
  ·rename_i cc hx
   obtain ⟨u,u1,u2⟩:=zhU k hx
   obtain rfl:=u2.bool_inv
   show zeU b' (zdW t x)=some b
   unfold zeU
   rw [u1]
   injection hg with hg;subst hg
   cases b' <;> rfl
  ·rename_i hx
   obtain ⟨u,u1,u2⟩:=zhU k hx
   obtain ⟨cs,rfl,_⟩:=u2.tuple_inv
   show zeU b' (zdW t x)=some b
   rw [u1]
   exact hg
  ·cases hg
end operands
def zby (o:zM) (s:FSt) (vs:List PV):Option FSt :=
 match o.kind.cls with
 | 0=>(match zaV s.H o.kind vs with
  | some v=>some (s.put o.dst v)
  | none=>none)
 | 1=>(match zbg s.H.length o.kind vs with
  | some (ob,v)=>some (FSt.put ⟨s.tm,s.df,s.H++[ob]⟩ o.dst v)
  | none=>none)
 | _=>(match zbo s.H o.kind vs with
  | some a=>some (FSt.put ⟨s.tm,s.df,a.H⟩ o.dst a.v)
  | none=>none)
def zaE (o:zM) (s:FSt):Option FSt :=
 match z7 s.tm o.guard with
 | none=>none
 | some false=>some (s.put o.dst (.tuple []))
 | some true=>match evs s.tm o.args with
  | none=>none
  | some vs=>zby o s vs
theorem zsI {B:Ba} {c:Cx} {s s':FSt} {t:St} (k:SR B c s t) {o:zM} (hs:zaE o s=some s') (C:zaB) (caught:Tr Unit):∃ c' t',(∀ C,zd7 C caught o t=some (.go t'))∧Mo c c' t.h t'.h∧SR B c' s' t':=by
 unfold zaE at hs
 split at hs
 ·cases hs
 ·rename_i hw
  injection hs with hs;subst hs
  have hw':=zdw k.tm hw
  refine ⟨c,t.put o.dst (.tuple []),fun C=>?_,by rw [put_h];exact Mo.refl _ _,k.put (Mo.refl _ _) k.hr (VR.tupL LR.nil) _⟩
  unfold zd7;rw [hw']
 ·rename_i hw
  have hw':=zdw k.tm hw
  split at hs
  ·cases hs
  ·rename_i vs hvs
   obtain ⟨us,u1,u2⟩:=zhf k.tm hvs
   have e1:∀ C,zd7 C caught o t=zg0 C caught o t us:=fun C=>by unfold zd7;rw [hw',u1]
   unfold zby at hs
   split at hs
   ·rename_i hcls
    split at hs
    ·rename_i v hp
     injection hs with hs;subst hs
     obtain ⟨u,p1,p2⟩:=zkb k.hr u2 hp
     refine ⟨c,t.put o.dst u,fun C=>?_,by rw [put_h];exact Mo.refl _ _,k.put (Mo.refl _ _) k.hr p2 _⟩
     rw [e1];unfold zg0;rw [hcls];(try dsimp only);rw [p1];rfl
    ·cases hs
   ·rename_i hcls
    split at hs
    ·rename_i ob v hp
     injection hs with hs;subst hs
     obtain ⟨x,c',p1,p2,p3,p4,_⟩:=zj4 k.hr u2 hp
     refine ⟨c',(⟨t.tm,t.df,t.h.push x.o⟩:St).put o.dst x.v,fun C=>?_,by rw [put_h];exact p2,k.put p2 p3 p4 _⟩
     rw [e1];unfold zg0;rw [hcls];(try dsimp only);rw [p1];rfl
    ·cases hs
   ·rename_i _ n0 n1
    split at hs
    ·rename_i a hp
     injection hs with hs;subst hs
     have hact:∀ C,∃ u h' c',act C caught o.kind us t.h=some (.ok u h')∧zjB B c s.H t.h a u h' c':=fun C=>zkd k.hr u2 hp
     have hsame:∀ C C',act C caught o.kind us t.h=act C' caught o.kind us t.h:=fun C C'=>by
      unfold zbo at hp
      split at hp
      ·rename_i e;rw [e];rfl
      ·rename_i e;rw [e];rfl
      ·rename_i e;rw [e];rfl
      ·rename_i e;rw [e];rfl
      ·cases hp
     obtain ⟨u,h',c',p1,p2⟩:=hact C
     refine ⟨c',(⟨t.tm,t.df,h'⟩:St).put o.dst u,fun C'=>?_,by rw [put_h];exact p2.mo,k.put p2.mo p2.hr p2.v _⟩
     rw [e1];unfold zg0
     split
     ·rename_i h0;exact absurd h0 n0
     ·rename_i h0;exact absurd h0 n1
     ·rw [hsame C' C,p1];rfl
    ·cases hs
inductive FE where
 | ret (v:PV)
 | panic (v:PV)
def RE (R:PV→TV→Prop):FE→TE→Prop
 | .ret v,.ret u=>R v u
 | .panic v,.panic u=>R v u
 | _,_=>False
def S0 (S:zdA) (a b:Nat):zdA:=fun p x=>p=0∧(S 0 x∨(a≤x∧x < b))
def S1 (S:zdA) (a b:Nat):zdA:=fun p x=>S p x∨(p=0∧a≤x∧x < b)
def FN (E:Env) (f:Nat) (args:List PV) (e:FE):Prop :=
 ∀ S h us,(∀ p b,S p b→b < h.next)→LR (PR S h) args us→∃ r h',Ev E (fun C _=>C.fn f us h=some (r,h'))∧h.next≤h'.next∧(∀ b,b < h.next→h'.get b=h.get b)∧RE (PR (S0 S h.next h'.next) h') e r
def FP (E:Env) (f:Nat) (args:List PV) (e:FE):Prop :=
 ∀ S h us,(∀ p b,S p b→b < h.next)→LR (PR S h) args us→∃ r h',Ev E (fun C _=>C.fn f us h=some (r,h'))∧h.next≤h'.next∧(∀ b,b < h.next→h'.get b=h.get b)∧RE (PR (S1 S h.next h'.next) h') e r
def FO (E:Env) (f:Nat) (args:List PV) (H:List zk) (same:Bool) (Q:FE→List zk→Prop):Prop :=
 ∀ B c h us,HR B c H h→LR (VR c h) args us→∃ r h' e H' c',Ev E (fun C _=>C.fn f us h=some (r,h'))∧Q e H'∧Mo c c' h h'∧HR B c' H' h'∧RE (VR c' h') e r∧(same=true→∀ id x,c.ρ id=some x→h'.get x.1=h.get x.1)
theorem zoA {h h':TH} (hk:∀ b,b < h.next→h'.get b=h.get b) {b g o n:Nat} {cs:List TV} (hr:zaA h b g o n=some cs):zaA h' b g o n=some cs:=by
 obtain ⟨y,h1,h2⟩:=zeX hr
 exact zeB (by rw [hk _ (TH.get_lt h1)];exact h1) h2
inductive Frz (H:List zk) (lab:Nat):PV→PV→Prop
 | bool (b:Bool):Frz H lab (.bool b) (.bool b)
 | int (k:IntKind) (n:Int):Frz H lab (.int k n) (.int k n)
 | str (s:List Nat):Frz H lab (.str s) (.str s)
 | nilptr:Frz H lab .nilptr .nilptr
 | nilsl:Frz H lab .nilsl .nilsl
 | nilmap:Frz H lab .nilmap .nilmap
 | nilfn:Frz H lab .nilfn .nilfn
 | niliface:Frz H lab .niliface .niliface
 | nil (p z:Nat):Frz H lab .nilsl (.list p z [])
 | list (p z:Nat) (l:List PV):Frz H lab (.list p z l) (.list p z l)
 | elem (vs:List PV):Frz H lab (.elem vs) (.elem vs)
 | iface {t:Nat} {v w:PV}:Frz H lab v w→Frz H lab (.iface t v) (.iface t w)
 | fn {f:Nat} {vs ws:List PV}:vs.length=ws.length→(∀ (i:Nat) (x y:PV),vs[i]?=some x→ws[i]?=some y→Frz H lab x y)→Frz H lab (.fn f vs) (.fn f ws)
 | agg {vs ws:List PV}:vs.length=ws.length→(∀ (i:Nat) (x y:PV),vs[i]?=some x→ws[i]?=some y→Frz H lab x y)→Frz H lab (.agg vs) (.agg ws)
 | tuple {vs ws:List PV}:vs.length=ws.length→(∀ (i:Nat) (x y:PV),vs[i]?=some x→ws[i]?=some y→Frz H lab x y)→Frz H lab (.tuple vs) (.tuple ws)
 | sl {id g o n q z e z' G M:Nat} {l m:List PV}:H[id]?=some (.row e z' G M l)→M≤g→g≤G→o + n≤l.length→2 * n≤q→m.length=n→(∀ v∈m,v.cells.length=z)→(((l.drop o).take n).flatMap PV.cells).length=(m.flatMap PV.cells).length →
   (∀ (i:Nat) (x y:PV),(((l.drop o).take n).flatMap PV.cells)[i]?=some x→(m.flatMap PV.cells)[i]?=some y→Frz H lab x y)→Frz H lab (.sl id g o n q z) (.list lab z m)
 | ptr {id g i o n:Nat} {w:PV} {cs:List PV}:zbf H id g i=some w→o + n≤w.cells.length→n=cs.length→(∀ (j:Nat) (x y:PV),((w.cells.drop o).take n)[j]?=some x→cs[j]?=some y→Frz H lab x y)→Frz H lab (.ptr id g i o n) (.elem cs)
theorem Frz.ok {B:Ba} {c:Cx} {H:List zk} {h:TH} (k:HR B c H h) {lab:Nat} {S:zdA} (hS:∀ p b,c.S p b→S p b) (hown:∀ id x,c.ρ id=some x→S lab x.1) {v w:PV} (f:Frz H lab v w):∀ {u:TV},VR c h v u→PR S h w u:=by
 have hmono:∀ {v:PV} {u:TV},PR c.S h v u→PR S h v u:=fun hv=>hv.mono hS fun _ _ _ _ _ _ _ hr=>hr
 induction f with
 | bool b=>intro u hv;obtain rfl:=hv.bool_inv;exact .bool b
 | int kk n=>intro u hv;obtain rfl:=hv.int_inv;exact .int kk n
 | str s=>intro u hv;obtain rfl:=hv.str_inv;exact .str s
 | nilptr=>intro u hv;cases hv with | pure hv=>exact hmono hv
 | nilsl=>intro u hv;cases hv with | pure hv=>exact hmono hv
 | nilmap=>intro u hv;cases hv with | pure hv=>exact hmono hv
 | nilfn=>intro u hv;cases hv with | pure hv=>exact hmono hv
 | niliface=>intro u hv;cases hv with | pure hv=>exact hmono hv
 | nil p z=>intro u hv;cases hv with | pure hv=>cases hv;exact .listnil p z
 | list p z l=>intro u hv;cases hv with | pure hv=>exact hmono hv
 | elem vs=>intro u hv;cases hv with | pure hv=>exact hmono hv
 | iface _ ih=>intro u hv;obtain ⟨u',rfl,h1⟩:=hv.iface_inv;exact .iface (ih h1)
 | fn hl _ ih =>
  intro u hv
  obtain ⟨cs,rfl,h1⟩:=hv.fn_inv
  exact .fn (by rw [← hl];exact h1.1) fun i x y hx hy=>by
   obtain ⟨x',hx'⟩:∃ x',(_:List PV)[i]?=some x':=⟨_,List.getElem?_eq_getElem (by rw [hl];exact (List.getElem?_eq_some_iff.1 hx).1)⟩
   exact ih i _ _ hx' hx (h1.2 i _ _ hx' hy)
 | agg hl _ ih =>
  intro u hv
  obtain ⟨cs,rfl,h1⟩:=hv.agg_inv
  exact .agg (by rw [← hl];exact h1.1) fun i x y hx hy=>by
   obtain ⟨x',hx'⟩:∃ x',(_:List PV)[i]?=some x':=⟨_,List.getElem?_eq_getElem (by rw [hl];exact (List.getElem?_eq_some_iff.1 hx).1)⟩
   exact ih i _ _ hx' hx (h1.2 i _ _ hx' hy)
 | tuple hl _ ih =>
  intro u hv
  obtain ⟨cs,rfl,h1⟩:=hv.tuple_inv
  exact .tuple (by rw [← hl];exact h1.1) fun i x y hx hy=>by
   obtain ⟨x',hx'⟩:∃ x',(_:List PV)[i]?=some x':=⟨_,List.getElem?_eq_getElem (by rw [hl];exact (List.getElem?_eq_some_iff.1 hx).1)⟩
   exact ih i _ _ hx' hx (h1.2 i _ _ hx' hy)
 | @sl id g o n q z e z' G M l m hH hM hG hn hq hm hz hlen _ ih =>
  intro u hv
  rcases sl_inv hv with ⟨rfl,rfl,rfl,rfl,rfl,hL⟩ | ⟨b,d,g',s1,rfl,rfl⟩
  ·obtain rfl:=List.length_eq_zero_iff.1 hm
   exact .listnil _ _
  ·obtain ⟨rfl,G',M',cells,cs,r1,r2,r3,r4,r5⟩:=zge k hH s1
   have h9:o * z + n * z≤l.length * z:=by rw [← Nat.add_mul];exact Nat.mul_le_mul_right _ hn
   have h8:=zgx r4 h9
   rw [Nat.zero_add] at h8
   have h7:=(r5.drop o).take n
   subst hm
   refine .list (hown _ _ s1) (zg5 r1 (by omega) (by omega) h8) hq hz (by rw [← hlen];exact h7.all.1) fun i x y hx hy=>?_
   obtain ⟨x',hx'⟩:∃ x',(((l.drop o).take m.length).flatMap PV.cells)[i]?=some x':=⟨_,List.getElem?_eq_getElem (by rw [hlen];exact (List.getElem?_eq_some_iff.1 hx).1)⟩
   exact ih i _ _ hx' hx (h7.all.2 i _ _ hx' hy)
 | @ptr id g i o n w cs hw hn hcs _ ih =>
  intro u hv
  obtain ⟨b,d,z,g',s1,rfl,rfl⟩:=zdy hv
  obtain ⟨s2,s3⟩:=znj k hw s1
  obtain ⟨ds,s4,s5⟩:=s3 o n (by rw [← s2];exact hn)
  have hll:((w.cells.drop o).take n).length=n:=by simp;omega
  subst hcs
  refine .elem (hown _ _ s1) s4 (by rw [← s5.1,hll]) fun j x y hx hy=>?_
  obtain ⟨x',hx'⟩:∃ x',((w.cells.drop o).take cs.length)[j]?=some x':=⟨_,List.getElem?_eq_getElem (by rw [hll];exact (List.getElem?_eq_some_iff.1 hx).1)⟩
  exact ih j _ _ hx' hx (s5.2 j _ _ hx' hy)
def LF (H:List zk) (lab:Nat):List PV→List PV→Prop
 | [],[]=>True
 | x::l,y::m=>Frz H lab x y∧LF H lab l m
 | _,_=>False
theorem LF.ok {B:Ba} {c:Cx} {H:List zk} {h:TH} (k:HR B c H h) {lab:Nat} {S:zdA} (hS:∀ p b,c.S p b→S p b) (hown:∀ id x,c.ρ id=some x→S lab x.1):∀ {l m:List PV} {us:List TV},LF H lab l m→LR (VR c h) l us→LR (PR S h) m us
 | [],[],us,_,hl=>by obtain rfl:=hl.of_nil;exact LR.nil
 | x::l,y::m,us,f,hl=>by
  obtain ⟨u,us',rfl,h1,h2⟩:=hl.of_cons
  exact LR.cons (f.1.ok k hS hown h1) (LF.ok k hS hown f.2 h2)
 | [],_::_,us,f,_=>f.elim
 | _::_,[],us,f,_=>f.elim
theorem LF.len {H:List zk} {lab:Nat}:∀ {l m:List PV},LF H lab l m→l.length=m.length
 | [],[],_=>rfl
 | x::l,y::m,f=>by rw [List.length_cons,List.length_cons,LF.len f.2]
 | [],_::_,f=>f.elim
 | _::_,[],f=>f.elim
theorem LF.at {H:List zk} {lab:Nat}:∀ {l m:List PV},LF H lab l m→∀ (i:Nat) (x y:PV),l[i]?=some x→m[i]?=some y→Frz H lab x y
 | [],[],_,i,x,y,hx,_=>by simp at hx
 | x::l,y::m,f,0,a,b,hx,hy=>by simp at hx hy;subst hx;subst hy;exact f.1
 | x::l,y::m,f,i + 1,a,b,hx,hy=>LF.at f.2 i a b (by simpa using hx) (by simpa using hy)
 | [],_::_,f,_,_,_,_,_=>f.elim
 | _::_,[],f,_,_,_,_,_=>f.elim
theorem Frz.aggL {H:List zk} {lab:Nat} {vs ws:List PV} (f:LF H lab vs ws):Frz H lab (.agg vs) (.agg ws):=.agg f.len f.at
theorem Frz.tupL {H:List zk} {lab:Nat} {vs ws:List PV} (f:LF H lab vs ws):Frz H lab (.tuple vs) (.tuple ws):=.tuple f.len f.at
theorem Frz.fnL {H:List zk} {lab:Nat} {f:Nat} {vs ws:List PV} (k:LF H lab vs ws):Frz H lab (.fn f vs) (.fn f ws):=.fn k.len k.at
inductive Lb:PV→Prop
 | bool (b:Bool):Lb (.bool b)
 | int (k:IntKind) (n:Int):Lb (.int k n)
 | str (s:List Nat):Lb (.str s)
 | nilptr:Lb .nilptr
 | nilsl:Lb .nilsl
 | nilmap:Lb .nilmap
 | nilfn:Lb .nilfn
 | niliface:Lb .niliface
 | list {z:Nat} {l:List PV}:(∀ x∈l.flatMap PV.cells,Lb x)→Lb (.list 0 z l)
 | iface {t:Nat} {v:PV}:Lb v→Lb (.iface t v)
 | fn {f:Nat} {l:List PV}:(∀ x∈l,Lb x)→Lb (.fn f l)
 | agg {l:List PV}:(∀ x∈l,Lb x)→Lb (.agg l)
 | tuple {l:List PV}:(∀ x∈l,Lb x)→Lb (.tuple l)
theorem Lb.ok {S S':zdA} {h:TH} (hS:∀ b,S 0 b→S' 0 b) {v:PV} {u:TV} (k:PR S h v u):Lb v→PR S' h v u:=by
 induction k with
 | bool b=>intro _;exact .bool b
 | int k n=>intro _;exact .int k n
 | str s=>intro _;exact .str s
 | nilptr=>intro _;exact .nilptr
 | nilsl=>intro _;exact .nilsl
 | nilmap=>intro _;exact .nilmap
 | nilfn=>intro _;exact .nilfn
 | niliface=>intro _;exact .niliface
 | iface _ ih=>intro hl;cases hl with | iface hl=>exact .iface (ih hl)
 | listnil p z=>intro _;exact .listnil p z
 | list h1 h2 h3 h4 h5 _ ih=>intro hl;cases hl with | list hl=>exact .list (hS _ h1) h2 h3 h4 h5 fun i x y hx hy=>ih i x y hx hy (hl x (List.mem_of_getElem? hx))
 | elem h1 h2 h3 _ ih=>intro hl;cases hl
 | fn h1 _ ih=>intro hl;cases hl with | fn hl=>exact .fn h1 fun i x y hx hy=>ih i x y hx hy (hl x (List.mem_of_getElem? hx))
 | agg h1 _ ih=>intro hl;cases hl with | agg hl=>exact .agg h1 fun i x y hx hy=>ih i x y hx hy (hl x (List.mem_of_getElem? hx))
 | tuple h1 _ ih=>intro hl;cases hl with | tuple hl=>exact .tuple h1 fun i x y hx hy=>ih i x y hx hy (hl x (List.mem_of_getElem? hx))
end Fv
end Go.Proofs.YtfomlmhnmheenaaGreat
namespace Go.Proofs.YtfomlmhnmheenaaGreat
namespace Fv
open Tw
variable {E:Env} {caught:Tr Unit}
def WO (E:Env) (caught:Tr Unit) (ops:List zM) (s:FSt) (Q:FX→FSt→Prop):Prop :=
 ∀ B c t,SR B c s t→∃ r x s' c' t',Ev E (fun C _=>zdd C caught ops t=some r)∧Q x s'∧Mo c c' t.h t'.h∧SR B c' s' t'∧((x=.norm∧r=.go t')∨∃ v u,x=.panic v∧r=.panic u t'∧VR c' t'.h v u)
theorem ze5 {s:FSt} {Q:FX→FSt→Prop} (h:Q .norm s):WO E caught [] s Q:=fun B c t hs=>⟨.go t,.norm,s,c,t,Ev.all fun _ _=>rfl,h,Mo.refl _ _,hs,.inl ⟨rfl,rfl⟩⟩
theorem zsH {o:zM} {ops:List zM} {s s':FSt} {Q:FX→FSt→Prop} (h:zaE o s=some s') (k:WO E caught ops s' Q):WO E caught (o::ops) s Q:=fun B c t hs=>by
 obtain ⟨c1,t1,h1,m1,k1⟩:=zsI hs h ⟨fun _ _ _=>none,fun _ _ _=>none⟩ caught
 obtain ⟨r,x,s2,c2,t2,e2,q2,m2,k2,h2⟩:=k B c1 t1 k1
 exact ⟨r,x,s2,c2,t2,e2.mono fun C N e=>by unfold zdd;rw [h1];exact e,q2,m1.trans m2,k2,h2⟩
def zs9 (E:Env) (caught:Tr Unit) (ops:List zM) (s:FSt) (d:Option Nat) (Q:FX→FSt→Prop):FE→List zk→Prop
 | .ret v,H'=>WO E caught ops (FSt.put ⟨s.tm,s.df,H'⟩ d v) Q
 | .panic v,H'=>Q (.panic v) ⟨s.tm,s.df,H'⟩
theorem zhy {d:Option Nat} {args:List TOp} {g:Option (TOp × Bool)} {ops:List zM} {s:FSt} {Q:FX→FSt→Prop} {f:Nat} {caps vs:List PV} {b:Bool}
  (hg:z7 s.tm g=some true) (ha:evs s.tm args=some (.fn f caps::vs)) (k:FO E f (vs++caps) s.H b (zs9 E caught ops s d Q)):WO E caught (⟨d,.call,args,g⟩::ops) s Q:=fun B c t hs=>by
 have hw:=zdw hs.tm hg
 obtain ⟨us,u1,u2⟩:=zhf hs.tm ha
 obtain ⟨u,us',rfl,u3,u4⟩:=u2.of_cons
 obtain ⟨cs,rfl,u5⟩:=u3.fn_inv
 obtain ⟨r,h',e,H',c',e1,q1,m1,k1,re,_⟩:=k B c t.h _ hs.hr (u4.app u5)
 have hstep:∀ C,C.fn f (us'++cs) t.h=some (r,h')→zd7 C caught ⟨d,.call,args,g⟩ t=zln d t (zhx (some (r,h'))):=fun C hC=>by
  unfold zd7;rw [hw,u1]
  simp only [zg0,zO.cls,act,ziL]
  rw [hC]
 cases e with
 | ret v =>
  cases r with
  | panic u=>exact re.elim
  | ret u =>
   have re:VR c' h' v u:=re
   obtain ⟨r2,x,s2,c2,t2,e2,q2,m2,k2,h2⟩:=q1 B c' ((⟨t.tm,t.df,h'⟩:St).put d u) (hs.put m1 k1 re d)
   rw [put_h] at m2
   exact ⟨r2,x,s2,c2,t2,Ev.and2 (fun C N a b=>by unfold zdd;rw [hstep C a];exact b) e1 e2,q2,m1.trans m2,k2,h2⟩
 | panic v =>
  cases r with
  | ret u=>exact re.elim
  | panic u =>
   have re:VR c' h' v u:=re
   exact ⟨.panic u ⟨t.tm,t.df,h'⟩,.panic v,_,c',⟨t.tm,t.df,h'⟩,e1.mono fun C N a=>by unfold zdd;rw [hstep C a];rfl,q1,m1,⟨k1,hs.tm.mono m1,hs.df.mono m1⟩,.inr ⟨v,u,rfl,rfl,re⟩⟩
theorem RE.mono {R R':PV→TV→Prop} (hR:∀ v u,R v u→R' v u) {e:FE} {r:TE} (h:RE R e r):RE R' e r:=by
 cases e <;> cases r <;> first | exact hR _ _ h | exact h.elim
def Cx.lay (c:Cx) (a b:Nat):Cx:=⟨S1 c.S a b,c.ρ,c.L⟩
theorem HR.grown {B:Ba} {c:Cx} {H:List zk} {h h':TH} (k:HR B c H h) (hn:h.next≤h'.next) (hk:∀ b,b < h.next→h'.get b=h.get b):Mo c (c.lay h.next h'.next) h h'∧HR B (c.lay h.next h'.next) H h':=by
 have m:Mo c (c.lay h.next h'.next) h h':=⟨fun p b hb=>.inl hb,fun _ _ h=>h,fun _ h=>h,fun _ _ _ _ _ _ _ hr=>zoA hk hr⟩
 refine ⟨m,⟨Nat.le_trans k.le hn,fun b hb=>by rw [hk b (Nat.lt_of_lt_of_le hb k.le)];exact k.keep b hb,fun p b hb=>?_,fun p b hb=>?_,fun id x hx=>?_,k.lz,k.inj,fun id o ho=>(k.obj id o ho).move m rfl (fun h=>h) fun y hy=>hk _ (k.own _ _ hy).2.1⟩⟩
 ·rcases hb with hb | ⟨h1,h2,_⟩
  ·exact k.old p b hb
  ·exact .inr ⟨h1,Nat.le_trans k.le h2⟩
 ·rcases hb with hb | ⟨h1,h2,h3⟩
  ·obtain ⟨a1,a2⟩:=k.S p b hb
   exact ⟨Nat.lt_of_lt_of_le a1 hn,a2⟩
  ·exact ⟨h3,fun id x hx e=>by have:=(k.own _ _ hx).2.1;omega⟩
 ·obtain ⟨a1,a2,a3⟩:=k.own id x hx
  exact ⟨a1,Nat.lt_of_lt_of_le a2 hn,a3⟩
def ztz (c:Cx):zdA:=fun p b=>c.S p b∨(p=1∧∃ id x,c.ρ id=some x∧x.1=b)
theorem FN.FO {f:Nat} {args aS:List PV} {e:FE} {H:List zk} (k:FN E f aS e) (hl:LF H 1 args aS):FO E f args H true (fun e' H'=>e'=e∧H'=H):=fun B c h us hr ha=>by
 have h1:=LF.ok hr (S:=ztz c) (fun p b hb=>.inl hb) (fun id x hx=>.inr ⟨rfl,id,x,hx,rfl⟩) hl ha
 obtain ⟨r,h',e1,hn,hk,re⟩:=k (ztz c) h us (fun p b hb=>by
  rcases hb with hb | ⟨_,id,x,hx,rfl⟩
  ·exact (hr.S p b hb).1
  ·exact (hr.own _ _ hx).2.1) h1
 obtain ⟨m,hr'⟩:=hr.grown hn hk
 refine ⟨r,h',e,H,c.lay h.next h'.next,e1,⟨rfl,rfl⟩,m,hr',re.mono fun v u hv=>.pure (hv.mono (fun p b hb=>?_) fun _ _ _ _ _ _ _ hr=>hr),fun _ id x hx=>hk _ (hr.own _ _ hx).2.1⟩
 obtain ⟨rfl,hb | hb⟩:=hb
 ·rcases hb with hb | ⟨h0,_⟩
  ·exact .inl hb
  ·cases h0
 ·exact .inr ⟨rfl,hb⟩
inductive Id0:PV→Prop
 | bool (b:Bool):Id0 (.bool b)
 | int (k:IntKind) (n:Int):Id0 (.int k n)
 | str (s:List Nat):Id0 (.str s)
 | nilptr:Id0 .nilptr
 | nilsl:Id0 .nilsl
 | nilmap:Id0 .nilmap
 | nilfn:Id0 .nilfn
 | niliface:Id0 .niliface
 | list (p z:Nat) (l:List PV):Id0 (.list p z l)
 | elem (l:List PV):Id0 (.elem l)
 | iface {t:Nat} {v:PV}:Id0 v→Id0 (.iface t v)
 | fn {f:Nat} {l:List PV}:(∀ x∈l,Id0 x)→Id0 (.fn f l)
 | agg {l:List PV}:(∀ x∈l,Id0 x)→Id0 (.agg l)
 | tuple {l:List PV}:(∀ x∈l,Id0 x)→Id0 (.tuple l)
theorem Id0.ok {c:Cx} {h:TH} {v:PV} (k:Id0 v):∀ {u:TV},VR c h v u→PR c.S h v u:=by
 induction k with
 | bool b=>intro u hv;obtain rfl:=hv.bool_inv;exact .bool b
 | int kk n=>intro u hv;obtain rfl:=hv.int_inv;exact .int kk n
 | str s=>intro u hv;obtain rfl:=hv.str_inv;exact .str s
 | nilptr=>intro u hv;cases hv with | pure hv=>exact hv
 | nilsl=>intro u hv;cases hv with | pure hv=>exact hv
 | nilmap=>intro u hv;cases hv with | pure hv=>exact hv
 | nilfn=>intro u hv;cases hv with | pure hv=>exact hv
 | niliface=>intro u hv;cases hv with | pure hv=>exact hv
 | list p z l=>intro u hv;cases hv with | pure hv=>exact hv
 | elem vs=>intro u hv;cases hv with | pure hv=>exact hv
 | iface _ ih=>intro u hv;obtain ⟨u',rfl,h1⟩:=hv.iface_inv;exact .iface (ih h1)
 | fn _ ih=>intro u hv;obtain ⟨cs,rfl,h1⟩:=hv.fn_inv;exact .fn h1.1 fun i x y hx hy=>ih x (List.mem_of_getElem? hx) (h1.2 i x y hx hy)
 | agg _ ih=>intro u hv;obtain ⟨cs,rfl,h1⟩:=hv.agg_inv;exact .agg h1.1 fun i x y hx hy=>ih x (List.mem_of_getElem? hx) (h1.2 i x y hx hy)
 | tuple _ ih=>intro u hv;obtain ⟨cs,rfl,h1⟩:=hv.tuple_inv;exact .tuple h1.1 fun i x y hx hy=>ih x (List.mem_of_getElem? hx) (h1.2 i x y hx hy)
theorem FP.FO {f:Nat} {args:List PV} {e:FE} {H:List zk} (k:FP E f args e) (hl:∀ x∈args,Id0 x):FO E f args H true (fun e' H'=>e'=e∧H'=H):=fun B c h us hr ha=>by
 obtain ⟨r,h',e1,hn,hk,re⟩:=k c.S h us (fun p b hb=>(hr.S p b hb).1) ⟨ha.1,fun i x y hx hy=>(hl x (List.mem_of_getElem? hx)).ok (ha.2 i x y hx hy)⟩
 obtain ⟨m,hr'⟩:=hr.grown hn hk
 exact ⟨r,h',e,H,c.lay h.next h'.next,e1,⟨rfl,rfl⟩,m,hr',re.mono fun v u hv=>.pure hv,fun _ id x hx=>hk _ (hr.own _ _ hx).2.1⟩
theorem FO.mono {f:Nat} {args:List PV} {H:List zk} {b:Bool} {Q Q':FE→List zk→Prop} (hQ:∀ e H,Q e H→Q' e H) (k:FO E f args H b Q):FO E f args H b Q':=fun B c h us hr ha=>by
 obtain ⟨r,h',e,H',c',e1,q1,h2⟩:=k B c h us hr ha
 exact ⟨r,h',e,H',c',e1,hQ _ _ q1,h2⟩
theorem zH {d:Option Nat} {args:List TOp} {g:Option (TOp × Bool)} {ops:List zM} {s:FSt} {Q:FX→FSt→Prop} {f:Nat} {caps vs aS:List PV} {v:PV}
  (hg:z7 s.tm g=some true) (ha:evs s.tm args=some (.fn f caps::vs)) (k:FN E f aS (.ret v)) (hl:LF s.H 1 (vs++caps) aS) (hQ:WO E caught ops (s.put d v) Q):WO E caught (⟨d,.call,args,g⟩::ops) s Q :=
 zhy hg ha ((FN.FO k hl).mono fun e H' he=>by obtain ⟨rfl,rfl⟩:=he;exact hQ)
theorem zaD {d:Option Nat} {args:List TOp} {g:Option (TOp × Bool)} {ops:List zM} {s:FSt} {Q:FX→FSt→Prop} {f:Nat} {caps vs aS:List PV} {v:PV}
  (hg:z7 s.tm g=some true) (ha:evs s.tm args=some (.fn f caps::vs)) (k:FN E f aS (.panic v)) (hl:LF s.H 1 (vs++caps) aS) (hQ:Q (.panic v) s):WO E caught (⟨d,.call,args,g⟩::ops) s Q :=
 zhy hg ha ((FN.FO k hl).mono fun e H' he=>by obtain ⟨rfl,rfl⟩:=he;exact hQ)
theorem zmH {d:Option Nat} {args:List TOp} {g:Option (TOp × Bool)} {ops:List zM} {s:FSt} {Q:FX→FSt→Prop} {ty:Nat} {v:PV}
  (hg:z7 s.tm g=some true) (ha:evs s.tm args=some [.iface ty v]) (hQ:Q (.panic (.iface ty v)) s):WO E caught (⟨d,.panic,args,g⟩::ops) s Q:=fun B c t hs=>by
 have hw:=zdw hs.tm hg
 obtain ⟨us,u1,u2⟩:=zhf hs.tm ha
 obtain ⟨u,us',rfl,u3,u4⟩:=u2.of_cons
 obtain rfl:=u4.of_nil
 obtain ⟨u',rfl,u5⟩:=u3.iface_inv
 refine ⟨.panic (.iface ty u') t,.panic (.iface ty v),s,c,t,Ev.all fun C N=>?_,hQ,Mo.refl _ _,hs,.inr ⟨_,_,rfl,rfl,u3⟩⟩
 unfold zdd zd7;rw [hw,u1];rfl
theorem zhr {d:Option Nat} {args:List TOp} {g:Option (TOp × Bool)} {ops:List zM} {s:FSt} {Q:FX→FSt→Prop} {f:Nat} {p cl:PV}
  (hg:z7 s.tm g=some true) (ha:evs s.tm args=some [.fn f [],p,cl]) (hc:caught.get f=some ()) (k:WO E caught ops (FSt.put ⟨s.tm,.caught p cl::s.df,s.H⟩ d (.tuple [])) Q):WO E caught (⟨d,.defer,args,g⟩::ops) s Q:=fun B c t hs=>by
 have hw:=zdw hs.tm hg
 obtain ⟨us,u1,u2⟩:=zhf hs.tm ha
 obtain ⟨u,us',rfl,u3,u4⟩:=u2.of_cons
 obtain ⟨up,us',rfl,u5,u6⟩:=u4.of_cons
 obtain ⟨ul,us',rfl,u7,u8⟩:=u6.of_cons
 obtain rfl:=u8.of_nil
 obtain ⟨cs,rfl,u9⟩:=u3.fn_inv
 obtain rfl:=u9.of_nil
 have hs1:SR B c ⟨s.tm,.caught p cl::s.df,s.H⟩ ⟨t.tm,.caught up ul::t.df,t.h⟩:=⟨hs.hr,hs.tm,⟨u5,u7⟩,hs.df⟩
 obtain ⟨r2,x,s2,c2,t2,e2,q2,m2,k2,h2⟩:=k B c ((⟨t.tm,.caught up ul::t.df,t.h⟩:St).put d (.tuple [])) (hs1.put (Mo.refl _ _) hs.hr (VR.tupL LR.nil) d)
 rw [put_h] at m2
 refine ⟨r2,x,s2,c2,t2,e2.mono fun C N e=>?_,q2,m2,k2,h2⟩
 unfold zdd zd7;rw [hw,u1]
 simp only [zg0,zO.cls,act,znM]
 rw [hc]
 exact e
def RN (c:Cx):Option Nat→Option Nat→Prop
 | none,none=>True
 | some id,some b=>∃ d z,c.ρ id=some (b,d,z)
 | _,_=>False
theorem RN.mono {c c':Cx} {h h':TH} (m:Mo c c' h h') {a b:Option Nat} (k:RN c a b):RN c' a b:=by
 cases a <;> cases b <;> first | exact k | (obtain ⟨d,z,k⟩:=k;exact ⟨d,z,m.ρ _ _ k⟩)
def W (E:Env) (caught:Tr Unit) (rnd:Option Nat) (code:zah) (s:FSt) (Q:FX→FSt→Prop):Prop :=
 ∀ B c t rnd',SR B c s t→RN c rnd rnd'→∃ x' t' x s' c',Ev E (fun C N=>z6 C caught N rnd' code t=some (x',t'))∧Q x s'∧XR c' t'.h x x'∧Mo c c' t.h t'.h∧SR B c' s' t'
variable {rnd:Option Nat} {s:FSt} {Q Q':FX→FSt→Prop}
theorem zdH {code:zah} (k:W E caught rnd code s Q) (hQ:∀ x s,Q x s→Q' x s):W E caught rnd code s Q':=fun B c t rnd' hs hn=>by
 obtain ⟨x',t',x,s',c',h1,h2,h3⟩:=k B c t rnd' hs hn
 exact ⟨x',t',x,s',c',h1,hQ _ _ h2,h3⟩
theorem zR (h:Q .norm s):W E caught rnd .skip s Q:=fun B c t rnd' hs hn=>⟨.norm,t,.norm,s,c,Ev.all fun _ _=>rfl,h,.norm,Mo.refl _ _,hs⟩
theorem zkL {id:Nat} (h:Q (.exit id) s):W E caught rnd (.exit id) s Q:=fun B c t rnd' hs hn=>⟨.exit id,t,.exit id,s,c,Ev.all fun _ _=>rfl,h,.exit id,Mo.refl _ _,hs⟩
theorem zmz {l:Nat} (h:Q (.goto l) s):W E caught rnd (.goto l) s Q:=fun B c t rnd' hs hn=>⟨.goto l,t,.goto l,s,c,Ev.all fun _ _=>rfl,h,.goto l,Mo.refl _ _,hs⟩
theorem zE (h:Q .ret s):W E caught rnd .ret s Q:=fun B c t rnd' hs hn=>⟨.ret,t,.ret,s,c,Ev.all fun _ _=>rfl,h,.ret,Mo.refl _ _,hs⟩
def zc8:List zM→(Nat→PV)→(Nat→PV)
 | [],tm=>tm
 | o::l,tm=>zc8 l (match o.dst with | some d=>upd tm d .bad | none=>tm)
theorem zlQ {c:Cx} {h:TH}:∀ {ops:List zM} {tm:Nat→PV} {t:Tr TV},tmR c h tm t→tmR c h (zc8 ops tm) (zcR ops t)
 | [],_,_,k=>k
 | o::l,tm,t,k=>by
  unfold zc8 zcR
  refine zlQ ?_
  cases o.dst with
  | none=>exact k
  | some d =>
   intro i
   ·dsimp only
    unfold upd
    rw [Tr.get_set]
    by_cases e:i=d
    ·rw [if_pos e];exact .inl rfl
    ·rw [if_neg e,if_neg e];exact k i
def zg (ops:List zM) (Q:FX→FSt→Prop):FX→FSt→Prop
 | .norm,s=>Q .norm s
 | x,s=>Q x ⟨zc8 ops s.tm,s.df,s.H⟩
theorem za {ops:List zM} (k:WO E caught ops s (zg ops Q)):W E caught rnd (.region ops) s Q:=fun B c t rnd' hs hn=>by
 obtain ⟨r,x,s',c',t',e1,q1,m1,k1,h2⟩:=k B c t hs
 rcases h2 with ⟨rfl,rfl⟩ | ⟨v,u,rfl,rfl,hv⟩
 ·exact ⟨.norm,t',.norm,s',c',e1.mono fun C N e=>by unfold z6;rw [e];rfl,q1,.norm,m1,k1⟩
 ·exact ⟨.panic u,{ t' with tm:=zcR ops t'.tm },.panic v,_,c',e1.mono fun C N e=>by unfold z6;rw [e];rfl,q1,.panic hv,m1,⟨k1.hr,zlQ k1.tm,k1.df⟩⟩
def zf (K:FSt→Prop) (Q:FX→FSt→Prop):FX→FSt→Prop
 | .norm,s=>K s
 | x,s=>Q x s
theorem zc {a b:zah} (k:W E caught rnd a s (zf (fun s'=>W E caught rnd b s' Q) Q)):W E caught rnd (.seq a b) s Q:=fun B c t rnd' hs hn=>by
 obtain ⟨x',t',x,s',c',e1,q1,hx,m1,k1⟩:=k B c t rnd' hs hn
 cases hx with
 | norm =>
  obtain ⟨x2',t2,x2,s2,c2,e2,q2,hx2,m2,k2⟩:=q1 B c' t' rnd' k1 (hn.mono m1)
  exact ⟨x2',t2,x2,s2,c2,Ev.and2 (fun C N a b=>by unfold z6;rw [a];exact b) e1 e2,q2,hx2,m1.trans m2,k2⟩
 | exit id=>exact ⟨_,t',_,s',c',e1.mono fun C N e=>by unfold z6;rw [e],q1,.exit id,m1,k1⟩
 | goto l=>exact ⟨_,t',_,s',c',e1.mono fun C N e=>by unfold z6;rw [e],q1,.goto l,m1,k1⟩
 | ret=>exact ⟨_,t',_,s',c',e1.mono fun C N e=>by unfold z6;rw [e],q1,.ret,m1,k1⟩
 | panic hv=>exact ⟨_,t',_,s',c',e1.mono fun C N e=>by unfold z6;rw [e],q1,.panic hv,m1,k1⟩
theorem zD {x:TOp} {b:Bool} {p q:zah} (hx:ev s.tm x=some (.bool b)) (h1:b=true→W E caught rnd p s Q) (h2:b=false→W E caught rnd q s Q):W E caught rnd (.cond x p q) s Q:=fun B c t rnd' hs hn=>by
 obtain ⟨u,u1,u2⟩:=zhU hs.tm hx
 obtain rfl:=u2.bool_inv
 cases b with
 | true =>
  obtain ⟨x',t',x,s',c',e1,h⟩:=h1 rfl B c t rnd' hs hn
  exact ⟨x',t',x,s',c',e1.mono fun C N e=>by unfold z6;rw [u1];exact e,h⟩
 | false =>
  obtain ⟨x',t',x,s',c',e1,h⟩:=h2 rfl B c t rnd' hs hn
  exact ⟨x',t',x,s',c',e1.mono fun C N e=>by unfold z6;rw [u1];exact e,h⟩
def zh (id:Nat) (Q:FX→FSt→Prop):FX→FSt→Prop
 | .exit j,s=>if j=id then Q .norm s else Q (.exit j) s
 | x,s=>Q x s
theorem zG {id:Nat} {b:zah} (k:W E caught rnd b s (zh id Q)):W E caught rnd (.block id b) s Q:=fun B c t rnd' hs hn=>by
 obtain ⟨x',t',x,s',c',e1,q1,hx,m1,k1⟩:=k B c t rnd' hs hn
 cases hx with
 | exit j =>
  have q1:if j=id then Q .norm s' else Q (.exit j) s':=q1
  by_cases hj:j=id
  ·rw [if_pos hj] at q1
   exact ⟨.norm,t',.norm,s',c',e1.mono fun C N e=>by unfold z6;rw [e];dsimp only;rw [zaR hj];rfl,q1,.norm,m1,k1⟩
  ·rw [if_neg hj] at q1
   exact ⟨.exit j,t',.exit j,s',c',e1.mono fun C N e=>by unfold z6;rw [e];dsimp only;rw [zsj hj];rfl,q1,.exit j,m1,k1⟩
 | norm=>exact ⟨_,t',_,s',c',e1.mono fun C N e=>by unfold z6;rw [e],q1,.norm,m1,k1⟩
 | goto l=>exact ⟨_,t',_,s',c',e1.mono fun C N e=>by unfold z6;rw [e],q1,.goto l,m1,k1⟩
 | ret=>exact ⟨_,t',_,s',c',e1.mono fun C N e=>by unfold z6;rw [e],q1,.ret,m1,k1⟩
 | panic hv=>exact ⟨_,t',_,s',c',e1.mono fun C N e=>by unfold z6;rw [e],q1,.panic hv,m1,k1⟩
def zi (Inv:Nat→FSt→Prop) (n:Nat) (Q:FX→FSt→Prop):FX→FSt→Prop
 | .norm,s=>∃ m,m < n∧Inv m s
 | x,s=>Q x s
theorem zav {body:zah} (Inv:Nat→FSt→Prop) {n:Nat} (h0:Inv n s) (step:∀ n s,Inv n s→W E caught rnd body s (zi Inv n Q)):W E caught rnd (.loop body) s Q:=fun B c t rnd' hs hn=>by
 have main:∀ n s c t,Inv n s→SR B c s t→RN c rnd rnd'→∃ x' t' x s' c',(∃ K,∀ N,K≤N→∀ d,K≤d→∀ j,K≤j→zgF (z6 (zcA (EN E N) d) caught N rnd' body) j t=some (x',t'))∧Q x s'∧XR c' t'.h x x'∧Mo c c' t.h t'.h∧SR B c' s' t':=by
  intro n
  induction n using Nat.strongRecOn with
  | _ n ih =>
   intro s c t hi hs hn
   obtain ⟨x',t',x,s',c',⟨K,e1⟩,q1,hx,m1,k1⟩:=step n s hi B c t rnd' hs hn
   have one:x' ≠ .norm→∃ K,∀ N,K≤N→∀ d,K≤d→∀ j,K≤j→zgF (z6 (zcA (EN E N) d) caught N rnd' body) j t=some (x',t'):=fun hne=>⟨K + 1,fun N hN d hd j hj=>by
    obtain ⟨j,rfl⟩:∃ i,j=i + 1:=⟨j - 1,by omega⟩
    unfold zgF
    rw [e1 N (by omega) d (by omega)]
    cases x' <;> first | exact absurd rfl hne | rfl⟩
   cases hx with
   | norm =>
    obtain ⟨m,hm,hi2⟩:=q1
    obtain ⟨x2',t2,x2,s2,c2,⟨L,e2⟩,q2,hx2,m2,k2⟩:=ih m hm s' c' t' hi2 k1 (hn.mono m1)
    refine ⟨x2',t2,x2,s2,c2,⟨max K L + 1,fun N hN d hd j hj=>?_⟩,q2,hx2,m1.trans m2,k2⟩
    obtain ⟨j,rfl⟩:∃ i,j=i + 1:=⟨j - 1,by omega⟩
    unfold zgF
    rw [e1 N (by omega) d (by omega)]
    exact e2 N (by omega) d (by omega) j (by omega)
   | exit id=>exact ⟨_,t',_,s',c',one (fun e=>by cases e),q1,.exit id,m1,k1⟩
   | goto l=>exact ⟨_,t',_,s',c',one (fun e=>by cases e),q1,.goto l,m1,k1⟩
   | ret=>exact ⟨_,t',_,s',c',one (fun e=>by cases e),q1,.ret,m1,k1⟩
   | panic hv=>exact ⟨_,t',_,s',c',one (fun e=>by cases e),q1,.panic hv,m1,k1⟩
 obtain ⟨x',t',x,s',c',⟨K,e1⟩,h⟩:=main n s c t h0 hs hn
 exact ⟨x',t',x,s',c',⟨K,fun N hN d hd=>by unfold z6;exact e1 N hN d hd N hN⟩,h⟩
def zj (E:Env) (caught:Tr Unit) (rnd:Option Nat) (l:Nat) (rest:zah) (Q:FX→FSt→Prop):FX→FSt→Prop
 | .goto j,s=>j=l∧W E caught rnd rest s fun x s'=>(∀ l,x ≠ .goto l)∧Q x s'
 | x,s=>Q x s
theorem zon {l:Nat} {b rest:zah} (k:W E caught rnd b s (zj E caught rnd l rest Q)):W E caught rnd (.scope b l rest) s Q:=fun B c t rnd' hs hn=>by
 obtain ⟨x',t',x,s',c',e1,q1,hx,m1,k1⟩:=k B c t rnd' hs hn
 cases hx with
 | goto j =>
  obtain ⟨rfl,q1⟩:=q1
  obtain ⟨x2',t2,x2,s2,c2,e2,⟨hne,q2⟩,hx2,m2,k2⟩:=q1 B c' t' rnd' k1 (hn.mono m1)
  refine ⟨x2',t2,x2,s2,c2,Ev.and2 (fun C N a b=>?_) e1 e2,q2,hx2,m1.trans m2,k2⟩
  unfold z6;rw [a];dsimp only;rw [zaR rfl];dsimp only [cond_true];rw [b]
  cases hx2 <;> first | rfl | exact absurd rfl (hne _)
 | exit j=>exact ⟨_,t',_,s',c',e1.mono fun C N e=>by unfold z6;rw [e],q1,.exit j,m1,k1⟩
 | norm=>exact ⟨_,t',_,s',c',e1.mono fun C N e=>by unfold z6;rw [e],q1,.norm,m1,k1⟩
 | ret=>exact ⟨_,t',_,s',c',e1.mono fun C N e=>by unfold z6;rw [e],q1,.ret,m1,k1⟩
 | panic hv=>exact ⟨_,t',_,s',c',e1.mono fun C N e=>by unfold z6;rw [e],q1,.panic hv,m1,k1⟩
end Fv
end Go.Proofs.YtfomlmhnmheenaaGreat
namespace Go.Proofs.YtfomlmhnmheenaaGreat
namespace Fv
open Tw
variable {E:Env}
inductive FM where
 | returning
 | panicking (v:PV)
def zo0 (c:Cx) (h:TH):FM→TM→Prop
 | .returning,.returning=>True
 | .panicking v,.panicking u=>VR c h v u
 | _,_=>False
def LV (E:Env):List FD→FM→List zk→(FM→List zk→Prop)→Prop
 | [],m,H,Q=>Q m H
 | .mark id::l,m,H,Q=>H[id]?=some (.dfr false)∧LV E l m (H.set id (.dfr true)) Q
 | .caught p cl::l,m,H,Q=>match m with
  | .returning=>LV E l .returning H Q
  | .panicking v=>∃ n g caps b id gg mm,v=.iface E.errno (.int .i64 n)∧cl=.fn g caps∧p=.ptr id gg 0 0 mm∧FO E g caps H b fun e H1=>e=.ret (.tuple [])∧∃ a,zak H1 1 [p,.int .i64 n]=some a∧LV E l .returning a.H Q
theorem zjI (N:Nat) (C:zaB):∀ (l:List TD) (m:TM) (h:TH),zcc (EN E N) C l m h=zcc E C l m h
 | [],m,h=>rfl
 | .mark b::l,m,h=>by
  unfold zcc
  simp only [zjI N C l]
 | .caught p c::l,m,h=>by
  unfold zcc
  simp only [zjI N C l]
  rfl
theorem zh3 {h h2:TH} {b g o e:Nat} {k:IntKind} {n:Int} {u:TV} (hs:zfa 1 h [.ptr b g o e,.int k n]=some (.ok u h2)):zcP h b g o [.int k n]=some h2:=by
 unfold zfa at hs
 dsimp only [TV.cells,List.length_cons,List.length_nil] at hs
 cases h1:Nat.ble 1 e
 ·rw [h1] at hs;cases hs
 ·rw [h1] at hs
  cases hw:zcP h b g o [.int k n] with
  | none=>rw [hw] at hs;cases hs
  | some h3=>rw [hw] at hs;injection hs with hs;injection hs with _ hs;rw [hs]
theorem zmr:∀ {l:List FD} {l':List TD} {m:FM} {m':TM} {H:List zk} {h:TH} {B:Ba} {c:Cx} {Q:FM→List zk→Prop},LV E l m H Q→HR B c H h→dfR c h l l'→zo0 c h m m' →
  ∃ m2' h' m2 H2 c',Ev E (fun C _=>zcc E C l' m' h=some (m2',h'))∧Q m2 H2∧zo0 c' h' m2 m2'∧Mo c c' h h'∧HR B c' H2 h'
 | [],[],m,m',H,h,B,c,Q,k,hr,_,hm=>⟨m',h,m,H,c,Ev.all fun _ _=>rfl,k,hm,Mo.refl _ _,hr⟩
 | .mark id::l,.mark b::l',m,m',H,h,B,c,Q,k,hr,hd,hm=>by
  obtain ⟨⟨d,z,hρ⟩,hd⟩:=hd
  obtain ⟨k1,k2⟩:=k
  obtain ⟨b',d',z',e1,e2⟩:=hr.obj _ _ k1
  rw [hρ] at e1;injection e1 with e1;injection e1 with e1 e3;subst e1
  obtain ⟨m1,hr1⟩:=hr.set (o:=.dfr true) (x:=.dfr true) hρ fun _=>⟨b,d,z,hρ,by rw [TH.get_set _ _ _ _ (hr.own _ _ hρ).2.1,if_pos rfl]⟩
  have hm1:zo0 c (h.set b (.dfr true)) m m':=by
   cases m <;> cases m' <;> first | exact hm | exact VR.mono m1 hm
  obtain ⟨m2',h',m2,H2,c',f1,f2,f3,f4,f5⟩:=zmr k2 hr1 (hd.mono m1) hm1
  refine ⟨m2',h',m2,H2,c',f1.mono fun C N e=>?_,f2,f3,m1.trans f4,f5⟩
  unfold zcc
  rw [e2]
  exact e
 | .caught p cl::l,.caught p' cl'::l',m,m',H,h,B,c,Q,k,hr,hd,hm=>by
  obtain ⟨⟨hp,hcl⟩,hd⟩:=hd
  cases m with
  | returning =>
   cases m' with
   | panicking u=>exact hm.elim
   | returning =>
    have k:LV E l .returning H Q:=k
    obtain ⟨m2',h',m2,H2,c',f1,f2⟩:=zmr k hr hd (m':=.returning) trivial
    exact ⟨m2',h',m2,H2,c',f1.mono fun C N e=>by unfold zcc;exact e,f2⟩
  | panicking v =>
   cases m' with
   | returning=>exact hm.elim
   | panicking u =>
    obtain ⟨n,g,caps,bb,id,gg,mm,rfl,rfl,rfl,k⟩:=k
    have hm:VR c h (.iface E.errno (.int .i64 n)) u:=hm
    obtain ⟨u',rfl,hu⟩:=hm.iface_inv
    obtain rfl:=hu.int_inv
    obtain ⟨cs,rfl,hcs⟩:=hcl.fn_inv
    obtain ⟨r,h1,e,H1,c1,e1,⟨rfl,a,ha,k2⟩,m1,hr1,re,_⟩:=k B c h cs hr hcs
    cases r with
    | panic u=>exact re.elim
    | ret u =>
     have re:VR c1 h1 (.tuple []) u:=re
     obtain ⟨ts,rfl,hts⟩:=re.tuple_inv
     obtain rfl:=hts.of_nil
     obtain ⟨bp,dp,zp,gp,q1,rfl,rfl⟩:=zdy (hp.mono m1)
     have h00:0 * zp + 0=0:=by simp
     rw [h00] at hp ⊢
     obtain ⟨u2,h2,c2,s1,s2⟩:=znn hr1 (LR.cons (hp.mono m1) (LR.cons (.pure (.int .i64 n)) LR.nil)) ha
     obtain ⟨m2',h',m2,H2,c',f1,f2,f3,f4,f5⟩:=zmr k2 s2.hr (hd.mono (m1.trans s2.mo)) (m':=.returning) trivial
     refine ⟨m2',h',m2,H2,c',Ev.and2 (fun C N a1 a2=>?_) e1 f1,f2,f3,(m1.trans s2.mo).trans f4,f5⟩
     unfold zcc
     dsimp only
     rw [zaR rfl]
     dsimp only [cond_true]
     rw [a1]
     show (match zcP h1 bp gp 0 [.int .i64 n] with
      | some h=>zcc E C l' .returning h
      | none=>none)=_
     rw [zh3 s1]
     exact a2
 | [],_::_,_,_,_,_,_,_,_,_,_,hd,_=>hd.elim
 | _::_,[],_,_,_,_,_,_,_,_,_,hd,_=>hd.elim
 | .mark _::_,.caught _ _::_,_,_,_,_,_,_,_,_,_,hd,_=>hd.1.elim
 | .caught _ _::_,.mark _::_,_,_,_,_,_,_,_,_,_,hd,_=>hd.1.elim
def zI (tm:Nat→PV) (H:List zk):List zjE→Option (List PV)
 | []=>some []
 | r::l=>match (match r with
   | .tmp t=>okv (tm t)
   | .cell t agg n=>match okv (tm t) with
    | some p=>zax H agg n [p]
    | none=>none) with
  | none=>none
  | some v=>match zI tm H l with
   | none=>none
   | some vs=>some (v::vs)
theorem zqx {B:Ba} {c:Cx} {H:List zk} {h:TH} (k:HR B c H h) {tm:Nat→PV} {t:Tr TV} (kt:tmR c h tm t):∀ {l:List zjE} {vs:List PV},zI tm H l=some vs→∃ us,zgt t h l=some us∧LR (VR c h) vs us
 | [],vs,hv=>by injection hv with hv;subst hv;exact ⟨[],rfl,LR.nil⟩
 | r::l,vs,hv=>by
  unfold zI at hv
  split at hv
  ·cases hv
  ·rename_i v hx
   split at hv
   ·cases hv
   ·rename_i ws hw
    injection hv with hv;subst hv
    obtain ⟨us,w1,w2⟩:=zqx k kt hw
    have key:∃ u,zgt t h (r::l)=some (u::us)∧VR c h v u:=by
     cases r with
     | tmp i =>
      obtain ⟨u,u1,u2⟩:=zhU kt (x:=.tmp i) hx
      have u1:t.get i=some u:=u1
      refine ⟨u,?_,u2⟩
      show (match t.get i with
       | none=>none
       | some v=>match zgt t h l with
        | none=>none
        | some vs=>some (v::vs))=_
      rw [u1]
      dsimp only
      rw [w1]
     | cell i agg n =>
      dsimp only at hx
      split at hx
      ·rename_i p hp
       obtain ⟨u,u1,u2⟩:=zhU kt (x:=.tmp i) hp
       obtain ⟨w,w3,w4⟩:=zoB k (LR.cons u2 LR.nil) hx
       have u1:t.get i=some u:=u1
       have w3:pas (.load agg n) [u] h=some w:=w3
       refine ⟨w,?_,w4⟩
       show (match (match t.get i with
        | some p=>pas (.load agg n) [p] h
        | none=>none) with
        | none=>none
        | some v=>match zgt t h l with
         | none=>none
         | some vs=>some (v::vs))=_
       rw [u1]
       dsimp only
       rw [w3]
       dsimp only
       rw [w1]
      ·cases hx
    obtain ⟨u,u1,u2⟩:=key
    exact ⟨u::us,u1,LR.cons u2 w2⟩
def zK:List PV→PV
 | [v]=>v
 | l=>.tuple l
theorem ztn {c:Cx} {h:TH} {vs:List PV} {us:List TV} (k:LR (VR c h) vs us):VR c h (zK vs) (tup us):=by
 match vs,us,k with
 | [],us,k=>obtain rfl:=k.of_nil;exact VR.tupL LR.nil
 | [v],us,k=>obtain ⟨u,us',rfl,h1,h2⟩:=k.of_cons;obtain rfl:=h2.of_nil;exact h1
 | v::w::l,us,k =>
  obtain ⟨u,us',rfl,h1,h2⟩:=k.of_cons
  obtain ⟨u',us'',rfl,h3,h4⟩:=h2.of_cons
  exact VR.tupL k
def zpc (F:zr) (tm:Nat→PV) (R:FE→List zk→Prop):FM→List zk→Prop
 | .returning,H=>∃ vs,zI tm H F.res=some vs∧R (.ret (zK vs)) H
 | .panicking v,H=>R (.panic v) H
def zew (E:Env) (F:zr) (R:FE→List zk→Prop):FX→FSt→Prop
 | .norm,s=>LV E s.df .returning s.H (zpc F s.tm R)
 | .ret,s=>LV E s.df .returning s.H (zpc F s.tm R)
 | .panic v,s=>LV E s.df (.panicking v) s.H (zpc F s.tm R)
 | _,_=>False
def zB (l:List PV):Nat→PV:=fun i=>(l[i]?).getD .bad
theorem zs7 {c:Cx} {h:TH} {vs:List PV} {us:List TV} (k:LR (VR c h) vs us):tmR c h (zB vs) (Tr.putL .nil 0 us):=fun i=>by
 unfold zB
 rw [Tr.get_putL]
 by_cases hi:i < vs.length
 ·obtain ⟨u,u1,u2⟩:=k.at (List.getElem?_eq_getElem hi)
  refine .inr ⟨u,?_,?_⟩
  ·rw [if_pos (by rw [← k.1];omega),Nat.sub_zero];exact u1
  ·rw [List.getElem?_eq_getElem hi];exact u2
 ·left;rw [List.getElem?_eq_none (by omega)];rfl
theorem zcS {f:Nat} {F:zr} (hF:E.funcs.get f=some F) {args:List PV} (hn:args.length≤F.N) {H:List zk} {R:FE→List zk→Prop} (hW:W E E.caught none F.body ⟨zB args,[],H⟩ (zew E F R)):FO E f args H false R:=fun B c h us hr ha=>by
 obtain ⟨x',t',x,s',c',e1,q1,hx,m1,k1⟩:=hW B c ⟨Tr.putL .nil 0 us,[],h⟩ none ⟨hr,zs7 ha,trivial⟩ trivial
 have main:∀ (m:FM) (m':TM),LV E s'.df m s'.H (zpc F s'.tm R)→zo0 c' t'.h m m'→(∀ N C,zr3 (EN E N) C F (some (x',t'))=zgI (EN E N) F t'.tm (zcc (EN E N) C t'.df m' t'.h)) →
   ∃ r h' e H' c'',Ev E (fun C _=>C.fn f us h=some (r,h'))∧R e H'∧Mo c c'' h h'∧HR B c'' H' h'∧RE (VR c'' h') e r∧(false=true→∀ id x,c.ρ id=some x→h'.get x.1=h.get x.1):=fun m m' hl hm hend=>by
  obtain ⟨m2',h2,m2,H2,c2,f1,f2,f3,f4,f5⟩:=zmr hl k1.hr k1.df hm
  have fin:∀ r,(∀ N,zgI (EN E N) F t'.tm (some (m2',h2))=some (r,h2))→Ev E (fun C _=>C.fn f us h=some (r,h2)):=fun r hr2=>by
   obtain ⟨K,hK⟩:=e1
   obtain ⟨L,hL⟩:=f1
   refine ⟨max K L + 1,fun N hN d hd=>?_⟩
   obtain ⟨d,rfl⟩:∃ i,d=i + 1:=⟨d - 1,by omega⟩
   show zaU (EN E N) (zcA (EN E N) d) f us h=_
   unfold zaU
   rw [show (EN E N).funcs.get f=some F from hF]
   dsimp only
   rw [zb2 (by rw [← ha.1];exact hn)]
   dsimp only [cond_true]
   rw [show z6 (zcA (EN E N) d) (EN E N).caught (EN E N).N none F.body ⟨Tr.putL .nil 0 us,[],h⟩=some (x',t') from hK N (by omega) d (by omega),hend,zjI,hL N (by omega) d (by omega),hr2]
  cases m2 with
  | returning =>
   cases m2' with
   | panicking u=>exact f3.elim
   | returning =>
    obtain ⟨vs,v1,v2⟩:=f2
    obtain ⟨us2,w1,w2⟩:=zqx f5 (k1.tm.mono f4) v1
    refine ⟨.ret (tup us2),h2,.ret (zK vs),H2,c2,fin _ fun N=>?_,v2,m1.trans f4,f5,ztn w2,fun h=>by cases h⟩
    show (match zgt t'.tm h2 F.res with
     | some vs=>some (TE.ret (tup vs),h2)
     | none=>none)=_
    rw [w1]
  | panicking v =>
   cases m2' with
   | returning=>exact f3.elim
   | panicking u=>exact ⟨.panic u,h2,.panic v,H2,c2,fin _ fun N=>rfl,f2,m1.trans f4,f5,f3,fun h=>by cases h⟩
 cases hx with
 | norm=>exact main .returning .returning q1 trivial fun N C=>rfl
 | ret=>exact main .returning .returning q1 trivial fun N C=>rfl
 | panic hv=>exact main (.panicking _) (.panicking _) q1 hv fun N C=>rfl
 | exit id=>exact q1.elim
 | goto l=>exact q1.elim
def zar (H:List zk) (lab:Nat):FE→FE→Prop
 | .ret v,.ret w=>Frz H lab v w
 | .panic v,.panic w=>Frz H lab v w
 | _,_=>False
def LbE:FE→Prop
 | .ret v=>Lb v
 | .panic v=>Lb v
theorem zsJ {f:Nat} {args:List PV} {e:FE} {b:Bool} (k:FO E f args [] b fun e' H=>zar H 0 e' e):FP E f args e:=fun S h us hS ha=>by
 have hr:HR ⟨h.next,h,S⟩ ⟨S,fun _=>none,fun _=>False⟩ [] h:=⟨Nat.le_refl _,fun _ _=>rfl,fun p b hb=>.inl hb,fun p b hb=>⟨hS p b hb,fun id x hx=>(by cases hx)⟩,fun id x hx=>(by cases hx),fun id hx=>hx.elim,fun id id' x x' hx=>(by cases hx),fun id o ho=>(by simp at ho)⟩
 obtain ⟨r,h',e',H',c',e1,q1,m1,hr1,re,_⟩:=k _ _ h us hr (LR.pure (c:=⟨S,fun _=>none,fun _=>False⟩) ha)
 have hkeep:∀ b,b < h.next→h'.get b=h.get b:=fun b hb=>hr1.keep b hb
 refine ⟨r,h',e1,hr1.le,hkeep,?_⟩
 have hS1:∀ p b,c'.S p b→S1 S h.next h'.next p b:=fun p b hb=>by
  rcases hr1.old p b hb with h1 | ⟨h1,h2⟩
  ·exact .inl h1
  ·exact .inr ⟨h1,h2,(hr1.S p b hb).1⟩
 have hown:∀ id x,c'.ρ id=some x→S1 S h.next h'.next 0 x.1:=fun id x hx=>by
  obtain ⟨h1,h2,_⟩:=hr1.own id x hx
  exact .inr ⟨rfl,h1,h2⟩
 cases e' <;> cases r <;> first | exact re.elim | skip
 ·cases e with
  | panic v=>exact q1.elim
  | ret w=>exact Frz.ok hr1 hS1 hown q1 re
 ·cases e with
  | ret v=>exact q1.elim
  | panic w=>exact Frz.ok hr1 hS1 hown q1 re
theorem FP.stays {f:Nat} {args:List PV} {e:FE} (k:FP E f args e) (hl:LbE e):FN E f args e:=fun S h us hS ha=>by
 obtain ⟨r,h',e1,h1,h2,re⟩:=k S h us hS ha
 refine ⟨r,h',e1,h1,h2,?_⟩
 have hS0:∀ b,S1 S h.next h'.next 0 b→S0 S h.next h'.next 0 b:=fun b hb=>by
  rcases hb with hb | ⟨_,hb⟩
  ·exact ⟨rfl,.inl hb⟩
  ·exact ⟨rfl,.inr hb⟩
 cases e <;> cases r <;> first | exact re.elim | exact Lb.ok hS0 re hl
theorem FN.FP {f:Nat} {args:List PV} {e:FE} (k:FN E f args e):FP E f args e:=fun S h us hS ha=>by
 obtain ⟨r,h',e1,h1,h2,re⟩:=k S h us hS ha
 refine ⟨r,h',e1,h1,h2,re.mono fun v u hv=>hv.mono (fun p b hb=>?_) fun _ _ _ _ _ _ _ hr=>hr⟩
 obtain ⟨rfl,hb | hb⟩:=hb
 ·exact .inl hb
 ·exact .inr ⟨rfl,hb⟩
theorem zdU {f:Nat} {F:zr} (hF:E.funcs.get f=some F) {args:List PV} (hn:args.length≤F.N) {e:FE} (hW:W E E.caught none F.body ⟨zB args,[],[]⟩ (zew E F fun e' H=>zar H 0 e' e)):FP E f args e:=zsJ (zcS hF hn hW)
theorem zU {f:Nat} {F:zr} (hF:E.funcs.get f=some F) {args:List PV} (hn:args.length≤F.N) {e:FE} (hl:LbE e) (hW:W E E.caught none F.body ⟨zB args,[],[]⟩ (zew E F fun e' H=>zar H 0 e' e)):FN E f args e:=(zdU hF hn hW).stays hl
end Fv
end Go.Proofs.YtfomlmhnmheenaaGreat
namespace Go.Proofs.YtfomlmhnmheenaaGreat
namespace Fv
open Tw
variable {E:Env} {caught:Tr Unit}
def dpF:Nat→PV→Bool
 | 0,_=>false
 | n + 1,v=>match v with
  | .bad=>false
  | .iface _ v=>dpF n v
  | .fn _ l=>l.all (dpF n)
  | .agg l=>l.all (dpF n)
  | .tuple l=>l.all (dpF n)
  | _=>true
theorem zkx:∀ l:List Nat,zdX l l=true
 | []=>rfl
 | a::l=>by unfold zdX;rw [zaR rfl];exact zkx l
theorem zqi (n:Int):zfN n n=true:=by rw [zcg];simp
theorem zgQ {f:TV→TV→Bool}:∀ {l:List TV},(∀ x∈l,f x x=true)→ziC f l l=true
 | [],_=>rfl
 | a::l,h=>by unfold ziC;rw [h a (by simp)];exact zgQ fun x hx=>h x (List.mem_cons_of_mem _ hx)
theorem zi5 {R:PV→TV→Prop} {f:TV→TV→Bool} {p:PV→Bool} (hR:∀ v u,R v u→p v=true→f u u=true) {l:List PV} {cs:List TV} (k:LR R l cs) (hp:l.all p=true):∀ x∈cs,f x x=true:=fun x hx=>by
 obtain ⟨i,hi,rfl⟩:=List.mem_iff_getElem.1 hx
 have hi2:i < l.length:=by rw [k.1];exact hi
 exact hR _ _ (k.2 i _ _ (List.getElem?_eq_getElem hi2) (List.getElem?_eq_getElem hi)) (List.all_eq_true.1 hp _ (List.getElem_mem hi2))
theorem zhO {c:Cx} {h:TH}:∀ {n:Nat} {v:PV} {u:TV},VR c h v u→dpF n v=true→TV.beq n u u=true
 | 0,v,u,k,hd=>by cases hd
 | n + 1,v,u,k,hd=>by
  cases v with
  | bad=>exact k.bad_inv.elim
  | bool b=>obtain rfl:=k.bool_inv;cases b <;> rfl
  | int kk m=>obtain rfl:=k.int_inv;simp only [TV.beq,zmO];rw [zaR rfl];exact zqi m
  | str s=>obtain rfl:=k.str_inv;exact zkx s
  | nilptr=>cases k with | pure k=>cases k;rfl
  | nilsl=>cases k with | pure k=>cases k;rfl
  | nilmap=>cases k with | pure k=>cases k;rfl
  | nilfn=>cases k with | pure k=>cases k;rfl
  | niliface=>cases k with | pure k=>cases k;rfl
  | list p z l =>
   rcases zdf k with ⟨_,rfl⟩ | ⟨b,g,o,q,ds,rfl,_⟩
   ·rfl
   ·simp only [TV.beq,zmq];simp only [zaR rfl,cond_true]
  | elem l =>
   obtain ⟨p,b,g,o,ds,_,rfl,_⟩:=zeb k
   simp only [TV.beq,zjV];simp only [zaR rfl,cond_true]
  | sl id g o m q z =>
   rcases sl_inv k with ⟨_,_,_,_,rfl,_⟩ | ⟨b,d,g',_,_,rfl⟩
   ·rfl
   ·simp only [TV.beq,zmq];simp only [zaR rfl,cond_true]
  | ptr id g i o m =>
   obtain ⟨b,d,z,g',_,_,rfl⟩:=zdy k
   simp only [TV.beq,zjV];simp only [zaR rfl,cond_true]
  | map id=>obtain ⟨b,d,z,_,rfl⟩:=zhh k;exact zaR rfl
  | yield id=>cases k with | pure k=>cases k | yield _=>exact zaR rfl
  | iface t w =>
   obtain ⟨u',rfl,h1⟩:=k.iface_inv
   simp only [TV.beq,zjJ]
   rw [zaR rfl]
   exact zhO h1 hd
  | fn f l =>
   obtain ⟨cs,rfl,h1⟩:=k.fn_inv
   simp only [TV.beq,zpk]
   rw [zaR rfl]
   exact zgQ (zi5 (R:=VR c h) (f:=TV.beq n) (p:=dpF n) (fun v u k hp=>zhO k hp) h1 hd)
  | agg l =>
   obtain ⟨cs,rfl,h1⟩:=k.agg_inv
   exact zgQ (zi5 (R:=VR c h) (f:=TV.beq n) (p:=dpF n) (fun v u k hp=>zhO k hp) h1 hd)
  | tuple l =>
   obtain ⟨cs,rfl,h1⟩:=k.tuple_inv
   exact zgQ (zi5 (R:=VR c h) (f:=TV.beq n) (p:=dpF n) (fun v u k hp=>zhO k hp) h1 hd)
def evN (tm nm:Nat→PV):TOp→Option PV
 | .tmp t=>okv (tm t)
 | .new t=>okv (nm t)
 | .const u=>ofC 4 u
 | .fn f=>some (.fn f [])
def zbb (tm nm:Nat→PV):List TOp→Option (List PV)
 | []=>some []
 | x::l=>match evN tm nm x with
  | none=>none
  | some v=>match zbb tm nm l with
   | none=>none
   | some vs=>some (v::vs)
def zaa (tm nm:Nat→PV):Option (TOp × Bool)→Option Bool
 | none=>some true
 | some (x,b)=>zac b (evN tm nm x)
def nmR (c:Cx) (h:TH) (nm:Nat→PV) (t:Tr TV):Prop:=∀ i,(nm i=.bad∧t.get i=none)∨∃ u,t.get i=some u∧VR c h (nm i) u
theorem nmR.mono {c c':Cx} {h h':TH} (m:Mo c c' h h') {nm:Nat→PV} {t:Tr TV} (k:nmR c h nm t):nmR c' h' nm t:=fun i=>by
 rcases k i with k | ⟨u,u1,u2⟩
 ·exact .inl k
 ·exact .inr ⟨u,u1,u2.mono m⟩
def zcD (a b:Tr TV):Prop:=∀ i u,a.get i=some u→b.get i=some u
section operands
variable {c:Cx} {h:TH} {tm nm:Nat→PV} {t n:Tr TV}
theorem zm8 (k:tmR c h tm t) (kn:nmR c h nm n) {x:TOp} {v:PV} (hx:evN tm nm x=some v):∃ u,(∀ n',zcD n n'→zeu t n' x=some u)∧VR c h v u:=by
 cases x with
 | tmp i =>
  obtain ⟨h1,h2⟩:=zjH hx
  rcases k i with h3 | ⟨u,u1,u2⟩
  ·exact absurd h3 h2
  ·exact ⟨u,fun _ _=>u1,by rw [← h1];exact u2⟩
 | new i =>
  obtain ⟨h1,h2⟩:=zjH hx
  rcases kn i with ⟨h3,_⟩ | ⟨u,u1,u2⟩
  ·exact absurd h3 h2
  ·exact ⟨u,fun n' hn=>hn _ _ u1,by rw [← h1];exact u2⟩
 | const u=>exact ⟨u,fun _ _=>rfl,zgm hx⟩
 | fn f=>injection hx with hx;subst hx;exact ⟨_,fun _ _=>rfl,VR.fnL LR.nil⟩
theorem zhp (k:tmR c h tm t) (kn:nmR c h nm n):∀ {l:List TOp} {vs:List PV},zbb tm nm l=some vs→∃ us,(∀ n',zcD n n'→zcE t n' l=some us)∧LR (VR c h) vs us
 | [],vs,hv=>by injection hv with hv;subst hv;exact ⟨[],fun _ _=>rfl,LR.nil⟩
 | x::l,vs,hv=>by
  unfold zbb at hv
  split at hv
  ·cases hv
  ·rename_i v hx
   split at hv
   ·cases hv
   ·rename_i ws hw
    injection hv with hv;subst hv
    obtain ⟨u,u1,u2⟩:=zm8 k kn hx
    obtain ⟨us,w1,w2⟩:=zhp k kn hw
    refine ⟨u::us,fun n' hn=>?_,LR.cons u2 w2⟩
    unfold zcE
    rw [u1 n' hn]
    dsimp only
    rw [w1 n' hn]
theorem zeT (k:tmR c h tm t) (kn:nmR c h nm n) {g:Option (TOp × Bool)} {b:Bool} (hg:zaa tm nm g=some b):∀ n',zcD n n'→zdj t n' g=some b:=fun n' hn=>by
 cases g with
 | none=>exact hg
 | some x =>
  obtain ⟨x,b'⟩:=x
  change zac b' (evN tm nm x)=some b at hg
  unfold zac at hg
  split at hg
  ·rename_i cc hx
   obtain ⟨u,u1,u2⟩:=zm8 k kn hx
   obtain rfl:=u2.bool_inv
   show zeU b' (zeu t n' x)=some b
   unfold zeU
   rw [u1 n' hn]
   injection hg with hg;subst hg
   cases b' <;> rfl
  ·rename_i hx
   obtain ⟨u,u1,u2⟩:=zm8 k kn hx
   obtain ⟨cs,rfl,_⟩:=u2.tuple_inv
   show zeU b' (zeu t n' x)=some b
   rw [u1 n' hn]
   exact hg
  ·cases hg
end operands
structure DF where
 nm:Nat→PV
 df:List FD
 H:List zk
 K:List (zM × List Nat)
def Ent (c:Cx) (h:TH) (t n:Tr TV) (e:zM × List Nat):Prop :=
 ∀ c' h' n' df',Mo c c' h h'→(∀ id∈e.2,∀ x,c.ρ id=some x→h'.get x.1=h.get x.1)→zcD n n'→ze1 t ⟨n',df',h'⟩ e.1=true
structure DSR (B:Ba) (c:Cx) (tm:Nat→PV) (t:Tr TV) (s:DF) (d:DS):Prop where
 hr:HR B c s.H d.h
 tm:tmR c d.h tm t
 nm:nmR c d.h s.nm d.nm
 df:dfR c d.h s.df d.df
 K:∀ e∈s.K,Ent c d.h t d.nm e
theorem zcD.refl (a:Tr TV):zcD a a:=fun _ _ h=>h
theorem Ent.move {c c':Cx} {h h':TH} {t n n':Tr TV} {e:zM × List Nat} (k:Ent c h t n e) (m:Mo c c' h h') (hd:∀ id∈e.2,∀ x,c.ρ id=some x→h'.get x.1=h.get x.1) (hn:zcD n n'):Ent c' h' t n' e :=
 fun c2 h2 n2 df2 m2 hd2 hn2=>k c2 h2 n2 df2 (m.trans m2) (fun id hi x hx=>by rw [hd2 id hi x (m.ρ _ _ hx),hd id hi x hx]) fun i u hu=>hn2 _ _ (hn _ _ hu)
def zbu (k:zO) (vs:List PV):List Nat:=match k,vs with
 | .load ..,[.ptr id _ _ _ _]=>[id]
 | .look ..,[.map id,_]=>[id]
 | .len _,[.map id]=>[id]
 | _,_=>[]
theorem zrL {B:Ba} {c:Cx} {H:List zk} {h:TH} {kind:zO} {vs:List PV} {us:List TV} {v:PV} {u:TV} (k:HR B c H h) (hv:LR (VR c h) vs us) (hf:zaV H kind vs=some v) (hp:pas kind us h=some u)
  {c':Cx} {h':TH} (m:Mo c c' h h') (hd:∀ id∈zbu kind vs,∀ x,c.ρ id=some x→h'.get x.1=h.get x.1):pas kind us h'=some u:=by
 cases kind <;> first | exact hp | skip
 case load agg n =>
  simp only [zaV,zax] at hf
  split at hf
  ·rename_i cs
   obtain ⟨y,cs',rfl,h1,h2⟩:=hv.of_cons
   obtain rfl:=h2.of_nil
   obtain ⟨p,b,g,o,ds,s1,rfl,s2,s3⟩:=zeb h1
   simp only [pas,zbT,zez] at hp ⊢
   split at hf
   ·rename_i hn
    have s4:=zdv s2 (k:=0) (m:=n) (by omega)
    rw [Nat.add_zero] at s4
    rw [s4] at hp
    rw [m.rd _ _ s1 _ _ _ _ s4]
    exact hp
   ·cases hf
  ·rename_i id g i o mm
   obtain ⟨y,cs',rfl,h1,h2⟩:=hv.of_cons
   obtain rfl:=h2.of_nil
   obtain ⟨b,d,z,g',s1,rfl,rfl⟩:=zdy h1
   have hb:=hd id (by simp [zbu]) _ s1
   dsimp only at hb
   simp only [pas,zbT,zez,zaA] at hp ⊢
   rw [hb]
   exact hp
  ·cases hf
 case look kf zero ok =>
  simp only [zaV,zaF] at hf
  split at hf
  ·rename_i id kk x
   obtain ⟨y,cs',rfl,h1,h2⟩:=hv.of_cons
   obtain ⟨y',cs'',rfl,h3,h4⟩:=h2.of_cons
   obtain rfl:=h4.of_nil
   obtain ⟨b,d,z,s1,rfl⟩:=zhh h1
   have hb:=hd id (by simp [zbu]) _ s1
   dsimp only at hb
   simp only [pas,zbO,zfY] at hp ⊢
   rw [hb]
   exact hp
  ·obtain ⟨y,cs',rfl,h1,h2⟩:=hv.of_cons
   obtain ⟨y',cs'',rfl,h3,h4⟩:=h2.of_cons
   obtain rfl:=h4.of_nil
   obtain rfl:y=.nilmap:=by cases h1 with | pure h1=>cases h1;rfl
   exact hp
  ·cases hf
 case len f =>
  simp only [zaV,zbx] at hf
  split at hf
  ·exact hp
  ·exact hp
  ·cases hf
def zaT (nm:Nat→PV) (d:Option Nat) (v:PV):Option (Nat→PV):=match d with
 | none=>some nm
 | some d=>match nm d with
  | .bad=>some (upd nm d v)
  | _=>none
theorem ziX {c:Cx} {h:TH} {nm nm':Nat→PV} {n:Tr TV} (k:nmR c h nm n) {d:Option Nat} {v:PV} {u:TV} (hv:VR c h v u) (hs:zaT nm d v=some nm'):∃ n',zeE n d u=some n'∧zcD n n'∧nmR c h nm' n'∧(∀ e,d=some e→n'.get e=some u):=by
 cases d with
 | none=>simp only [zaT] at hs;injection hs with hs;subst hs;exact ⟨n,rfl,zcD.refl _,k,fun e he=>by cases he⟩
 | some d =>
  simp only [zaT] at hs
  split at hs
  ·rename_i hb
   injection hs with hs;subst hs
   have hn:n.get d=none:=by
    rcases k d with ⟨_,h1⟩ | ⟨u',_,u2⟩
    ·exact h1
    ·rw [hb] at u2;exact u2.bad_inv.elim
   refine ⟨n.set d (some u),by unfold zeE;dsimp only;rw [hn],fun i w hw=>?_,fun i=>?_,fun e he=>?_⟩
   ·rw [Tr.get_set,if_neg (fun e=>by subst e;rw [hn] at hw;cases hw)];exact hw
   ·unfold upd
    rw [Tr.get_set]
    by_cases e:i=d
    ·rw [if_pos e,if_pos e];exact .inr ⟨u,rfl,hv⟩
    ·rw [if_neg e,if_neg e];exact k i
   ·injection he with he;subst he;rw [Tr.get_set,if_pos rfl]
  ·cases hs
def zaQ:zk→Bool
 | .row _ _ _ _ l=>l.all fun v=>v.cells.all (dpF 4)
 | .map0=>true
 | _=>false
def zaJ (tm:Nat→PV) (o:zM) (s:DF):Option DF :=
 match zaa tm s.nm o.guard with
 | none=>none
 | some false=>(match zaT s.nm o.dst (.tuple []) with
  | some nm=>some ⟨nm,s.df,s.H,(o,[])::s.K⟩
  | none=>none)
 | some true=>match zbb tm s.nm o.args with
  | none=>none
  | some vs=>match o.kind.cls with
   | 0=>(match zaV s.H o.kind vs with
    | some v=>if o.dst.isSome=true∧dpF 4 v=true then (match zaT s.nm o.dst v with
     | some nm=>some ⟨nm,s.df,s.H,(o,zbu o.kind vs)::s.K⟩
     | none=>none) else none
    | none=>none)
   | 1=>(match zbg s.H.length o.kind vs with
    | some (ob,v)=>if o.dst.isSome=true∧zaQ ob=true∧dpF 4 v=true then (match zaT s.nm o.dst v with
     | some nm=>some ⟨nm,s.df,s.H++[ob],(o,[s.H.length])::s.K⟩
     | none=>none) else none
    | none=>none)
   | _=>none
def zau (tm:Nat→PV):List zM→DF→Option DF
 | [],s=>some s
 | o::l,s=>match zaJ tm o s with
  | some s=>zau tm l s
  | none=>none
theorem zj8 {t:Tr TV}:∀ {n i:Nat},(∀ j,i≤j→j < i + n→∃ y,t.get j=some y∧TV.beq 4 y y=true)→ziW i n t t=true
 | 0,_,_=>rfl
 | n + 1,i,h=>by
  obtain ⟨y,y1,y2⟩:=h i (Nat.le_refl _) (by omega)
  unfold ziW
  rw [y1]
  dsimp only
  rw [y2]
  exact zj8 fun j h1 h2=>h j (by omega) (by omega)
theorem zsP {B:Ba} {c:Cx} {H:List zk} {h:TH} (k:HR B c H h) {id b d z:Nat} {ob:zk} (hH:H[id]?=some ob) (hd:zaQ ob=true) (hρ:c.ρ id=some (b,d,z)) {x:TO} (hx:h.get b=some x):zkV x x=true:=by
 cases ob with
 | row e z' G M l =>
  obtain ⟨rfl,G',M',cells,cs,r1,r2,r3,r4,r5⟩:=zge k hH hρ
  rw [hx] at r1;injection r1 with r1;subst r1
  simp only [zkV,zaR rfl,cond_true]
  refine zj8 fun j _ hj=>?_
  rw [Nat.zero_add] at hj
  obtain ⟨t1,t2⟩:=Tr.getL_some r4
  have hj2:j < cs.length:=by rw [t1];exact hj
  have t3:=t2 j hj
  rw [Nat.zero_add,List.getElem?_eq_getElem hj2] at t3
  refine ⟨cs[j],t3.symm,?_⟩
  have hall:(l.flatMap PV.cells).all (dpF 4)=true:=by
   rw [List.all_eq_true]
   intro y hy
   obtain ⟨w,w1,w2⟩:=List.mem_flatMap.1 hy
   exact List.all_eq_true.1 (List.all_eq_true.1 hd w w1) y w2
  exact zi5 (R:=VR c h) (f:=TV.beq 4) (p:=dpF 4) (fun v u k hp=>zhO k hp) r5.all hall _ (List.getElem_mem hj2)
 | map0 =>
  obtain ⟨b',d',z',clock,s1,s2⟩:=k.obj _ _ hH
  rw [hρ] at s1;injection s1 with s1;injection s1 with s1 _;subst s1
  rw [hx] at s2;injection s2 with s2;subst s2
  exact zaR rfl
 | _=>cases hd
theorem zr4 {t n:Tr TV} {h:TH} {df:List TD} {o:zM} {d:Nat} {us:List TV} {u:TV} (hw:zdj t n o.guard=some true) (hd:o.dst=some d) (ha:zcE t n o.args=some us) (hn:n.get d=some u) (hc:o.kind.cls=0) (hp:pas o.kind us h=some u) (hb:TV.beq 4 u u=true):ze1 t ⟨n,df,h⟩ o=true:=by
 unfold ze1
 dsimp only
 rw [hw]
 dsimp only
 unfold zmi
 rw [hd]
 dsimp only
 rw [ha]
 dsimp only
 rw [hn]
 unfold zmh
 dsimp only
 rw [hc]
 try dsimp only
 unfold zmv
 rw [hp]
 exact hb
theorem zrB {t n:Tr TV} {h:TH} {df:List TD} {o:zM} {d b:Nat} {us:List TV} {x:zci} (hw:zdj t n o.guard=some true) (hd:o.dst=some d) (ha:zcE t n o.args=some us) (hn:n.get d=some x.v) (hc:o.kind.cls=1) (hbl:zc7 x.v=some b) (hp:lay o.kind us b=some x) (hg:h.get b=some x.o) (hb:TV.beq 4 x.v x.v=true) (ho:zkV x.o x.o=true):ze1 t ⟨n,df,h⟩ o=true:=by
 unfold ze1
 dsimp only
 rw [hw]
 dsimp only
 unfold zmi
 rw [hd]
 dsimp only
 rw [ha]
 dsimp only
 rw [hn]
 unfold zmh
 dsimp only
 rw [hc]
 try dsimp only
 unfold zms
 rw [hbl]
 dsimp only
 rw [hp]
 dsimp only
 rw [hg]
 dsimp only
 rw [hb,ho]
 rfl
theorem zkZ {B:Ba} {c:Cx} {tm:Nat→PV} {t:Tr TV} {s s':DF} {d:DS} {o:zM} (k:DSR B c tm t s d) (hs:zaJ tm o s=some s'):∃ c' d',ziG t o d=some d'∧Mo c c' d.h d'.h∧DSR B c' tm t s' d':=by
 unfold zaJ at hs
 split at hs
 ·cases hs
 ·rename_i hw
  have hw':=zeT k.tm k.nm hw
  split at hs
  ·rename_i nm' hn
   injection hs with hs;subst hs
   obtain ⟨n',n1,n2,n3,n4⟩:=ziX k.nm (VR.tupL LR.nil) hn
   refine ⟨c,⟨n',d.df,d.h⟩,?_,Mo.refl _ _,k.hr,k.tm,n3,k.df,fun e he=>?_⟩
   ·unfold ziG;rw [hw' _ (zcD.refl _)];dsimp only;rw [n1];rfl
   ·rcases List.mem_cons.1 he with rfl | he
    ·intro c2 h2 nn df2 m2 hd2 hn2
     unfold ze1
     dsimp only
     rw [hw' nn fun i u hu=>hn2 _ _ (n2 _ _ hu)]
    ·exact (k.K e he).move (Mo.refl _ _) (fun _ _ _ _=>rfl) n2
  ·cases hs
 ·rename_i hw
  have hw':=zeT k.tm k.nm hw
  split at hs
  ·cases hs
  ·rename_i vs hvs
   obtain ⟨us,u1,u2⟩:=zhp k.tm k.nm hvs
   have e0:ziG t o d=znC t o d:=by unfold ziG;rw [hw' _ (zcD.refl _)]
   split at hs
   ·rename_i hcls
    split at hs
    ·rename_i v hp
     split at hs
     ·rename_i hc
      obtain ⟨hc1,hc2⟩:=hc
      obtain ⟨dd,hdd⟩:=Option.isSome_iff_exists.1 hc1
      split at hs
      ·rename_i nm' hn
       injection hs with hs;subst hs
       obtain ⟨u,p1,p2⟩:=zkb k.hr u2 hp
       obtain ⟨n',n1,n2,n3,n4⟩:=ziX k.nm p2 hn
       refine ⟨c,⟨n',d.df,d.h⟩,?_,Mo.refl _ _,k.hr,k.tm,n3,k.df,fun e he=>?_⟩
       ·rw [e0];simp only [znC,u1 _ (zcD.refl _),hcls,p1,zrd,n1];rfl
       ·rcases List.mem_cons.1 he with rfl | he
        ·intro c2 h2 nn df2 m2 hd2 hn2
         exact zr4 (hw' nn fun i u hu=>hn2 _ _ (n2 _ _ hu)) hdd (u1 nn fun i u hu=>hn2 _ _ (n2 _ _ hu)) (hn2 _ _ (n4 _ hdd)) hcls (zrL k.hr u2 hp p1 m2 hd2) (zhO p2 hc2)
        ·exact (k.K e he).move (Mo.refl _ _) (fun _ _ _ _=>rfl) n2
      ·cases hs
     ·cases hs
    ·cases hs
   ·rename_i hcls
    split at hs
    ·rename_i ob v hp
     split at hs
     ·rename_i hc
      obtain ⟨hc1,hc2,hc3⟩:=hc
      obtain ⟨dd,hdd⟩:=Option.isSome_iff_exists.1 hc1
      split at hs
      ·rename_i nm' hn
       injection hs with hs;subst hs
       obtain ⟨x,c',p1,p2,p3,p4,⟨z,p5⟩,p6⟩:=zj4 k.hr u2 hp
       obtain ⟨n',n1,n2,n3,n4⟩:=ziX (k.nm.mono p2) p4 hn
       have hkeep:∀ b,b < d.h.next→(d.h.push x.o).get b=d.h.get b:=fun b hb=>by rw [TH.get_push,if_neg (by omega)]
       have hnew:(d.h.push x.o).get d.h.next=some x.o:=by rw [TH.get_push,if_pos rfl]
       refine ⟨c',⟨n',d.df,d.h.push x.o⟩,?_,p2,p3,k.tm.mono p2,n3,k.df.mono p2,fun e he=>?_⟩
       ·rw [e0];unfold znC;rw [u1 _ (zcD.refl _)];dsimp only;rw [hcls];(try dsimp only);rw [p1];unfold zrm;dsimp only;rw [n1];rfl
       ·rcases List.mem_cons.1 he with rfl | he
        ·intro c2 h2 nn df2 m2 hd2 hn2
         have hg2:=hd2 s.H.length (by simp) _ p5
         dsimp only at hg2
         rw [hnew] at hg2
         exact zrB (hw' nn fun i u hu=>hn2 _ _ (n2 _ _ hu)) hdd (u1 nn fun i u hu=>hn2 _ _ (n2 _ _ hu)) (hn2 _ _ (n4 _ hdd)) hcls p6 p1 hg2 (zhO p4 hc3) (zsP p3 (List.getElem?_concat_length ..) hc2 p5 hnew)
        ·exact (k.K e he).move p2 (fun id _ y hy=>hkeep _ (k.hr.own _ _ hy).2.1) n2
      ·cases hs
     ·cases hs
    ·cases hs
   ·cases hs
theorem zdO {B:Ba} {tm:Nat→PV} {t:Tr TV}:∀ {ops:List zM} {c:Cx} {s s':DF} {d:DS},DSR B c tm t s d→zau tm ops s=some s'→∃ c' d',zg7 t ops d=some d'∧Mo c c' d.h d'.h∧DSR B c' tm t s' d'
 | [],c,s,s',d,k,hs=>by injection hs with hs;subst hs;exact ⟨c,d,rfl,Mo.refl _ _,k⟩
 | o::l,c,s,s',d,k,hs=>by
  unfold zau at hs
  split at hs
  ·rename_i s1 h1
   obtain ⟨c1,d1,e1,m1,k1⟩:=zkZ k h1
   obtain ⟨c2,d2,e2,m2,k2⟩:=zdO k1 hs
   exact ⟨c2,d2,by unfold zg7;rw [e1];exact e2,m1.trans m2,k2⟩
  ·cases hs
def zbt:List (zM × List Nat)→zM→Prop
 | [],_=>False
 | e::K,o=>if e.1.dst=o.dst then e.1=o else zbt K o
def zbc (K:List (zM × List Nat)):List zM→Prop
 | []=>True
 | o::l=>zbt K o∧zbc K l
theorem zmW:∀ {K:List (zM × List Nat)} {o:zM},zbt K o→∃ e∈K,e.1=o
 | [],_,h=>h.elim
 | e::K,o,h=>by
  unfold zbt at h
  split at h
  ·exact ⟨e,by simp,h⟩
  ·obtain ⟨e',h1,h2⟩:=zmW h;exact ⟨e',List.mem_cons_of_mem _ h1,h2⟩
theorem zhk {B:Ba} {c:Cx} {tm:Nat→PV} {t:Tr TV} {s:DF} {d:DS} (k:DSR B c tm t s d):∀ {l:List zM},zbc s.K l→zeQ t d l=true
 | [],_=>rfl
 | o::l,h=>by
  obtain ⟨e,he,rfl⟩:=zmW h.1
  unfold zeQ
  rw [k.K e he c d.h d.nm d.df (Mo.refl _ _) (fun _ _ _ _=>rfl) (zcD.refl _)]
  exact zhk k h.2
def zaP (W:List Nat) (K:List (zM × List Nat)):List (zM × List Nat):=K.filter fun e=>e.2.all fun id=>!W.contains id
def WD (E:Env) (caught:Tr Unit) (tm:Nat→PV) (gs:List zcj) (s:DF) (Q:FX→DF→Prop):Prop :=
 ∀ B c t d,DSR B c tm t s d→∃ r x s' c' d',Ev E (fun C _=>zce C caught t gs d=some r)∧Q x s'∧Mo c c' d.h d'.h∧DSR B c' tm t s' d'∧((x=.norm∧r=.go d')∨∃ v u,x=.panic v∧r=.panic u d'.df d'.h∧VR c' d'.h v u)
variable {tm:Nat→PV} {s:DF} {Q:FX→DF→Prop}
theorem zaf (h:Q .norm s):WD E caught tm [] s Q:=fun B c t d k=>⟨.go d,.norm,s,c,d,Ev.all fun _ _=>rfl,h,Mo.refl _ _,k,.inl ⟨rfl,rfl⟩⟩
theorem DSR.dput {B:Ba} {c c':Cx} {t:Tr TV} {d:DS} (k:DSR B c tm t s d) {H':List zk} {h':TH} {K':List (zM × List Nat)} (m:Mo c c' d.h h') (hr:HR B c' H' h') {v:PV} {u:TV} (hv:VR c' h' v u) {dst:Option Nat} {nm':Nat→PV} (hn:zaT s.nm dst v=some nm')
  (hK:∀ n',zcD d.nm n'→∀ e∈K',Ent c' h' t n' e):∃ n',zeE d.nm dst u=some n'∧DSR B c' tm t ⟨nm',s.df,H',K'⟩ ⟨n',d.df,h'⟩:=by
 obtain ⟨n',n1,n2,n3,n4⟩:=ziX (k.nm.mono m) hv hn
 exact ⟨n',n1,hr,k.tm.mono m,n3,k.df.mono m,hK n' n2⟩
theorem zX {g:zcj} {l:List zcj} {s1:DF} (hc:zbc s.K g.chk) (hx:zau tm g.exe s=some s1) (ha:g.act=none) (k:WD E caught tm l s1 Q):WD E caught tm (g::l) s Q:=fun B c t d hd=>by
 obtain ⟨c1,d1,e1,m1,k1⟩:=zdO hd hx
 obtain ⟨r,x,s',c',d',e2,q2,m2,k2,h2⟩:=k B c1 t d1 k1
 refine ⟨r,x,s',c',d',e2.mono fun C N e=>?_,q2,m1.trans m2,k2,h2⟩
 unfold zce
 rw [zhk hd hc,e1]
 dsimp only [cond_true]
 rw [ha]
 exact e
theorem zbv {g:zcj} {l:List zcj} {s1:DF} {o:zM} {vs:List PV} {a:AR} {nm':Nat→PV} (hc:zbc s.K g.chk) (hx:zau tm g.exe s=some s1) (ha:g.act=some o) (hw:zaa tm s1.nm o.guard=some true) (hv:zbb tm s1.nm o.args=some vs)
  (hf:zbo s1.H o.kind vs=some a) (hn:zaT s1.nm o.dst a.v=some nm') (k:WD E caught tm l ⟨nm',s1.df,a.H,zaP a.W s1.K⟩ Q):WD E caught tm (g::l) s Q:=fun B c t d hd=>by
 obtain ⟨c1,d1,e1,m1,k1⟩:=zdO hd hx
 obtain ⟨us,u1,u2⟩:=zhp k1.tm k1.nm hv
 have hw':=zeT k1.tm k1.nm hw _ (zcD.refl _)
 obtain ⟨u,h',c2,p1,p2⟩:=zkd (C:=⟨fun _ _ _=>none,fun _ _ _=>none⟩) (caught:=caught) k1.hr u2 hf
 have hsame:∀ C,act C caught o.kind us d1.h=some (.ok u h'):=fun C=>by
  rw [← p1]
  unfold zbo at hf
  split at hf
  ·rename_i e;rw [e];rfl
  ·rename_i e;rw [e];rfl
  ·rename_i e;rw [e];rfl
  ·rename_i e;rw [e];rfl
  ·cases hf
 obtain ⟨n',n1,k2⟩:=k1.dput (K':=zaP a.W s1.K) p2.mo p2.hr p2.v hn fun n' hm e he=>by
  obtain ⟨he1,he2⟩:=List.mem_filter.1 he
  refine (k1.K e he1).move p2.mo (fun id hi y hy=>p2.W id (fun hW=>?_) y hy) hm
  have:=List.all_eq_true.1 he2 id hi
  rw [List.contains_iff_mem.2 hW] at this
  cases this
 obtain ⟨r,x,s',c',d',e2,q2,m2,k3,h2⟩:=k B c2 t _ k2
 refine ⟨r,x,s',c',d',e2.mono fun C N e=>?_,q2,(m1.trans p2.mo).trans m2,k3,h2⟩
 unfold zce
 rw [zhk hd hc,e1]
 dsimp only [cond_true]
 rw [ha]
 dsimp only
 unfold ziq
 rw [hw']
 dsimp only
 rw [u1 _ (zcD.refl _)]
 dsimp only
 rw [hsame C]
 simp only [zhG,Tw.dput,n1,dgo]
 exact e
theorem zf9 {g:zcj} {l:List zcj} {s1:DF} {o:zM} {nm':Nat→PV} (hc:zbc s.K g.chk) (hx:zau tm g.exe s=some s1) (ha:g.act=some o) (hw:zaa tm s1.nm o.guard=some false) (hn:zaT s1.nm o.dst (.tuple [])=some nm') (k:WD E caught tm l ⟨nm',s1.df,s1.H,s1.K⟩ Q):WD E caught tm (g::l) s Q:=fun B c t d hd=>by
 obtain ⟨c1,d1,e1,m1,k1⟩:=zdO hd hx
 have hw':=zeT k1.tm k1.nm hw _ (zcD.refl _)
 obtain ⟨n',n1,k2⟩:=k1.dput (K':=s1.K) (Mo.refl _ _) k1.hr (VR.tupL LR.nil) hn fun n' hm e he=>(k1.K e he).move (Mo.refl _ _) (fun _ _ _ _=>rfl) hm
 obtain ⟨r,x,s',c',d',e2,q2,m2,k3,h2⟩:=k B c1 t _ k2
 refine ⟨r,x,s',c',d',e2.mono fun C N e=>?_,q2,m1.trans m2,k3,h2⟩
 unfold zce
 rw [zhk hd hc,e1]
 dsimp only [cond_true]
 rw [ha]
 dsimp only
 unfold ziq
 rw [hw']
 simp only [Tw.dput,n1,dgo]
 exact e
def zay (same:Bool) (K:List (zM × List Nat)):List (zM × List Nat):=if same then K else K.filter fun e=>e.2.isEmpty
def ztE (E:Env) (caught:Tr Unit) (tm:Nat→PV) (l:List zcj) (s:DF) (dst:Option Nat) (same:Bool) (Q:FX→DF→Prop):FE→List zk→Prop
 | .ret v,H'=>∃ nm',zaT s.nm dst v=some nm'∧WD E caught tm l ⟨nm',s.df,H',zay same s.K⟩ Q
 | .panic v,H'=>Q (.panic v) ⟨s.nm,s.df,H',zay same s.K⟩
theorem zlf {g:zcj} {l:List zcj} {s1:DF} {o:zM} {f:Nat} {caps vs:List PV} {same:Bool} (hc:zbc s.K g.chk) (hx:zau tm g.exe s=some s1) (ha:g.act=some o) (hk:o.kind=.call) (hw:zaa tm s1.nm o.guard=some true) (hv:zbb tm s1.nm o.args=some (.fn f caps::vs))
  (k:FO E f (vs++caps) s1.H same (ztE E caught tm l s1 o.dst same Q)):WD E caught tm (g::l) s Q:=fun B c t d hd=>by
 obtain ⟨c1,d1,e1,m1,k1⟩:=zdO hd hx
 obtain ⟨us,u1,u2⟩:=zhp k1.tm k1.nm hv
 obtain ⟨u,us',rfl,u3,u4⟩:=u2.of_cons
 obtain ⟨cs,rfl,u5⟩:=u3.fn_inv
 have hw':=zeT k1.tm k1.nm hw _ (zcD.refl _)
 obtain ⟨r,h',e,H',c2,f1,q1,m2,hr2,re,hsm⟩:=k B c1 d1.h _ k1.hr (u4.app u5)
 have hK:∀ n',zcD d1.nm n'→∀ e∈zay same s1.K,Ent c2 h' t n' e:=fun n' hm e he=>by
  unfold zay at he
  split at he
  ·rename_i hs;exact (k1.K e he).move m2 (fun id _ y hy=>hsm hs id y hy) hm
  ·obtain ⟨he1,he2⟩:=List.mem_filter.1 he
   refine (k1.K e he1).move m2 (fun id hi=>?_) hm
   rw [List.isEmpty_iff] at he2
   rw [he2] at hi;cases hi
 have hst:∀ C,C.fn f (us'++cs) d1.h=some (r,h')→zce C caught t (g::l) d=(match zhG o.dst d1 (zhx (some (r,h'))) with
   | some (.go s)=>zce C caught t l s
   | r=>r):=fun C hC=>by
  conv=>lhs;unfold zce
  rw [zhk hd hc,e1]
  dsimp only [cond_true]
  rw [ha]
  dsimp only
  unfold ziq
  rw [hw']
  dsimp only
  rw [u1 _ (zcD.refl _)]
  dsimp only
  rw [hk]
  simp only [act,ziL]
  rw [hC]
  generalize zhG o.dst d1 (zhx (some (r,h')))=zz
  cases zz with
  | none=>rfl
  | some zz=>cases zz <;> rfl
 cases e with
 | ret v =>
  cases r with
  | panic u=>exact re.elim
  | ret u =>
   obtain ⟨nm',hn,q1⟩:=q1
   obtain ⟨n',n1,k2⟩:=k1.dput (K':=zay same s1.K) m2 hr2 (v:=v) (u:=u) re hn hK
   obtain ⟨r2,x,s',c',d',e2,q2,m3,k3,h2⟩:=q1 B c2 t _ k2
   refine ⟨r2,x,s',c',d',Ev.and2 (fun C N a b=>?_) f1 e2,q2,(m1.trans m2).trans m3,k3,h2⟩
   rw [hst C a]
   simp only [zhx,zhG,Tw.dput,n1,dgo]
   exact b
 | panic v =>
  cases r with
  | ret u=>exact re.elim
  | panic u =>
   refine ⟨.panic u d1.df h',.panic v,⟨s1.nm,s1.df,H',zay same s1.K⟩,c2,⟨d1.nm,d1.df,h'⟩,f1.mono fun C N a=>?_,q1,m1.trans m2,⟨hr2,k1.tm.mono m2,k1.nm.mono m2,k1.df.mono m2,hK _ (zcD.refl _)⟩,.inr ⟨v,u,rfl,rfl,re⟩⟩
   rw [hst C a]
   rfl
def zab (nm:Nat→PV):List Nat→(Nat→PV)→(Nat→PV)
 | [],tm=>tm
 | d::l,tm=>zab nm l (upd tm d (nm d))
def zc4:List Nat→(Nat→PV)→(Nat→PV)
 | [],tm=>tm
 | d::l,tm=>zc4 l (upd tm d .bad)
theorem zoJ {c:Cx} {h:TH} {nm:Nat→PV} {n:Tr TV} (kn:nmR c h nm n):∀ {ds:List Nat} {tm:Nat→PV} {t:Tr TV},tmR c h tm t→tmR c h (zab nm ds tm) (zhq n ds t)
 | [],_,_,k=>k
 | d::l,tm,t,k=>by
  unfold zab zhq
  refine zoJ kn fun i=>?_
  unfold upd
  rw [Tr.get_set]
  by_cases e:i=d
  ·rw [if_pos e,if_pos e]
   rcases kn d with ⟨h1,_⟩ | h1
   ·exact .inl h1
   ·exact .inr h1
  ·rw [if_neg e,if_neg e];exact k i
theorem zj3 {c:Cx} {h:TH}:∀ {ds:List Nat} {tm:Nat→PV} {t:Tr TV},tmR c h tm t→tmR c h (zc4 ds tm) (zeJ ds t)
 | [],_,_,k=>k
 | d::l,tm,t,k=>by
  unfold zc4 zeJ
  refine zj3 fun i=>?_
  unfold upd
  rw [Tr.get_set]
  by_cases e:i=d
  ·rw [if_pos e];exact .inl rfl
  ·rw [if_neg e,if_neg e];exact k i
def zu (ds:List Nat) (tm:Nat→PV) (Q:FX→FSt→Prop):FX→DF→Prop
 | .norm,s=>Q .norm ⟨zab s.nm ds tm,s.df,s.H⟩
 | x,s=>Q x ⟨zc4 ds tm,s.df,s.H⟩
theorem zaS {rnd:Option Nat} {gs:List zcj} {ds:List Nat} {s:FSt} {Q:FX→FSt→Prop} (k:WD E caught s.tm gs ⟨fun _=>.bad,s.df,s.H,[]⟩ (zu ds s.tm Q)):W E caught rnd (.drawn gs ds) s Q:=fun B c t rnd' hs hn=>by
 obtain ⟨r,x,s',c',d',e1,q1,m1,k1,h2⟩:=k B c t.tm ⟨.nil,t.df,t.h⟩ ⟨hs.hr,hs.tm,fun i=>.inl ⟨rfl,Tr.get_nil i⟩,hs.df,fun e he=>by cases he⟩
 rcases h2 with ⟨rfl,rfl⟩ | ⟨v,u,rfl,rfl,hv⟩
 ·exact ⟨.norm,⟨zhq d'.nm ds t.tm,d'.df,d'.h⟩,.norm,_,c',e1.mono fun C N e=>by unfold z6;rw [e];rfl,q1,.norm,m1,⟨k1.hr,zoJ k1.nm k1.tm,k1.df⟩⟩
 ·exact ⟨.panic u,⟨zeJ ds t.tm,d'.df,d'.h⟩,.panic v,_,c',e1.mono fun C N e=>by unfold z6;rw [e];rfl,q1,.panic hv,m1,⟨k1.hr,zj3 k1.tm,k1.df⟩⟩
def FY (E:Env) (id:Nat) (args:List PV) (H:List zk) (Q:Bool→List zk→Prop):Prop :=
 ∀ B c h us b d z,HR B c H h→c.ρ id=some (b,d,z)→LR (VR c h) args us→∃ r h' H' c',Ev E (fun C _=>C.rd b us h=some (r,h'))∧Q r H'∧Mo c c' h h'∧HR B c' H' h'
theorem zlA {c:Cx} {h:TH} {id:Nat} {u:TV} (x:VR c h (.yield id) u):∃ b d z,c.ρ id=some (b,d,z)∧u=.yield b:=by
 cases x with
 | pure x=>cases x
 | yield h=>exact ⟨_,_,_,h,rfl⟩
theorem znd {d:Option Nat} {args:List TOp} {g:Option (TOp × Bool)} {ops:List zM} {s:FSt} {Q:FX→FSt→Prop} {id:Nat} {vs:List PV}
  (hg:z7 s.tm g=some true) (ha:evs s.tm args=some (.yield id::vs)) (k:FY E id vs s.H fun r H'=>WO E caught ops (FSt.put ⟨s.tm,s.df,H'⟩ d (.bool r)) Q):WO E caught (⟨d,.call,args,g⟩::ops) s Q:=fun B c t hs=>by
 have hw:=zdw hs.tm hg
 obtain ⟨us,u1,u2⟩:=zhf hs.tm ha
 obtain ⟨u,us',rfl,u3,u4⟩:=u2.of_cons
 obtain ⟨b,d',z,hρ,rfl⟩:=zlA u3
 obtain ⟨r,h',H',c',e1,q1,m1,k1⟩:=k B c t.h _ _ _ _ hs.hr hρ u4
 obtain ⟨r2,x,s2,c2,t2,e2,q2,m2,k2,h2⟩:=q1 B c' ((⟨t.tm,t.df,h'⟩:St).put d (.bool r)) (hs.put m1 k1 (.pure (.bool r)) d)
 rw [put_h] at m2
 refine ⟨r2,x,s2,c2,t2,Ev.and2 (fun C N a b=>?_) e1 e2,q2,m1.trans m2,k2,h2⟩
 unfold zdd zd7;rw [hw,u1]
 simp only [zg0,zO.cls,act,ziL]
 rw [a]
 exact b
theorem zr0 {tm:Nat→PV} {s:DF} {Q:FX→DF→Prop} {g:zcj} {l:List zcj} {s1:DF} {o:zM} {id:Nat} {vs:List PV} (hc:zbc s.K g.chk) (hx:zau tm g.exe s=some s1) (ha:g.act=some o) (hk:o.kind=.call) (hw:zaa tm s1.nm o.guard=some true) (hv:zbb tm s1.nm o.args=some (.yield id::vs))
  (k:FY E id vs s1.H fun r H'=>∃ nm',zaT s1.nm o.dst (.bool r)=some nm'∧WD E caught tm l ⟨nm',s1.df,H',zay false s1.K⟩ Q):WD E caught tm (g::l) s Q:=fun B c t d hd=>by
 obtain ⟨c1,d1,e1,m1,k1⟩:=zdO hd hx
 obtain ⟨us,u1,u2⟩:=zhp k1.tm k1.nm hv
 obtain ⟨u,us',rfl,u3,u4⟩:=u2.of_cons
 obtain ⟨b,d',z,hρ,rfl⟩:=zlA u3
 have hw':=zeT k1.tm k1.nm hw _ (zcD.refl _)
 obtain ⟨r,h',H',c2,f1,⟨nm',hn,q1⟩,m2,hr2⟩:=k B c1 d1.h _ _ _ _ k1.hr hρ u4
 have hK:∀ n',zcD d1.nm n'→∀ e∈zay false s1.K,Ent c2 h' t n' e:=fun n' hm e he=>by
  obtain ⟨he1,he2⟩:=List.mem_filter.1 (show e∈s1.K.filter _ from he)
  refine (k1.K e he1).move m2 (fun id hi=>?_) hm
  rw [List.isEmpty_iff] at he2
  rw [he2] at hi;cases hi
 obtain ⟨n',n1,k2⟩:=k1.dput (K':=zay false s1.K) m2 hr2 (v:=.bool r) (u:=.bool r) (.pure (.bool r)) hn hK
 obtain ⟨r2,x,s',c',d',e2,q2,m3,k3,h2⟩:=q1 B c2 t _ k2
 refine ⟨r2,x,s',c',d',Ev.and2 (fun C N a b=>?_) f1 e2,q2,(m1.trans m2).trans m3,k3,h2⟩
 unfold zce
 rw [zhk hd hc,e1]
 dsimp only [cond_true]
 rw [ha]
 dsimp only
 unfold ziq
 rw [hw']
 dsimp only
 rw [u1 _ (zcD.refl _)]
 dsimp only
 rw [hk]
 simp only [act,ziL]
 rw [a]
 simp only [zmI,zhG,Tw.dput,n1,dgo]
 exact b
def zaC:List Nat→List PV→(Nat→PV)→(Nat→PV)
 | p::ps,v::vs,t=>zaC ps vs (upd t p v)
 | _,_,t=>t
theorem zoy {c:Cx} {h:TH}:∀ {ps:List Nat} {vs:List PV} {us:List TV} {tm:Nat→PV} {t:Tr TV},LR (VR c h) vs us→tmR c h tm t→tmR c h (zaC ps vs tm) (zf6 ps us t)
 | [],vs,us,tm,t,hl,k=>by cases vs <;> cases us <;> exact k
 | p::ps,[],us,tm,t,hl,k=>by obtain rfl:=hl.of_nil;exact k
 | p::ps,v::vs,us,tm,t,hl,k=>by
  obtain ⟨u,us',rfl,h1,h2⟩:=hl.of_cons
  show tmR c h (zaC ps vs (upd tm p v)) (zf6 ps us' (t.set p (some u)))
  exact zoy h2 (k.put h1)
def zuB (id:Nat) (Q:Bool→List zk→Prop):FX→FSt→Prop
 | .norm,s=>s.df=[]∧∃ st pe tm ps aS bo m,s.H[id]?=some (.loop st pe tm ps aS bo m)∧Q true (s.H.set id (.loop .ready .norm tm ps aS bo m))
 | .panic _,_=>False
 | x,s=>s.df=[]∧∃ st pe tm ps aS bo m,s.H[id]?=some (.loop st pe tm ps aS bo m)∧Q false (s.H.set id (.loop .done x tm ps aS bo m))
theorem zhP {B:Ba} {c:Cx} {H:List zk} {h:TH} (k:HR B c H h) {id m:Nat} {st:LoopState} {pe:FX} {tm:Nat→PV} {ps:List Nat} {aS bo:zah} (hH:H[id]?=some (.loop st pe tm ps aS bo m)) {b d z:Nat} (hρ:c.ρ id=some (b,d,z)) :
  ∃ bm dm zm t pe',c.ρ m=some (bm,dm,zm)∧h.get b=some (.loop st pe' t ps aS bo bm)∧tmR c h tm t∧XR c h pe pe':=by
 obtain ⟨b',d',z',bm,dm,zm,t,pe',h1,h2⟩:=k.obj _ _ hH
 rw [hρ] at h1;injection h1 with h1;injection h1 with h1 _;subst h1
 exact ⟨bm,dm,zm,t,pe',h2⟩
theorem zjq {B:Ba} {c:Cx} {H:List zk} {h:TH} (k:HR B c H h) {id b d z m bm dm zm:Nat} (hρ:c.ρ id=some (b,d,z)) (hm:c.ρ m=some (bm,dm,zm)) {st:LoopState} {pe:FX} {pe':TX} {tm:Nat→PV} {t:Tr TV} {ps:List Nat} {aS bo:zah} (ht:tmR c h tm t) (hp:XR c h pe pe') :
  Mo c c h (h.set b (.loop st pe' t ps aS bo bm))∧HR B c (H.set id (.loop st pe tm ps aS bo m)) (h.set b (.loop st pe' t ps aS bo bm)) :=
 k.set hρ fun mm=>⟨b,d,z,bm,dm,zm,t,pe',hρ,hm,by rw [TH.get_set _ _ _ _ (k.own _ _ hρ).2.1,if_pos rfl],ht.mono mm,hp.mono mm⟩
theorem ztF (E:Env) (N:Nat):(EN E N).N=N:=rfl
theorem zjy {id m:Nat} {pe:FX} {tm:Nat→PV} {ps:List Nat} {aS bo:zah} {H:List zk} {args:List PV} {Q:Bool→List zk→Prop} {st:LoopState} (hH:H[id]?=some (.loop st pe tm ps aS bo m)) (hl:ps.length=args.length)
  (kW:W E .nil (some id) aS ⟨zaC ps args tm,[],H⟩ fun x s1=>x=.norm∧∃ pe1 tm1 ps1 as1 bo1 m1,s1.H[id]?=some (.loop .ready pe1 tm1 ps1 as1 bo1 m1) ∧
   W E .nil (some id) bo ⟨s1.tm,s1.df,s1.H.set id (.loop .busy pe1 tm1 ps1 as1 bo1 m1)⟩ (zuB id Q)):FY E id args H Q:=fun B c h us b d z hr hρ ha=>by
 obtain ⟨bm,dm,zm,t,pe',hm,hg,ht,hp⟩:=zhP hr hH hρ
 obtain ⟨x',t1,x,s1,c1,e1,⟨rfl,pe1,tm1,ps1,as1,bo1,m1,hH1,kW2⟩,hx,mo1,k1⟩:=kW B c ⟨zf6 ps us t,[],h⟩ (some b) ⟨hr,zoy ha ht,trivial⟩ ⟨d,z,hρ⟩
 cases hx
 have hρ1:=mo1.ρ _ _ hρ
 obtain ⟨bm1,dm1,zm1,tt1,pe1',hm1,hg1,ht1,hp1⟩:=zhP k1.hr hH1 hρ1
 obtain ⟨mo2,hr2⟩:=zjq k1.hr (st:=.busy) (ps:=ps1) (aS:=as1) (bo:=bo1) hρ1 hm1 ht1 hp1
 obtain ⟨x',t3,x,s3,c3,e3,q3,hx,mo3,k3⟩:=kW2 B c1 ⟨t1.tm,t1.df,t1.h.set b (.loop .busy pe1' tt1 ps1 as1 bo1 bm1)⟩ (some b) ⟨hr2,k1.tm.mono mo2,k1.df.mono mo2⟩ ⟨d,z,hρ1⟩
 have hρ3:=mo3.ρ _ _ hρ1
 have run:∀ r h',zgs b (some (x',t3))=some (r,h')→Ev E (fun C _=>C.rd b us h=some (r,h')):=fun r h' hre=>by
  obtain ⟨K,hK⟩:=e1
  obtain ⟨L,hL⟩:=e3
  refine ⟨max K L + 1,fun N hN d hd=>?_⟩
  obtain ⟨d,rfl⟩:∃ i,d=i + 1:=⟨d - 1,by omega⟩
  show zkS (EN E N) (zcA (EN E N) d) b us h=_
  unfold zkS
  rw [hg]
  dsimp only
  unfold zmN
  dsimp only
  rw [zaR (by rw [← ha.1];exact hl)]
  dsimp only [cond_true]
  rw [ztF,hK N (by omega) d (by omega)]
  unfold zr5
  dsimp only
  rw [hg1]
  dsimp only
  unfold znR
  dsimp only
  rw [ztF,hL N (by omega) d (by omega)]
  exact hre
 have fin:∀ (r:Bool) (st:LoopState) (pen:FX) (pen':TX),XR c3 t3.h pen pen'→s3.df=[]→(∀ st2 pe2 tt2 ps2 as2 bo2 bm2,zoY x' t3.h b (.loop st2 pe2 tt2 ps2 as2 bo2 bm2)=some (r,t3.h.set b (.loop st pen' tt2 ps2 as2 bo2 bm2))) →
   (∃ st2 pe2 tm2 ps2 as2 bo2 m2,s3.H[id]?=some (.loop st2 pe2 tm2 ps2 as2 bo2 m2)∧Q r (s3.H.set id (.loop st pen tm2 ps2 as2 bo2 m2))) →
   ∃ r h' H' c',Ev E (fun C _=>C.rd b us h=some (r,h'))∧Q r H'∧Mo c c' h h'∧HR B c' H' h':=fun r st pen pen' hxr hdf hj ⟨st2,pe2,tm2,ps2,as2,bo2,m2,hH3,q⟩=>by
  obtain ⟨bm3,dm3,zm3,tt3,pe3',hm3,hg3,ht3,hp3⟩:=zhP k3.hr hH3 hρ3
  obtain ⟨mo4,hr4⟩:=zjq k3.hr (st:=st) (ps:=ps2) (aS:=as2) (bo:=bo2) hρ3 hm3 ht3 hxr
  have hd0:t3.df=[]:=by
   have:=k3.df
   rw [hdf] at this
   cases h0:t3.df with
   | nil=>rfl
   | cons a l=>rw [h0] at this;exact this.elim
  refine ⟨r,_,_,c3,run r _ ?_,q,((mo1.trans mo2).trans mo3).trans mo4,hr4⟩
  unfold zgs
  dsimp only
  rw [hd0]
  dsimp only
  rw [hg3]
  exact hj ..
 cases hx with
 | norm=>exact fin true .ready .norm .norm .norm q3.1 (fun _ _ _ _ _ _ _=>rfl) q3.2
 | exit j=>exact fin false .done (.exit j) (.exit j) (.exit j) q3.1 (fun _ _ _ _ _ _ _=>rfl) q3.2
 | goto j=>exact fin false .done (.goto j) (.goto j) (.goto j) q3.1 (fun _ _ _ _ _ _ _=>rfl) q3.2
 | ret=>exact fin false .done .ret .ret .ret q3.1 (fun _ _ _ _ _ _ _=>rfl) q3.2
 | panic hv=>exact q3.elim
theorem zjK {f:TOp} {ps:List Nat} {aS bo:zah} {s:FSt} {Q:FX→FSt→Prop} {g:Nat} {cap:List PV} {b:Bool} (hf:ev s.tm f=some (.fn g cap))
  (k:FO E g (.yield (s.H.length + 1)::cap) (s.H++[.dfr false]++[.loop .ready .norm s.tm ps aS bo s.H.length]) b fun e H'=>(∃ v,e=.ret v)∧∃ st pe tm ps aS bo m,st ≠ .busy∧H'[s.H.length + 1]?=some (.loop st pe tm ps aS bo m)∧Q pe ⟨s.tm,.mark s.H.length::s.df,H'.set (s.H.length + 1) (.loop .exhausted pe tm ps aS bo m)⟩) :
  W E caught none (.rangef f ps aS bo) s Q:=fun B c t rnd' hs hn=>by
 obtain rfl:rnd'=none:=by cases rnd' with | none=>rfl | some x=>exact hn.elim
 obtain ⟨u,u1,u2⟩:=zhU hs.tm hf
 obtain ⟨cs,rfl,u3⟩:=u2.fn_inv
 obtain ⟨m1,k1⟩:=hs.hr.push (o:=.dfr false) (x:=.dfr false) (z:=0) fun m=>⟨t.h.next,0,0,add_same ..,by rw [TH.get_push,if_pos rfl]⟩
 have hlen:(s.H++[zk.dfr false]).length=s.H.length + 1:=by simp
 obtain ⟨m2,k2⟩:=k1.push (o:=.loop .ready .norm s.tm ps aS bo s.H.length) (x:=.loop .ready .norm t.tm ps aS bo t.h.next) (z:=0) fun m=>by
  rw [hlen] at m ⊢
  refine ⟨(t.h.push (.dfr false)).next,0,0,t.h.next,0,0,t.tm,.norm,add_same ..,?_,by rw [TH.get_push,if_pos rfl],(hs.tm.mono m1).mono m,.norm⟩
  exact m.ρ _ _ (add_same ..)
 rw [hlen] at m2 k2
 have hρ0:((c.add s.H.length t.h.next 0 0).add (s.H.length + 1) (t.h.push (.dfr false)).next 0 0).ρ s.H.length=some (t.h.next,0,0):=m2.ρ _ _ (add_same ..)
 have hρ1:((c.add s.H.length t.h.next 0 0).add (s.H.length + 1) (t.h.push (.dfr false)).next 0 0).ρ (s.H.length + 1)=some (t.h.next + 1,0,0):=add_same ..
 obtain ⟨r,h',e,H',c',e1,⟨⟨v,rfl⟩,st,pe,tm,ps',as',bo',m',hst,hH',hQ⟩,m3,k3,re,_⟩:=k B _ _ (.yield (t.h.next + 1)::cs) k2 (LR.cons (.yield hρ1) ((u3.mono fun _ _=>VR.mono m1).mono fun _ _=>VR.mono m2))
 cases r with
 | panic u=>exact re.elim
 | ret u =>
  have hρ2:=m3.ρ _ _ hρ1
  obtain ⟨bm,dm,zm,tt,pe',hm,hg,ht,hp⟩:=zhP k3 hH' hρ2
  obtain ⟨m4,k4⟩:=zjq k3 (st:=.exhausted) (ps:=ps') (aS:=as') (bo:=bo') hρ2 hm ht hp
  have mall:=((m1.trans m2).trans m3).trans m4
  refine ⟨pe',⟨t.tm,.mark t.h.next::t.df,h'.set (t.h.next + 1) (.loop .exhausted pe' tt ps' as' bo' bm)⟩,pe,_,c',e1.mono fun C N a=>?_,hQ,hp.mono m4,mall,⟨k4,hs.tm.mono mall,⟨⟨0,0,m3.ρ _ _ hρ0⟩,hs.df.mono mall⟩⟩⟩
  unfold z6
  rw [u1]
  simp only [zka,ziH]
  have a:C.fn g (.yield (t.h.next + 1)::cs) ((t.h.push (.dfr false)).push (.loop .ready .norm t.tm ps aS bo t.h.next))=some (.ret u,h'):=a
  rw [a]
  simp only [znJ]
  rw [hg]
  simp only [zsk]
  all_goals (cases st <;> first | rfl | exact absurd rfl hst)
end Fv
end Go.Proofs.YtfomlmhnmheenaaGreat
namespace Go.Proofs.YtfomlmhnmheenaaGreat
open Go.RowKit
namespace Fv
open Tw
inductive CI (w:World):PV→Value→Prop
 | bool (b:Bool):CI w (.bool b) (.bool b)
 | int (k:IntKind) (n:Int):CI w (.int k n) (.int k n)
 | str (s:ByteArray):CI w (.str (s.data.toList.map (·.toNat))) (.string s)
 | nilsl (p z:Nat):CI w (.list p z []) (.slice none 0 0)
 | list {p z:Nat} {l:List PV} {r off c:Nat} {cs:List Value}:r < w.heap.size→l.length≤c→c≤maxLen→(∀ v∈l,v.cells.length=z)→(l.flatMap PV.cells).length=cs.length →
   (∀ (i:Nat) (x:PV) (y:Value),(l.flatMap PV.cells)[i]?=some x→cs[i]?=some y→CI w x y)→(∀ (j:Nat) v,cs[j]?=some v→w.cell? ⟨r,off + j,none⟩=some v)→(∀ x∈l.flatMap PV.cells,zae x=true)→CI w (.list p z l) (.slice (some ⟨r,off,none⟩) l.length c)
 | agg {l:List PV} {cs:List Value}:l.length=cs.length→(∀ (i:Nat) (x:PV) (y:Value),l[i]?=some x→cs[i]?=some y→CI w x y)→(∀ x∈l,zae x=true)→CI w (.agg l) (.agg cs.toArray)
def All (n:Nat):zdA:=fun _ b=>b < n
variable {P:Program} {w:World}
theorem zqL {S:zdA} {h:TH} {v:PV} {u:TV} (k:PR S h v u) (h1:zae v=true):u.one=true:=by
 cases k <;> first | rfl | cases h1
structure zdk (P:Program) (w:World) (ρ:Rho) (h:TH) (ρ':Rho) (h':TH):Prop where
 wr:WR P w.heap.size ρ' h' w
 more:∀ b g loc,ρ b g=some loc→ρ' b g=some loc
 le:h.next≤h'.next
 keep:∀ b,b < h.next→h'.get b=h.get b
theorem zdk.refl {ρ:Rho} {h:TH} (k:WR P w.heap.size ρ h w):zdk P w ρ h ρ h:=⟨k,fun _ _ _ h=>h,Nat.le_refl _,fun _ _=>rfl⟩
theorem zdk.trans {ρ ρ' ρ'':Rho} {h h' h'':TH} (a:zdk P w ρ h ρ' h') (b:zdk P w ρ' h' ρ'' h''):zdk P w ρ h ρ'' h'' :=
 ⟨b.wr,fun x g loc hx=>b.more _ _ _ (a.more _ _ _ hx),Nat.le_trans a.le b.le,fun x hx=>by rw [b.keep x (Nat.lt_of_lt_of_le hx a.le),a.keep x hx]⟩
theorem zdk.pr {ρ ρ':Rho} {h h':TH} (a:zdk P w ρ h ρ' h') {v:PV} {u:TV} (k:PR (All h.next) h v u):PR (All h'.next) h' v u :=
 k.mono (fun _ _ hb=>Nat.lt_of_lt_of_le hb a.le) fun _ _ _ _ _ _ _ hr=>zoA a.keep hr
theorem zgS {R:PV→Value→Prop} (hR:∀ x y,R x y→∀ ρ h,WR P w.heap.size ρ h w→∃ ρ' h' u,zdk P w ρ h ρ' h'∧PR (All h'.next) h' x u∧Tw.VR ρ' u y) :
  ∀ {l:List PV} {cs:List Value},l.length=cs.length→(∀ (i:Nat) (x:PV) (y:Value),l[i]?=some x→cs[i]?=some y→R x y)→∀ ρ h,WR P w.heap.size ρ h w→∃ ρ' h' us,zdk P w ρ h ρ' h'∧LR (PR (All h'.next) h') l us∧VL ρ' us cs
 | [],[],_,_,ρ,h,k=>⟨ρ,h,[],zdk.refl k,LR.nil,VL.nil _⟩
 | [],_::_,hl,_,_,_,_=>by simp at hl
 | _::_,[],hl,_,_,_,_=>by simp at hl
 | x::l,y::cs,hl,hp,ρ,h,k=>by
  obtain ⟨ρ1,h1,u,c1,p1,v1⟩:=hR x y (hp 0 x y rfl rfl) ρ h k
  obtain ⟨ρ2,h2,us,c2,p2,v2⟩:=zgS hR (l:=l) (cs:=cs) (by simpa using hl) (fun i a b ha hb=>hp (i + 1) a b (by simpa using ha) (by simpa using hb)) ρ1 h1 c1.wr
  exact ⟨ρ2,h2,u::us,c1.trans c2,LR.cons (c2.pr p1) p2,.cons (v1.mono c2.more) v2⟩
theorem zsS {ρ:Rho} {h:TH} (k:WR P w.heap.size ρ h w) {r L:Nat} (hr:r < w.heap.size) {cells:Tr TV} (hc:∀ i x,cells.get i=some x→∃ v,w.cell? ⟨r,i,none⟩=some v∧x.one=true∧Tw.VR ρ x v) :
  zdk P w ρ h (ρ.add h.next 0 ⟨r,L,0⟩) (h.push (.ro cells)):=by
 have hn:∀ g,ρ h.next g=none:=fun g=>by
  cases hg:ρ h.next g with
  | none=>rfl
  | some loc=>have:=(k.dom _ _ _ hg).1;omega
 have hm:=Rho.add_more (loc:=⟨r,L,0⟩) (hn 0)
 have k1:=k.push (.ro cells)
 refine ⟨⟨fun b g loc hl=>?_,fun b g loc hl=>?_,fun b b' g g' loc loc' hl hl' e hZ=>?_⟩,hm,by rw [TH.next_push];omega,fun b hb=>by rw [TH.get_push,if_neg (by omega)]⟩
 ·rcases Rho.add_inv hl with ⟨rfl,rfl,rfl⟩ | hl
  ·exact ⟨by rw [TH.next_push];omega,.inr ⟨cells,by rw [TH.get_push,if_pos rfl]⟩,hr⟩
  ·exact k1.dom b g loc hl
 ·by_cases hb:b=h.next
  ·subst hb
   refine ⟨.ro cells,by rw [TH.get_push,if_pos rfl],fun g' loc' hl'=>?_⟩
   rcases Rho.add_inv hl' with ⟨_,rfl,rfl⟩ | hl'
   ·refine ⟨rfl,fun i x hx=>?_⟩
    obtain ⟨v,v1,v2,v3⟩:=hc i x hx
    exact ⟨v,v1,v2,v3.mono hm⟩
   ·rw [hn] at hl';cases hl'
  ·have hl':ρ b g=some loc:=by rw [← hl,Rho.add_ne hb]
   obtain ⟨o,ho,hor⟩:=k1.obj b g loc hl'
   exact ⟨o,ho,hor.move hm (fun g=>Rho.add_ne hb g) fun _ _ _=>rfl⟩
 ·rcases Rho.add_inv hl with ⟨_,_,rfl⟩ | ha
  ·dsimp only at hZ;omega
  ·rcases Rho.add_inv hl' with ⟨_,_,rfl⟩ | ha'
   ·dsimp only at e;omega
   ·exact k.sep _ _ _ _ _ _ ha ha' e hZ
theorem CI.lay {v:PV} {v':Value} (a:CI w v v'):∀ ρ h,WR P w.heap.size ρ h w→∃ ρ' h' u,zdk P w ρ h ρ' h'∧PR (All h'.next) h' v u∧Tw.VR ρ' u v':=by
 induction a with
 | bool b=>intro ρ h k;exact ⟨ρ,h,_,zdk.refl k,.bool b,.bool b⟩
 | int kk n=>intro ρ h k;exact ⟨ρ,h,_,zdk.refl k,.int kk n,.int kk n⟩
 | str s=>intro ρ h k;exact ⟨ρ,h,_,zdk.refl k,.str _,.str s⟩
 | nilsl p z=>intro ρ h k;exact ⟨ρ,h,_,zdk.refl k,.listnil p z,.nilsl⟩
 | @list p z l r off c cs hr hlc hcm hz hlen _ hcell hone ih =>
  intro ρ h k
  obtain ⟨ρ1,h1,us,c1,p1,v1⟩:=zgS (R:=fun x y=>∀ ρ h,WR P w.heap.size ρ h w→∃ ρ' h' u,zdk P w ρ h ρ' h'∧PR (All h'.next) h' x u∧Tw.VR ρ' u y) (fun _ _ h=>h) hlen ih ρ h k
  have hul:us.length=l.length * z:=by rw [← p1.1,zjz hz]
  have hget:∀ i x,(Tr.putL .nil off us).get i=some x→∃ v,w.cell? ⟨r,i,none⟩=some v∧x.one=true∧Tw.VR ρ1 x v:=fun i x hx=>by
   rw [Tr.get_putL] at hx
   split at hx
   ·rename_i hi
    have hi2:i - off < cs.length:=by rw [← v1.1];omega
    have hi3:i - off < (l.flatMap PV.cells).length:=by rw [p1.1];omega
    refine ⟨cs[i - off],?_,?_,v1.2 _ _ _ hx (List.getElem?_eq_getElem hi2)⟩
    ·have:=hcell (i - off) _ (List.getElem?_eq_getElem hi2)
     rwa [show off + (i - off)=i by omega] at this
    ·exact zqL (p1.2 _ _ _ (List.getElem?_eq_getElem hi3) hx) (hone _ (List.getElem_mem hi3))
   ·rw [Tr.get_nil] at hx;cases hx
  have c2:=zsS c1.wr (L:=off + l.length * z) hr hget
  refine ⟨_,_,.sl h1.next 0 off l.length (2 * l.length + 1) z,c1.trans c2,?_,?_⟩
  ·have hrd:zaA (h1.push (.ro (Tr.putL .nil off us))) h1.next 0 off (l.length * z)=some us:=by
    refine zeB (x:=.ro (Tr.putL .nil off us)) (by rw [TH.get_push,if_pos rfl]) ?_
    unfold ze0
    dsimp only
    rw [zaR rfl,← hul]
    exact zgg fun j hj=>by rw [Tr.get_putL,if_pos (by omega)];congr 1;omega
   have p2:=p1.mono fun _ _=>c2.pr
   exact .list (show h1.next < (h1.push (.ro (Tr.putL .nil off us))).next by rw [TH.next_push];omega) hrd (by omega) hz p2.1 p2.2
  ·refine .sl (loc:=⟨r,off + l.length * z,0⟩) (Rho.add_same _ _ _ _) (by omega) (by omega) ?_ (.inl rfl) (fun h=>by omega) hcm
   have:(2 * l.length + 1) / 2=l.length:=by omega
   rw [this]
   exact Nat.le_refl _
 | @agg l cs hlen _ hone ih =>
  intro ρ h k
  obtain ⟨ρ1,h1,us,c1,p1,v1⟩:=zgS (R:=fun x y=>∀ ρ h,WR P w.heap.size ρ h w→∃ ρ' h' u,zdk P w ρ h ρ' h'∧PR (All h'.next) h' x u∧Tw.VR ρ' u y) (fun _ _ h=>h) hlen ih ρ h k
  refine ⟨ρ1,h1,.agg us,c1,.agg p1.1 p1.2,Tw.VR.aggL v1 fun x hx=>?_⟩
  obtain ⟨i,hi,rfl⟩:=List.mem_iff_getElem.1 hx
  have hi2:i < l.length:=by rw [p1.1];exact hi
  exact zqL (p1.2 _ _ _ (List.getElem?_eq_getElem hi2) (List.getElem?_eq_getElem hi)) (hone _ (List.getElem_mem hi2))
theorem zeF.EN {E:Env} (h:zeF P E) (N:Nat):zeF P (EN E N):=⟨h.mix,h.fn,h.spec,h.caught⟩
theorem FP.real {E:Env} (hE:zeF P E) {f:Nat} {args:List PV} {b:Bool} (k:FP E f args (.ret (.bool b))) {args':List Value} (hl:args.length=args'.length) (ha:∀ (i:Nat) (x:PV) (y:Value),args[i]?=some x→args'[i]?=some y→CI w x y) :
  (∀ w,(callFunc f args'.toArray).run P w=.ok (.enter f args'.toArray) w)∧CallsIn (Fr none) 0 P f args'.toArray w fun e w'=>e=.returned (.bool b)∧Below w.heap.size w w':=by
 obtain ⟨ρ,h,us,c1,p1,v1⟩:=zgS (R:=CI w) (fun x y a=>a.lay) hl ha _ _ (WR.start w)
 obtain ⟨r,h',⟨K,hK⟩,_,_,re⟩:=k (All h.next) h us (fun _ _ hb=>hb) p1
 cases r with
 | panic u=>exact re.elim
 | ret u =>
  have hu:u=.bool b:=by
   have re:PR _ h' (.bool b) u:=re
   cases re;rfl
  subst hu
  obtain ⟨q1,q2⟩:=(zhD (zeF.EN hE K) K).1 f us h _ h' (hK K (Nat.le_refl _) K (Nat.le_refl _)) w.heap.size ρ w args' c1.wr (Nat.le_refl _) v1
  refine ⟨q1,q2.mono ?_⟩
  rintro e w' ⟨ρ',_,_,hb,_,v',rfl,hv⟩
  cases hv
  exact ⟨rfl,hb⟩
theorem FP.calls {E:Env} (hE:zeF P E) {f:Nat} {args:List PV} {b:Bool} (k:FP E f args (.ret (.bool b))) {args':List Value} (hl:args.length=args'.length) (ha:∀ (i:Nat) (x:PV) (y:Value),args[i]?=some x→args'[i]?=some y→CI w x y) :
  Calls P f args'.toArray w fun e w'=>e=.returned (.bool b)∧Below w.heap.size w w':=callsIn_wide.1 (FP.real hE k hl ha).2
theorem zso {E:Env} {f:Nat} {g:List TV→TH→Option (TE × TH)} (hf:E.funcs.get f=none) (hg:E.spec f=some g) {args:List PV} {e:FE}
  (k:∀ S h us,(∀ p b,S p b→b < h.next)→LR (PR S h) args us→∃ r h',g us h=some (r,h')∧h.next≤h'.next∧(∀ b,b < h.next→h'.get b=h.get b)∧RE (PR (S0 S h.next h'.next) h') e r):FN E f args e:=fun S h us hS ha=>by
 obtain ⟨r,h',h1,h2⟩:=k S h us hS ha
 refine ⟨r,h',⟨1,fun N hN d hd=>?_⟩,h2⟩
 obtain ⟨d,rfl⟩:∃ i,d=i + 1:=⟨d - 1,by omega⟩
 show zaU (EN E N) (zcA (EN E N) d) f us h=_
 unfold zaU
 rw [show (EN E N).funcs.get f=none from hf]
 dsimp only
 rw [show (EN E N).spec f=some g from hg]
 exact h1
def zkO (us:List TV) (h:TH):Option (TE × TH):=match us with
 | []=>some (.ret (.bool true),h)
 | _=>none
theorem zsT {E:Env} {f:Nat} (hf:E.funcs.get f=none) (hg:E.spec f=some zkO):FN E f [] (.ret (.bool true)) :=
 zso hf hg fun S h us hS ha=>by
  obtain rfl:=ha.of_nil
  exact ⟨_,h,rfl,Nat.le_refl _,fun _ _=>rfl,.bool true⟩
theorem zsE {f:Nat} (henter:∀ w,(callFunc f #[]).run P w=.ok (.enter f #[]) w) (h:∀ w,CallsIn (Fr none) 0 P f #[] w fun e w'=>e=.returned (.bool true)∧Below w.heap.size w w') :
  ∀ (Z:Nat) (ρ:Rho) (w:World) (args:List TV) (args':List Value) (h:TH) (r:TE) (h':TH),zkO args h=some (r,h')→WR P Z ρ h w→Z≤w.heap.size→VL ρ args args' →
  (∀ w,(callFunc f args'.toArray).run P w=.ok (.enter f args'.toArray) w)∧CallsIn (Fr none) 0 P f args'.toArray w (zhz P Z ρ h h' w r):=by
 intro Z ρ w args args' hh r h' hr k hZ hv
 unfold zkO at hr
 split at hr
 ·obtain rfl:=hv.of_nil
  injection hr with hr;injection hr with hr1 hr2;subst hr1;subst hr2
  refine ⟨henter,(h w).mono ?_⟩
  rintro e w' ⟨rfl,hb⟩
  exact ⟨ρ,Rho.le.refl _ _,k.world hb.size fun r hr=>hb.block r hr,⟨hb.os,hb.tape,hb.output,hb.size,fun j hj=>hb.block j (Nat.lt_of_lt_of_le hj hZ)⟩,Nat.le_refl _,_,rfl,.bool true⟩
 ·cases hr
end Fv
end Go.Proofs.YtfomlmhnmheenaaGreat
namespace Go.Proofs.YtfomlmhnmheenaaGreat
namespace Fv
open Tw
section plain
variable (k k':IntKind) (x y:Int)
theorem zdB:Nat.beq (kno k) (kno k)=true:=zaR rfl
theorem za4:sc2 (zcu .add) [.int k x,.int k y]=some (.int k (k.wrap (x + y))):=by simp [sc2,PV.toT,zcu,zdV,zeC,zdB,ofT]
theorem zaZ:sc2 (zcu .sub) [.int k x,.int k y]=some (.int k (k.wrap (x - y))):=by simp [sc2,PV.toT,zcu,zdV,zeC,zdB,ofT]
theorem za9:sc2 (zcu .mul) [.int k x,.int k y]=some (.int k (k.wrap (x * y))):=by simp [sc2,PV.toT,zcu,zdV,zeC,zdB,ofT]
theorem zaM (h:y ≠ 0):sc2 (zcu .quo) [.int k x,.int k y]=some (.int k (k.wrap (x.tdiv y))):=by
 have:(y == 0)=false:=by simpa using h
 simp [sc2,PV.toT,zcu,zdV,zeC,zdB,ofT,zcg,this]
theorem zaH (h:y ≠ 0):sc2 (zcu .rem) [.int k x,.int k y]=some (.int k (x.tmod y)):=by
 have:(y == 0)=false:=by simpa using h
 simp [sc2,PV.toT,zcu,zdV,zeC,zdB,ofT,zcg,this]
theorem zaX:sc2 (zcu .eql) [.int k x,.int k y]=some (.bool (decide (x=y))):=by
 simp [sc2,PV.toT,zcu,zdV,zeC,zdB,ofT,zcg];rfl
theorem za5:sc2 (zcu .neq) [.int k x,.int k y]=some (.bool (!decide (x=y))):=by
 simp [sc2,PV.toT,zcu,zdV,zeC,zdB,ofT,zcg];rfl
theorem za7:sc2 (zcu .lss) [.int k x,.int k y]=some (.bool (decide (x < y))):=by
 simp [sc2,PV.toT,zcu,zdV,zeC,zdB,ofT,zdr]
 by_cases h:x < y
 ·simp [h]
 ·simp [h];omega
theorem za2:sc2 (zcu .leq) [.int k x,.int k y]=some (.bool (decide (x≤y))):=by
 simp [sc2,PV.toT,zcu,zdV,zeC,zdB,ofT,zdr]
theorem zaW:sc2 (zcu .gtr) [.int k x,.int k y]=some (.bool (decide (y < x))):=by
 simp [sc2,PV.toT,zcu,zdV,zeC,zdB,ofT,zdr]
 by_cases h:y < x
 ·simp [h]
 ·simp [h];omega
theorem za0:sc2 (zcu .geq) [.int k x,.int k y]=some (.bool (decide (y≤x))):=by
 simp [sc2,PV.toT,zcu,zdV,zeC,zdB,ofT,zdr]
theorem zaz:sc1 (ziR k) [.int k' x]=some (.int k (k.wrap x)):=by simp [sc1,PV.toT,ziR,ofT]
theorem zba (b:Bool):sc1 (pUn .not) [.bool b]=some (.bool (!b)):=by simp [sc1,PV.toT,pUn,zrk,ofT]
theorem zaY:sc1 (pUn .neg) [.int k x]=some (.int k (k.wrap (0 - x))):=by simp [sc1,PV.toT,pUn,zrK,ofT]
theorem za8 (a b:Bool):sc2 (zk5 false) [.bool a,.bool b]=some (.bool (a == b)):=by cases a <;> cases b <;> rfl
theorem za6 (a b:Bool):sc2 (zk5 true) [.bool a,.bool b]=some (.bool (!(a == b))):=by cases a <;> cases b <;> rfl
theorem za3:sc2 (zg8 true) [.int k x,.int k y]=some (.int k (max x y)):=by
 simp [sc2,PV.toT,zg8,zdB,ofT,zdr]
 by_cases h:y≤x
 ·simp [h];omega
 ·simp [h];omega
theorem za1:sc2 (zg8 false) [.int k x,.int k y]=some (.int k (min x y)):=by
 simp [sc2,PV.toT,zg8,zdB,ofT,zdr]
 by_cases h:x≤y
 ·simp [h];omega
 ·simp [h];omega
end plain
theorem zZ (tm:Nat→PV) {d t:Nat} (v:PV) (h:t ≠ d):upd tm d v t=tm t:=if_neg h
theorem zV (tm:Nat→PV) (df:List FD) (H:List zk) (d:Nat) (v:PV):FSt.put ⟨tm,df,H⟩ (some d) v=⟨upd tm d v,df,H⟩:=rfl
theorem zW (s:FSt) (v:PV):s.put none v=s:=rfl
theorem wrap_i64 {x:Int} (h1:-9223372036854775808≤x) (h2:x < 9223372036854775808):IntKind.i64.wrap x=x:=IntWalk.i64_in x (by omega)
theorem zQ {x:Int} (h1:0≤x) (h2:x < 18446744073709551616):IntKind.u64.wrap x=x:=IntWalk.u64_in x (by omega)
theorem zd {E:Env} {caught:Tr Unit} {rnd:Option Nat} {ops:List zM} {rest:zah} {s:FSt} {Q:FX→FSt→Prop} (k:W E caught rnd rest s Q):WO E caught [] s (zg ops (zf (fun s'=>W E caught rnd rest s' Q) Q)):=ze5 k
theorem zC {E:Env} {caught:Tr Unit} {ops:List zM} {s:FSt} {Q:FX→FSt→Prop} (k:Q .norm s):WO E caught [] s (zg ops Q):=ze5 k
theorem zy {E:Env} {F:zr} {R:FE→List zk→Prop} {tm:Nat→PV} {H:List zk} {vs:List PV} (h:zI tm H F.res=some vs) (k:R (.ret (zK vs)) H):zew E F R .ret ⟨tm,[],H⟩:=⟨vs,h,k⟩
theorem zrN {E:Env} {F:zr} {R:FE→List zk→Prop} {tm:Nat→PV} {H:List zk} {vs:List PV} (h:zI tm H F.res=some vs) (k:R (.ret (zK vs)) H):zew E F R .norm ⟨tm,[],H⟩:=⟨vs,h,k⟩
@[reducible] def iv (n:Int):PV:=.int .i64 n
@[reducible] def uv (n:Nat):PV:=.int .u64 n
theorem Lb.unit:Lb (.tuple []):=.tuple (fun x h=>by cases h)
def zaU:List zM→FSt→FSt × List zM
 | [],s=>(s,[])
 | o::l,s=>match zaE o s with
  | some s'=>zaU l s'
  | none=>(s,o::l)
theorem zb {E:Env} {caught:Tr Unit} {Q:FX→FSt→Prop} {s':FSt} {r:List zM}:∀ {ops:List zM} {s:FSt},zaU ops s=(s',r)→WO E caught r s' Q→WO E caught ops s Q
 | [],s,h,k=>by simp only [zaU] at h;injection h with h1 h2;subst h1;subst h2;exact k
 | o::l,s,h,k=>by
  simp only [zaU] at h
  split at h
  ·rename_i s1 h1;exact zsH h1 (zb h k)
  ·injection h with h1 h2;subst h1;subst h2;exact k
theorem zad {E:Env} {caught:Tr Unit} {rnd:Option Nat} {x:TOp} {id:Nat} {rest:zah} {s:FSt} {Q:FX→FSt→Prop} {b:Bool} (hx:ev s.tm x=some (.bool b)) (h1:b=true→W E caught rnd rest s Q) (h2:b=false→Q (.exit id) s):W E caught rnd (.seq (.cond x .skip (.exit id)) rest) s Q:=by
 refine zc (zD hx (fun h=>zR (h1 h)) fun h=>zkL (h2 h))
theorem zY {E:Env} {caught:Tr Unit} {rnd:Option Nat} {ops:List zM} {x:TOp} {id:Nat} {rest:zah} {s:FSt} {Q:FX→FSt→Prop} (h:W E caught rnd (.seq (.region ops) (.seq (.cond x .skip (.exit id)) rest)) s Q):W E caught rnd (.seq (.seq (.region ops) (.cond x .skip (.exit id))) rest) s Q:=fun B c t rnd' hs hn=>by
  obtain ⟨x',t',y,s',c',⟨K,hK⟩,h2⟩:=h B c t rnd' hs hn
  refine ⟨x',t',y,s',c',⟨K,fun N hN d hd=>?_⟩,h2⟩
  have:=hK N hN d hd
  rw [← this]
  simp only [z6]
  cases hr:zkB (zcR ops) (zdd (zcA (EN E N) d) caught ops t) with
  | none=>rfl
  | some r =>
    obtain ⟨x1,s1⟩:=r
    cases x1 <;> first
      | rfl
      | (dsimp only
         cases he:zdW s1.tm x with
         | none=>rfl
         | some v=>cases v <;> first | rfl | (rename_i b;cases b <;> rfl))
end Fv
end Go.Proofs.YtfomlmhnmheenaaGreat
namespace Go.Proofs.YtfomlmhnmheenaaGreat
namespace Fv
open Tw
variable {E:Env} {caught:Tr Unit} {rnd:Option Nat}
def Cx.lazy (c:Cx) (n:Nat):Cx:=⟨c.S,c.ρ,fun i=>c.L i∨i=n⟩
theorem HR.lazy {B:Ba} {c:Cx} {H:List zk} {h:TH} (k:HR B c H h) (e z:Nat):Mo c (c.lazy H.length) h h∧HR B (c.lazy H.length) (H++[.row e z 0 0 []]) h:=by
 have hn:c.ρ H.length=none:=by
  cases hc:c.ρ H.length with
  | none=>rfl
  | some y=>have:=(k.own _ _ hc).2.2;omega
 have m:Mo c (c.lazy H.length) h h:=⟨fun _ _ h=>h,fun _ _ h=>h,fun _ h=>.inl h,fun _ _ _ _ _ _ _ h=>h⟩
 refine ⟨m,⟨k.le,k.keep,k.old,k.S,fun id x hx=>?_,fun id hL=>?_,k.inj,fun id o ho=>?_⟩⟩
 ·obtain ⟨h1,h2,h3⟩:=k.own id x hx
  exact ⟨h1,h2,by simp;omega⟩
 ·rcases hL with hL | rfl
  ·obtain ⟨h1,h2⟩:=k.lz id hL
   exact ⟨by simp;omega,h2⟩
  ·exact ⟨by simp,fun x hx=>by have:c.ρ H.length=some x:=hx;rw [hn] at this;cases this⟩
 ·by_cases hi:id < H.length
  ·rw [List.getElem?_append_left hi] at ho
   exact (k.obj id o ho).move m rfl (fun h=>.inl h) fun _ _=>rfl
  ·rw [List.getElem?_append_right (by omega)] at ho
   have hi2:id - H.length=0:=by
    cases hd:id - H.length with
    | zero=>rfl
    | succ n=>rw [hd] at ho;simp at ho
   rw [hi2] at ho
   simp at ho
   subst ho
   obtain rfl:id=H.length:=by omega
   exact .inl ⟨rfl,rfl,hn,.inr rfl⟩
def lzy (H:List zk) (z:Nat):PV:=.sl H.length 0 0 0 0 z
theorem zev {code:zah} {s:FSt} {Q:FX→FSt→Prop} {i:Nat} (e z:Nat) (hi:s.tm i=.nilsl) (k:W E caught rnd code ⟨upd s.tm i (lzy s.H z),s.df,s.H++[.row e z 0 0 []]⟩ Q):W E caught rnd code s Q:=fun B c t rnd' hs hn=>by
 obtain ⟨m,hr⟩:=hs.hr.lazy e z
 have htm:tmR (c.lazy s.H.length) t.h (upd s.tm i (lzy s.H z)) t.tm:=fun j=>by
  unfold upd
  by_cases hj:j=i
  ·rw [if_pos hj]
   subst hj
   rcases hs.tm j with h1 | ⟨u,u1,u2⟩
   ·rw [hi] at h1;cases h1
   ·rw [hi] at u2
    obtain rfl:u=.nilsl:=by cases u2 with | pure u2=>cases u2;rfl
    exact .inr ⟨_,u1,.slnil _ (.inr rfl)⟩
  ·rw [if_neg hj]
   exact (hs.tm.mono m) j
 obtain ⟨x',t',x,s',c',e1,q1,hx,m1,k1⟩:=k B _ t rnd' ⟨hr,htm,hs.df.mono m⟩ (hn.mono m)
 exact ⟨x',t',x,s',c',e1,q1,hx,m.trans m1,k1⟩
theorem HR.lazyBox {B:Ba} {c:Cx} {H:List zk} {h:TH} (k:HR B c H h) (e z:Nat) {id e0 z0 G M:Nat} {v v':PV} (hH:H[id]?=some (.row e0 z0 G M [v]))
  (hl:v'.cells.length=v.cells.length) (hc:∀ (i:Nat) (x y:PV),v.cells[i]?=some x→v'.cells[i]?=some y→y=x∨(x=.nilsl∧y=lzy H z)) :
  Mo c (c.lazy H.length) h h∧HR B (c.lazy H.length) (H.set id (.row e0 z0 G M [v'])++[.row e z 0 0 []]) h:=by
 obtain ⟨m,hr⟩:=k.lazy e z
 have hid:id < H.length:=(List.getElem?_eq_some_iff.1 hH).1
 refine ⟨m,⟨hr.le,hr.keep,hr.old,hr.S,fun i x hx=>?_,fun i hL=>?_,hr.inj,fun i o ho=>?_⟩⟩
 ·have:=hr.own i x hx;simpa using this
 ·have:=hr.lz i hL;simpa using this
 ·by_cases hi:i=id
  ·subst hi
   rw [List.getElem?_append_left (by simpa using hid),List.getElem?_set_self hid] at ho
   injection ho with ho;subst ho
   have hob:=hr.obj i (.row e0 z0 G M [v]) (by rw [List.getElem?_append_left hid];exact hH)
   rcases hob with ⟨h1,_⟩ | ⟨b,d,G',M',cells,cs,h1,h2,h3,h4,h5,h6⟩
   ·cases h1
   ·refine .inr ⟨b,d,G',M',cells,cs,h1,h2,h3,h4,h5,ER.one' (by rw [hl];exact h6.one v (by simp)) ?_⟩
    have hall:LR (VR (c.lazy H.length) h) v.cells cs:=by have:=h6.all;simpa using this
    refine ⟨by rw [hl];exact hall.1,fun j x y hx hy=>?_⟩
    obtain ⟨x0,hx0⟩:∃ x0,v.cells[j]?=some x0:=⟨_,List.getElem?_eq_getElem (by rw [← hl];exact (List.getElem?_eq_some_iff.1 hx).1)⟩
    have hv:=hall.2 j x0 y hx0 hy
    rcases hc j x0 x hx0 hx with rfl | ⟨rfl,rfl⟩
    ·exact hv
    ·obtain rfl:y=.nilsl:=by cases hv with | pure hv=>cases hv;rfl
     exact .slnil _ (.inr rfl)
  ·refine hr.obj i o ?_
   rw [← ho]
   by_cases hi2:i < H.length
   ·rw [List.getElem?_append_left hi2,List.getElem?_append_left (by simpa using hi2),List.getElem?_set_ne (Ne.symm hi)]
   ·rw [List.getElem?_append_right (by omega),List.getElem?_append_right (by simp;omega),List.length_set]
theorem zgV {code:zah} {s:FSt} {Q:FX→FSt→Prop} (e z:Nat) {id e0 z0 G M:Nat} {v v':PV} (hH:s.H[id]?=some (.row e0 z0 G M [v]))
  (hl:v'.cells.length=v.cells.length) (hc:∀ (i:Nat) (x y:PV),v.cells[i]?=some x→v'.cells[i]?=some y→y=x∨(x=.nilsl∧y=lzy s.H z))
  (k:W E caught rnd code ⟨s.tm,s.df,s.H.set id (.row e0 z0 G M [v'])++[.row e z 0 0 []]⟩ Q):W E caught rnd code s Q:=fun B c t rnd' hs hn=>by
 obtain ⟨m,hr⟩:=hs.hr.lazyBox e z hH hl hc
 obtain ⟨x',t',x,s',c',e1,q1,hx,m1,k1⟩:=k B _ t rnd' ⟨hr,hs.tm.mono m,hs.df.mono m⟩ (hn.mono m)
 exact ⟨x',t',x,s',c',e1,q1,hx,m.trans m1,k1⟩
theorem zfc {code:zah} {s:FSt} {Q:FX→FSt→Prop} (e z:Nat) {id e0 z0 G M:Nat} (hH:s.H[id]?=some (.row e0 z0 G M [.nilsl]))
  (k:W E caught rnd code ⟨s.tm,s.df,s.H.set id (.row e0 z0 G M [lzy s.H z])++[.row e z 0 0 []]⟩ Q):W E caught rnd code s Q :=
 zgV (v:=.nilsl) (v':=lzy s.H z) e z hH rfl (fun i x y hx hy=>by
  cases i with
  | zero=>simp [PV.cells,lzy] at hx hy;subst hx;subst hy;exact .inr ⟨rfl,rfl⟩
  | succ i=>simp [PV.cells] at hx) k
theorem zF {α:Type} (G:List α) (x y:α):(G++[x]).set G.length y=G++[y]:=by
 rw [List.set_append_right _ _ (Nat.le_refl _)];simp
theorem ze {α:Type} (G:List α) (x:α):(G++[x])[G.length]?=some x:=by simp
theorem zbn {tm:Nat→PV} {s:DF} {Q:FX→DF→Prop} {g:zcj} {l:List zcj} {s1:DF} {o:zM} {f:Nat} {caps vs aS:List PV} {v:PV} {nm':Nat→PV} (hc:zbc s.K g.chk) (hx:zau tm g.exe s=some s1) (ha:g.act=some o) (hk:o.kind=.call) (hw:zaa tm s1.nm o.guard=some true) (hv:zbb tm s1.nm o.args=some (.fn f caps::vs))
  (k:FN E f aS (.ret v)) (hl:LF s1.H 1 (vs++caps) aS) (hn:zaT s1.nm o.dst v=some nm') (hQ:WD E caught tm l ⟨nm',s1.df,s1.H,s1.K⟩ Q):WD E caught tm (g::l) s Q :=
 zlf hc hx ha hk hw hv ((FN.FO k hl).mono fun e H' he=>by obtain ⟨rfl,rfl⟩:=he;exact ⟨nm',hn,hQ⟩)
theorem zc9 {tm:Nat→PV} {s:DF} {Q:FX→DF→Prop} {g:zcj} {l:List zcj} {s1:DF} {o:zM} {f:Nat} {caps vs aS:List PV} {v:PV} (hc:zbc s.K g.chk) (hx:zau tm g.exe s=some s1) (ha:g.act=some o) (hk:o.kind=.call) (hw:zaa tm s1.nm o.guard=some true) (hv:zbb tm s1.nm o.args=some (.fn f caps::vs))
  (k:FN E f aS (.panic v)) (hl:LF s1.H 1 (vs++caps) aS) (hQ:Q (.panic v) s1):WD E caught tm (g::l) s Q :=
 zlf hc hx ha hk hw hv ((FN.FO k hl).mono fun e H' he=>by obtain ⟨rfl,rfl⟩:=he;exact hQ)
end Fv
end Go.Proofs.YtfomlmhnmheenaaGreat
namespace Go.Proofs.YtfomlmhnmheenaaGreat
namespace Fv
open Tw
variable {E:Env}
inductive NR (n:Nat):PV→Prop
 | bool (b:Bool):NR n (.bool b)
 | int (k:IntKind) (m:Int):NR n (.int k m)
 | str (s:List Nat):NR n (.str s)
 | nilptr:NR n .nilptr
 | nilsl:NR n .nilsl
 | nilmap:NR n .nilmap
 | nilfn:NR n .nilfn
 | niliface:NR n .niliface
 | list (p z:Nat) (l:List PV):NR n (.list p z l)
 | elem (l:List PV):NR n (.elem l)
 | sl {id:Nat} (g o m q z:Nat):id < n→NR n (.sl id g o m q z)
 | ptr {id:Nat} (g i o m:Nat):id < n→NR n (.ptr id g i o m)
 | map {id:Nat}:id < n→NR n (.map id)
 | yield {id:Nat}:id < n→NR n (.yield id)
 | iface {t:Nat} {v:PV}:NR n v→NR n (.iface t v)
 | fn {f:Nat} {l:List PV}:(∀ x∈l,NR n x)→NR n (.fn f l)
 | agg {l:List PV}:(∀ x∈l,NR n x)→NR n (.agg l)
 | tuple {l:List PV}:(∀ x∈l,NR n x)→NR n (.tuple l)
def NRX (n:Nat):FX→Prop
 | .panic v=>NR n v
 | _=>True
def NRO (n:Nat):zk→Prop
 | .row _ _ _ _ l=>∀ x∈l.flatMap PV.cells,NR n x
 | .mapI _ m=>∀ x v,m x=some v→NR n v
 | .loop _ pe tm _ _ _ m=>m < n∧(∀ i,tm i=.bad∨NR n (tm i))∧NRX n pe
 | _=>True
def NRE (n:Nat):FE→Prop
 | .ret v=>NR n v
 | .panic v=>NR n v
def Cx.cut (c:Cx) (n:Nat):Cx:=⟨c.S,fun i=>if i < n then c.ρ i else none,fun i=>c.L i∧i < n⟩
section
variable {c:Cx} {h:TH} {n:Nat}
theorem zes {id:Nat} (hi:id < n) {x} (hx:c.ρ id=some x):(c.cut n).ρ id=some x:=by
 show (if id < n then c.ρ id else none)=_
 rw [if_pos hi];exact hx
theorem zhb {id:Nat} {x} (hx:(c.cut n).ρ id=some x):id < n∧c.ρ id=some x:=by
 have hx:(if id < n then c.ρ id else none)=some x:=hx
 split at hx
 ·exact ⟨by assumption,hx⟩
 ·cases hx
theorem VR.cut {v:PV} {u:TV} (k:VR c h v u):NR n v→VR (c.cut n) h v u:=by
 induction k with
 | pure k=>intro _;exact .pure k
 | sl hρ=>intro hn;cases hn with | sl _ _ _ _ _ hi=>exact .sl (zes hi hρ)
 | slnil z hL=>intro hn;cases hn with | sl _ _ _ _ _ hi=>exact .slnil z ⟨hL,hi⟩
 | ptr hρ=>intro hn;cases hn with | ptr _ _ _ _ hi=>exact .ptr (zes hi hρ)
 | map hρ=>intro hn;cases hn with | map hi=>exact .map (zes hi hρ)
 | yield hρ=>intro hn;cases hn with | yield hi=>exact .yield (zes hi hρ)
 | iface _ ih=>intro hn;cases hn with | iface hn=>exact .iface (ih hn)
 | fn h1 _ ih=>intro hn;cases hn with | fn hn=>exact .fn h1 fun i x y hx hy=>ih i x y hx hy (hn x (List.mem_of_getElem? hx))
 | agg h1 _ ih=>intro hn;cases hn with | agg hn=>exact .agg h1 fun i x y hx hy=>ih i x y hx hy (hn x (List.mem_of_getElem? hx))
 | tuple h1 _ ih=>intro hn;cases hn with | tuple hn=>exact .tuple h1 fun i x y hx hy=>ih i x y hx hy (hn x (List.mem_of_getElem? hx))
theorem PR.nr {S:zdA} {v:PV} {u:TV} (k:PR S h v u):NR n v:=by
 induction k with
 | bool b=>exact .bool b
 | int k n=>exact .int k n
 | str s=>exact .str s
 | nilptr=>exact .nilptr
 | nilsl=>exact .nilsl
 | nilmap=>exact .nilmap
 | nilfn=>exact .nilfn
 | niliface=>exact .niliface
 | iface _ ih=>exact .iface ih
 | listnil p z=>exact .list p z _
 | list _ _ _ _ _ _ _=>exact .list _ _ _
 | elem _ _ _ _ _=>exact .elem _
 | fn h1 _ ih =>
  refine .fn fun x hx=>?_
  obtain ⟨i,hi,rfl⟩:=List.mem_iff_getElem.1 hx
  exact ih i _ _ (List.getElem?_eq_getElem hi) (List.getElem?_eq_getElem (by rw [← h1];exact hi))
 | agg h1 _ ih =>
  refine .agg fun x hx=>?_
  obtain ⟨i,hi,rfl⟩:=List.mem_iff_getElem.1 hx
  exact ih i _ _ (List.getElem?_eq_getElem hi) (List.getElem?_eq_getElem (by rw [← h1];exact hi))
 | tuple h1 _ ih =>
  refine .tuple fun x hx=>?_
  obtain ⟨i,hi,rfl⟩:=List.mem_iff_getElem.1 hx
  exact ih i _ _ (List.getElem?_eq_getElem hi) (List.getElem?_eq_getElem (by rw [← h1];exact hi))
theorem VR.nr {B:Ba} {H:List zk} (k:HR B c H h) {v:PV} {u:TV} (x:VR c h v u):NR H.length v:=by
 induction x with
 | pure x=>exact x.nr
 | sl hρ=>exact .sl _ _ _ _ _ (k.own _ _ hρ).2.2
 | slnil z hL=>exact .sl _ _ _ _ _ (k.lz _ hL).1
 | ptr hρ=>exact .ptr _ _ _ _ (k.own _ _ hρ).2.2
 | map hρ=>exact .map (k.own _ _ hρ).2.2
 | yield hρ=>exact .yield (k.own _ _ hρ).2.2
 | iface _ ih=>exact .iface ih
 | fn h1 _ ih =>
  refine .fn fun x hx=>?_
  obtain ⟨i,hi,rfl⟩:=List.mem_iff_getElem.1 hx
  exact ih i _ _ (List.getElem?_eq_getElem hi) (List.getElem?_eq_getElem (by rw [← h1];exact hi))
 | agg h1 _ ih =>
  refine .agg fun x hx=>?_
  obtain ⟨i,hi,rfl⟩:=List.mem_iff_getElem.1 hx
  exact ih i _ _ (List.getElem?_eq_getElem hi) (List.getElem?_eq_getElem (by rw [← h1];exact hi))
 | tuple h1 _ ih =>
  refine .tuple fun x hx=>?_
  obtain ⟨i,hi,rfl⟩:=List.mem_iff_getElem.1 hx
  exact ih i _ _ (List.getElem?_eq_getElem hi) (List.getElem?_eq_getElem (by rw [← h1];exact hi))
theorem OR.nr {B:Ba} {H:List zk} (k:HR B c H h) {id:Nat} {o:zk} (hH:H[id]?=some o):NRO H.length o:=by
 have ho:=k.obj _ _ hH
 cases o with
 | row e z G M l =>
  rcases ho with ⟨rfl,_⟩ | ⟨b,d,G',M',cells,cs,_,_,_,_,_,h6⟩
  ·intro x hx;simp at hx
  ·intro x hx
   obtain ⟨i,hi,rfl⟩:=List.mem_iff_getElem.1 hx
   exact (h6.all.2 i _ _ (List.getElem?_eq_getElem hi) (List.getElem?_eq_getElem (by rw [← h6.all.1];exact hi))).nr k
 | mapI kk m =>
  obtain ⟨b,d,z,es,clock,_,_,h3⟩:=ho
  intro x v hx
  obtain ⟨u,_,u2⟩:=h3.some x v hx
  exact u2.nr k
 | loop st pe tm ps aS bo m =>
  obtain ⟨b,d,z,bm,dm,zm,t,pe',_,h2,_,h4,h5⟩:=ho
  refine ⟨(k.own _ _ h2).2.2,fun i=>?_,?_⟩
  ·rcases h4 i with h4 | ⟨u,_,u2⟩
   ·exact .inl h4
   ·exact .inr (u2.nr k)
  ·cases h5 with
   | panic hv=>exact hv.nr k
   | _=>trivial
 | _=>trivial
theorem OR.cut {id:Nat} (hi:id < n) {o:zk} (ho:OR c h id o) (hn:NRO n o):OR (c.cut n) h id o:=by
 cases o with
 | row e z G M l =>
  rcases ho with ⟨h1,h2,h3,h4⟩ | ⟨b,d,G',M',cells,cs,h1,h2,h3,h4,h5,h6⟩
  ·exact .inl ⟨h1,h2,by show (if id < n then c.ρ id else none)=none;rw [h3];simp,h4,hi⟩
  ·exact .inr ⟨b,d,G',M',cells,cs,zes hi h1,h2,h3,h4,h5,h6.one,h6.all.1,fun i x y hx hy=>(h6.all.2 i x y hx hy).cut (hn x (List.mem_of_getElem? hx))⟩
 | map0=>obtain ⟨b,d,z,clock,h1,h2⟩:=ho;exact ⟨b,d,z,clock,zes hi h1,h2⟩
 | mapI kk m =>
  obtain ⟨b,d,z,es,clock,h1,h2,h3⟩:=ho
  exact ⟨b,d,z,es,clock,zes hi h1,h2,h3.keys,fun x v hx=>by obtain ⟨u,u1,u2⟩:=h3.some x v hx;exact ⟨u,u1,u2.cut (hn x v hx)⟩,h3.none⟩
 | dfr shut=>obtain ⟨b,d,z,h1,h2⟩:=ho;exact ⟨b,d,z,zes hi h1,h2⟩
 | loop st pe tm ps aS bo m =>
  obtain ⟨b,d,z,bm,dm,zm,t,pe',h1,h2,h3,h4,h5⟩:=ho
  refine ⟨b,d,z,bm,dm,zm,t,pe',zes hi h1,zes hn.1 h2,h3,fun i=>?_,?_⟩
  ·rcases h4 i with h4 | ⟨u,u1,u2⟩
   ·exact .inl h4
   ·rcases hn.2.1 i with hb | hb
    ·exact .inl hb
    ·exact .inr ⟨u,u1,u2.cut hb⟩
  ·cases h5 with
   | norm=>exact .norm
   | exit id=>exact .exit id
   | goto l=>exact .goto l
   | ret=>exact .ret
   | panic hv=>exact .panic (hv.cut hn.2.2)
 | void=>trivial
theorem HR.cut {B:Ba} {H G:List zk} (k:HR B c (H++G) h) (hn:∀ (id:Nat) (o:zk),H[id]?=some o→NRO H.length o):HR B (c.cut H.length) H h :=
 ⟨k.le,k.keep,k.old,fun p b hb=>⟨(k.S p b hb).1,fun id x hx=>(k.S p b hb).2 id x (zhb hx).2⟩,fun id x hx=>by
  obtain ⟨h1,h2⟩:=zhb hx
  obtain ⟨a1,a2,_⟩:=k.own id x h2
  exact ⟨a1,a2,h1⟩,fun id hL=>⟨hL.2,fun x hx=>(k.lz id hL.1).2 x (zhb hx).2⟩,fun id id' x x' hx hx'=>k.inj _ _ _ _ (zhb hx).2 (zhb hx').2,fun id o ho=>by
  have hi:=(List.getElem?_eq_some_iff.1 ho).1
  exact (k.obj id o (by rw [List.getElem?_append_left hi];exact ho)).cut hi (hn id o ho)⟩
theorem Mo.cut {c':Cx} {h':TH} (m:Mo c c' h h') (hρ:∀ id x,c.ρ id=some x→id < n) (hL:∀ id,c.L id→id < n):Mo c (c'.cut n) h h' :=
 ⟨m.S,fun id x hx=>zes (hρ _ _ hx) (m.ρ _ _ hx),fun id hx=>⟨m.L _ hx,hL _ hx⟩,m.rd⟩
end
def zg2 (H:List zk) (H' H'' G:List zk):Prop:=H'=H''++G∧H''.length=H.length∧∀ (id:Nat) (o:zk),H''[id]?=some o→H[id]?=some o∨NRO H.length o
theorem zg2.cut {B B':Ba} {c c':Cx} {H H' H'' G:List zk} {h h':TH} (k:zg2 H H' H'' G) (hr:HR B c H h) (hr':HR B' c' H' h') (m:Mo c c' h h'):Mo c (c'.cut H.length) h h'∧HR B' (c'.cut H.length) H'' h':=by
 obtain ⟨rfl,hl,hk⟩:=k
 refine ⟨m.cut (fun id x hx=>(hr.own _ _ hx).2.2) (fun id hL=>(hr.lz _ hL).1),?_⟩
 have:=hr'.cut (H:=H'') fun id o ho=>by
  rw [hl]
  rcases hk id o ho with h1 | h1
  ·exact OR.nr hr h1
  ·exact h1
 rwa [hl] at this
theorem FO.gc {f:Nat} {args:List PV} {H:List zk} {b:Bool} {Q:FE→List zk→Prop} (k:FO E f args H b fun e H'=>∃ H'' G,zg2 H H' H'' G∧NRE H.length e∧Q e H''):FO E f args H b Q:=fun B c h us hr ha=>by
 obtain ⟨r,h',e,H',c',e1,⟨H'',G,hk,hn,hQ⟩,m1,k1,re,hs⟩:=k B c h us hr ha
 obtain ⟨m2,k2⟩:=hk.cut hr k1 m1
 refine ⟨r,h',e,H'',_,e1,hQ,m2,k2,?_,hs⟩
 cases e <;> cases r <;> first | exact re.elim | exact VR.cut re hn
theorem FY.gc {id:Nat} {args:List PV} {H:List zk} {Q:Bool→List zk→Prop} (k:FY E id args H fun r H'=>∃ H'' G,zg2 H H' H'' G∧Q r H''):FY E id args H Q:=fun B c h us b d z hr hρ ha=>by
 obtain ⟨r,h',H',c',e1,⟨H'',G,hk,hQ⟩,m1,k1⟩:=k B c h us b d z hr hρ ha
 obtain ⟨m2,k2⟩:=hk.cut hr k1 m1
 exact ⟨r,h',H'',_,e1,hQ,m2,k2⟩
theorem FY.mono {id:Nat} {args:List PV} {H:List zk} {Q Q':Bool→List zk→Prop} (k:FY E id args H Q) (hQ:∀ r H,Q r H→Q' r H):FY E id args H Q':=fun B c h us b d z hr hρ ha=>by
 obtain ⟨r,h',H',c',e1,q,k2⟩:=k B c h us b d z hr hρ ha
 exact ⟨r,h',H',c',e1,hQ _ _ q,k2⟩
theorem zd3 {n:Nat} {tm:Nat→PV} {d:Nat} {v:PV} (h:∀ i,tm i=.bad∨NR n (tm i)) (hv:NR n v):∀ i,upd tm d v i=.bad∨NR n (upd tm d v i):=fun i=>by
 unfold upd
 by_cases e:i=d
 ·rw [if_pos e];exact .inr hv
 ·rw [if_neg e];exact h i
theorem zk7 {n:Nat} {l:List PV} (h:∀ v∈l,NR n v):∀ i,zB l i=.bad∨NR n (zB l i):=fun i=>by
 unfold zB
 cases hi:l[i]? with
 | none=>exact .inl rfl
 | some v=>exact .inr (h v (List.mem_of_getElem? hi))
theorem zL {α:Type} (G:List α) (x y:α):(G++[x]++[y])[G.length]?=some x:=by
 rw [List.append_assoc,List.getElem?_append_right (Nat.le_refl _)];simp
def znr:List PV→Prop
 | []=>True
 | x::l=>Id0 x∧znr l
theorem znr.all:∀ {l:List PV},znr l→∀ x∈l,Id0 x
 | x::l,h,y,hy=>by
  rcases List.mem_cons.1 hy with rfl | hy
  ·exact h.1
  ·exact znr.all h.2 y hy
theorem zch {caught:Tr Unit} {d:Option Nat} {args:List TOp} {g:Option (TOp × Bool)} {ops:List zM} {s:FSt} {Q:FX→FSt→Prop} {f:Nat} {caps vs aS:List PV} {v:PV}
  (hg:z7 s.tm g=some true) (ha:evs s.tm args=some (.fn f caps::vs)) (k:FP E f aS (.ret v)) (he:vs++caps=aS) (hl:znr aS) (hQ:WO E caught ops (s.put d v) Q):WO E caught (⟨d,.call,args,g⟩::ops) s Q :=
 zhy hg ha ((FP.FO (he ▸ k) (he ▸ hl).all).mono fun e H' he=>by obtain ⟨rfl,rfl⟩:=he;exact hQ)
theorem Id0.frz {H:List zk} {lab:Nat} {v:PV} (h:Id0 v):Frz H lab v v:=by
 induction h with
 | bool b=>exact .bool b
 | int k n=>exact .int k n
 | str s=>exact .str s
 | nilptr=>exact .nilptr
 | nilsl=>exact .nilsl
 | nilmap=>exact .nilmap
 | nilfn=>exact .nilfn
 | niliface=>exact .niliface
 | list p z l=>exact .list p z l
 | elem l=>exact .elem l
 | iface _ ih=>exact .iface ih
 | fn _ ih=>exact .fn rfl fun i x y hx hy=>by rw [hx] at hy;injection hy with hy;subst hy;exact ih x (List.mem_of_getElem? hx)
 | agg _ ih=>exact .agg rfl fun i x y hx hy=>by rw [hx] at hy;injection hy with hy;subst hy;exact ih x (List.mem_of_getElem? hx)
 | tuple _ ih=>exact .tuple rfl fun i x y hx hy=>by rw [hx] at hy;injection hy with hy;subst hy;exact ih x (List.mem_of_getElem? hx)
theorem Frz.whole {H:List zk} {lab id e z z' G o n q:Nat} {l:List PV} (hH:H[id]?=some (.row e z' G 0 l)) (ho:o=0) (hl:n=l.length) (hq:2 * l.length≤q) (hz:∀ v∈l,v.cells.length=z) (hs:∀ v∈l.flatMap PV.cells,Id0 v) :
  Frz H lab (.sl id G o n q z) (.list lab z l):=by
 subst ho hl
 refine .sl hH (Nat.zero_le _) (Nat.le_refl _) (by omega) hq rfl hz (by simp) fun i x y hx hy=>?_
 have:x=y:=by
  simp at hx
  rw [hx] at hy;injection hy
 subst this
 exact (hs _ (List.mem_of_getElem? hy)).frz
theorem zn {H:List zk} {lab id e z n:Nat} {cs:List PV} (hH:H[id]?=some (.row e z 0 0 [.agg cs])) (hn:n=cs.length) (hc:∀ v∈cs,Id0 v):Frz H lab (.ptr id 0 0 0 n) (.elem cs):=by
 refine .ptr (w:=.agg cs) ?_ (by simp [PV.cells,hn]) hn fun j x y hx hy=>?_
 ·simp [zbf,hH]
 ·have:x=y:=by
   simp [PV.cells,hn] at hx
   rw [hx] at hy;injection hy
  subst this
  exact (hc _ (List.mem_of_getElem? hy)).frz
theorem zli {l:List Nat}:∀ v∈(l.map uv).flatMap PV.cells,Id0 v:=fun v hv=>by
 obtain ⟨x,hx,hv⟩:=List.mem_flatMap.1 hv
 obtain ⟨n,_,rfl⟩:=List.mem_map.1 hx
 simp [PV.cells] at hv;subst hv;exact .int _ _
theorem zoM {l:List Int}:∀ v∈(l.map iv).flatMap PV.cells,Id0 v:=fun v hv=>by
 obtain ⟨x,hx,hv⟩:=List.mem_flatMap.1 hv
 obtain ⟨n,_,rfl⟩:=List.mem_map.1 hx
 simp [PV.cells] at hv;subst hv;exact .int _ _
theorem zjO {F:zr} {R:FE→List zk→Prop} {tm:Nat→PV} {H:List zk} {vs:List PV} {id:Nat} (hm:H[id]?=some (.dfr false)) (h:zI tm (H.set id (.dfr true)) F.res=some vs) (k:R (.ret (zK vs)) (H.set id (.dfr true))):zew E F R .ret ⟨tm,[.mark id],H⟩:=⟨hm,vs,h,k⟩
theorem Id0.nr {n:Nat} {v:PV} (h:Id0 v):NR n v:=by
 induction h with
 | bool b=>exact .bool b
 | int k n=>exact .int k n
 | str s=>exact .str s
 | nilptr=>exact .nilptr
 | nilsl=>exact .nilsl
 | nilmap=>exact .nilmap
 | nilfn=>exact .nilfn
 | niliface=>exact .niliface
 | list p z l=>exact .list p z l
 | elem l=>exact .elem l
 | iface _ ih=>exact .iface ih
 | fn _ ih=>exact .fn ih
 | agg _ ih=>exact .agg ih
 | tuple _ ih=>exact .tuple ih
theorem zkR {n e z G M:Nat} {l:List PV} (h:∀ v∈l.flatMap PV.cells,Id0 v):NRO n (.row e z G M l):=fun x hx=>(h x hx).nr
theorem NR.mono {n m:Nat} (hm:n≤m) {v:PV} (h:NR n v):NR m v:=by
 induction h with
 | bool b=>exact .bool b
 | int k n=>exact .int k n
 | str s=>exact .str s
 | nilptr=>exact .nilptr
 | nilsl=>exact .nilsl
 | nilmap=>exact .nilmap
 | nilfn=>exact .nilfn
 | niliface=>exact .niliface
 | list p z l=>exact .list p z l
 | elem l=>exact .elem l
 | sl g o m q z h=>exact .sl g o m q z (by omega)
 | ptr g i o m h=>exact .ptr g i o m (by omega)
 | map h=>exact .map (by omega)
 | yield h=>exact .yield (by omega)
 | iface _ ih=>exact .iface ih
 | fn _ ih=>exact .fn ih
 | agg _ ih=>exact .agg ih
 | tuple _ ih=>exact .tuple ih
theorem zpx {A A' C G:List zk} (hl:A'.length=A.length) (h:∀ (id:Nat) (o:zk),A'[id]?=some o→NRO A.length o) (hm:∀ (n m:Nat) (o:zk),n≤m→NRO n o→NRO m o):zg2 (A++C) (A'++C++G) (A'++C) G:=by
 refine ⟨rfl,by simp [hl],fun id o ho=>?_⟩
 by_cases hi:id < A'.length
 ·rw [List.getElem?_append_left hi] at ho
  exact .inr (hm _ _ _ (by simp) (h id o ho))
 ·rw [List.getElem?_append_right (by omega),hl] at ho
  exact .inl (by rw [List.getElem?_append_right (by omega)];exact ho)
theorem NRO.mono {n m:Nat} (hm:n≤m) {o:zk} (h:NRO n o):NRO m o:=by
 cases o with
 | row e z G M l=>exact fun x hx=>NR.mono hm (h x hx)
 | mapI k f=>exact fun x v hx=>NR.mono hm (h x v hx)
 | loop st pe tm ps aS bo q =>
  refine ⟨by have:=h.1;omega,fun i=>?_,?_⟩
  ·rcases h.2.1 i with h | h
   ·exact .inl h
   ·exact .inr (h.mono hm)
  ·have:=h.2.2
   cases pe <;> first | trivial | exact NR.mono hm this
 | _=>trivial
theorem zg2.front {A A' C G:List zk} (hl:A'.length=A.length) (h:∀ (id:Nat) (o:zk),A'[id]?=some o→NRO A.length o):zg2 (A++C) (A'++C++G) (A'++C) G:=zpx hl h fun _ _ _ h k=>k.mono h
theorem zb4 (n m:Nat):(n + 1 == m + 1)=(n == m):=by simp
theorem zb3 (n:Nat):(n + 1 == 0)=false:=by simp
theorem zbJ (n:Nat):(0 == n + 1)=false:=by simp
theorem zlR {caught:Tr Unit} {tm:Nat→PV} {s:DF} {Q:FX→DF→Prop} {g:zcj} {l:List zcj} {s1:DF} {o:zM} {f:Nat} {caps vs aS:List PV} {same:Bool} {H0:List zk} {R:FE→List zk→Prop} (hc:zbc s.K g.chk) (hx:zau tm g.exe s=some s1) (ha:g.act=some o) (hk:o.kind=.call) (hw:zaa tm s1.nm o.guard=some true) (hv:zbb tm s1.nm o.args=some (.fn f caps::vs))
  (k:FO E f aS H0 same R) (he:vs++caps=aS) (hH:s1.H=H0) (hQ:∀ e H',R e H'→ztE E caught tm l s1 o.dst same Q e H'):WD E caught tm (g::l) s Q:=by
 subst he hH
 exact zlf hc hx ha hk hw hv (k.mono hQ)
theorem zit {caught:Tr Unit} {d:Option Nat} {args:List TOp} {g:Option (TOp × Bool)} {ops:List zM} {s:FSt} {Q:FX→FSt→Prop} {f:Nat} {caps vs aS:List PV} {b:Bool} {H0:List zk} {R:FE→List zk→Prop}
  (hg:z7 s.tm g=some true) (ha:evs s.tm args=some (.fn f caps::vs)) (k:FO E f aS H0 b R) (he:vs++caps=aS) (hH:s.H=H0) (hQ:∀ e H',R e H'→zs9 E caught ops s d Q e H'):WO E caught (⟨d,.call,args,g⟩::ops) s Q:=by
 subst he hH
 exact zhy hg ha (k.mono hQ)
end Fv
end Go.Proofs.YtfomlmhnmheenaaGreat
