/- part 2 of the proof of dir_from. -/
import Derived.Test.YtkeknmgnoceogaaGreatDG1
import Derived.ScopeJumps
import Derived.LoopNIn
import Derived.WalkKit
import Derived.WalkSpells
import Derived.WalkLawsBesides
import Derived.Lib.Hide
import Derived.Maps.AppendAt
import Derived.Maps.OwnOps
import Derived.Maps.Views
import Derived.Deep.AppendLies
import Derived.Deep.Draws
import Derived.Deep.RegionHeld3
import Derived.Deep.QuietTactic
import Derived.BigQuiet
import Derived.Deep.RegionWith
import Derived.Test.YtkeknmgnoceogaaGreatProg
import Derived.Laws.MakeOwn
import Derived.Laws.OwnMore
import Derived.RangeFuncNested
import Derived.RangeFuncBound
import Derived.RangeFuncCalls
import Derived.RangeFuncLeaves
import Derived.Shelf.RegionOpen
import Derived.OwnWalkIn
import Derived.TacticsInMore
import Derived.LoopIn
import Derived.Scope
import Derived.Shelf.Abstract
import Derived.OrdersHeld
import Derived.OrdersIn
import Derived.Maps.OwnIn
import Derived.RangeFuncOwn
import Derived.WalkArith
import Derived.Laws.CopyOwn
import Derived.Lib.AppendZerosOnto
import Derived.Lib.Overlaps
import Derived.Laws.Externs
import Derived.Shelf.RegionOpenPlain
import Derived.Lib.JoinLaws
import Derived.Lib.SliceRun
import Derived.Shelf.SortM.Plain
import Derived.KernelRfl
import Derived.Sort.OwnSortedInts
set_option linter.unusedSimpArgs false
set_option linter.unusedVariables false
namespace Go.Proofs.YtkeknmgnoceogaaGreat
open Go.RowKit
namespace Tw
variable {P:Program}{ρ ρ':Rho}{Z:Nat}{h h':TH}{w:World}
theorem zht {f:TV->TV->Bool}(hf:∀a b,f a b=true->a=b):∀{l m:List TV},zkS f l m=true->l=m
 | [],[],_=>rfl
 | a::l,b::m,h=>by
  simp only[zkS]at h
  cases hab:f a b
  ·grind
  ·rw[hab]at h;rw[hf a b hab,zht hf h]
 | [],_::_,h=>by cases h
 | _::_,[],h=>by cases h
theorem zhP {b:TV}{n:Nat}(h:Nat.beq (zfI b) n=true):zfI b=n:=zAF9 h
theorem bnd {a b:Bool}(h:(bif a then b else false)=true):a=true/\b=true:=by cases a<;>simp_all
theorem TV.beq_sound:∀(n:Nat) (a b:TV),TV.beq n a b=true->a=b
 | 0,_,_,h=>by cases h
 | n+1,a,b,h=>by
  have ih:=TV.beq_sound n
  cases a with
  | bool x =>
   cases b<;>simp only[TV.beq,zsQ]at h<;>try cases h
   rename_i y
   cases x<;>cases y<;>simp_all
  | int k x =>
   cases b<;>simp only[TV.beq,zrw]at h<;>try cases h
   obtain⟨h1,h2⟩:=bnd h;rw[zcX]at h2;rw[zhE h1,eq_of_beq h2]
  | str s =>
   cases b<;>simp only[TV.beq,zvh]at h<;>try cases h
   rw[zgS]at h;rw[eq_of_beq h]
  | ptr c g o e =>
   cases b<;>simp only[TV.beq,zm4]at h<;>try cases h
   obtain⟨h1,h⟩:=bnd h;obtain⟨h2,h⟩:=bnd h;obtain⟨h3,h⟩:=bnd h;rw[zAF9 h1,zAF9 h2,zAF9 h3,zAF9 h]
  | sl c g o m q z =>
   cases b<;>simp only[TV.beq,zqd]at h<;>try cases h
   obtain⟨h1,h⟩:=bnd h;obtain⟨h2,h⟩:=bnd h;obtain⟨h3,h⟩:=bnd h;obtain⟨h4,h⟩:=bnd h;obtain⟨h5,h⟩:=bnd h;rw[zAF9 h1,zAF9 h2,zAF9 h3,zAF9 h4,zAF9 h5,zAF9 h]
  | map c =>
   cases b<;>simp only[TV.beq,zvt]at h<;>try cases h
   rw[zAF9 h]
  | yield c =>
   cases b<;>simp only[TV.beq,zq0]at h<;>try cases h
   rw[zAF9 h]
  | fn f l =>
   cases b<;>simp only[TV.beq,ztV]at h<;>try cases h
   obtain⟨h1,h⟩:=bnd h;rw[zAF9 h1,zht ih h]
  | iface t v =>
   cases b<;>simp only[TV.beq,zl6]at h<;>try cases h
   obtain⟨h1,h⟩:=bnd h;rw[zAF9 h1,ih _ _ h]
  | agg l =>
   cases b<;>simp only[TV.beq,zvn]at h<;>try cases h
   rw[zht ih h]
  | tuple l =>
   cases b<;>simp only[TV.beq,zqV]at h<;>try cases h
   rw[zht ih h]
  | nilptr=>have:=zhP (by simpa only[TV.beq]using h);cases b<;>simp[zfI]at this;rfl
  | nilsl=>have:=zhP (by simpa only[TV.beq]using h);cases b<;>simp[zfI]at this;rfl
  | nilmap=>have:=zhP (by simpa only[TV.beq]using h);cases b<;>simp[zfI]at this;rfl
  | nilfn=>have:=zhP (by simpa only[TV.beq]using h);cases b<;>simp[zfI]at this;rfl
  | niliface=>have:=zhP (by simpa only[TV.beq]using h);cases b<;>simp[zfI]at this;rfl
theorem zlx:∀{n i:Nat} {a b:Tr TV},zll i n a b=true->∀j,i<=j->j<i+n->∃x,a.get j=some x/\b.get j=some x
 | 0,i,a,b,_,j,h1,h2=>by omega
 | n+1,i,a,b,h,j,h1,h2=>by
  unfold zll at h
  split at h
  ·rename_i x y hx hy;obtain⟨e1,e2⟩:=bnd h;have e:=TV.beq_sound _ _ _ e1
   by_cases hj:j=i
   ·grind
   ·exact zlx e2 j zo zo
  ·cases h
def OEq (a b:TO):Prop:=(∀cs,a ≠ .ro cs)/\∀(P:Program) (ρ:Rho) (c:Nat) (w:World),OR P ρ c w a->OR P ρ c w b
theorem OEq.refl (a:TO)(hn:∀cs,a ≠ .ro cs):OEq a a:=⟨hn,fun _ _ _ _ h=>h⟩
theorem ztA {a b:TO}(h:zoW a b=true):OEq a b:=by
 unfold zoW at h
 split at h
 ·rename_i e G M n c e' G' M' n' c';obtain⟨h1,hA⟩:=bnd h;obtain⟨h2,hB⟩:=bnd hA;obtain⟨h3,hC⟩:=bnd hB;obtain⟨h4,hD⟩:=bnd hC;have e1:=zAF9 h1;have e2:=zAF9 h2;have e3:=zAF9 h3;have e4:=zAF9 h4;subst e1;subst e2;subst e3;subst e4;refine⟨fun cs h=>(by cases h),?_⟩;intro P ρ b w k;refine⟨k.1,k.2.1,fun g g1 g2=>?_⟩;obtain⟨loc,cur,r1,r2,r3,r4,r5,r6,r7⟩:=k.2.2 g g1 g2;refine⟨loc,cur,r1,r2,r3,r4,r5,r6,fun i hi=>?_⟩;obtain⟨x,v,c1,c2,c3,c4⟩:=r7 i hi;obtain⟨y,y1,y2⟩:=zlx hD i (zAL9 _) zo
  grind
 ·rename_i c c';have e:=zAF9 h;subst e;exact .refl _ (fun cs h=>by cases h)
 ·cases h
theorem zw1 {k:zZ}{vs:List TV}{b:Nat}{x:zdy}(hx:lay k vs b=some x):∀cs,x.o ≠ .ro cs:=by
 have h1:∀(e:Nat) (l:List TV) cs,zcd e l ≠ .ro cs:=fun e l cs h=>by cases h
 intro cs h
 cases k<;>simp only[lay]at hx<;>try cases hx
 case box e n =>
  unfold zoi at hx
  split at hx
  ·obtain⟨_,hx⟩:=zi hx;injection hx with hx;subst hx;cases h
  ·cases hx
 case alloc e z =>
  unfold zkx at hx
  split at hx
  ·injection hx with hx;subst hx;cases h
  ·cases hx
 case bslice e esz len z p =>
  unfold zhG at hx;obtain⟨_,hx⟩:=zi hx
  split at hx
  ·injection hx with hx;subst hx;cases h
  ·cases hx
 case mkslice e esz by_ z =>
  unfold zgH at hx
  split at hx
  ·split at hx
   ·obtain⟨_,hx⟩:=zi hx;obtain⟨_,hx⟩:=zi hx;obtain⟨_,hx⟩:=zi hx;injection hx with hx;subst hx;cases h
   ·cases hx
  ·cases hx
 case mkmap =>
  unfold zkI at hx
  split at hx
  ·injection hx with hx;subst hx;cases h
  ·injection hx with hx;subst hx;cases h
  ·cases hx
 case tobytes e =>
  unfold zgR at hx
  split at hx
  ·obtain⟨_,hx⟩:=zi hx;injection hx with hx;subst hx;cases h
  ·cases hx
theorem zuP {k:zZ}{vs:List TV}{b:Nat}{x:zdy}(hx:lay k vs b=some x):zeo x.v=some b:=by
 cases k<;>simp only[lay]at hx<;>try cases hx
 case box e n =>
  unfold zoi at hx
  split at hx
  ·obtain⟨_,hx⟩:=zi hx;injection hx with hx;subst hx;rfl
  ·cases hx
 case alloc e z =>
  unfold zkx at hx
  split at hx
  ·injection hx with hx;subst hx;rfl
  ·cases hx
 case bslice e n l z p =>
  unfold zhG at hx;obtain⟨_,hx⟩:=zi hx
  split at hx
  ·injection hx with hx;subst hx;rfl
  ·cases hx
 case mkslice e n b z =>
  unfold zgH at hx
  split at hx
  ·split at hx
   ·obtain⟨_,hx⟩:=zi hx;obtain⟨_,hx⟩:=zi hx;obtain⟨_,hx⟩:=zi hx;injection hx with hx;subst hx;rfl
   ·cases hx
  ·cases hx
 case mkmap =>
  unfold zkI at hx
  split at hx
  ·injection hx with hx;subst hx;rfl
  ·injection hx with hx;subst hx;rfl
  ·cases hx
 case tobytes e =>
  unfold zgR at hx
  split at hx
  ·obtain⟨_,hx⟩:=zi hx;injection hx with hx;subst hx;rfl
  ·cases hx
def TH.sub (h h':TH):Prop:=∀b o,h.get b=some o->h'.get b=some o
theorem TH.sub.refl (h:TH):h.sub h:=fun _ _ k=>k
theorem TH.sub.trans {h1 h2 h3:TH}(k:h1.sub h2)(l:h2.sub h3):h1.sub h3:=fun b o hb=>l b o (k b o hb)
theorem TH.sub_push (h:TH)(o:TO):h.sub (h.push o):=fun b x hb=>by rw[TH.get_push,if_neg (by have:=TH.get_lt hb;omega)];exact hb
theorem zkw (k:h.sub h'){b g o n:Nat}{l:List TV}(hl:zbL h b g o n=some l):zbL h' b g o n=some l:=by
 unfold zbL at hl⊢
 split at hl
 ·rename_i x hx;rw[k _ _ hx];exact hl
 ·cases hl
theorem zjX {vs:List TV}{f g:TV->Option TV}(hfg:∀x v,f x=some v->g x=some v){v:TV}(hv:zce vs f=some v):zce vs g=some v:=by
 unfold zce at *
 grind
theorem ztz {vs:List TV}{f g:TV->TV->Option TV}(hfg:∀x y v,f x y=some v->g x y=some v){v:TV}(hv:zcv vs f=some v):zcv vs g=some v:=by
 unfold zcv at *
 grind
theorem zxf (k:h.sub h'){kd:zZ}{vs:List TV}{v:TV}(hv:pas kd vs h=some v):pas kd vs h'=some v:=by
 cases kd<;>first|exact hv|skip
 case load agg n =>
  refine zjX (fun x v hv=>?_) hv;unfold zgn at hv⊢
  split at hv
  ·obtain⟨h1,hv⟩:=zi hv
   split at hv
   ·rename_i l hl;rw[h1,zkw k hl];exact hv
   ·cases hv
  ·cases hv
 case tostr =>
  refine zjX (fun x v hv=>?_) hv;unfold zgr at hv⊢
  split at hv
  ·exact hv
  ·split at hv
   ·rename_i l hl;rw[zkw k hl];exact hv
   ·cases hv
  ·cases hv
 case look kf z ok =>
  refine ztz (fun x y v hv=>?_) hv;unfold zhu at hv⊢;obtain⟨h1,hv⟩:=zi hv;rw[h1];simp only[cond_true]
  split at hv
  ·exact hv
  ·split at hv
   ·rename_i o ho;rw[k _ _ ho];exact hv
   ·cases hv
  ·cases hv
 case len f =>
  refine zjX (fun x v hv=>?_) hv;unfold zou at hv⊢
  split at hv
  ·exact hv
  ·unfold zud at hv⊢
   split at hv
   ·exact hv
   ·split at hv
    ·rename_i o ho;rw[k _ _ ho];exact hv
    ·cases hv
   ·cases hv
  ·exact hv
  ·cases hv
def Tr.sub (a b:Tr TV):Prop:=∀t v,a.get t=some v->b.get t=some v
theorem Tr.sub.refl (a:Tr TV):a.sub a:=fun _ _ k=>k
theorem Tr.sub.trans {a b c:Tr TV}(k:a.sub b)(l:b.sub c):a.sub c:=fun t v h=>l t v (k t v h)
theorem zhB {nm nm':Tr TV}{d:Option Nat}{v:TV}(hd:zgx nm d v=some nm'):nm.sub nm'/\(∀t,d=some t->nm.get t=none/\nm'.get t=some v)/\∀t,d≠some t->nm'.get t=nm.get t:=by
 unfold zgx at hd
 split at hd
 ·injection hd with hd;subst hd;exact⟨.refl _,fun t h=>(by cases h),fun t _=>rfl⟩
 ·rename_i d
  split at hd
  ·rename_i hn;injection hd with hd;subst hd;refine⟨fun t u hu=>?_,fun t h=>?_,fun t h=>?_⟩
   ·rw[Tr.get_set]
    grind
   ·injection h with h;subst h;exact⟨hn,by rw[Tr.get_set,if_pos rfl]⟩
   ·rw[Tr.get_set,if_neg (fun e=>h (by rw[e]))]
  ·cases hd
theorem zhC {df:List TD}{h:TH}{x:Option (Tr TV)}{s:DS}(hd:dput df h x=some s):∃nm,x=some nm/\s=⟨nm,df,h⟩:=by
 cases x with
 | none=>cases hd
 | some nm=>simp only[dput]at hd;injection hd with hd;exact⟨nm,rfl,hd.symm⟩
theorem znp {tm nm nm':Tr TV}(k:nm.sub nm'){x:TOp}{v:TV}(hv:zgk tm nm x=some v):zgk tm nm' x=some v:=by
 cases x<;>first|exact hv|exact k _ _ hv
theorem zed {tm nm nm':Tr TV}(k:nm.sub nm'):∀{xs:List TOp} {vs:List TV},zdF tm nm xs=some vs->zdF tm nm' xs=some vs
 | [],vs,hv=>hv
 | x::xs,vs,hv=>by
  unfold zdF at hv⊢
  split at hv
  ·cases hv
  ·rename_i v h1
   split at hv
   ·cases hv
   ·rename_i us h2;rw[znp k h1,zed k h2];exact hv
theorem zfh {tm nm nm':Tr TV}(k:nm.sub nm'){g:Option (TOp×Bool)}{b:Bool}(hv:zev tm nm g=some b):zev tm nm' g=some b:=by
 unfold zev at hv⊢
 split at hv
 ·exact hv
 ·rename_i x c
  cases hx:zgk tm nm x with
  | none=>rw[hx]at hv;cases hv
  | some v=>rw[hx]at hv;rw[znp k hx];exact hv
theorem znk (f:Nat->Option TV):∀(l:List Nat),∃tx:Tr TV,(∀t∈l,tx.get t=f t)/\∀t v,tx.get t=some v->t∈l/\f t=some v
 | []=>⟨.nil,fun t h=>by simp at h,fun t v h=>by simp[Tr.get_nil]at h⟩
 | t::l=>by
  obtain⟨tx,h1,h2⟩:=znk f l;refine⟨tx.set t (f t),fun u hu=>?_,fun u v hu=>?_⟩
  ·rw[Tr.get_set]
   grind
  ·rw[Tr.get_set]at hu
   grind
noncomputable def zmr (all:List Item)(x:Item)(tm nm:Tr TV)(t:Nat):Option TV:=zgk tm nm (zma all x (.tmp t))
theorem zlz {all:List Item}{x:Item}{tm nm tx:Tr TV}{y:TOp}(hy:zh4 y=true)(ht:∀t,zqh y=some t->tx.get t=zmr all x tm nm t):zfl tx y=zgk tm nm (zma all x y):=by
 cases y with
 | tmp t=>exact ht t rfl
 | new t=>cases hy
 | const v=>rfl
 | fn f=>rfl
theorem zlC {all:List Item}{x:Item}{tm nm tx:Tr TV}:∀{ys:List TOp},ys.all zh4=true->(∀y∈ys,∀t,zqh y=some t->tx.get t=zmr all x tm nm t)->zd8 tx ys=zdF tm nm (ys.map (zma all x))
 | [],_,_=>rfl
 | y::ys,hy,ht=>by
  simp only[List.all_cons,zAW9]at hy;simp only[zd8,zdF,zBZ9];rw[zlz hy.1 (ht y zAV9),zlC hy.2 fun z hz=>ht z (zAO9 _ hz)]
theorem ztN {all:List Item}{x:Item}{tm nm tx:Tr TV}{g:Option (TOp×Bool)}(hy:∀p b,g=some (p,b)->zh4 p=true)(ht:∀p b t,g=some (p,b)->zqh p=some t->tx.get t=zmr all x tm nm t):zmf tx g=zev tm nm (g.map fun p=>(zma all x p.1,p.2)):=by
 cases g with
 | none=>rfl
 | some p =>
  obtain⟨p,b⟩:=p;simp only[zmf,zev,Option.map_some];rw[zlz (hy p b rfl) fun t h=>ht p b t rfl h]
theorem WR.set_none (k:WR P Z ρ h w){b:Nat}(hn:∀g,ρ b g=none)(x:TO):WR P Z ρ (h.set b x) w :=
 ⟨fun c g loc hl=>by
  obtain⟨a1,a2,a3⟩:=k.dom c g loc hl;have hcb:c≠b:=fun e=>by rw[e,hn g]at hl;cases hl
  refine⟨a1,a2.imp id fun⟨cs,h1⟩=>⟨cs,?_⟩,a3⟩;unfold TH.get TH.set at *
  dsimp only at *
  rw[Tr.get_set,if_neg hcb];exact h1,fun c g loc hl=>by
  obtain⟨o,ho,hr⟩:=k.obj c g loc hl;have hcb:c≠b:=fun e=>by rw[e,hn g]at hl;cases hl
  refine⟨o,?_,hr⟩;unfold TH.get TH.set at *
  dsimp only at *
  rw[Tr.get_set,if_neg hcb];exact ho,k.sep⟩
theorem WR.unset {b:Nat}{x y:TO}(k:WR P Z ρ (h.set b x) w)(hy:h.get b=some y)(he:OEq x y):WR P Z ρ h w :=
 ⟨fun c g loc hl=>by
  obtain⟨a1,a2,a3⟩:=k.dom c g loc hl;refine⟨a1,a2.imp id fun⟨cs,h1⟩=>?_,a3⟩;rw[TH.get_set _ _ _ _ (TH.get_lt hy)]at h1
  split at h1
  ·rename_i e;subst e;injection h1 with h1;exact absurd h1 (he.1 cs)
  ·exact⟨cs,h1⟩,fun c g loc hl=>by
  obtain⟨o,ho,hr⟩:=k.obj c g loc hl;rw[TH.get_set _ _ _ _ (TH.get_lt hy)]at ho
  split at ho
  ·rename_i e;subst e;injection ho with ho;subst ho;exact⟨y,hy,he.2 _ _ _ _ hr⟩
  ·exact⟨o,ho,hr⟩,k.sep⟩
theorem zpE (f:Nat->Nat):∀(l:List Edge) (s j:Nat),(l.foldl (fun s e=>if Region.binds .any e then Nat.lor (Nat.lor s (2 ^ e.on)) (f e.on)else s) s).testBit j=true↔s.testBit j=true\/∃e∈l,Region.binds .any e=true/\(j=e.on\/(f e.on).testBit j=true)
 | [],s,j=>by simp
 | e::l,s,j=>by
  rw[zEZ9,zpE f l]
  by_cases hb:Region.binds .any e=true
  ·rw[if_pos hb];have:(Nat.lor (Nat.lor s (2 ^ e.on)) (f e.on)).testBit j=(s.testBit j||decide (e.on=j)||(f e.on).testBit j):=by
    change ((s ||| 2 ^ e.on) ||| f e.on).testBit j=_
    grind
   grind
  grind
theorem zhZ:∀{l:List Oper} {i:Nat},zlp l i=true->∀k o,l[k]?=some o->∀e∈o.after,Region.binds .any e=true->e.on<i+k
 | [],i,_,k,o,h,_,_,_=>by simp at h
 | o::l,i,hb,k,o',h,e,he,hbd=>by
  simp only[zlp,zAW9]at hb
  cases k with
  | zero =>
   simp at h;subst h;have:=Array.all_eq_true_iff_forall_mem.1 hb.1 e he;simp[hbd]at this;simpa using this
  | succ k =>
   have:=zhZ hb.2 k o' (by simpa using h) e he hbd;omega
theorem zo5:∀(l:List Oper) (acc:List Nat),zlp l acc.length=true->(zcM l acc).length=acc.length+l.length/\(∀i,i<acc.length->(zcM l acc).getD i 0=acc.reverse.getD i 0) /\
  ∀k o,l[k]?=some o->∀j,((zcM l acc).getD (acc.length+k) 0).testBit j=true↔∃e∈o.after.toList,Region.binds .any e=true/\(j=e.on\/((zcM l acc).getD e.on 0).testBit j=true)
 | [],acc,_=>⟨by simp[zcM],fun i _=>rfl,fun k o h=>by simp at h⟩
 | o::l,acc,hb=>by
  have hb':=hb;simp only[zlp,zAW9]at hb;have hrec:zcM (o::l) acc=zcM l (o.after.toList.foldl (fun s e=>if Region.binds .any e then Nat.lor (Nat.lor s (2 ^ e.on)) (acc.reverse.getD e.on 0)else s) 0::acc):=rfl;generalize hm:o.after.toList.foldl (fun s e=>if Region.binds .any e then Nat.lor (Nat.lor s (2 ^ e.on)) (acc.reverse.getD e.on 0)else s) 0=m at hrec;obtain⟨h1,h2,h3⟩:=zo5 l (m::acc) (by simpa using hb.2);rw[hrec];simp only[zAG9]at h1 h2 h3;have hold:∀i,i<acc.length->(zcM l (m::acc)).getD i 0=acc.reverse.getD i 0:=fun i hi=>by grind
  refine⟨by simp only[zAG9];omega,hold,fun k o' ho j=>?_⟩
  cases k with
  | zero =>
   simp at ho;subst ho;have hself:(zcM l (m::acc)).getD (acc.length+0) 0=m:=by simp_all
   rw[hself];have key:=zpE (fun i=>acc.reverse.getD i 0) o.after.toList 0 j;rw[hm]at key;refine key.trans ?_;simp only[Nat.zero_testBit,zCD9,false_or]
   constructor
   ·rintro ⟨e,a1,a2,a3⟩;have:=zhZ hb' 0 o rfl e (by simpa using a1) a2;exact⟨e,a1,a2,by rw[hold _ zo];exact a3⟩
   ·rintro ⟨e,a1,a2,a3⟩;have:=zhZ hb' 0 o rfl e (by simpa using a1) a2;exact⟨e,a1,a2,by rw[hold _ zo]at a3;exact a3⟩
  | succ k =>
   have:=h3 k o' (by simpa using ho) j;rw[show acc.length+(k+1)=acc.length+1+k by omega];exact this
theorem zmA:∀(os:List zbo) (ms:List Nat) (i:Nat),os.length=ms.length->∀k x,(zgi os ms i)[k]?=some x↔(x.i=i+k/\os[k]?=some x.o/\ms[k]?=some x.m)
 | [],[],i,_,k,x=>by simp[zgi]
 | o::os,m::ms,i,hl,k,x=>by
  simp only[zgi]
  cases k with
  | zero =>
   simp only[zGC9,Option.some.injEq]
   constructor
   ·rintro rfl;exact⟨rfl,rfl,rfl⟩
   ·rintro ⟨a,b,c⟩;cases x;simp_all
  | succ k =>
   simp only[zBL9];rw[zmA os ms (i+1) (by simpa using hl) k x]
   constructor
   ·rintro ⟨a,b⟩;exact⟨by omega,b⟩
   ·rintro ⟨a,b⟩;exact⟨by omega,b⟩
 | [],_::_,i,hl,_,_=>by simp at hl
 | _::_,[],i,hl,_,_=>by simp at hl
structure Reg (P:Program)(N:Nat)(ops:Array Oper)(all acts:List Item):Prop where
 item:∀i o,ops[i]?=some o->∃x∈all,x.i=i
 op:∀x∈all,∃o,ops[x.i]?=some o/\OpR P N ops o x.o
 uniq:∀x∈all,∀y∈all,x.i=y.i->x=y
 back:∀x∈all,∀o,ops[x.i]?=some o->∀e∈o.after,Region.binds .any e=true->e.on<x.i
 bits:∀x∈all,∀o,ops[x.i]?=some o->∀j,x.m.testBit j=true↔∃e∈o.after,Region.binds .any e=true/\(j=e.on\/∃y∈all,y.i=e.on/\y.m.testBit j=true)
 ac:acts=all.filter fun x=>x.o.kind.cls==2
 row:zkT acts=true
 tmps:zli all=true
theorem Reg.lt {N:Nat}{ops:Array Oper}{all acts:List Item}(R:Reg P N ops all acts){x:Item}(hx:x∈all):x.i<ops.size:=by
 obtain⟨o,ho,_⟩:=R.op x hx
 grind
theorem zvx {N:Nat}{ops:Array Oper}{os:List zbo}(hos:zcZ (zk0 P N ops) ops.toList=some os){c:zbI}(hc:znl ops.toList os=some c) :
  ∃all acts,Reg P N ops all acts/\c=.drawn (zeM all acts 0 acts) (all.filterMap fun x=>x.o.dst):=by
 unfold znl at hc;dsimp only at hc
 split at hc
 ·rename_i hcond;injection hc with hc;simp only[zAW9]at hcond;obtain⟨⟨h1,h2⟩,h3⟩:=hcond;obtain⟨m1,m2⟩:=zi3 hos;obtain⟨r1,_,r3⟩:=zo5 ops.toList [] h1;simp only[zAH9,zBN9]at r1 r3;have hlen:os.length=(zcM ops.toList []).length:=by rw[r1,m1]
  have get:=zmA os (zcM ops.toList []) 0 hlen;have mem:∀x,x∈zgi os (zcM ops.toList []) 0↔os[x.i]?=some x.o/\(zcM ops.toList [])[x.i]?=some x.m:=fun x=>by
   rw[zFJ9]
   simp_all
  have ex:∀i,i<ops.size->∃x∈zgi os (zcM ops.toList []) 0,x.i=i/\x.m=(zcM ops.toList []).getD i 0:=fun i hi=>by
   have h1:i<os.length:=by rw[m1];simpa using hi
   have h2:i<(zcM ops.toList []).length:=by rw[<- hlen];exact h1
   exact⟨⟨i,os[i],(zcM ops.toList [])[i]⟩,(mem _).2 ⟨zAA9 h1,zAA9 h2⟩,rfl,by simp[zAP9,zAA9 h2]⟩
  have md:∀x∈zgi os (zcM ops.toList []) 0,x.m=(zcM ops.toList []).getD x.i 0:=fun x hx=>by grind
  refine⟨zgi os (zcM ops.toList []) 0,_,⟨fun i o ho=>?_,fun x hx=>?_,fun x hx y hy e=>?_,fun x hx o ho e he hb=>?_,fun x hx o ho j=>?_,rfl,h2,h3⟩,hc.symm⟩
  ·grind
  ·obtain⟨a,b⟩:=(mem x).1 hx;have hi:x.i<ops.size:=by have:=(zAC9.1 a).1;rw[m1]at this;simpa using this
   exact⟨ops[x.i],zBW9 hi,zri (m2 x.i ops[x.i] x.o (by simp[hi]) a)⟩
  ·obtain⟨a,b⟩:=(mem x).1 hx;obtain⟨c,d⟩:=(mem y).1 hy;rw[e,c]at a;rw[e,d]at b;injection a with a;injection b with b;obtain⟨xi,xo,xm⟩:=x;obtain⟨yi,yo,ym⟩:=y
   simp_all
  ·have:=zhZ h1 x.i o (by simpa using ho) e he hb;omega
  ·rw[md x hx,r3 x.i o (by simpa using ho) j]
   constructor
   ·rintro ⟨e,a1,a2,a3⟩;have a1':e∈o.after:=by simpa using a1
    refine⟨e,a1',a2,?_⟩;rcases a3 with a3|a3
    ·omega
    ·have hlt:=zhZ h1 x.i o (by simpa using ho) e a1' a2;have hx':=(zBT9.1 ho).1;obtain⟨y,hy,e1,e2⟩:=ex e.on zo
     grind
   grind
 ·cases hc
def zha (all:List Item)(D:Array Bool):Prop:=∀x∈all,D.getD x.i true=true->∀j,x.m.testBit j=true->D.getD j true=true
theorem zyt {D:Array Bool}{i:Nat}(h:D.getD i false=true):D.getD i true=true:=by grind
theorem zuk {N:Nat}{ops:Array Oper}{all acts:List Item}(R:Reg P N ops all acts){D:Array Bool}(hc:zha all D){x:Item}(hx:x∈all)(hr:x.i∈Region.ready .any ops D):D.getD x.i true=false/\∀j,x.m.testBit j=true->D.getD j true=true:=by
 obtain⟨h0,o,ho,hall⟩:=mem_ready.1 hr;refine⟨h0,fun j hj=>?_⟩;obtain⟨e,he,hb,hor⟩:=(R.bits x hx o ho j).1 hj;rcases hor with rfl|⟨y,hy,e1,hyj⟩
 ·grind
 ·exact hc y hy (by rw[e1];exact zyt (hall e he hb)) j hyj
theorem zpI {N:Nat}{ops:Array Oper}{all acts:List Item}(R:Reg P N ops all acts){D:Array Bool}(hs:D.size=ops.size)(hr:Region.ready .any ops D=[]):∀i,i<ops.size->D.getD i true=true:=by
 intro i
 induction i using Nat.strongRecOn with
 | _ i ih =>
  intro hi
  cases hd:D.getD i true with
  | true=>rfl
  | false =>
   exfalso
   obtain⟨x,hx,e⟩:=R.item i ops[i] (zBW9 hi);have:i∈Region.ready .any ops D:=mem_ready.2 ⟨hd,ops[i],zBW9 hi,fun ed hed hb=>by
    have hlt:=R.back x hx ops[i] (by rw[e];exact zBW9 hi) ed hed hb;rw[e]at hlt;have h1:=ih ed.on hlt zo;simp only[zDA9]at *
    rw[zBW9 zo]at *
    exact h1⟩
   rw[hr]at this
   cases this
theorem zdQ (D:Array Bool)(i j:Nat)(hi:i<D.size):(D.setIfInBounds i true).getD j true=if j=i then true else D.getD j true:=by
 simp only[zDA9]
 grind
theorem zha.set {all:List Item}{D:Array Bool}(hc:zha all D){N:Nat}{ops:Array Oper}{acts:List Item}(R:Reg P N ops all acts){x:Item}(hx:x∈all)(hi:x.i<D.size)(hm:∀j,x.m.testBit j=true->D.getD j true=true):zha all (D.setIfInBounds x.i true):=by
 intro y hy hd j hj;rw[zdQ _ _ _ hi]at hd⊢
 split
 ·rfl
 ·split at hd
  ·rename_i e;rw[R.uniq y hy x hx e]at hj;exact hm j hj
  ·exact hc y hy hd j hj
theorem ziw {D:Array Bool}{i:Nat}(h:D.getD i true=false):0<D.toList.count false/\i<D.size:=by
 simp only[zDA9]at h
 cases hD:D[i]? with
 | none=>rw[hD]at h;cases h
 | some b =>
  rw[hD]at h;simp only[Option.getD_some]at h;subst h;have:=zBT9.1 hD;obtain⟨h1,h2⟩:=this;exact⟨List.count_pos_iff.2 (by rw[<- h2];exact Array.getElem_mem_toList h1),h1⟩
theorem zvZ {D:Array Bool}{i:Nat}(h:D.getD i true=false):(D.setIfInBounds i true).toList.count false+1=D.toList.count false:=by
 obtain⟨hp,hi⟩:=ziw h;have hx:D[i]=false:=by simpa[zDA9,zBW9 hi]using h
 grind
theorem zj8:∀{l:List Item} {a x:Item},zkT (a::l)=true->x∈l->∃p∈a::l,x.m.testBit p.i=true
 | [],a,x,_,hx=>by simp at hx
 | b::l,a,x,hr,hx=>by
  simp only[zkT,zAW9]at hr;rcases zBA9.1 hx with rfl|hx
  ·grind
  ·obtain⟨p,hp,e⟩:=zj8 hr.2 hx
   grind
theorem zkG:∀(pre:List Item) {l:List Item},zkT (pre++l)=true->zkT l=true
 | [],l,h=>h
 | a::pre,l,h=>by
  refine zkG pre ?_
  cases hp:pre++l with
  | nil=>rfl
  | cons b m =>
   rw[zAR9,hp]at h;simp only[zkT,zAW9]at h;exact h.2
theorem zsW {pre l:List Item}{x:Item}(h:∀a∈l,x.m.testBit a.i=false):zfM (pre++l) x<=pre.length:=by
 unfold zfM;rw[List.filter_append,zAB9];have:l.filter (fun a=>x.m.testBit a.i)=[]:=List.filter_eq_nil_iff.2 fun a ha=>by rw[h a ha];simp
 grind
theorem zu3 {all:List Item}(h:zli all=true){x:Item}(hx:x∈all)(h2:x.o.kind.cls≠2):∃d,x.o.dst=some d:=by
 have:=zCB9.1 h x hx
 grind
theorem zrb {all:List Item}(h:zli all=true){x y:Item}(hx:x∈all)(hy:y∈all)(hne:y.i≠x.i){d:Nat}(hd:x.o.dst=some d):y.o.dst≠some d:=by
 have:=zCB9.1 h x hx
 grind
theorem zqy {all:List Item}(h:zli all=true){x:Item}(hx:x∈all):x.o.args.all zh4=true/\∀p b,x.o.guard=some (p,b)->zh4 p=true:=by
 have:=zCB9.1 h x hx
 grind
theorem zst {all:List Item}(h:zli all=true){x y:Item}(hx:x∈all)(hy:y∈all){t:Nat}(ht:t∈zj5 x.o)(hd:y.o.dst=some t):x.m.testBit y.i=true\/y.m.testBit x.i=true:=by
 have:=zCB9.1 h x hx
 grind
structure zjW (all:List Item)(D:Array Bool)(ρ:Rho)(tm nm:Tr TV)(tmps:Array Value):Prop where
 old:∀t v,tm.get t=some v->(∀y∈all,D.getD y.i true=true->y.o.dst≠some t)->∃v',tmps[t]?=some v'/\VR ρ v v'
 new:∀y∈all,D.getD y.i true=true->∀d,y.o.dst=some d->∃v v',nm.get d=some v/\tmps[d]?=some v'/\VR ρ v v'
theorem zjW.look {N:Nat}{ops:Array Oper}{all acts:List Item}(R:Reg P N ops all acts){D:Array Bool}(hc:zha all D){tm nm:Tr TV}{tmps:Array Value}(k:zjW all D ρ tm nm tmps){x:Item}(hx:x∈all)(hu:D.getD x.i true=false)(hm:∀j,x.m.testBit j=true->D.getD j true=true) :
  ∃tx,TmR ρ tx tmps/\zd8 tx x.o.args=zdF tm nm (zc7 all x).args/\zmf tx x.o.guard=zev tm nm (zc7 all x).guard:=by
 obtain⟨tx,h1,h2⟩:=znk (zmr all x tm nm) (zj5 x.o);obtain⟨n1,n2⟩:=zqy R.tmps hx;refine⟨tx,fun t v hv=>?_,zlC n1 fun y hy t ht=>h1 t ?_,ztN n2 fun p b t hg ht=>h1 t ?_⟩
 ·obtain⟨ht,hs⟩:=h2 t v hv;simp only[zmr,zma]at hs
  split at hs
  ·rename_i hany;obtain⟨y,hy,hyt⟩:=List.any_eq_true.1 hany;simp only[zAW9,beq_iff_eq]at hyt;obtain⟨v1,v',a1,a2,a3⟩:=k.new y hy (hm _ hyt.2) t hyt.1;simp only[zgk]at hs
   grind
  ·rename_i hany;refine k.old t v hs fun y hy hd hdst=>?_;rcases zst R.tmps hx hy ht hdst with e|e
   ·grind
   ·have:=hc y hy hd _ e
    grind
 ·unfold zj5
  grind
 ·unfold zj5
  grind
theorem zjW.step {N:Nat}{ops:Array Oper}{all acts:List Item}(R:Reg P N ops all acts){D:Array Bool}{tm nm nm':Tr TV}{a:Act}(k:zjW all D ρ tm nm a.tmps)(hρ:∀b g loc,ρ b g=some loc->ρ' b g=some loc)(hnm:nm.sub nm'){x:Item}(hx:x∈all)(hi:x.i<D.size){v':Value}
  (hv:∀d,x.o.dst=some d->d<a.tmps.size/\∃v,nm'.get d=some v/\VR ρ' v v'):zjW all (D.setIfInBounds x.i true) ρ' tm nm' (a.put x.o.dst v').tmps:=by
 have put:∀t,x.o.dst≠some t->(a.put x.o.dst v').tmps[t]?=a.tmps[t]?:=fun t ht=>by
  cases hd:x.o.dst with
  | none=>rfl
  | some d =>
   simp only[Act.put];rw[zFK9 (fun e=>ht (by rw[hd,e]))]
 refine⟨fun t v hv' hno=>?_,fun y hy hd d hdst=>?_⟩
 ·obtain⟨u,h1,h2⟩:=k.old t v hv' fun y hy hd=>hno y hy (by rw[zdQ _ _ _ hi];split;rfl;exact hd);exact⟨u,by rw[put t (hno x hx (by rw[zdQ _ _ _ hi,if_pos rfl]))];exact h1,h2.mono hρ⟩
 ·rw[zdQ _ _ _ hi]at hd
  by_cases e:y.i=x.i
  ·have:=R.uniq y hy x hx e;subst this;obtain⟨h1,v,h2,h3⟩:=hv d hdst;exact⟨v,v',h2,by rw[hdst];simp[Act.put,h1],h3⟩
  ·rw[if_neg e]at hd;obtain⟨v,u,h1,h2,h3⟩:=k.new y hy hd d hdst;exact⟨v,u,hnm _ _ h1,by rw[put d (zrb R.tmps hy hx (fun h=>e h.symm) hdst)];exact h2,h3.mono hρ⟩
def zfk (all:List Item)(tm:Tr TV)(ρ:Rho)(m n:Nat)(nm:Tr TV)(x:Item):Prop :=
 ∃b d u,zev tm nm (zc7 all x).guard=some b/\x.o.dst=some d/\nm.get d=some u/\(b=false->u=.tuple []) /\
  (b=true->∃vs,zdF tm nm (zc7 all x).args=some vs/\(x.o.kind.cls=1->∃c,zeo u=some c/\m<=c/\c<n/\∀g,ρ c g=none))
def ziM (all:List Item)(tm nm:Tr TV)(h:TH)(x:Item):Prop:=zev tm nm (zc7 all x).guard=some true->∀vs d u,zdF tm nm (zc7 all x).args=some vs->x.o.dst=some d->nm.get d=some u ->
 (x.o.kind.cls=0->pas x.o.kind vs h=some u)/\(x.o.kind.cls=1->∀c,zeo u=some c->∃z y,lay x.o.kind vs c=some z/\z.v=u/\h.get c=some y/\OEq z.o y)
def Dis (G:Item->Prop)(nm:Tr TV):Prop:=∀x x' d d' u u' c,G x->G x'->x.o.kind.cls=1->x'.o.kind.cls=1->x.o.dst=some d->x'.o.dst=some d'->d≠d'->nm.get d=some u->nm.get d'=some u'->zeo u=some c->zeo u'=some c->False
theorem zfk.mono {all:List Item}{tm nm nm':Tr TV}{m n n':Nat}{x:Item}(k:zfk all tm ρ m n nm x)(hnm:nm.sub nm')(hn:n<=n')(hρ:∀c,c<n->(∀g,ρ c g=none)->∀g,ρ' c g=none):zfk all tm ρ' m n' nm' x:=by
 obtain⟨b,d,u,h1,h2,h3,h4,h5⟩:=k;refine⟨b,d,u,zfh hnm h1,h2,hnm _ _ h3,h4,fun hb=>?_⟩;obtain⟨vs,a1,a2⟩:=h5 hb;refine⟨vs,zed hnm a1,fun hc=>?_⟩
 grind
theorem ziM.mono {all:List Item}{tm nm nm':Tr TV}{m n:Nat}{x:Item}(k:zfk all tm ρ m n nm x)(s:ziM all tm nm h x)(hnm:nm.sub nm')(hh:h.sub h'):ziM all tm nm' h' x:=by
 obtain⟨b,d,u,h1,h2,h3,h4,h5⟩:=k;intro hw vs d' u' hv hd hu;have h1':=zfh hnm h1;rw[hw]at h1';injection h1' with e;subst e;obtain⟨vs',a1,_⟩:=h5 rfl;have a1':=zed hnm a1;rw[hv]at a1';injection a1' with e;subst e;rw[hd]at h2;injection h2 with e;subst e;have h3':=hnm _ _ h3;rw[hu]at h3';injection h3' with e;subst e;obtain⟨s1,s2⟩:=s h1 vs _ _ a1 hd h3;refine⟨fun h0=>zxf hh (s1 h0),fun hc c hb=>?_⟩;obtain⟨z,y,z1,z2,z3,z4⟩:=s2 hc c hb;exact⟨z,y,z1,z2,hh _ _ z3,z4⟩
theorem Dis.mono {G:Item->Prop}{all:List Item}{tm nm nm':Tr TV}{m n:Nat}(k:Dis G nm)(hk:∀x,G x->zfk all tm ρ m n nm x)(hnm:nm.sub nm'):Dis G nm':=by
 intro x x' d d' u u' c g g' k1 k1' hd hd' hne hu hu' hb hb';obtain⟨_,d0,u0,_,h2,h3,_⟩:=hk x g;obtain⟨_,d0',u0',_,h2',h3',_⟩:=hk x' g';rw[hd]at h2;injection h2 with e;subst e;rw[hd']at h2';injection h2' with e;subst e;have e:=hnm _ _ h3;rw[hu]at e;injection e with e;subst e;have e:=hnm _ _ h3';rw[hu']at e;injection e with e;subst e;exact k x x' _ _ _ _ c g g' k1 k1' hd hd' hne h3 h3' hb hb'
theorem Dis.sub {G G':Item->Prop}{nm:Tr TV}(k:Dis G nm)(hg:∀x,G' x->G x):Dis G' nm:=fun x x' d d' u u' c g g'=>k x x' d d' u u' c (hg _ g) (hg _ g')
theorem znM {tm:Tr TV}{s:DS}:∀{l:List zbo},zgF tm s l=true->∀o∈l,zg5 tm s o=true
 | [],_,o,ho=>by simp at ho
 | a::l,h,o,ho=>by
  unfold zgF at h;obtain⟨h1,h2⟩:=bnd h;rcases zBA9.1 ho with rfl|ho
  ·exact h1
  ·exact znM h2 o ho
theorem zwH {all:List Item}{tm:Tr TV}{s:DS}{x:Item}(h:zg5 tm s (zc7 all x)=true):ziM all tm s.nm s.h x:=by
 intro hw vs d u hv hd hu;unfold zg5 at h;rw[hw]at h;dsimp only at h;unfold zqg at h;rw[show (zc7 all x).dst=some d from hd]at h;dsimp only at h;rw[hv]at h;dsimp only at h;rw[hu]at h;unfold zqf at h;dsimp only at h;change (match x.o.kind.cls with|0=>zqe s.h x.o.kind vs u|1=>zqj s.h x.o.kind vs u|_=>false)=true at h;refine⟨fun h0=>?_,fun h1 c hc=>?_⟩
 ·simp only[h0]at h;unfold zqe at h
  split at h
  ·rename_i v hp;rw[hp,TV.beq_sound _ _ _ h]
  ·cases h
 ·simp only[h1]at h;unfold zqj at h;rw[hc]at h;dsimp only at h
  split at h
  ·rename_i z hz
   split at h
   ·rename_i y hy;obtain⟨e1,e2⟩:=bnd h;exact⟨z,y,hz,TV.beq_sound _ _ _ e1,hy,ztA e2⟩
   ·cases h
  ·cases h
theorem zoj {all:List Item}{tm:Tr TV}{s s2:DS}{x:Item}{m:Nat}(hm:m<=s.h.next)(h2:x.o.kind.cls≠2){d:Nat}(hd:x.o.dst=some d)(he:zkd tm (zc7 all x) s=some s2)(hwr:WR P Z ρ s.h w) :
  s2.df=s.df/\s.nm.sub s2.nm/\s.nm.get d=none/\s.h.sub s2.h/\s.h.next<=s2.h.next/\WR P Z ρ s2.h w/\zfk all tm ρ m s2.h.next s2.nm x/\ziM all tm s2.nm s2.h x/\∀u c,s2.nm.get d=some u->x.o.kind.cls=1->zeo u=some c->c=s.h.next:=by
 unfold zkd at he
 split at he
 ·cases he
 ·rename_i hw;obtain⟨nm,e1,rfl⟩:=zhC he;rw[show (zc7 all x).dst=some d from hd]at e1;obtain⟨a1,a2,a3⟩:=zhB e1;obtain⟨b1,b2⟩:=a2 d rfl;refine⟨rfl,a1,b1,.refl _,zAE9 _,hwr,⟨false,d,_,zfh a1 hw,hd,b2,fun _=>rfl,fun h=>by cases h⟩,fun hw'=>?_,fun u c hu _ hb=>?_⟩
  ·have:=zfh a1 hw;dsimp only at hw';rw[hw']at this;cases this
  ·dsimp only at hu;rw[b2]at hu;injection hu with hu;subst hu;cases hb
 ·rename_i hw;unfold zrZ at he
  split at he
  ·cases he
  ·rename_i vs hv;change (match x.o.kind.cls with|0=>zwp s x.o.dst (pas x.o.kind vs s.h)|1=>zwy s x.o.dst (lay x.o.kind vs s.h.next)|_=>none)=some s2 at he
   by_cases h0:x.o.kind.cls=0
   ·rw[h0]at he
    cases hp:pas x.o.kind vs s.h with
    | none=>rw[hp]at he;cases he
    | some v =>
     rw[hp]at he;obtain⟨nm,e1,rfl⟩:=zhC he;rw[hd]at e1;obtain⟨a1,a2,a3⟩:=zhB e1;obtain⟨b1,b2⟩:=a2 d rfl;refine⟨rfl,a1,b1,.refl _,zAE9 _,hwr,⟨true,d,v,zfh a1 hw,hd,b2,(fun h=>by cases h),fun _=>⟨vs,zed a1 hv,fun h=>by rw[h0]at h;cases h⟩⟩,fun _ vs' d' u' hv' hd' hu'=>?_,fun u c _ hc=>by rw[h0]at hc;cases hc⟩;have e:=zed a1 hv;dsimp only at hv' hu';rw[hv']at e;injection e with e;subst e;rw[hd]at hd';injection hd' with e;subst e;rw[b2]at hu';injection hu' with e;subst e;exact⟨fun _=>hp,fun h=>by rw[h0]at h;cases h⟩
   ·by_cases h1:x.o.kind.cls=1
    ·rw[h1]at he
     cases hp:lay x.o.kind vs s.h.next with
     | none=>rw[hp]at he;cases he
     | some z =>
      rw[hp]at he;obtain⟨nm,e1,rfl⟩:=zhC he;rw[hd]at e1;obtain⟨a1,a2,a3⟩:=zhB e1;obtain⟨b1,b2⟩:=a2 d rfl;have hbl:=zuP hp;refine⟨rfl,a1,b1,TH.sub_push _ _,by dsimp only;rw[TH.next_push];omega,hwr.push _,⟨true,d,z.v,zfh a1 hw,hd,b2,(fun h=>by cases h),fun _=>⟨vs,zed a1 hv,fun _=>⟨s.h.next,hbl,hm,by dsimp only;rw[TH.next_push];omega,fun g=>?_⟩⟩⟩,fun _ vs' d' u' hv' hd' hu'=>?_,fun u c hu _ hb=>?_⟩
      ·cases hg:ρ s.h.next g with
       | none=>rfl
       | some loc=>have:=(hwr.dom _ _ _ hg).1;omega
      ·have e:=zed a1 hv;dsimp only at hv' hu';rw[hv']at e;injection e with e;subst e;rw[hd]at hd';injection hd' with e;subst e;rw[b2]at hu';injection hu' with e;subst e;refine⟨fun h=>(by rw[h1]at h;cases h),fun _ c hc=>?_⟩;rw[hbl]at hc;injection hc with hc;subst hc;exact⟨z,z.o,hp,rfl,by dsimp only;rw[TH.get_push,if_pos rfl],.refl _ (zw1 hp)⟩
      ·dsimp only at hu;rw[b2]at hu;injection hu with hu;subst hu;rw[hbl]at hb;injection hb with hb;exact hb.symm
    grind
theorem zfi {all:List Item}{tm:Tr TV}{m:Nat}:∀(L:List Item) (G:Item->Prop) (s s2:DS),m<=s.h.next->(∀x∈L,x.o.kind.cls≠2/\∃d,x.o.dst=some d)->ziG tm (L.map (zc7 all)) s=some s2->WR P Z ρ s.h w->(∀x,G x->zfk all tm ρ m s.h.next s.nm x/\ziM all tm s.nm s.h x)->Dis G s.nm ->
  s2.df=s.df/\s.nm.sub s2.nm/\s.h.next<=s2.h.next/\WR P Z ρ s2.h w/\(∀x,G x\/x∈L->zfk all tm ρ m s2.h.next s2.nm x/\ziM all tm s2.nm s2.h x)/\Dis (fun x=>G x\/x∈L) s2.nm
 | [],G,s,s2,_,_,he,hwr,hK,hD=>by
  simp only[zAZ9,ziG]at he;injection he with he;subst he;exact⟨rfl,.refl _,zAE9 _,hwr,fun x hx=>hK x (by simpa using hx),hD.sub fun x hx=>by simpa using hx⟩
 | x::L,G,s,s2,hm,hL,he,hwr,hK,hD=>by
  simp only[zBZ9,ziG]at he
  cases h1:zkd tm (zc7 all x) s with
  | none=>rw[h1]at he;cases he
  | some s1 =>
   rw[h1]at he;dsimp only at he;obtain⟨hx2,d,hd⟩:=hL x zAV9;obtain⟨e1,e2,e3,e4,e5,e6,e7,e8,e9⟩:=zoj hm hx2 hd h1 hwr;have hK1:∀y,G y\/y=x->zfk all tm ρ m s1.h.next s1.nm y/\ziM all tm s1.nm s1.h y:=fun y hy=>by
    rcases hy with hy|rfl
    ·obtain⟨k1,k2⟩:=hK y hy;exact⟨k1.mono e2 e5 fun c _ hn=>hn,k2.mono k1 e2 e4⟩
    grind
   have new:∀y d' u u' c,G y->y.o.kind.cls=1->y.o.dst=some d'->x.o.kind.cls=1->s1.nm.get d=some u->s1.nm.get d'=some u'->zeo u=some c->zeo u'=some c->False:=fun y d' u u' c gy hy hdy hx hu hu' hb hb'=>by
    have hc:=e9 u c hu hx hb;obtain⟨b,d0,u0,k1,k2,k3,k4,k5⟩:=(hK y gy).1;rw[hdy]at k2;injection k2 with e;subst e;have e:=e2 _ _ k3;rw[hu']at e;injection e with e;subst e
    cases b with
    | false=>rw[k4 rfl]at hb';cases hb'
    | true =>
     obtain⟨vs,_,a2⟩:=k5 rfl;obtain⟨c',c1,_,c2,_⟩:=a2 hy;rw[hb']at c1;injection c1 with c1;omega
   have hD1:Dis (fun y=>G y\/y=x) s1.nm:=by
    intro y y' d0 d1 u u' c g g' k1 k1' hd0 hd1 hne hu hu' hb hb';rcases g with g|rfl
    ·rcases g' with g'|rfl
     ·exact hD.mono (fun z hz=>(hK z hz).1) e2 y y' d0 d1 u u' c g g' k1 k1' hd0 hd1 hne hu hu' hb hb'
     grind
    grind
   obtain⟨f1,f2,f3,f4,f5,f6⟩:=zfi L _ s1 s2 (zBJ9 hm e5) (fun y hy=>hL y (zAO9 _ hy)) he e6 hK1 hD1;refine⟨f1.trans e1,e2.trans f2,zBJ9 e5 f3,f4,fun y hy=>f5 y ?_,f6.sub fun y hy=>?_⟩
   ·rcases hy with hy|hy
    ·exact .inl (.inl hy)
    ·rcases zBA9.1 hy with rfl|hy
     ·exact .inl (.inr rfl)
     ·exact .inr hy
   ·rcases hy with hy|hy
    ·exact .inl (.inl hy)
    ·rcases zBA9.1 hy with rfl|hy
     ·exact .inl (.inr rfl)
     ·exact .inr hy
noncomputable def zmM (C:zbS)(ca:Tr Unit)(tm:Tr TV)(all acts:List Item)(j:Nat):List Item->DS->Option DR
 | [],s=>some (.go s)
 | a::l,s=>match zkH C ca tm (zc7 all a) s with
  | some (.go s)=>zc2 C ca tm (zeM all acts (j+1) l) s
  | r=>r
theorem zu2 {C:zbS}{ca:Tr Unit}{tm:Tr TV}{all acts:List Item}{j:Nat}{l:List Item}{s:DS}{R:DR}(h:zc2 C ca tm (zeM all acts j l) s=some R):zgF tm s (zxv all acts j)=true/\∃s2,ziG tm (zqY all acts j) s=some s2/\zmM C ca tm all acts j l s2=some R:=by
 cases l with
 | nil =>
  simp only[zeM,zc2]at h;obtain⟨h1,h2⟩:=zi h;refine⟨h1,?_⟩
  cases he:ziG tm (zqY all acts j) s with
  | none=>rw[he]at h2;cases h2
  | some s2=>rw[he]at h2;exact⟨s2,rfl,h2⟩
 | cons a l =>
  simp only[zeM,zc2]at h;obtain⟨h1,h2⟩:=zi h;refine⟨h1,?_⟩
  cases he:ziG tm (zqY all acts j) s with
  | none=>rw[he]at h2;cases h2
  | some s2=>rw[he]at h2;exact⟨s2,rfl,h2⟩
def zh6 (all acts:List Item)(D:Array Bool)(j:Nat)(x:Item):Prop:=x∈all/\x.o.kind.cls≠2/\zfM acts x<=j/\D.getD x.i true=false
theorem enter {C:zbS}{ca:Tr Unit}{tm:Tr TV}{N:Nat}{ops:Array Oper}{all acts:List Item}(R:Reg P N ops all acts){D:Array Bool}(hc:zha all D){pre l:List Item}(hal:acts=pre++l)(hpre:∀a∈pre,D.getD a.i true=true)(hund:∀x∈all,x.o.kind.cls≠2->zfM acts x=pre.length->D.getD x.i true=false)
  {s:DS} {m:Nat} (hms:m<=s.h.next) (hwr:WR P Z ρ s.h w) (hK:∀x∈all,x.o.kind.cls≠2->zfM acts x<pre.length->D.getD x.i true=false->zfk all tm ρ m s.h.next s.nm x)
  (hD:Dis (fun x=>x∈all/\x.o.kind.cls≠2/\zfM acts x<pre.length/\D.getD x.i true=false) s.nm) {r:DR} (hs:zc2 C ca tm (zeM all acts pre.length l) s=some r) :
  ∃s2,zmM C ca tm all acts pre.length l s2=some r/\s2.df=s.df/\s.nm.sub s2.nm/\s.h.next<=s2.h.next/\WR P Z ρ s2.h w/\(∀x,zh6 all acts D pre.length x->zfk all tm ρ m s2.h.next s2.nm x/\ziM all tm s2.nm s2.h x)/\Dis (zh6 all acts D pre.length) s2.nm:=by
 obtain⟨h1,s2,h2,h3⟩:=zu2 hs;have hsame:=znM h1;obtain⟨f1,f2,f3,f4,f5,f6⟩:=zfi _ (fun x=>x∈all/\x.o.kind.cls≠2/\zfM acts x<pre.length/\D.getD x.i true=false) s s2 hms (fun x hx=>by
   obtain⟨m1,m2⟩:=zCL9.1 hx;simp only[zAW9,bne_iff_ne]at m2;exact⟨m2.1,zu3 R.tmps m1 m2.1⟩) h2 hwr (fun x ⟨g1,g2,g3,g4⟩=>⟨hK x g1 g2 g3 g4,zwH (hsame _ (zAK9.2 ⟨x,zCL9.2 ⟨g1,by
    simp only[zAW9,bne_iff_ne,decide_eq_true_eq];refine⟨⟨g2,g3⟩,zCB9.2 fun a ha=>?_⟩;have ha':a∈pre:=by rw[hal]at ha;simpa using ha
    have haa:a∈all:=by
     have:a∈acts:=by rw[hal];exact zFN9 _ ha'
     rw[R.ac]at this;exact(zCL9.1 this).1
    cases hb:a.m.testBit x.i with
    | false=>rfl
    | true=>have:=hc a haa (hpre a ha') x.i hb;rw[g4]at this;cases this⟩,rfl⟩))⟩) hD
 have hsub:∀x,zh6 all acts D pre.length x->(x∈all/\x.o.kind.cls≠2/\zfM acts x<pre.length/\D.getD x.i true=false)\/x∈all.filter fun x=>x.o.kind.cls != 2&&zfM acts x==pre.length:=fun x ⟨g1,g2,g3,g4⟩=>by grind
 exact⟨s2,h3,f1,f2,f3,f4,fun x hx=>f5 x (hsub x hx),f6.sub hsub⟩
theorem zpT {nm:Tr TV}:∀(ds:List Nat) (tm:Tr TV) (t:Nat) v,(zjR nm ds tm).get t=some v->(t∈ds/\nm.get t=some v)\/(t ∉ ds/\tm.get t=some v)
 | [],tm,t,v,h=>.inr ⟨by simp,h⟩
 | d::ds,tm,t,v,h=>by
  simp only[zjR]at h;rcases zpT ds _ t v h with⟨h1,h2⟩|⟨h1,h2⟩
  ·grind
  ·rw[Tr.get_set]at h2
   grind
theorem zlM:∀(ds:List Nat) (tm:Tr TV) (t:Nat) v,(zgC ds tm).get t=some v->t ∉ ds/\tm.get t=some v
 | [],tm,t,v,h=>⟨by simp,h⟩
 | d::ds,tm,t,v,h=>by
  simp only[zgC]at h;obtain⟨h1,h2⟩:=zlM ds _ t v h;rw[Tr.get_set]at h2
  grind
section
variable {C:zbS}{rnd:Option Nat}{ca:Tr Unit}{N:Nat}{ops:Array Oper}{all acts:List Item}{tm:Tr TV}{h0:TH}{w0:World}{ρ0:Rho}
structure Inv (P:Program)(Z:Nat)(C:zbS)(ca:Tr Unit)(N:Nat)(ops:Array Oper)(all acts:List Item)(tm:Tr TV)(ρ0:Rho)(h0:TH)(w0:World)(r:DR)(D:Array Bool)(a:Act)(w:World)(ρ:Rho)(pre l:List Item)(s:DS):Prop where
 size:D.size=ops.size
 ac:acts=pre++l
 done:∀y∈pre,D.getD y.i true=true
 und:∀y∈l,D.getD y.i true=false
 closed:zha all D
 wr:WR P Z ρ s.h w
 df:DfR ρ ca s.df a.defers
 hZ:Z<=w.heap.size
 sz:N<=a.tmps.size
 le:Rho.le h0.next ρ0 ρ
 bel:Below Z w0 w
 nx:h0.next<=s.h.next
 slots:zjW all D ρ tm s.nm a.tmps
 told:∀x,zh6 all acts D pre.length x->zfk all tm ρ h0.next s.h.next s.nm x/\ziM all tm s.nm s.h x
 dis:Dis (zh6 all acts D pre.length) s.nm
 tail:zmM C ca tm all acts pre.length l s=some r
theorem Inv.fin (R:Reg P N ops all acts){r:DR}{D:Array Bool}{a:Act}{pre l:List Item}{s:DS}(k:Inv P Z C ca N ops all acts tm ρ0 h0 w0 r D a w ρ pre l s)(hall:∀i,i<ops.size->D.getD i true=true){x:TX}{s':St}
  (hx:zkU (all.filterMap fun x=>x.o.dst) tm (some r)=some (x,s')):CR P Z ρ0 N ca h0 w0 x s' .normal a w:=by
 have hl:l=[]:=by
  cases l with
  | nil=>rfl
  | cons y l =>
   have h1:=k.und y zAV9;have hy:y∈all:=by
    have:y∈acts:=by rw[k.ac];simp
    rw[R.ac]at this;exact(zCL9.1 this).1
   rw[hall _ (R.lt hy)]at h1;cases h1
 have ht:=k.tail;subst hl;simp only[zmM]at ht;injection ht with ht;subst ht;simp only[zkU]at hx;injection hx with hx;injection hx with h1 h2;subst h1;subst h2;refine⟨ρ,k.le,k.bel,k.nx,rfl,k.wr,fun t v hv=>?_,k.sz,k.df,k.hZ⟩;rcases zpT _ _ t v hv with⟨h1,h2⟩|⟨h1,h2⟩
 ·obtain⟨y,hy,hd⟩:=zGA9.1 h1;obtain⟨u,v',a1,a2,a3⟩:=k.slots.new y hy (hall _ (R.lt hy)) t hd
  grind
 ·exact k.slots.old t v h2 fun y hy _ hd=>h1 (zGA9.2 ⟨y,hy,hd⟩)
theorem zh6.unset {D:Array Bool}{x y:Item}{j:Nat}(hi:x.i<D.size)(h:zh6 all acts (D.setIfInBounds x.i true) j y):zh6 all acts D j y/\y.i≠x.i:=by
 obtain⟨h1,h2,h3,h4⟩:=h;rw[zdQ _ _ _ hi]at h4
 split at h4
 ·cases h4
 ·rename_i e;exact⟨⟨h1,h2,h3,h4⟩,e⟩
theorem Inv.next (R:Reg P N ops all acts){r:DR}{D:Array Bool}{a:Act}{pre l:List Item}{s:DS}(k:Inv P Z C ca N ops all acts tm ρ0 h0 w0 r D a w ρ pre l s){x:Item}(hx:x∈all)(hx2:x.o.kind.cls≠2)(hu:D.getD x.i true=false)(hm:∀j,x.m.testBit j=true->D.getD j true=true)
  {d:Nat} (hd:x.o.dst=some d) (hdN:d<N) {u:TV} (hud:s.nm.get d=some u) {v':Value} {w':World} {ρ':Rho} (hle:Rho.le h0.next ρ ρ') (hv:VR ρ' u v') (hwr:WR P Z ρ' s.h w') (hb:Below Z w w')
  (hnone:∀y,zh6 all acts D pre.length y->y.i≠x.i->zfk all tm ρ' h0.next s.h.next s.nm y):Inv P Z C ca N ops all acts tm ρ0 h0 w0 r (D.setIfInBounds x.i true) (a.put x.o.dst v') w' ρ' pre l s:=by
 have hi:=(ziw hu).2;refine⟨by rw[Array.size_setIfInBounds];exact k.size,k.ac,fun y hy=>?_,fun y hy=>?_,k.closed.set R hx hi hm,hwr,by rw[ziE];exact k.df.mono hle.more,zBJ9 k.hZ hb.size,by rw[zlV];exact k.sz,k.le.trans hle (zAE9 _),k.bel.trans hb,k.nx,
  k.slots.step R hle.more (.refl _) hx hi fun d' hd'=>?_,fun y hy=>?_,k.dis.sub fun y hy=>(hy.unset hi).1,k.tail⟩
 ·rw[zdQ _ _ _ hi];split
  ·rfl
  ·exact k.done y hy
 ·have hne:y.i≠x.i:=fun e=>by
   have hya:y∈all.filter fun x=>x.o.kind.cls==2:=by rw[<- R.ac,k.ac];exact zEQ9 _ hy
   obtain⟨h1,h2⟩:=zCL9.1 hya;rw[R.uniq y h1 x hx e]at h2
   grind
  rw[zdQ _ _ _ hi,if_neg hne];exact k.und y hy
 ·rw[hd]at hd';injection hd' with e;subst e;exact⟨zBC9 hdN k.sz,u,hud,hv⟩
 ·obtain⟨h1,h2⟩:=hy.unset hi;exact⟨hnone y h1 h2,(k.told y h1).2⟩
theorem Inv.acted (R:Reg P N ops all acts){r:DR}{D:Array Bool}{a:Act}{pre l:List Item}{s:DS}{x:Item}(k:Inv P Z C ca N ops all acts tm ρ0 h0 w0 r D a w ρ pre (x::l) s)(hm:∀j,x.m.testBit j=true->D.getD j true=true)
  {s1:DS} {a':Act} (hat:a'.tmps=a.tmps) (hs:zc2 C ca tm (zeM all acts (pre.length+1) l) s1=some r) {v':Value} {w':World} {ρ':Rho} (hle:Rho.le s.h.next ρ ρ') (hwr:WR P Z ρ' s1.h w') (hb:Below Z w w') (hnx:s.h.next<=s1.h.next) (hnm:s.nm.sub s1.nm)
  (hdf:DfR ρ' ca s1.df a'.defers) (hdst:∀d,x.o.dst=some d->d<N/\∃v,s1.nm.get d=some v/\VR ρ' v v'):∃s2,Inv P Z C ca N ops all acts tm ρ0 h0 w0 r (D.setIfInBounds x.i true) (a'.put x.o.dst v') w' ρ' (pre++[x]) l s2:=by
 have hu:=k.und x zAV9;have hi:=(ziw hu).2;have hxa:x∈all.filter fun x=>x.o.kind.cls==2:=by rw[<- R.ac,k.ac];simp
 obtain⟨hx,hx2⟩:=zCL9.1 hxa;have hx2:x.o.kind.cls=2:=by simpa using hx2
 have hc:=k.closed.set R hx hi hm;have hal:acts=(pre++[x])++l:=by rw[k.ac];simp
 have hdone:∀y∈pre++[x],(D.setIfInBounds x.i true).getD y.i true=true:=fun y hy=>by
  rw[zdQ _ _ _ hi];split
  ·rfl
  ·rename_i e;rcases zBF9.1 hy with hy|hy
   ·exact k.done y hy
   grind
 have hund:∀y∈all,y.o.kind.cls≠2->zfM acts y=(pre++[x]).length->(D.setIfInBounds x.i true).getD y.i true=false:=fun y hy hy2 hlow=>by
  rw[zdQ _ _ _ hi]
  split
  ·rename_i e;rw[R.uniq y hy x hx e]at hy2;exact absurd hx2 hy2
  ·cases hd:D.getD y.i true with
   | false=>rfl
   | true =>
    exfalso
    have h1:zfM acts y<=pre.length:=by
     rw[k.ac];refine zsW fun z hz=>?_
     cases hb:y.m.testBit z.i with
     | false=>rfl
     | true=>have h2:=k.closed y hy hd _ hb;rw[k.und z hz]at h2;cases h2
    rw[hlow]at h1;simp at h1;omega
 have conv:∀y,y∈all->y.o.kind.cls≠2->zfM acts y<(pre++[x]).length->(D.setIfInBounds x.i true).getD y.i true=false->zh6 all acts D pre.length y:=fun y h1 h2 h3 h4=>by
  rw[zdQ _ _ _ hi]at h4
  split at h4
  ·cases h4
  ·exact⟨h1,h2,by simp at h3;omega,h4⟩
 have hlen:(pre++[x]).length=pre.length+1:=by simp
 rw[<- hlen]at hs;obtain⟨s2,t1,t2,t3,t4,t5,t6,t7⟩:=enter (w:=w') R hc hal hdone hund (zBJ9 k.nx hnx) hwr (fun y h1 h2 h3 h4=>((k.told y (conv y h1 h2 h3 h4)).1).mono hnm hnx hle.none) ((k.dis.mono (fun y hy=>(k.told y hy).1) hnm).sub fun y ⟨h1,h2,h3,h4⟩=>conv y h1 h2 h3 h4) hs;refine⟨s2,by rw[Array.size_setIfInBounds];exact k.size,hal,hdone,fun y hy=>?_,hc,t5,by rw[t2,ziE];exact hdf,zBJ9 k.hZ hb.size,by rw[zlV,hat];exact k.sz,k.le.trans hle k.nx,k.bel.trans hb,zBJ9 k.nx (zBJ9 hnx t4),?_,t6,t7,t1⟩
 ·have hne:y.i≠x.i:=fun e=>by
   have hya:y∈all.filter fun x=>x.o.kind.cls==2:=by rw[<- R.ac,k.ac];simp[hy]
   have hyx:=R.uniq y (zCL9.1 hya).1 x hx e;have hrow:=R.row;rw[k.ac]at hrow;obtain⟨p,hp,hpe⟩:=zj8 (zkG pre hrow) hy;rw[hyx]at hpe;have:=hm _ hpe;rw[k.und p hp]at this;cases this
  rw[zdQ _ _ _ hi,if_neg hne];exact k.und y (zAO9 _ hy)
 ·refine zjW.step R (a:=a') (by rw[hat];exact k.slots) hle.more (hnm.trans t3) hx hi fun d hd=>?_;obtain⟨h1,v,h2,h3⟩:=hdst d hd;exact⟨by rw[hat];exact zBC9 h1 k.sz,v,t3 _ _ h2,h3⟩
theorem zuL (hC:zgj P C)(hR:zhO P C)(hrnd:rnd=none\/∀f,ca.get f=none)(R:Reg P N ops all acts){r:DR}{x:TX}{s':St}(hx:zkU (all.filterMap fun x=>x.o.dst) tm (some r)=some (x,s')) :
  ∀(n:Nat) (D:Array Bool) (a:Act) (w:World) (ρ:Rho) (pre l:List Item) (s:DS),D.toList.count false<=n->Inv P Z C ca N ops all acts tm ρ0 h0 w0 r D a w ρ pre l s->wpAnyIn (Fr rnd) 0 P .any ops (CR P Z ρ0 N ca h0 w0 x s') n D a w:=by
 intro n
 induction n with
 | zero =>
  intro D a w ρ pre l s hn k;have hr:Region.ready .any ops D=[]:=by
   cases hr:Region.ready .any ops D with
   | nil=>rfl
   | cons i m =>
    have h1:i∈Region.ready .any ops D:=by rw[hr];exact zAV9
    have:=(ziw (mem_ready.1 h1).1).1;omega
  exact⟨hr,k.fin R (zpI R k.size hr) hx⟩
 | succ n ih =>
  intro D a w ρ pre l s hn k;refine⟨fun hr=>k.fin R (zpI R k.size hr) hx,fun i hi=>?_⟩;obtain⟨hu0,o,ho,_⟩:=mem_ready.1 hi;obtain⟨y,hy,e⟩:=R.item i o ho;subst e;obtain⟨hu,hm⟩:=zuk R k.closed hy hi;have hcnt:(D.setIfInBounds y.i true).toList.count false<=n:=by have:=zvZ hu;omega
  obtain⟨o',ho',ko⟩:=R.op y hy;rw[ho]at ho';injection ho' with e;subst e;obtain⟨tx,x1,x2,x3⟩:=k.slots.look R k.closed hy hu hm;unfold wpOpIn;rw[ho];dsimp only;have hwant:∀b,zev tm s.nm (zc7 all y).guard=some b->Region.wanted o (yielded ops a.tmps)=b:=fun b hb=>zeR ko x1 (by rw[x3];exact hb)
  by_cases hy2:y.o.kind.cls=2
  ·-- ziN that acts
   have hya:y∈acts:=by rw[R.ac];exact zCL9.2 ⟨hy,by simp[hy2]⟩
   have hyl:y∈l:=by
    rw[k.ac]at hya;rcases zBF9.1 hya with h1|h1
    ·rw[k.done y h1]at hu;cases hu
    ·exact h1
   cases l with
   | nil=>cases hyl
   | cons z l =>
    have hyz:y=z:=by
     rcases zBA9.1 hyl with h1|h1
     ·exact h1
     ·have hrow:=R.row;rw[k.ac]at hrow;obtain⟨p,hp,hpe⟩:=zj8 (zkG pre hrow) h1;have:=hm _ hpe;rw[k.und p hp]at this;cases this
    subst hyz;have htail:=k.tail;simp only[zmM]at htail
    cases h1:zkH C ca tm (zc7 all y) s with
    | none=>rw[h1]at htail;cases htail
    | some r1 =>
     rw[h1]at htail;unfold zkH at h1
     split at h1
     ·cases h1
     ·rename_i hw;rw[hwant _ hw];simp only[zCD9,if_false];refine⟨fun _ _=>trivial,?_⟩
      cases hp:dput s.df s.h (zgx s.nm (zc7 all y).dst (.tuple []))with
      | none=>rw[hp]at h1;cases h1
      | some s1 =>
       rw[hp]at h1;simp only[dgo]at h1;injection h1 with h1;subst h1;obtain⟨nm,e1,rfl⟩:=zhC hp;obtain⟨a1,a2,a3⟩:=zhB e1;rw[<- ko.dst];obtain⟨s2,k2⟩:=k.acted R hm rfl htail (.refl _ _) k.wr (.refl _ _) (zAE9 _) a1 k.df (v':=undef) fun d hd=>⟨ko.lt d hd,_,(a2 d hd).2,VR.undef ρ⟩
       exact ih _ _ _ _ _ _ _ hcnt k2
     ·rename_i hw;rw[hwant _ hw];simp only[if_true]
      split at h1
      ·cases h1
      ·rename_i vs hv
       cases hact:act C ca y.o.kind vs s.h with
       | none=>rw[show (zc7 all y).kind=y.o.kind from rfl,hact]at h1;cases h1
       | some tr =>
        rw[show (zc7 all y).kind=y.o.kind from rfl,hact]at h1;refine ztj hC hR hrnd k.wr k.hZ x1 k.df ko (x2.trans hv) hy2 hact (fun v h' e v' w' ρ' hle hwr hb hvr hnx=>?_) (fun v h' e v' w' ρ' hle hwr hb hvr hnx=>?_) (fun d e d' hdf=>?_)
        ·subst e;simp only[zka]at h1
         cases hp:dput s.df h' (zgx s.nm (zc7 all y).dst v)with
         | none=>rw[hp]at h1;cases h1
         | some s1 =>
          rw[hp]at h1;simp only[dgo]at h1;injection h1 with h1;subst h1;obtain⟨nm,e1,rfl⟩:=zhC hp;obtain⟨a1,a2,a3⟩:=zhB e1;rw[<- ko.dst];obtain⟨s2,k2⟩:=k.acted R hm rfl htail hle hwr hb hnx a1 (k.df.mono hle.more) (v':=v') fun d hd=>⟨ko.lt d hd,_,(a2 d hd).2,hvr⟩
          exact ih _ _ _ _ _ _ _ hcnt k2
        ·subst e;simp only[zka]at h1;injection h1 with h1;subst h1;dsimp only at htail;injection htail with htail;subst htail;simp only[zkU]at hx;injection hx with hx;injection hx with h1 h2;subst h1;subst h2;refine⟨ρ',k.le.trans hle k.nx,k.bel.trans hb,zBJ9 k.nx hnx,⟨v',rfl,hvr⟩,hwr,fun t u hu=>?_,k.sz,k.df.mono hle.more,zBJ9 k.hZ hb.size⟩;obtain⟨g1,g2⟩:=zlM _ _ t u hu;obtain⟨u',b1,b2⟩:=k.slots.old t u g2 fun z hz _ hd=>g1 (zGA9.2 ⟨z,hz,hd⟩);exact⟨u',b1,b2.mono hle.more⟩
        ·subst e;simp only[zka]at h1
         cases hp:dput (d::s.df) s.h (zgx s.nm (zc7 all y).dst (.tuple []))with
         | none=>rw[hp]at h1;cases h1
         | some s1 =>
          rw[hp]at h1;simp only[dgo]at h1;injection h1 with h1;subst h1;obtain⟨nm,e1,rfl⟩:=zhC hp;obtain⟨a1,a2,a3⟩:=zhB e1;rw[<- ko.dst];obtain⟨s2,k2⟩:=k.acted R (a':={ a with defers:=d'::a.defers }) hm rfl htail (.refl _ _) k.wr (.refl _ _) (zAE9 _) a1 hdf (v':=undef) fun d hd=>⟨ko.lt d hd,_,(a2 d hd).2,VR.undef ρ⟩
          exact ih _ _ _ _ _ _ _ hcnt k2
  ·-- ziN that does not
   have hlow:zfM acts y<=pre.length:=by
    rw[k.ac];refine zsW fun z hz=>?_
    cases hb:y.m.testBit z.i with
    | false=>rfl
    | true=>have h2:=hm _ hb;rw[k.und z hz]at h2;cases h2
   have hto:zh6 all acts D pre.length y:=⟨hy,hy2,hlow,hu⟩
   obtain⟨⟨b,d,u,g1,g2,g3,g4,g5⟩,hsame⟩:=k.told y hto;rw[hwant _ g1];have hput:∀v',VR ρ u v'->wpAnyIn (Fr rnd) 0 P .any ops (CR P Z ρ0 N ca h0 w0 x s') n (D.setIfInBounds y.i true) (a.put o.dst v') w:=fun v' hv'=>by
    rw[<- ko.dst];exact ih _ _ _ _ _ _ _ hcnt (k.next R hy hy2 hu hm g2 (ko.lt d g2) g3 (.refl _ _) hv' k.wr (.refl _ _) fun z hz _=>(k.told z hz).1)
   cases b with
   | false =>
    simp only[zCD9,if_false];refine⟨fun _ _=>trivial,hput _ ?_⟩;rw[g4 rfl];exact VR.undef ρ
   | true =>
    simp only[if_true];obtain⟨vs,hv,hbl⟩:=g5 rfl;obtain⟨s1,s2⟩:=hsame g1 vs d u hv g2 g3
    by_cases h0':y.o.kind.cls=0
    ·exact zs0 k.wr x1 ko (x2.trans hv) h0' (s1 h0') hput
    ·have h1':y.o.kind.cls=1:=Decidable.byContradiction fun h1=>hy2 (zzZ h0' h1);obtain⟨c,c1,c0,c2,c3⟩:=hbl h1';obtain⟨z,yy,z1,z2,z3,z4⟩:=s2 h1' c c1;have hset:=k.wr.set_none c3 z.o;refine zth hset k.hZ x1 ko (x2.trans hv) h1' c3 (by rw[TH.next_set];exact c2) z1 (by rw[TH.get_set _ _ _ _ c2,if_pos rfl]) fun v' w1 L S q1 q2 hbl1=>?_;rw[z2]at q2;have hmore:=Rho.add_more (loc:=⟨w.heap.size,L,S⟩) (c3 0);rw[<- ko.dst];refine ih _ _ _ _ _ _ _ hcnt (k.next R hy hy2 hu hm g2 (ko.lt d g2) g3 ⟨hmore,fun b hb hn g=>?_⟩ q2 (q1.unset z3 z4) hbl1 fun x' hx' hne=>?_)
     ·rw[Rho.add_ne zo];exact hn g
     ·obtain⟨b',d',u',e1,e2,e3,e4,e5⟩:=(k.told x' hx').1;refine⟨b',d',u',e1,e2,e3,e4,fun hb'=>?_⟩;obtain⟨vs',e6,e7⟩:=e5 hb';refine⟨vs',e6,fun hk=>?_⟩;obtain⟨c',i1,i0,i2,i3⟩:=e7 hk;refine⟨c',i1,i0,i2,fun g=>?_⟩;have hcc:c'≠c:=fun e=>by
       rw[e]at i1;refine k.dis y x' d d' u u' c hto hx' h1' hk g2 e2 (fun ed=>?_) g3 e3 c1 i1;rw[<- ed]at e2;exact zrb R.tmps hy hx'.1 hne g2 e2
      rw[Rho.add_ne hcc];exact i3 g
end
theorem zxT {C:zbS}(hC:zgj P C)(hR:zhO P C){rnd:Option Nat}{ca:Tr Unit}(hrnd:rnd=none\/∀f,ca.get f=none)(hmix:P.follows .mixedOrders=true){N:Nat}{id:Nat}{ops:Array Oper}{os:List zbo}(hts:zcZ (zk0 P N ops) ops.toList=some os){c:zbI}(hc:znl ops.toList os=some c)
  {s:St} {a:Act} (k:StR P Z ρ N ca s a w) {M:Nat} {trnd:Option Nat} {x:TX} {s':St} (hs:zbK C ca M trnd c s=some (x,s')):(Code.region id ops true).wpIn (Fr rnd) 0 P (CR P Z ρ N ca s.h w x s') a w:=by
 obtain⟨all,acts,R,rfl⟩:=zvx hts hc;simp only[zbK]at hs;refine wpIn_region_any hmix ?_
 cases hst:zc2 C ca s.tm (zeM all acts 0 acts) ⟨.nil,s.df,s.h⟩with
 | none=>rw[hst]at hs;cases hs
 | some r =>
  rw[hst]at hs;have hund:∀x∈all,(Array.replicate ops.size false).getD x.i true=false:=fun x hx=>by
   have:=R.lt hx
   simp_all
  have hclosed:zha all (Array.replicate ops.size false):=fun x hx hd=>by rw[hund x hx]at hd;cases hd
  have hwr:WR P Z ρ s.h w.drew:=k.wr.drew;obtain⟨s2,t1,t2,t3,t4,t5,t6,t7⟩:=enter (C:=C) (ca:=ca) (tm:=s.tm) (pre:=[]) (l:=acts) (w:=w.drew) (s:=⟨.nil,s.df,s.h⟩) (m:=s.h.next) R hclosed rfl (fun a ha=>by cases ha) (fun x hx _ _=>hund x hx) (zAE9 _) hwr (fun x _ _ h=>by simp at h) (fun x x' _ _ _ _ _ g=>by simp at g) hst;have hin:∀y∈acts,y∈all:=fun y hy=>by rw[R.ac]at hy;exact(zCL9.1 hy).1
  refine zuL hC hR hrnd R hs ops.size _ a w.drew ρ [] acts s2 ?_ ⟨(by simp),rfl,fun y hy=>(by cases hy),fun y hy=>hund y (hin y hy),hclosed,t5,(by rw[t2];exact k.df),k.hZ,k.sz,.refl _ _,⟨rfl,rfl,rfl,zAE9 _,fun _ _=>rfl⟩,t4,⟨fun t v hv _=>k.tm t v hv,fun y hy hd=>(by rw[hund y hy]at hd;cases hd)⟩,t6,t7,t1⟩;exact zBJ9 (List.count_le_length) (by simp)
section
variable {F:Fence}{n:Nat}{Q:Exit->Act->World->Prop}{a:Act}
theorem zlO {b:Frame}{k:List Go.Item}{cs:List Frame}{c:Code}:step P (lone (b.atR a (.code (.scope c)::k)) cs w)=.next (lone (b.atR a (.code c::.inScope c::k)) cs w) :=
 step_lone_go (by simp[stepG,stepG.exec,Frame.atR])
theorem zp0 {b:Frame}{k:List Go.Item}{cs:List Frame}{c:Code}:step P (lone (b.atR a (.inScope c::k)) cs w)=.next (lone (b.atR a k) cs w) :=
 step_lone_go (by simp[stepG,stepG.exec,Frame.atR])
theorem zkv (id:Nat)(c:Code)(k:List Go.Item):exitTo id (.inScope c::k)=exitTo id k:=by simp[exitTo]
theorem zjF {c:Code}(J:Act->World->Prop)(l:Nat)(hf:(∀a w,¬J a w)\/∃rest,findLabel c l=some rest/\∀a w,J a w->rest.wpIn F n P (Exit.noGoto Q) a w)(first:c.wpIn F n P (Exit.jump l J Q) a w):(Code.scope c).wpIn F n P Q a w:=by
 intro b k cs hro hb hr;have h0:(lone (b.atR a (.code (.scope c)::k)) cs w).fenced P F:=fenced_calm hb hr rfl;have tl:∀{e:Exit} {a₁:Act} {w₁:World} {m:Machine},(∀l,e ≠ .goto l)->ArrivesIn (Machine.fenced P F) P m b (.inScope c::k) cs e a₁ w₁->ArrivesIn (Machine.fenced P F) P m b k cs e a₁ w₁:=fun{e a₁ w₁ m} hne harr=>by
  cases e with
  | normal=>exact StepsIn.trans harr (.one (fenced_calm hb hr rfl) zp0)
  | exit id=>exact⟨fun k' hk=>harr.1 k' (by rw[zkv];exact hk),fun hr' hk=>harr.2 hr' (by rw[zkv];exact hk)⟩
  | goto l'=>exact absurd rfl (hne l')
  | ret=>exact harr
  | panic ch=>exact harr
  | outgrown=>exact harr
 obtain⟨e,a₁,w₁,hq,harr⟩:=first b (.inScope c::k) cs hro hb hr
 by_cases hg:∃l',e=.goto l'
 ·obtain⟨l',rfl⟩:=hg;obtain⟨rfl,hJ⟩:=hq;rcases hf with hf|⟨rest,hf,hpass⟩
  ·grind
  ·have hgo:gotoIn l' (.inScope c::k)=some (.code rest::.inScope c::k):=by simp[gotoIn,hf]
   obtain⟨e₂,a₂,w₂,hq₂,harr₂⟩:=hpass a₁ w₁ hJ b (.inScope c::k) cs hro hb hr;have hne:∀l,e₂ ≠ .goto l:=fun l e=>by subst e;exact hq₂
   refine⟨e₂,a₂,w₂,?_,.of_steps (.head h0 zlO (harr.1 _ hgo)) (tl hne harr₂)⟩
   cases e₂<;>first|exact hq₂|exact absurd rfl (hne _)
 ·have hne:∀l,e ≠ .goto l:=fun l e=>hg ⟨l,e⟩;refine⟨e,a₁,w₁,?_,.of_steps (.one h0 zlO) (tl hne harr)⟩
  cases e<;>first|exact hq|exact absurd rfl (hne _)
end
def Rnd (ρ:Rho):Option Nat->Option Nat->Prop
 | none,none=>True
 | some l,some r=>∃loc,ρ l 0=some loc/\loc.r=r
 | _,_=>False
theorem Rnd.mono (hρ:∀b g loc,ρ b g=some loc->ρ' b g=some loc){t r:Option Nat}(k:Rnd ρ t r):Rnd ρ' t r:=by
 cases t<;>cases r<;>first|exact k|skip
 obtain⟨loc,h1,h2⟩:=k;exact⟨loc,hρ _ _ _ h1,h2⟩
theorem zkq {r:Nat}(hr:Z<=r)(o:Obj):Below Z w (w.putObj r o):=⟨rfl,rfl,rfl,by simp,fun k hk=>World.putObj_heap_other zo⟩
theorem zj2 {l:Nat}{r:Loop}(hl:w.heap[l]?=some (.loop r))(fn:FuncId)(tmps:Array Value)(ps:Array Tmp)(assign body:Code) :
  (Instr.enterLoop fn tmps ps assign body (some l)).run P w=.ok (w.heap.size,[]) (w.alloc (.loop { state:=.ready,pending:=none,fn,tmps,params:=ps,assign,body,defers:=r.defers })):=by
 unfold Instr.enterLoop;simp only[Sem.run_bind,run_getLoop hl,run_newObj_alloc,Result.andThen,Sem.run_pure]
theorem WR.none_at (k:WR P Z ρ h w)(g:Nat):ρ h.next g=none:=by
 cases hg:ρ h.next g with
 | none=>rfl
 | some loc=>have:=(k.dom _ _ _ hg).1;omega
theorem Rho.le_add {n b:Nat}(hb:n<=b)(hn:ρ b 0=none){loc:Loc}:Rho.le n ρ (ρ.add b 0 loc) :=
 ⟨Rho.add_more hn,fun c hc h g=>by rw[Rho.add_ne zo];exact h g⟩
theorem zxF {N:Nat}{ca:Tr Unit}{trnd rnd:Option Nat}{s:St}{a:Act}(k:StR P Z ρ N ca s a w)(kr:Rnd ρ trnd rnd){x:zyi}(hx:zkg trnd s=some x){ps:Array Tmp}{assign body:Code}{aS bo:zbI}{n m:Nat}(hps:∀p∈ps.toList,p<N)(has:zcq P N n assign=some aS)(hbo:zcq P N m body=some bo)(fn:FuncId) :
  ∃lr mark w1 ρ1 loc,(Instr.enterLoop fn a.tmps ps assign body rnd).run P w=.ok (lr,mark) w1/\Rho.le s.h.next ρ ρ1/\ρ1 x.l 0=some loc/\loc.r=lr/\WR P Z ρ1 (x.h.push (.loop .ready .norm s.tm ps.toList aS bo x.d)) w1/\Below Z w w1/\DfR ρ1 ca x.df (mark++a.defers)/\s.h.next<=x.h.next:=by
 cases trnd with
 | none =>
  cases rnd with
  | some r=>exact kr.elim
  | none =>
   simp only[zkg]at hx;injection hx with hx;subst hx;have k1:WR P Z ρ (s.h.push (.dfr false)) w:=k.wr.push _;have hn:=k.wr.none_at
   have k2:=k1.real (x:=.dfr false) (o:=.deferred (some [])) (L:=0) (S:=0) hn (by rw[TH.next_push];omega) k.hZ (by rw[TH.get_push,if_pos rfl]) ⟨_,Rho.add_same _ _ _ _,World.alloc_heap_new _ _⟩;have le1:=Rho.le_add (ρ:=ρ) (loc:=⟨w.heap.size,0,0⟩) (zAE9 s.h.next) (hn 0);have k3:=k2.push (.loop .ready .norm s.tm ps.toList aS bo s.h.next);have hn2:=k2.none_at
   rw[TH.next_push]at hn2;have le2:=Rho.le_add (ρ:=ρ.add s.h.next 0 ⟨w.heap.size,0,0⟩) (loc:=⟨(w.alloc (.deferred (some []))).heap.size,0,0⟩) (Nat.le_succ s.h.next) (hn2 0);have hZ2:Z<=(w.alloc (.deferred (some []))).heap.size:=by have:=k.hZ;simp;omega
   have k4:=k3.real (x:=.loop .ready .norm s.tm ps.toList aS bo s.h.next) (b:=s.h.next+1) (L:=0) (S:=0) (o:=.loop { state:=.ready,pending:=none,fn,tmps:=a.tmps,params:=ps,assign,body,defers:=w.heap.size }) hn2 (by rw[TH.next_push,TH.next_push];omega) hZ2 (by rw[TH.get_push,TH.next_push,if_pos rfl])
    ⟨_,_,⟨w.heap.size,0,0⟩,N,n,m,Rho.add_same _ _ _ _,le2.more _ _ _ (Rho.add_same _ _ _ _),World.alloc_heap_new _ _,rfl,rfl,(k.tm.mono le1.more).mono le2.more,k.sz,rfl,hps,has,hbo,rfl⟩
   refine⟨_,_,_,_,_,run_enterLoop_outer fn a.tmps ps assign body,le1.trans le2 (zAE9 _),Rho.add_same _ _ _ _,by simp,k4,((Below.refl Z w).alloc k.hZ _).trans ((Below.refl Z _).alloc hZ2 _),?_,by dsimp only;rw[TH.next_push];omega⟩;exact .mark (le2.more _ _ _ (Rho.add_same _ _ _ _)) ((k.df.mono le1.more).mono le2.more)
 | some l0 =>
  cases rnd with
  | none=>exact kr.elim
  | some r =>
   obtain⟨loc0,hl0,rfl⟩:=kr;simp only[zkg]at hx;obtain⟨o,ho,hor⟩:=k.wr.obj _ _ _ hl0;rw[ho]at hx;dsimp only at hx
   cases o with
   | loop st pe tm' ps' as' bo' d =>
    simp only[zyj]at hx;injection hx with hx;subst hx;obtain⟨loc1,rec,locd,N',n',m',q1,q2,q3,_,_,_,_,_,_,_,_,q4⟩:=hor;rw[hl0]at q1;injection q1 with q1;subst q1;have hn:=k.wr.none_at
    have k3:=k.wr.push (.loop .ready .norm s.tm ps.toList aS bo d);have le2:=Rho.le_add (ρ:=ρ) (loc:=⟨w.heap.size,0,0⟩) (zAE9 s.h.next) (hn 0);have k4:=k3.real (x:=.loop .ready .norm s.tm ps.toList aS bo d) (b:=s.h.next) (L:=0) (S:=0) (o:=.loop { state:=.ready,pending:=none,fn,tmps:=a.tmps,params:=ps,assign,body,defers:=rec.defers }) hn (by rw[TH.next_push];omega) k.hZ (by rw[TH.get_push,if_pos rfl])
     ⟨_,_,locd,N,n,m,Rho.add_same _ _ _ _,le2.more _ _ _ q2,World.alloc_heap_new _ _,rfl,rfl,k.tm.mono le2.more,k.sz,rfl,hps,has,hbo,q4⟩
    exact⟨_,_,_,_,_,zj2 q3 fn a.tmps ps assign body,le2,Rho.add_same _ _ _ _,rfl,k4,(Below.refl Z w).alloc k.hZ _,k.df.mono le2.more,zAE9 _⟩
   | row=>cases hx
   | map=>cases hx
   | dfr=>cases hx
   | ro=>cases hx
theorem zxQ {C:zbS}(hC:zgj P C){rnd trnd:Option Nat}{ca:Tr Unit}{N:Nat}{s:St}{a:Act}(k:StR P Z ρ N ca s a w)(kr:Rnd ρ trnd rnd){g:Operand}{gid:Nat}{cap:List TV}(hg:VR ρ (.fn gid cap) (a.eval g)){ps:Array Tmp}{assign body:Code}{aS bo:zbI}{n m:Nat}(hps:∀p∈ps.toList,p<N)(has:zcq P N n assign=some aS)(hbo:zcq P N m body=some bo)
  {x:TX} {s':St} (hs:zmQ C trnd gid cap ps.toList aS bo s=some (x,s')):(Code.rangeFunc g ps assign body).wpIn (Fr rnd) 0 P (CR P Z ρ N ca s.h w x s') a w:=by
 unfold zmQ at hs
 split at hs
 ·cases hs
 ·rename_i st hst
  cases hc:C.fn gid (.yield st.l::cap) (st.h.push (.loop .ready .norm s.tm ps.toList aS bo st.d))with
  | none=>rw[hc]at hs;cases hs
  | some res =>
   obtain⟨te,h1⟩:=res;rw[hc]at hs
   cases te with
   | panic v=>cases hs
   | ret v =>
    simp only[zq3]at hs
    cases ho:h1.get st.l with
    | none=>rw[ho]at hs;cases hs
    | some o =>
     rw[ho]at hs;dsimp only at hs;refine wpIn_rangeFunc fun fn hfn=>?_;obtain⟨lr,mark,w1,ρ1,loc,e1,e2,e3,e4,e5,e6,e7,e8⟩:=zxF k kr hst hps has hbo fn;subst e4;have hg1:=hg.mono e2.more;generalize hgv:a.eval g=gv at hg1
     cases hg1 with
     | fn hcl hcr =>
      rename_i caps;obtain⟨hent,hcalls⟩:=hC gid _ _ _ h1 hc Z ρ1 w1 (.func (.yield loc.r) #[] #[]::caps) e5 (zBJ9 k.hZ e6.size) (.cons (.yield e3) ⟨hcl,hcr⟩);refine⟨loc.r,mark,w1,{ target:=.fn (.func gid) caps.toArray,args:=#[.func (.yield loc.r) #[] #[]] },w1,gid,(.func (.yield loc.r) #[] #[]::caps).toArray,w1,e1,?_,fun _ _=>trivial,?_,fun hd=>by simp[Fr,Fence.wide]at hd,?_⟩
      ·have hy:a.eval (.const (.func (.yield loc.r) #[] #[]))=.func (.yield loc.r) #[] #[]:=rfl;simp[resolve,rangeCall,hgv,Deferred.ofValue,hy]
      ·have:(#[.func (.yield loc.r) #[] #[]]:Array Value)++caps.toArray=(.func (.yield loc.r) #[] #[]::caps).toArray:=by simp
       simp only[invoke,this];exact hent w1
      ·refine CallsIn.mono (zt0.2 hcalls) ?_;rintro e w2 ⟨ρ2,g1,g2,g3,g4,v',rfl,g5⟩;have g1':Rho.le s.h.next ρ ρ2:=e2.trans g1 (by rw[TH.next_push];omega);have hl2:=g1.more _ _ _ e3;obtain⟨o',ho',hor⟩:=g2.obj _ _ _ hl2;rw[ho]at ho';injection ho' with ho';subst ho'
       cases o with
       | row=>cases hs
       | map=>cases hs
       | dfr=>cases hs
       | ro=>cases hs
       | loop st' pe tm' ps' as' bo' d =>
        obtain⟨loc1,rec,locd,N',n',m',q1,q2,q3,q4,q5,q6,q7,q8,q9,q10,q11,q12⟩:=hor;rw[hl2]at q1;injection q1 with q1;subst q1;have hnb:rec.state ≠ .busy:=fun hb=>by rw[q4]at hb;subst hb;cases hs
        have hs':some (pe,(⟨s.tm,st.df,h1.set st.l (.loop .exhausted pe tm' ps' as' bo' d)⟩:St))=some (x,s'):=by
         rw[<- hs]
         cases st'<;>first|rfl|(exact absurd q4 hnb)
        injection hs' with hs';injection hs' with hs1 hs2;subst hs1;subst hs2;have hZo:∀g' loc',ρ2 st.l g'=some loc'->Z<=loc'.r:=fun g' loc' hl'=>g2.own hl' ho (fun cs h=>by cases h);have hdm:=g2.dom _ _ _ hl2;have hZr:=hZo _ _ hl2;have hput:(w2.putObj loc.r (.loop { rec with state:=.exhausted })).heap[loc.r]?=some (.loop { rec with state:=.exhausted }):=World.putObj_heap_same hdm.2.2;have hne:∀c g' l',c≠st.l->ρ2 c g'=some l'->l'.r≠loc.r:=fun c g' l' hc hl' e=>hc (g2.sep _ _ _ _ _ _ hl' hl2 e zo);have k2:=g2.change (ρ':=ρ2) (x':=.loop .exhausted pe tm' ps' as' bo' d) (fun _ _ _ h=>h) (fun _ _ _=>rfl) hl2 (w':=w2.putObj loc.r (.loop { rec with state:=.exhausted })) (by simp) (fun c g' l' hc hl'=>World.putObj_heap_other (hne c g' l' hc hl'))
         ⟨loc,_,locd,N',n',m',hl2,q2,hput,rfl,q5,q6,q7,q8,q9,q10,q11,q12⟩ (fun g' l' hl'=>by
          have hd':=g2.dom _ _ _ hl';exact⟨hZo _ _ hl',by simp;exact hd'.2.2⟩) (fun g' l' hl' c g'' l'' hc hl'' e=>hc (g2.sep _ _ _ _ _ _ hl' hl'' e (hZo _ _ hl')).symm)
        have hb2:=zkq (w:=w2) hZr (.loop { rec with state:=.exhausted });have hCR:∀e,XR ρ2 pe e->CR P Z ρ N ca s.h w pe ⟨s.tm,st.df,h1.set st.l (.loop .exhausted pe tm' ps' as' bo' d)⟩ e { a with defers:=mark++a.defers } (w2.putObj loc.r (.loop { rec with state:=.exhausted })):=fun e he =>
         ⟨ρ2,g1',(e6.trans g3).trans hb2,by
          rw[TH.next_set];rw[TH.next_push]at g4;omega,he,k2,k.tm.mono g1'.more,k.sz,e7.mono g1.more,zBJ9 k.hZ ((e6.trans g3).trans hb2).size⟩
        refine⟨rec.pending,_,run_endLoop q3 hnb,?_⟩
        suffices hpd:∀pd,pd=rec.pending->(match pd with
         | none=>CR P Z ρ N ca s.h w pe ⟨s.tm,st.df,h1.set st.l (.loop .exhausted pe tm' ps' as' bo' d)⟩ .normal { a with defers:=mark++a.defers } (w2.putObj loc.r (.loop { rec with state:=.exhausted }))
         | some c=>c.wpIn (Fr rnd) 0 P (CR P Z ρ N ca s.h w pe ⟨s.tm,st.df,h1.set st.l (.loop .exhausted pe tm' ps' as' bo' d)⟩) { a with defers:=mark++a.defers } (w2.putObj loc.r (.loop { rec with state:=.exhausted }))) by grind
        intro pd hpd;rw[<- hpd]at q5
        cases pe with
        | norm =>
         have q5:pd=none:=q5;subst q5;exact hCR _ rfl
        | exit id =>
         have q5:pd=some (.exit id):=q5;subst q5;exact wpIn_exit (hCR _ rfl)
        | goto l =>
         have q5:pd=some (.goto l):=q5;subst q5;exact wpIn_goto (hCR _ rfl)
        | ret =>
         have q5:pd=some .ret:=q5;subst q5;exact wpIn_ret (hCR _ rfl)
        | panic v=>exact q5.elim
theorem CR.refl {N:Nat}{ca:Tr Unit}{s:St}{a:Act}(k:StR P Z ρ N ca s a w){x:TX}{e:Exit}(hx:XR ρ x e):CR P Z ρ N ca s.h w x s e a w:=⟨ρ,.refl _ _,.refl _ _,zAE9 _,hx,k⟩
theorem XR.norm {e:Exit}{x:TX}(hx:XR ρ x e)(h:e=.normal):x=.norm:=by
 cases x<;>simp only[XR]at hx<;>first|rfl|(subst hx;cases h)|(obtain⟨_,e,_⟩:=hx;rw[e]at h;cases h)
theorem XR.goto {e:Exit}{x:TX}{l:Nat}(hx:XR ρ x e)(h:e=.goto l):x=.goto l:=by
 cases x<;>simp only[XR]at hx<;>first|(subst hx;cases h;done)|(obtain⟨_,e,_⟩:=hx;rw[e]at h;cases h;done)|(subst hx;injection h with h;subst h;rfl)
theorem XR.exit {e:Exit}{x:TX}{l:Nat}(hx:XR ρ x e)(h:e=.exit l):x=.exit l:=by
 cases x<;>simp only[XR]at hx<;>first|(subst hx;cases h;done)|(obtain⟨_,e,_⟩:=hx;rw[e]at h;cases h;done)|(subst hx;injection h with h;subst h;rfl)
theorem zoa {C:zbS}(hC:zgj P C)(hR:zhO P C)(hmix:P.follows .mixedOrders=true){N M:Nat}{ca:Tr Unit}{rnd trnd:Option Nat}(hrnd:rnd=none\/∀f,ca.get f=none) :
  ∀(n:Nat) (c:Code) (T:zbI),zcq P N n c=some T->∀(ρ:Rho) (s:St) (a:Act) (w:World) (x:TX) (s':St),Rnd ρ trnd rnd->StR P Z ρ N ca s a w->zbK C ca M trnd T s=some (x,s')->c.wpIn (Fr rnd) 0 P (CR P Z ρ N ca s.h w x s') a w:=by
 intro n
 induction n with
 | zero=>intro c T hT;cases hT
 | succ n ih =>
  intro c T hT ρ s a w x s' hr k hs
  cases c with
  | skip =>
   simp only[zcq]at hT;injection hT with hT;subst hT;simp only[zbK]at hs;injection hs with hs;injection hs with h1 h2;subst h1;subst h2;exact wpIn_skip (CR.refl k rfl)
  | label l =>
   simp only[zcq]at hT;injection hT with hT;subst hT;simp only[zbK]at hs;injection hs with hs;injection hs with h1 h2;subst h1;subst h2;exact wpIn_label (CR.refl k rfl)
  | region id ops draw =>
   simp only[zcq]at hT
   split at hT
   ·cases hT
   ·rename_i os hos
    cases draw with
    | false =>
     simp only[zCD9,if_false]at hT;injection hT with hT;subst hT;exact zvD hC hR hrnd hos k hs
    | true =>
     simp only[if_true]at hT;exact zxT hC hR hrnd hmix hos hT k hs
  | seq c1 c2 =>
   simp only[zcq]at hT
   split at hT
   ·rename_i t1 t2 h1 h2;injection hT with hT;subst hT;simp only[zbK]at hs;refine wpIn_seq ?_
    cases hr1:zbK C ca M trnd t1 s with
    | none=>rw[hr1]at hs;cases hs
    | some r1 =>
     obtain⟨x1,s1⟩:=r1;rw[hr1]at hs;refine wpIn_mono (ih c1 t1 h1 ρ s a w x1 s1 hr k hr1) ?_;intro e a1 w1 hc;obtain⟨ρ1,g1,g2,g3,g4,g5⟩:=hc
     by_cases he:e=.normal
     ·have:=g4.norm he;subst this;subst he;exact wpIn_mono (ih c2 t2 h2 ρ1 s1 a1 w1 x s' (hr.mono g1.more) g5 hs) fun e a2 w2 hc2=>hc2.trans g1 g2 g3
     ·have hx1:x1 ≠ .norm:=fun e'=>by subst e';exact he g4
      have hs':some (x1,s1)=some (x,s'):=by grind
      injection hs' with hs';injection hs' with q1 q2;subst q1;subst q2
      cases e<;>first|exact absurd rfl he|exact⟨ρ1,g1,g2,g3,g4,g5⟩
   ·cases hT
  | cond c c1 c2 =>
   simp only[zcq]at hT
   split at hT
   ·rename_i c' t1 t2 hc' h1 h2;injection hT with hT;subst hT;simp only[zbK]at hs
    split at hs
    ·rename_i hb;have hv:=zjl k.tm hc' hb;generalize hav:a.eval c=av at hv
     cases hv
     exact wpIn_cond_true hav (ih c1 t1 h1 ρ s a w x s' hr k hs)
    ·rename_i hb;have hv:=zjl k.tm hc' hb;generalize hav:a.eval c=av at hv
     cases hv
     exact wpIn_cond_false hav (ih c2 t2 h2 ρ s a w x s' hr k hs)
    ·cases hs
   ·cases hT
  | block id b =>
   simp only[zcq]at hT
   split at hT
   ·rename_i t ht;injection hT with hT;subst hT;simp only[zbK]at hs;refine wpIn_block ?_
    cases hr1:zbK C ca M trnd t s with
    | none=>rw[hr1]at hs;cases hs
    | some r1 =>
     obtain⟨x1,s1⟩:=r1;rw[hr1]at hs;refine wpIn_mono (ih b t ht ρ s a w x1 s1 hr k hr1) ?_;intro e a1 w1 hc;obtain⟨ρ1,g1,g2,g3,g4,g5⟩:=hc
     by_cases he:∃j,e=.exit j
     ·obtain⟨j,rfl⟩:=he;have:=g4.exit rfl;subst this;simp only[Exit.inBlock];dsimp only at hs
      by_cases hj:j=id
      ·subst hj;rw[show Nat.beq j j=true from Nat.beq_refl j]at hs;simp only[cond_true]at hs;injection hs with hs;injection hs with q1 q2;subst q1;subst q2;rw[if_pos rfl];exact⟨ρ1,g1,g2,g3,rfl,g5⟩
      ·rw[show Nat.beq j id=false from zGG9.2 fun h=>hj (zAF9 h)]at hs;simp only[cond_false]at hs;injection hs with hs;injection hs with q1 q2;subst q1;subst q2;rw[if_neg hj];exact⟨ρ1,g1,g2,g3,rfl,g5⟩
     ·have hx1:∀j,x1 ≠ .exit j:=fun j e'=>by subst e';exact he ⟨j,g4⟩
      have hs':some (x1,s1)=some (x,s'):=by grind
      injection hs' with hs';injection hs' with q1 q2;subst q1;subst q2
      cases e<;>first|exact absurd ⟨_,rfl⟩ he|exact⟨ρ1,g1,g2,g3,g4,g5⟩
   ·cases hT
  | loop b =>
   simp only[zcq]at hT
   split at hT
   ·rename_i t ht;injection hT with hT;subst hT;simp only[zbK]at hs;refine wpIn_loop_rounds M ?_;have key:∀(m:Nat) (ρ:Rho) (s:St) (a:Act) (w:World),Rnd ρ trnd rnd->StR P Z ρ N ca s a w->zij (zbK C ca M trnd t) m s=some (x,s')->∀Q:Exit->Act->World->Prop,(∀e a' w',CR P Z ρ N ca s.h w x s' e a' w'->Q e a' w')->Code.roundsIn (Fr rnd) 0 P b Q m a w:=by
     intro m
     induction m with
     | zero=>intro ρ s a w _ _ hs;cases hs
     | succ m ihm =>
      intro ρ s a w hr k hs Q hQ;simp only[zij]at hs;rw[roundsIn_succ]
      cases hr1:zbK C ca M trnd t s with
      | none=>rw[hr1]at hs;cases hs
      | some r1 =>
       obtain⟨x1,s1⟩:=r1;rw[hr1]at hs;refine wpIn_mono (ih b t ht ρ s a w x1 s1 hr k hr1) ?_;intro e a1 w1 hc;obtain⟨ρ1,g1,g2,g3,g4,g5⟩:=hc
       by_cases he:e=.normal
       ·have:=g4.norm he;subst this;subst he;exact ihm ρ1 s1 a1 w1 (hr.mono g1.more) g5 hs Q fun e a2 w2 hc2=>hQ _ _ _ (hc2.trans g1 g2 g3)
       ·have hx1:x1 ≠ .norm:=fun e'=>by subst e';exact he g4
        have hs':some (x1,s1)=some (x,s'):=by grind
        injection hs' with hs';injection hs' with q1 q2;subst q1;subst q2;have:=hQ e a1 w1 ⟨ρ1,g1,g2,g3,g4,g5⟩
        cases e<;>first|exact absurd rfl he|exact this
    exact key M ρ s a w hr k hs _ fun _ _ _ h=>h
   ·cases hT
  | rangeFunc f ps c1 c2 =>
   simp only[zcq]at hT
   split at hT
   ·cases hT
   ·rename_i hps
    split at hT
    ·rename_i f' t1 t2 hf h1 h2;injection hT with hT;subst hT;simp only[zbK]at hs
     split at hs
     ·rename_i g cap hg;exact zxQ hC k hr (zjl k.tm hf hg) (fun p hp=>by
       have:=zCB9.1 (Bool.not_eq_false _ ▸ hps) p hp;simpa using this) h1 h2 hs
     ·cases hs
    ·cases hT
  | exit id =>
   simp only[zcq]at hT;injection hT with hT;subst hT;simp only[zbK]at hs;injection hs with hs;injection hs with h1 h2;subst h1;subst h2;exact wpIn_exit (CR.refl k rfl)
  | goto l =>
   simp only[zcq]at hT;injection hT with hT;subst hT;simp only[zbK]at hs;injection hs with hs;injection hs with h1 h2;subst h1;subst h2;exact wpIn_goto (CR.refl k rfl)
  | ret =>
   simp only[zcq]at hT;injection hT with hT;subst hT;simp only[zbK]at hs;injection hs with hs;injection hs with h1 h2;subst h1;subst h2;exact wpIn_ret (CR.refl k rfl)
  | scope b =>
   simp only[zcq]at hT
   split at hT
   ·split at hT
    ·rename_i t ht;injection hT with hT;subst hT;simp only[zbK]at hs
     cases hr1:zbK C ca M trnd t s with
     | none=>rw[hr1]at hs;cases hs
     | some r1 =>
      obtain⟨x1,s1⟩:=r1;rw[hr1]at hs;refine zjF (fun _ _=>False) 0 (.inl fun _ _ h=>h) ?_;refine wpIn_mono (ih b t ht ρ s a w x1 s1 hr k hr1) ?_;intro e a1 w1 hc;have hx1:∀j,x1 ≠ .goto j:=fun j e'=>by subst e';cases hs
      have hs':some (x1,s1)=some (x,s'):=by grind
      injection hs' with hs';injection hs' with q1 q2;subst q1;subst q2
      cases e<;>first|exact hc|(obtain⟨_,_,_,_,g4,_⟩:=hc;exact absurd (g4.goto rfl) (hx1 _))
    ·cases hT
   ·rename_i l hl
    split at hT
    ·cases hT
    ·rename_i r hfl
     split at hT
     ·rename_i t1 t2 h1 h2;injection hT with hT;subst hT;simp only[zbK]at hs
      cases hr1:zbK C ca M trnd t1 s with
      | none=>rw[hr1]at hs;cases hs
      | some r1 =>
       obtain⟨x1,s1⟩:=r1;rw[hr1]at hs
       by_cases hg:∃j,x1=.goto j
       ·obtain⟨j,rfl⟩:=hg;dsimp only at hs;obtain⟨hj,hsA⟩:=zi hs;have hj:=zAF9 hj;subst hj
        cases hr2:zbK C ca M trnd t2 s1 with
        | none=>rw[hr2]at hsA;cases hsA
        | some r2 =>
         obtain⟨x2,s2⟩:=r2;rw[hr2]at hsA;have hx2:∀j,x2 ≠ .goto j:=fun j e'=>by subst e';cases hsA
         have hs':some (x2,s2)=some (x,s'):=by grind
         injection hs' with hs';injection hs' with q1 q2;subst q1;subst q2;refine zjF (fun a1 w1=>CR P Z ρ N ca s.h w (.goto j) s1 (.goto j) a1 w1) j (.inr ⟨r,hfl,fun a1 w1 hc=>?_⟩) ?_
         ·obtain⟨ρ1,g1,g2,g3,g4,g5⟩:=hc;refine wpIn_mono (ih r t2 h2 ρ1 s1 a1 w1 x2 s2 (hr.mono g1.more) g5 hr2) ?_;intro e a2 w2 hc2;have hc2':=hc2.trans g1 g2 g3
          cases e<;>first|exact hc2'|(obtain⟨_,_,_,_,g4,_⟩:=hc2;exact absurd (g4.goto rfl) (hx2 _))
         ·refine wpIn_mono (ih b t1 h1 ρ s a w (.goto j) s1 hr k hr1) ?_;intro e a1 w1 hc;have he:e=.goto j:=by obtain⟨_,_,_,_,g4,_⟩:=hc;exact g4
          subst he;exact⟨rfl,hc⟩
       ·have hx1:∀j,x1 ≠ .goto j:=fun j e'=>hg ⟨j,e'⟩;have hs':some (x1,s1)=some (x,s'):=by grind
        injection hs' with hs';injection hs' with q1 q2;subst q1;subst q2;refine zjF (fun _ _=>False) 0 (.inl fun _ _ h=>h) ?_;refine wpIn_mono (ih b t1 h1 ρ s a w x1 s1 hr k hr1) ?_;intro e a1 w1 hc
        cases e<;>first|exact hc|(obtain⟨_,_,_,_,g4,_⟩:=hc;exact absurd (g4.goto rfl) (hx1 _))
     ·cases hT
  | refuse=>cases hT
theorem zqm {N:Nat}:∀(ps:List Nat) (vs:List TV) (vs':List Value) (tm:Tr TV) (tmps:Array Value),ps.length=vs.length->VL ρ vs vs'->(∀p∈ps,p<N)->N<=tmps.size->TmR ρ tm tmps ->
  TmR ρ (zhy ps vs tm) ((ps.zip vs').foldl (fun tmps (t,a)=>tmps.setIfInBounds t a) tmps)/\((ps.zip vs').foldl (fun tmps (t,a)=>tmps.setIfInBounds t a) tmps).size=tmps.size
 | [],vs,vs',tm,tmps,hl,hv,hp,hN,k=>by exact⟨k,rfl⟩
 | p::ps,[],vs',tm,tmps,hl,hv,hp,hN,k=>by simp at hl
 | p::ps,v::vs,vs',tm,tmps,hl,hv,hp,hN,k=>by
  obtain⟨v',cs,rfl,h1,h2⟩:=hv.of_cons;simp only[zhy,List.zip_cons_cons,zEZ9];have hlt:=hp p zAV9;have k1:TmR ρ (tm.set p (some v)) (tmps.setIfInBounds p v'):=fun t u hu=>by
   rw[Tr.get_set]at hu
   by_cases e:t=p
   ·grind
   ·rw[if_neg e]at hu;obtain⟨u',a1,a2⟩:=k t u hu
    grind
  obtain⟨r1,r2⟩:=zqm ps vs cs _ _ (by simpa using hl) h2 (fun q hq=>hp q (zAO9 _ hq)) (by simpa using hN) k1
  grind
theorem zrD (ps:Array Nat)(vs:List Value)(tmps:Array Value):(ps.zip vs.toArray).foldl (fun tmps (t,a)=>tmps.setIfInBounds t a) tmps=(ps.toList.zip vs).foldl (fun tmps (t,a)=>tmps.setIfInBounds t a) tmps:=by
 obtain⟨ps⟩:=ps;simp
theorem zmi (k:WR P Z ρ h w){l:Nat}{loc:Loc}(hl:ρ l 0=some loc){st st':LoopState}{pe pe':TX}{tm:Tr TV}{ps:List Nat}{aS bo:zbI}{d:Nat}(ho:h.get l=some (.loop st pe tm ps aS bo d)){pd:Option Code}(hpd:PeR pe' pd) :
  ∃rec,w.heap[loc.r]?=some (.loop rec)/\rec.state=st/\PeR pe rec.pending/\WR P Z ρ (h.set l (.loop st' pe' tm ps aS bo d)) (w.putObj loc.r (.loop { rec with state:=st',pending:=pd }))/\Below Z w (w.putObj loc.r (.loop { rec with state:=st',pending:=pd })):=by
 obtain⟨o',ho',hor⟩:=k.obj _ _ _ hl;rw[ho]at ho';injection ho' with ho';subst ho';obtain⟨loc1,rec,locd,N',n',m',q1,q2,q3,q4,q5,q6,q7,q8,q9,q10,q11,q12⟩:=hor;rw[hl]at q1;injection q1 with q1;subst q1;have hZo:∀g' loc',ρ l g'=some loc'->Z<=loc'.r:=fun g' loc' hl'=>k.own hl' ho (fun cs h=>by cases h);have hdm:=k.dom _ _ _ hl;have hZr:=hZo _ _ hl;have hput:(w.putObj loc.r (.loop { rec with state:=st',pending:=pd })).heap[loc.r]?=some (.loop { rec with state:=st',pending:=pd }):=World.putObj_heap_same hdm.2.2;have hne:∀c g' l',c≠l->ρ c g'=some l'->l'.r≠loc.r:=fun c g' l' hc hl' e=>hc (k.sep _ _ _ _ _ _ hl' hl e zo);exact⟨rec,q3,q4,q5,k.change (ρ':=ρ) (x':=.loop st' pe' tm ps aS bo d) (fun _ _ _ h=>h) (fun _ _ _=>rfl) hl (w':=w.putObj loc.r (.loop { rec with state:=st',pending:=pd })) (by simp) (fun c g' l' hc hl'=>World.putObj_heap_other (hne c g' l' hc hl'))
  ⟨loc,_,locd,N',n',m',hl,q2,hput,rfl,hpd,q6,q7,q8,q9,q10,q11,q12⟩ (fun g' l' hl'=>by
   have hd':=k.dom _ _ _ hl';exact⟨hZo _ _ hl',by simp;exact hd'.2.2⟩) (fun g' l' hl' c g'' l'' hc hl'' e=>hc (k.sep _ _ _ _ _ _ hl' hl'' e (hZo _ _ hl')).symm),zkq hZr _⟩
theorem zxz {E:Env}{C:zbS}(hC:zgj P C)(hR:zhO P C)(hmix:P.follows .mixedOrders=true){l:Nat}{args:List TV}{b:Bool}(hr:zoA E C l args h=some (b,h')){args':List Value}{loc:Loc}(k:WR P Z ρ h w)(hZ:Z<=w.heap.size)(hl:ρ l 0=some loc)(hv:VL ρ args args') :
  ∃fn tmps assign body,(Instr.yield loc.r args'.toArray).run P w=.ok (.round loc.r fn tmps assign body) w/\RoundIn (Fr none) 0 P loc.r fn tmps assign body w (zfz P Z ρ h h' w (.ret (.bool b))):=by
 unfold zoA at hr;obtain⟨o,ho,hor⟩:=k.obj _ _ _ hl;rw[ho]at hr;dsimp only at hr
 cases o with
 | row=>cases hr
 | map=>cases hr
 | dfr=>cases hr
 | ro=>cases hr
 | loop st pe tm ps aS bo d =>
  simp only[zq6]at hr;obtain⟨hlen,hrA⟩:=zi hr;have hlen:=zAF9 hlen;obtain⟨loc1,rec,locd,N,n,m,q1,q2,q3,q4,q5,q6,q7,q8,q9,q10,q11,q12⟩:=hor;rw[hl]at q1;injection q1 with q1;subst q1;subst q8;refine⟨rec.fn,_,rec.assign,rec.body,run_yield q3 (by rw[zDS9,<- hv.1,<- hlen];simp),?_⟩;refine roundIn_of_wpIn trivial ?_;obtain⟨t1,t2⟩:=zqm rec.params.toList args args' tm rec.tmps hlen hv q9 q7 q6
  cases hr1:zbK C .nil E.N (some l) aS ⟨zhy rec.params.toList args tm,[],h⟩with
  | none=>rw[hr1]at hrA;cases hrA
  | some r1 =>
   obtain⟨x1,s1⟩:=r1;rw[hr1]at hrA;have kst:StR P Z ρ N .nil ⟨zhy rec.params.toList args tm,[],h⟩ { tmps:=(rec.params.zip args'.toArray).foldl (fun tmps (t,a)=>tmps.setIfInBounds t a) rec.tmps,defers:=[] } w :=
    ⟨k,by rw[zrD];exact t1,by dsimp only;rw[zrD,t2];exact q7,.nil,hZ⟩
   refine wpIn_mono (zoa hC hR hmix (ca:=.nil) (rnd:=some loc.r) (trnd:=some l) (.inr fun _=>rfl) n rec.assign aS q10 ρ _ _ w x1 s1 ⟨loc,hl,rfl⟩ kst hr1) ?_;intro e a1 w1 hc;obtain⟨ρ1,g1,g2,g3,g4,g5⟩:=hc;simp only[zxh]at hrA
   cases x1<;>try cases hrA
   have g4:e=.normal:=g4;subst g4
   cases ho1:s1.h.get l with
   | none=>rw[ho1]at hrA;cases hrA
   | some o1 =>
    rw[ho1]at hrA;dsimp only at hrA
    cases o1 with
    | row=>cases hrA
    | map=>cases hrA
    | dfr=>cases hrA
    | ro=>cases hrA
    | loop st1 pe1 tm1 ps1 as1 bo1 d1 =>
     simp only[zqv]at hrA
     cases st1<;>try cases hrA
     have hl1:=g1.more _ _ _ hl;obtain⟨rec0,p1,p2,p3,_,_⟩:=zmi (st':=.busy) (pe':=.norm) (pd:=none) g5.wr hl1 ho1 rfl;obtain⟨rec1,p1',p2',p3',p4,p5⟩:=zmi (st':=.busy) (pe':=pe1) (pd:=rec0.pending) g5.wr hl1 ho1 p3;rw[p1]at p1';injection p1' with p1';injection p1' with p1';subst p1';refine⟨w1.putObj loc.r (.loop { rec0 with state:=.busy }),run_beginRound p1 p2,?_⟩
     cases hr2:zbK C .nil E.N (some l) bo ⟨s1.tm,s1.df,s1.h.set l (.loop .busy pe1 tm1 ps1 as1 bo1 d1)⟩with
     | none=>rw[hr2]at hrA;cases hrA
     | some r2 =>
      obtain⟨x2,s2⟩:=r2;rw[hr2]at hrA;have k2:StR P Z ρ1 N .nil ⟨s1.tm,s1.df,s1.h.set l (.loop .busy pe1 tm1 ps1 as1 bo1 d1)⟩ a1 (w1.putObj loc.r (.loop { rec0 with state:=.busy })):=⟨p4,g5.tm,g5.sz,g5.df,zBJ9 g5.hZ p5.size⟩
      refine wpIn_mono (zoa hC hR hmix (ca:=.nil) (rnd:=some loc.r) (trnd:=some l) (.inr fun _=>rfl) m rec.body bo q11 ρ1 _ _ _ x2 s2 ⟨loc,hl1,rfl⟩ k2 hr2) ?_;intro e a2 w2 hc2;obtain⟨ρ2,f1,f2,f3,f4,f5⟩:=hc2;simp only[zjj]at hrA
      cases hdf:s2.df with
      | cons _ _=>rw[hdf]at hrA;cases hrA
      | nil =>
       rw[hdf]at hrA;dsimp only at hrA
       cases ho2:s2.h.get l with
       | none=>rw[ho2]at hrA;cases hrA
       | some o2 =>
        rw[ho2]at hrA;dsimp only at hrA
        cases o2 with
        | row=>cases hrA
        | map=>cases hrA
        | dfr=>cases hrA
        | ro=>cases hrA
        | loop st2 pe2 tm2 ps2 as2 bo2 d2 =>
         have hl2:=f1.more _ _ _ hl1;have hle:Rho.le h.next ρ ρ2:=g1.trans f1 (by rw[TH.next_set];exact g3);have hbl:Below Z w w2:=(g2.trans p5).trans f2;have hnx:h.next<=s2.h.next:=zBJ9 g3 (by have:=f3;rw[TH.next_set]at this;exact this);have fin:∀(x:TX) (pd:Option Code),PeR x pd->h'=s2.h.set l (.loop (if pd.isNone then .ready else .done) x tm2 ps2 as2 bo2 d2)->b=pd.isNone->∃v w',(Instr.endRound loc.r pd).run P w2=.ok v w'/\zfz P Z ρ h h' w (.ret (.bool b)) (.returned v) w':=fun x pd hx hh hb=>by
          obtain⟨rec2,z1,z2,z3,z4,z5⟩:=zmi (st':=if pd.isNone then .ready else .done) (pe':=x) (pd:=pd) f5.wr hl2 ho2 hx;refine⟨_,_,run_endRound pd z1,ρ2,hle,by rw[hh];exact z4,hbl.trans z5,by rw[hh,TH.next_set];exact hnx,_,rfl,by rw[hb];exact .bool _⟩
         simp only[ztR]at hrA
         cases x2 with
         | norm =>
          have f4:e=.normal:=f4;subst f4;injection hrA with hrA;injection hrA with y1 y2;exact fin .norm none rfl y2.symm y1.symm
         | exit id =>
          have f4:e=.exit id:=f4;subst f4;injection hrA with hrA;injection hrA with y1 y2;exact fin (.exit id) (some (.exit id)) rfl y2.symm y1.symm
         | goto t =>
          have f4:e=.goto t:=f4;subst f4;injection hrA with hrA;injection hrA with y1 y2;exact fin (.goto t) (some (.goto t)) rfl y2.symm y1.symm
         | ret =>
          have f4:e=.ret:=f4;subst f4;injection hrA with hrA;injection hrA with y1 y2;exact fin .ret (some .ret) rfl y2.symm y1.symm
         | panic v=>cases hrA
theorem zs8 (k:WR P Z ρ h w){tm:Tr TV}{tmps:Array Value}(kt:TmR ρ tm tmps):∀(rs:List ResultVar) (ts:List zl9) (vs:List TV),zcZ (zhA P) rs=some ts->zhX tm h ts=some vs ->
  ∃vs',(rs.mapM fun(x:ResultVar)=>(match x with
  | .tmp t=>pure (tmps.getD t undef)
  | .cell a t=>do loadVar t (<- asAddr (tmps.getD a undef)):Sem Value)).run P w=.ok vs' w/\VL ρ vs vs'
 | [],ts,vs,hm,hr=>by
  simp only[zcZ]at hm;injection hm with hm;subst hm;simp only[zhX]at hr;injection hr with hr;subst hr;exact⟨[],by simp,VL.nil ρ⟩
 | r::rs,ts,vs,hm,hr=>by
  unfold zcZ at hm
  split at hm
  ·cases hm
  ·rename_i t ht
   split at hm
   ·cases hm
   ·rename_i ts' hts;injection hm with hm;subst hm;simp only[zhX]at hr
    split at hr
    ·cases hr
    ·rename_i v hv
     split at hr
     ·cases hr
     ·rename_i us hus;injection hr with hr;subst hr;obtain⟨us',e1,e2⟩:=zs8 k kt rs ts' us hts hus;have hone:∃v',((match r with
       | .tmp t=>pure (tmps.getD t undef)
       | .cell a t=>do loadVar t (<- asAddr (tmps.getD a undef)):Sem Value)).run P w=.ok v' w/\VR ρ v v':=by
       cases r with
       | tmp t0 =>
        simp only[zhA]at ht;injection ht with ht;subst ht;obtain⟨v',a1,a2⟩:=kt _ _ hv;exact⟨v',by simp[zDA9,a1],a2⟩
       | cell t0 ty =>
        simp only[zhA]at ht
        split at ht
        ·rename_i g n hg hn;injection ht with ht;subst ht;dsimp only at hv
         split at hv
         ·rename_i p hp;obtain⟨p',a1,a2⟩:=kt _ _ hp;obtain⟨v',b1,b2⟩:=zqu k hg hn a2 hv;refine⟨v',?_,b2⟩;have hpt:∃ad,p'=.pointer (some ad):=by
           have hv2:zgn g n h p=some v:=hv;unfold zgn at hv2
           split at hv2
           ·cases a2;exact⟨_,rfl⟩
           ·cases hv2
          obtain⟨ad,rfl⟩:=hpt;simp only[Instr.loadAt,Instr.sureAddr,Sem.run_bind,Sem.run_pure,Result.andThen_ok]at b1;simp only[zDA9,a1,Option.getD_some,asAddr,Sem.run_bind,Sem.run_pure,Result.andThen_ok];exact b1
         ·cases hv
        ·cases ht
      obtain⟨v',c1,c2⟩:=hone;refine⟨v'::us',?_,.cons c2 e2⟩
      simp_all
theorem ztS (k:WR P Z ρ h w){tm:Tr TV}{fn:Func}{tmps:Array Value}(kt:TmR ρ tm tmps){ts:List zl9}{vs:List TV}(hm:zcZ (zhA P) fn.results.toList=some ts)(hr:zhX tm h ts=some vs):∃v',(results fn tmps).run P w=.ok v' w/\VR ρ (tup vs) v':=by
 obtain⟨vs',e1,e2⟩:=zs8 k kt _ _ _ hm hr;unfold results;rw[Array.mapM_eq_mapM_toList];simp only[Sem.run_bind,map_eq_pure_bind,bind_assoc];generalize hX:Sem.run P (List.mapM _ fn.results.toList) w=X;have hX2:X=.ok vs' w:=hX.symm.trans e1;rw[hX2];simp only[Result.andThen_ok,pure_bind,Sem.run_pure]
 cases vs with
 | nil =>
  have:=e2.of_nil;subst this;exact⟨_,rfl,VR.tupL (VL.nil ρ)⟩
 | cons v vs =>
  obtain⟨v',cs,rfl,a1,a2⟩:=e2.of_cons
  cases vs with
  | nil =>
   have:=a2.of_nil;subst this;exact⟨_,rfl,a1⟩
  | cons u us =>
   obtain⟨u',ds,rfl,b1,b2⟩:=a2.of_cons;refine⟨.tuple (v'::u'::ds).toArray,?_,VR.tupL (.cons a1 (.cons b1 b2))⟩;simp
theorem zs3 (k:WR P Z ρ h w){b g:Nat}{loc:Loc}(hρ:ρ b g=some loc){x:TV}{h':TH}(hw:zet h b g 0 [x]=some h'):(∃v,w.cell? ⟨loc.r,0,none⟩=some v)/\w.frozen? ⟨loc.r,0,none⟩=false:=by
 unfold zet at hw
 split at hw
 ·rename_i y hy;unfold znd at hw
  split at hw
  ·rename_i e G M len cells;obtain⟨ha,hwA⟩:=zi hw;obtain⟨hb,hwB⟩:=zi hwA;have ha:=zAF9 ha;have hb:=zAM9 hb;subst ha;obtain⟨o,ho,hor⟩:=k.obj _ _ _ hρ;rw[hy]at ho;injection ho with ho;subst ho;obtain⟨loc',cur,q1,q2,q3,q4,q5,q6,q7⟩:=hor.2.2 g hor.1 (zAE9 _);rw[hρ]at q1;injection q1 with q1;subst q1;have hlen:=q6 rfl;obtain⟨_,v,_,c2,_,_⟩:=q7 0 (by simp at hb;omega);obtain⟨fz,q2,hfz⟩:=q2;have h0:0<cur.size:=(zBT9.1 c2).1;refine⟨⟨v,by simp[World.cell?,q2,c2]⟩,?_⟩;rcases hfz with rfl|⟨_,hfz⟩
   ·simp[World.frozen?,q2]
   ·obtain⟨lo,hi⟩:=fz;simp only[World.frozen?,q2,Bool.and_eq_false_iff,decide_eq_false_iff_not]
    left
    dsimp only at hfz;omega
  ·cases hw
 ·cases hw
theorem zkc (n:Int){r:Nat}{v:Value}(hc:w.cell? ⟨r,0,none⟩=some v)(hf:w.frozen? ⟨r,0,none⟩=false):(storeCells ⟨r,0,none⟩ [.int .i64 n]).run P w=.ok () (w.setCell ⟨r,0,none⟩ (.int .i64 n)):=by
 have h0:(⟨r,0,none⟩:Addr).add 0=⟨r,0,none⟩:=by simp[zc0]
 simp[storeCells,h0,go_sem,hc,hf]
structure zgL (P:Program)(errno f:Nat):Prop where
 ent:∀(args:Array Value) w,(callFunc f args).run P w=.ok (.enter f args) w
 idle:∀p' c' w,CallsDIn (Fr none) 0 P f #[p',c'] .returning w fun e u' w'=>(∃v,e=.returned v)/\u'=.returning/\w'=w
 hit:∀(n:Int) (eb gid:Nat) (cap:Array Value) (w:World) (R:World->Prop),(∀w,(callFunc gid cap).run P w=.ok (.enter gid cap) w)->CallsIn (Fr none) 0 P gid cap w (fun e w'=>e=.returned (.tuple #[])/\R w') ->
  (∀w1,R w1->(∃v,w1.cell? ⟨eb,0,none⟩=some v)/\w1.frozen? ⟨eb,0,none⟩=false) ->
  CallsDIn (Fr none) 0 P f #[.pointer (some ⟨eb,0,none⟩),.func (.func gid) #[] cap] (.panicking [{ v:=.iface errno (.int .i64 n),recovered:=false }]) w fun e u' w' =>
   (∃v,e=.returned v)/\u'=.panicking [{ v:=.iface errno (.int .i64 n),recovered:=true }]/\∃w1,R w1/\w'=w1.setCell ⟨eb,0,none⟩ (.int .i64 n)
def MR (ρ:Rho):TM->FrameMode->Prop
 | .returning,u=>u=.returning
 | .panicking v,u=>∃v',u=.panicking [{ v:=v',recovered:=false }]/\VR ρ v v'
theorem MR.mono (hρ:∀b g loc,ρ b g=some loc->ρ' b g=some loc){m:TM}{u:FrameMode}(k:MR ρ m u):MR ρ' m u:=by
 cases m with
 | returning=>exact k
 | panicking v=>obtain⟨v',a,b⟩:=k;exact⟨v',a,b.mono hρ⟩
theorem MR.ne {m:TM}{u:FrameMode}(k:MR ρ m u):u ≠ .run:=by
 cases m with
 | returning=>simp only[MR]at k;subst k;simp
 | panicking v=>obtain⟨v',rfl,_⟩:=k;simp
theorem zwk {E:Env}{C:zbS}(hC:zgj P C)(hca:∀f,E.caught.get f=some ()->zgL P E.errno f){fn:Func}{tmps:Array Value}{R:Ending->World->Prop} :
  ∀(td:List TD) (ds:List Deferred) (m:TM) (u:FrameMode) (h:TH) (w:World) (ρ:Rho) (m':TM) (h':TH),WR P Z ρ h w->Z<=w.heap.size->DfR ρ E.caught td ds->MR ρ m u->zc5 E C td m h=some (m',h') ->
  (∀ρ' w' u',Rho.le h.next ρ ρ'->WR P Z ρ' h' w'->Below Z w w'->h.next<=h'.next->MR ρ' m' u'->LeavesIn (Fr none) 0 P fn tmps R [] u' w')->LeavesInM (Fr none) 0 P fn tmps R ds u w:=by
 intro td
 induction td with
 | nil =>
  intro ds m u h w ρ m' h' k hZ hd hm hl hfin
  cases hd
  simp only[zc5]at hl;injection hl with hl;injection hl with h1 h2;subst h1;subst h2;exact hfin ρ w u (.refl _ _) k (.refl _ _) (zAE9 _) hm
 | cons t td ih =>
  intro ds m u h w ρ m' h' k hZ hd hm hl hfin
  cases hd with
  | mark hb hrest =>
   rename_i b loc ds;simp only[zc5]at hl
   split at hl
   ·rename_i hg;obtain⟨o,ho,hor⟩:=k.obj _ _ _ hb;rw[hg]at ho;injection ho with ho;subst ho;obtain⟨loc1,q1,q2⟩:=hor;rw[hb]at q1;injection q1 with q1;subst q1;have hZo:∀g' loc',ρ b g'=some loc'->Z<=loc'.r:=fun g' loc' hl'=>k.own hl' hg (fun cs h=>by cases h);have hdm:=k.dom _ _ _ hb;have hZr:=hZo _ _ hb;have hput:(w.putObj loc.r (.deferred none)).heap[loc.r]?=some (.deferred none):=World.putObj_heap_same hdm.2.2;have hne:∀c g' l',c≠b->ρ c g'=some l'->l'.r≠loc.r:=fun c g' l' hc hl' e=>hc (k.sep _ _ _ _ _ _ hl' hb e zo);have k2:=k.change (ρ':=ρ) (x':=.dfr true) (fun _ _ _ h=>h) (fun _ _ _=>rfl) hb (w':=w.putObj loc.r (.deferred none)) (by simp) (fun c g' l' hc hl'=>World.putObj_heap_other (hne c g' l' hc hl'))
     ⟨loc,hb,hput⟩ (fun g' l' hl'=>by
      have hd':=k.dom _ _ _ hl';exact⟨hZo _ _ hl',by simp;exact hd'.2.2⟩) (fun g' l' hl' c g'' l'' hc hl'' e=>hc (k.sep _ _ _ _ _ _ hl' hl'' e (hZo _ _ hl')).symm)
    have hb2:=zkq (w:=w) hZr (.deferred none);refine⟨hm.ne,.inl ⟨loc.r,_,rfl,run_takeDeferred q2,?_⟩⟩;exact ih _ m u _ _ ρ m' h' k2 (zBJ9 hZ hb2.size) hrest hm hl fun ρ' w' u' a1 a2 a3 a4 a5=>hfin ρ' w' u' a1 a2 (hb2.trans a3) a4 a5
   ·cases hl
  | caught hf hp hc hrest =>
   rename_i f p c p' c' ds;have hok:=hca f hf;have hinv:(invoke (.fn (.func f) #[]) #[p',c']).run P w=.ok (.enter f #[p',c']) w:=by
    simp only[invoke,Array.append_empty];exact hok.ent _ w
   refine⟨hm.ne,.inr ⟨fun hd=>by simp[Fr,Fence.wide]at hd,_,_,f,#[p',c'],rfl,hinv,fun _ _=>trivial,?_⟩⟩
   cases m with
   | returning =>
    have hm:u=.returning:=hm;subst hm;simp only[zc5]at hl;refine(hok.idle p' c' w).mono ?_;rintro e u' w' ⟨⟨v,rfl⟩,rfl,rfl⟩;exact ih _ .returning .returning _ _ ρ m' h' k hZ hrest rfl hl hfin
   | panicking v =>
    obtain⟨v',rfl,hv⟩:=hm;simp only[zc5]at hl
    split at hl
    ·rename_i heq
     cases heq
    ·rename_i t n heq
     cases heq
     obtain⟨ht,hlA⟩:=zi hl;have ht:=zAF9 ht
     split at hlA
     ·rename_i g cap
      split at hlA
      ·rename_i h1 hcall
       split at hlA
       ·rename_i b g' e0
        split at hlA
        ·rename_i h2 hw
         cases hp with
         | ptr hpl hpc =>
          rename_i loc
          cases hc with
          | fn hcl hcr =>
           rename_i caps;obtain⟨hent,hcalls⟩:=hC g _ _ _ h1 hcall Z ρ w caps k hZ ⟨hcl,hcr⟩
           cases hv with
           | iface hv =>
            cases hv
            subst ht;refine(hok.hit n loc.r g caps.toArray w (fun w1=>∃ρ1,Rho.le h.next ρ ρ1/\WR P Z ρ1 h1 w1/\Below Z w w1/\h.next<=h1.next) hent (hcalls.mono ?_) ?_).mono ?_
            ·rintro e w1 ⟨ρ1,a1,a2,a3,a4,v',rfl,a5⟩;refine⟨?_,ρ1,a1,a2,a3,a4⟩;generalize hvv:v'=vv at a5
             cases a5 with
             | tuple hl0 hx0 =>
              rename_i cs;have:cs=[]:=by cases cs;rfl;simp at hl0
              subst this;rfl
            ·rintro w1 ⟨ρ1,a1,a2,a3,a4⟩;exact zs3 a2 (a1.more _ _ _ hpl) hw
            ·rintro e u' w' ⟨⟨v,rfl⟩,rfl,w1,⟨ρ1,a1,a2,a3,a4⟩,b0⟩;obtain⟨w2,b1,b2,b3,b4⟩:=zju a2 (a1.more _ _ _ hpl) (VL.one (.int .i64 n)) (by simp[TV.one]) hw;obtain⟨⟨v0,q1⟩,q2⟩:=zs3 a2 (a1.more _ _ _ hpl) hw;rw[zkc n q1 q2]at b1;injection b1 with _ b1;rw[<- b0]at b1;subst b1;exact ih _ .returning .returning _ _ ρ1 m' h' b2 (zBJ9 hZ (a3.trans b3).size) (hrest.mono a1.more) rfl hlA fun ρ' w3 u' c1 c2 c3 c4 c5=>hfin ρ' w3 u' (a1.trans c1 (by rw[b4];exact a4)) c2 ((a3.trans b3).trans c3) (by rw[b4]at c4;exact zBJ9 a4 c4) c5
        ·cases hlA
       ·cases hlA
      ·cases hlA
     ·cases hlA
    ·cases hl
structure zgb (P:Program)(E:Env):Prop where
 mix:P.follows .mixedOrders=true
 fn:∀f F,E.funcs.get f=some F->∃fn,P.funcs[f]?=some fn/\zjr P fn=some F/\∀(args:Array Value) w,(callFunc f args).run P w=.ok (.enter f args) w
 spec:∀f g,E.spec f=some g->∀(Z:Nat) (ρ:Rho) (w:World) (args:List TV) (args':List Value) (h:TH) (r:TE) (h':TH),g args h=some (r,h')->WR P Z ρ h w->Z<=w.heap.size->VL ρ args args' ->
  (∀w,(callFunc f args'.toArray).run P w=.ok (.enter f args'.toArray) w)/\CallsIn (Fr none) 0 P f args'.toArray w (zfz P Z ρ h h' w r)
 caught:∀f,E.caught.get f=some ()->zgL P E.errno f
theorem zwS {fn:Func}{F:zc}(hF:zjr P fn=some F):∃c,fn.body=some c/\zcq P fn.ntmps 1000 c=some F.body/\zcZ (zhA P) fn.results.toList=some F.res/\F.N=fn.ntmps:=by
 unfold zjr at hF
 grind
theorem zAp {E:Env}(hE:zgb P E){C:zbS}(hC:zgj P C)(hR:zhO P C):zgj P ⟨zbe E C,zoA E C⟩:=by
 intro f args h r h' hr Z ρ w args' k hZ hv;simp only[zbe]at hr
 split at hr
 ·rename_i F hF;obtain⟨hlen,hrA⟩:=zi hr;have hlen:=zAM9 hlen;obtain⟨fn,p1,p2,p3⟩:=hE.fn f F hF;obtain⟨c,c1,c2,c3,c4⟩:=zwS p2;refine⟨fun w=>p3 _ w,callsIn_of_wp_marks p1 c1 trivial ?_⟩
  cases hr1:zbK C E.caught E.N none F.body ⟨Tr.putL .nil 0 args,[],h⟩with
  | none=>rw[hr1]at hrA;cases hrA
  | some r1 =>
   obtain⟨x,s⟩:=r1;rw[hr1]at hrA;have kst:StR P Z ρ fn.ntmps E.caught ⟨Tr.putL .nil 0 args,[],h⟩ { tmps:=args'.toArray++Array.replicate (fn.ntmps-args'.toArray.size) undef,defers:=[] } w:=by
    refine⟨k,fun t v ht=>?_,by simp;omega,.nil,hZ⟩;dsimp only at ht;rw[Tr.get_putL]at ht
    split at ht
    ·rename_i hlt;obtain⟨y,y1,y2⟩:=hv.at ht
     grind
    ·rw[Tr.get_nil]at ht;cases ht
   refine wpIn_mono (zoa hC hR hE.mix (rnd:=none) (trnd:=none) (.inl rfl) 1000 c F.body c2 ρ _ _ w x s trivial kst hr1) ?_;intro e a1 w1 hc;obtain⟨ρ1,g1,g2,g3,g4,g5⟩:=hc;have out:∀(m:TM) (u:FrameMode),MR ρ1 m u->zim E F s.tm (zc5 E C s.df m s.h)=some (r,h')->LeavesInM (Fr none) 0 P fn a1.tmps (zfz P Z ρ h h' w r) a1.defers u w1:=fun m u hm hl=>by
    cases hlv:zc5 E C s.df m s.h with
    | none=>rw[hlv]at hl;cases hl
    | some q =>
     obtain⟨m',h2⟩:=q;rw[hlv]at hl;refine zwk hC hE.caught s.df a1.defers m u s.h w1 ρ1 m' h2 g5.wr g5.hZ g5.df hm hlv fun ρ2 w2 u2 b1 b2 b3 b4 b5=>?_;have hle:=g1.trans b1 g3;have hb:=g2.trans b3;have hn:=zBJ9 g3 b4
     cases m' with
     | returning =>
      have b5:u2=.returning:=b5;subst b5;simp only[zim]at hl
      split at hl
      ·rename_i vs hvs;injection hl with hl;injection hl with l1 l2;subst l1;subst l2;obtain⟨v',d1,d2⟩:=ztS b2 (g5.tm.mono b1.more) c3 hvs;exact⟨v',d1,ρ2,hle,b2,hb,hn,v',rfl,d2⟩
      ·cases hl
     | panicking v =>
      obtain⟨v',rfl,d2⟩:=b5;simp only[zim]at hl;injection hl with hl;injection hl with l1 l2;subst l1;subst l2;exact⟨ρ2,hle,b2,hb,hn,v',rfl,d2⟩
   simp only[zxP]at hrA
   cases x with
   | norm =>
    have g4:e=.normal:=g4;subst g4;exact out .returning .returning rfl hrA
   | ret =>
    have g4:e=.ret:=g4;subst g4;exact out .returning .returning rfl hrA
   | panic v =>
    obtain⟨v',rfl,hv'⟩:=g4;exact out (.panicking v) _ ⟨v',rfl,hv'⟩ hrA
   | exit id=>cases hrA
   | goto l=>cases hrA
 ·split at hr
  ·rename_i g hg;exact hE.spec f g hg Z ρ w args args' h r h' hr k hZ hv
  ·cases hr
theorem zjD {E:Env}(hE:zgb P E):∀d,zgj P (zdq E d)/\zhO P (zdq E d)
 | 0=>⟨fun f args h r h' hr=>(by cases hr),fun l args h b h' hr=>(by cases hr)⟩
 | d+1=>by
  obtain⟨hC,hR⟩:=zjD hE d;exact⟨zAp hE hC hR,fun l args h b h' hr Z ρ w args' loc k hZ hl hv=>zxz hC hR hE.mix hr k hZ hl hv⟩
theorem WR.start (w:World):WR P w.heap.size (fun _ _=>none) ⟨0,.nil⟩ w:=⟨fun _ _ _ h=>(by cases h),fun _ _ _ h=>(by cases h),fun _ _ _ _ _ _ h=>(by cases h)⟩
theorem zuM {E:Env}(hE:zgb P E){d f:Nat}{r:TE}{h':TH}(hr:(zdq E d).fn f [] ⟨0,.nil⟩=some (r,h'))(w:World) :
  (∀w,(callFunc f #[]).run P w=.ok (.enter f #[]) w)/\CallsIn (Fr none) 0 P f #[] w fun e w'=>Below w.heap.size w w'/\match r with
   | .ret v=>∃ρ v',e=.returned v'/\VR ρ v v'
   | .panic v=>∃ρ v',e=.panicked [{ v:=v',recovered:=false }]/\VR ρ v v':=by
 obtain⟨h1,h2⟩:=(zjD hE d).1 f [] ⟨0,.nil⟩ r h' hr w.heap.size _ w [] (WR.start w) (zAE9 _) (VL.nil _);refine⟨h1,h2.mono ?_⟩;rintro e w' ⟨ρ',_,_,hb,_,he⟩
 grind
end Tw
end Go.Proofs.YtkeknmgnoceogaaGreat
namespace Go.Proofs.YtkeknmgnoceogaaGreat
open Go.RowKit
variable {Z:Nat}
def Ext (w w':World):Prop:=Below w.heap.size w w'
theorem Ext.refl (w:World):Ext w w:=Below.refl _ w
theorem Ext.trans {w w1 w2:World}(h:Ext w w1)(k:Ext w1 w2):Ext w w2:=Below.trans h (Below.mono k (Below.size h))
theorem Ext.drew {w w1:World}(h:Ext w w1):Ext w w1.drew:=Below.drew h
theorem Ext.alloc {w w1:World}(h:Ext w w1)(o:Obj):Ext w (w1.alloc o):=Below.alloc h (Below.size h) o
theorem Ext.setCell {w w1:World}(h:Ext w w1){p:Addr}(hp:w.heap.size<=p.block)(u:Value):Ext w (w1.setCell p u):=Below.setCell h hp u
theorem Ext.grown {w w1 w2:World}{row:Option Nat}(h:Ext w w1)(hg:w1.grownBy w2 row)(hr:∀k,row=some k->w.heap.size<=k):Ext w w2:=Below.grown h hg (Below.size h) hr
theorem Ext.size {w w1:World}(h:Ext w w1):w.heap.size<=w1.heap.size:=Below.size h
theorem Ext.below {w w1:World}(h:Ext w w1):Below w.heap.size w w1:=h
theorem Ext.cells {W w1:World}(hb:Ext W w1):(∀b o,b<W.heap.size->w1.cell? ⟨b,o,none⟩=W.cell? ⟨b,o,none⟩)/\(∀b o,b<W.heap.size->w1.frozen? ⟨b,o,none⟩=W.frozen? ⟨b,o,none⟩) :=
 ⟨fun b o h=>Below.cell hb (p:=⟨b,o,none⟩) h,fun b o h=>Below.frozen hb (p:=⟨b,o,none⟩) h⟩
theorem Ext.cell {w w1:World}(h:Ext w w1){p:Addr}{v:Value}(hc:w.cell? p=some v):w1.cell? p=some v:=(Below.cell h (World.block_lt_of_cell? w _ hc)).trans hc
theorem Ext.block {w w1:World}(h:Ext w w1){b:Nat}{o:Obj}(hc:w.heap[b]?=some o):w1.heap[b]?=some o:=(Below.block h b (zBT9.1 hc).1).trans hc
theorem zAL (w:World)(o1:Obj):Ext w (w.alloc o1):=(Ext.refl w).alloc o1
theorem Ext.grownBy {w w1:World}(h:Ext w w1)(row:Option Nat):w.grownBy w1 row:=⟨h.os,h.tape,h.output,h.size,fun k hk _=>Below.block h k hk⟩
theorem zfU (b o j:Nat):(⟨b,o,none⟩:Addr).add j=⟨b,o+j,none⟩:=by unfold Addr.add;split<;>simp_all
def Typ (w:World)(b:Nat)(t:TypeId):Prop:=∃cs fr,w.heap[b]?=some (.cells cs t fr)
theorem Typ.lt {w:World}{b:Nat}{t:TypeId}(h:Typ w b t):b<w.heap.size:=by obtain⟨_,_,h⟩:=h;exact(zBT9.1 h).1
theorem Typ.ext {w w':World}{b:Nat}{t:TypeId}(h:Typ w b t)(hb:Ext w w'):Typ w' b t:=by obtain⟨cs,fr,h⟩:=h;exact⟨cs,fr,hb.block h⟩
theorem Typ.set {w:World}{b:Nat}{t:TypeId}(h:Typ w b t)(p:Addr)(v:Value):Typ (w.setCell p v) b t:=by
 obtain⟨cs,fr,h⟩:=h
 by_cases e:p.block=b
 ·subst e;exact⟨_,_,by simp[World.setCell,zFI9,h];exact⟨rfl,rfl⟩⟩
 ·exact⟨cs,fr,(Below.heap_setCell w p v b (fun x=>e x.symm)).trans h⟩
theorem Typ.same {w w':World}{b:Nat}{t:TypeId}(h:Typ w b t)(he:w'.heap[b]?=w.heap[b]?):Typ w' b t:=by obtain⟨cs,fr,h⟩:=h;exact⟨cs,fr,he.trans h⟩
theorem Typ.one {w:World}{b:Nat}{t t':TypeId}(h:Typ w b t)(h':Typ w b t'):t=t':=by
 obtain⟨cs,fr,h⟩:=h;obtain⟨cs',fr',h'⟩:=h'
 grind
theorem zyD {w:World}{base:Nat}{e:TypeId}{size n:Nat}{v:Value}{xs:List Value}(h:w.ownsRow base e size v n xs){b:Nat}(hb:v.ownBlock=some b):Typ w b e:=by
 rcases h.2 with⟨rfl,_⟩|⟨g,cap,cur,rfl,_,hg,_⟩
 ·simp[Value.ownBlock]at hb
 ·simp[Value.ownBlock]at hb;subst hb;exact⟨_,_,hg⟩
def zhU (t:TypeId)(Z:Nat)(w:World)(b:Nat):Prop:=b<Z\/Typ w b t
theorem zhU.same {w w':World}{b:Nat}{t:TypeId}(h:zhU t Z w b)(he:w'.heap[b]?=w.heap[b]?):zhU t Z w' b:=h.imp id fun h=>h.same he
theorem zhU.ne {w:World}{b X:Nat}{t t':TypeId}(h:zhU t Z w b)(hX:Z<=X)(ht:Typ w X t')(hne:t'≠t):b≠X:=by
 rintro rfl;rcases h with h|h
 ·omega
 ·exact hne (ht.one h)
def RT (t:TypeId)(Z:Nat)(w:World)(A:Option Addr)(xs:List Value):Prop :=
 xs ≠ []->∃b o,A=some ⟨b,o,none⟩/\zhU t Z w b/\∀(j:Nat) u,xs[j]?=some u->w.cell? ⟨b,o+j,none⟩=some u
variable {t:TypeId}
theorem RT.nil (w:World)(A:Option Addr):RT t Z w A []:=fun h=>(h rfl).elim
theorem RT.move {w w':World}{A xs}(h:RT t Z w A xs)(hb:∀b o,A=some ⟨b,o,none⟩->zhU t Z w b->b<w.heap.size->w'.heap[b]?=w.heap[b]?):RT t Z w' A xs:=fun hl=>by
 obtain⟨b,o,hA,ht,hc⟩:=h hl;have hlt:b<w.heap.size:=by
  obtain⟨u,l,rfl⟩:=List.exists_cons_of_ne_nil hl;exact World.block_lt_of_cell? w _ (hc 0 u rfl)
 have he:=hb b o hA ht hlt;exact⟨b,o,hA,ht.same he,fun j u hj=>(World.cell?_of_block (a:=⟨b,o+j,none⟩) he).trans (hc j u hj)⟩
theorem RT.ext {w w':World}{A xs}(h:RT t Z w A xs)(hb:Ext w w'):RT t Z w' A xs:=h.move fun b _ _ _ hl=>Below.block hb b hl
theorem RT.drew {w:World}{A xs}(h:RT t Z w A xs):RT t Z w.drew A xs:=h.ext (Ext.refl _).drew
theorem RT.alloc {w:World}{A xs}(h:RT t Z w A xs)(o:Obj):RT t Z (w.alloc o) A xs:=h.ext (zAL _ _)
theorem RT.grown {w w':World}{A xs}(h:RT t Z w A xs){base:Nat}{e:TypeId}{size n:Nat}{v:Value}{ys:List Value}(hown:w.ownsRow base e size v n ys)(he:e≠t)(hb:Z<=base)(hg:w.grownBy w' v.ownBlock):RT t Z w' A xs :=
 h.move fun b _ _ ht hl=>hg.block b hl fun e'=>ht.ne (zBJ9 hb (hown.lt b e'.symm).1) (zyD hown e'.symm) he rfl
theorem RT.set {w:World}{A xs}(h:RT t Z w A xs){p:Addr}{e:TypeId}(hp:Z<=p.block)(ht:Typ w p.block e)(he:e≠t)(v:Value):RT t Z (w.setCell p v) A xs :=
 h.move fun b _ _ ho _=>Below.heap_setCell w p v b (ho.ne hp ht he)
theorem RT.lt {w:World}{A xs}(h:RT t Z w A xs){b o:Nat}(hA:A=some ⟨b,o,none⟩)(hl:xs ≠ []):b<w.heap.size:=by
 obtain⟨b',o',hA',_,hc⟩:=h hl;rw[hA]at hA';injection hA' with hA';injection hA' with hA' hA2;subst hA';subst hA2;obtain⟨u,l,rfl⟩:=List.exists_cons_of_ne_nil hl;exact World.block_lt_of_cell? w _ (hc 0 u rfl)
theorem RT.mono {w:World}{A xs}(h:RT t Z w A xs){Z':Nat}(hz:Z<=Z'):RT t Z' w A xs:=fun hl=>by
 obtain⟨b,o,hA,ht,hc⟩:=h hl;exact⟨b,o,hA,ht.imp (fun h=>zBC9 h hz) id,hc⟩
theorem RT.sub {w:World}{b o:Nat}{xs}(h:RT t Z w (some ⟨b,o,none⟩) xs)(k n:Nat):RT t Z w (some ⟨b,o+k,none⟩) ((xs.drop k).take n):=fun hl=>by
 have hne:xs ≠ []:=by rintro rfl;simp at hl
 obtain⟨b',o',hA,ht,hc⟩:=h hne;injection hA with hA;injection hA with h1 h2;subst h1;subst h2
 grind
theorem RT.drop {w:World}{b o:Nat}{xs}(h:RT t Z w (some ⟨b,o,none⟩) xs)(k:Nat):RT t Z w (some ⟨b,o+k,none⟩) (xs.drop k):=by
 have:=h.sub k (xs.drop k).length
 grind
theorem RT.take {w:World}{A xs}(h:RT t Z w A xs)(n:Nat):RT t Z w A (xs.take n):=fun hl=>by
 have hne:xs ≠ []:=by rintro rfl;simp at hl
 obtain⟨b,o,hA,ht,hc⟩:=h hne
 grind
theorem zAf {w:World}{base:Nat}{e:TypeId}{size n:Nat}{v:Value}{xs:List Value}(h:w.ownsRow base e size v n xs) :
  ∃A c,v=.slice A n c/\n<=c/\c<=maxLen/\RT e Z w A xs/\∀b o,A=some ⟨b,o,none⟩->base<=b/\b<w.heap.size/\o=0/\v.ownBlock=some b:=by
 rcases h.2 with⟨rfl,rfl⟩|⟨g,cap,cur,rfl,hb,hg,hc,hm,_⟩
 ·have:xs=[]:=zBY9 (by simpa using h.1);subst this;exact⟨none,0,rfl,zAE9 _,zAL9 _,RT.nil _ _,fun _ _ h=>by cases h⟩
 ·refine⟨_,_,rfl,hc,hm,fun _=>⟨g,0,rfl,.inr ⟨_,_,hg⟩,fun j u hj=>?_⟩,fun b o e=>?_⟩
  ·have:=h.cells (g:=g) rfl j u hj
   rwa [zfU]at this
  ·injection e with e;injection e with e1 e2;subst e1;subst e2;exact⟨hb,(zBT9.1 hg).1,rfl,rfl⟩
theorem zyX {w w':World}{base:Nat}{e:TypeId}{size n:Nat}{v:Value}{xs:List Value}(h:w.ownsRow base e size v n xs)(hx:Ext w w'):w'.ownsRow base e size v n xs:=by
 refine World.ownsRow.kept h (row:=none) (hx.grownBy none) ?_
 grind
section
variable {P:Program}(w:World)
end
structure Lay (α:Type) where
 t:TypeId
 size:Nat
 bytes:Nat
 enc:α->List Value
 len:∀a,(enc a).length=size
 one:∀a,∀u∈enc a,u.oneCell'=true
 pos:0<size
 z:Value
 info:(Tryz.prog.info? t).map (fun i=>(i.zero,i.size,i.bytes))=some (some z,size,bytes)
 zs:z.cells.size=size
variable {α:Type}{L:Lay α}
def Lay.all (L:Lay α)(l:List α):List Value:=l.flatMap L.enc
theorem Lay.all_cons (L:Lay α)(a:α)(l:List α):L.all (a::l)=L.enc a++L.all l:=rfl
theorem Lay.all_one (L:Lay α)(a:α):L.all [a]=L.enc a:=by simp[Lay.all]
theorem Lay.all_len (L:Lay α)(l:List α):(L.all l).length=l.length*L.size:=by
 induction l with
 | nil=>simp[Lay.all]
 | cons a l ih=>rw[L.all_cons,zAB9,L.len,ih,zAG9,zCV9,zDE9]
theorem Lay.all_oneCell (L:Lay α)(l:List α):∀u∈L.all l,u.oneCell'=true:=by
 intro u hu;obtain⟨a,_,ha⟩:=zBE9.1 hu;exact L.one a u ha
theorem Lay.all_at (L:Lay α):∀(l:List α) (j:Nat) (a:α),l[j]?=some a->∀i u,(L.enc a)[i]?=some u->(L.all l)[j*L.size+i]?=some u
 | [],_,_,h,_,_,_=>by simp at h
 | x::l,0,a,h,i,u,hu=>by
  simp at h;subst h;have hi:i<(L.enc x).length:=(zAC9.1 hu).1;rw[L.all_cons,Nat.zero_mul,zBN9,zAS9 hi];exact hu
 | x::l,j+1,a,h,i,u,hu=>by
  have hi:i<L.size:=by rw[<- L.len a];exact(zAC9.1 hu).1
  rw[L.all_cons,zAU9 (by rw[L.len];rw[zCV9];omega),L.len];have:=L.all_at l j a (by simpa using h) i u hu
  grind
theorem Lay.all_drop (L:Lay α):∀(k:Nat) (l:List α),L.all (l.drop k)=(L.all l).drop (k*L.size)
 | 0,l=>by simp
 | k+1,[]=>by simp[Lay.all]
 | k+1,x::l=>by
  have e:(k+1)*L.size=L.size+k*L.size:=by rw[zCV9,zDE9]
  rw[zEY9,L.all_drop k l,L.all_cons,e,<- zDN9];have e2:List.drop L.size (L.enc x++L.all l)=L.all l:=by
   have:=List.drop_left (l₁:=L.enc x) (l₂:=L.all l)
   rwa [L.len]at this
  rw[e2]
theorem Lay.all_take (L:Lay α):∀(k:Nat) (l:List α),L.all (l.take k)=(L.all l).take (k*L.size)
 | 0,l=>by simp[Lay.all]
 | k+1,[]=>by simp[Lay.all]
 | k+1,x::l=>by
  have e:(k+1)*L.size=(L.enc x).length+k*L.size:=by rw[zCV9,zDE9,L.len]
  rw[zFU9,L.all_cons,L.all_take k l,L.all_cons,e,List.take_length_add_append]
theorem Lay.all_ne (L:Lay α){l:List α}(h:l ≠ []):L.all l ≠ []:=by
 intro e;have:=L.all_len l;rw[e]at this;have h0:=Nat.mul_pos (zCI9.2 h) L.pos
 grind
def RL (L:Lay α)(Z:Nat)(w:World)(A:Option Addr)(l:List α):Prop:=RT L.t Z w A (L.all l)
theorem RL.nil (w:World)(A:Option Addr):RL L Z w A []:=RT.nil w A
theorem RL.ext {w w':World}{A}{l:List α}(h:RL L Z w A l)(hb:Ext w w'):RL L Z w' A l:=RT.ext h hb
theorem RL.alloc {w:World}{A}{l:List α}(h:RL L Z w A l)(o:Obj):RL L Z (w.alloc o) A l:=RT.alloc h o
theorem RL.drew {w:World}{A}{l:List α}(h:RL L Z w A l):RL L Z w.drew A l:=RT.drew h
theorem RL.at {w:World}{A}{l:List α}(h:RL L Z w A l)(hl:l ≠ []):∃b o,A=some ⟨b,o,none⟩/\b<w.heap.size/\zhU L.t Z w b/\∀j a,l[j]?=some a->∀i u,(L.enc a)[i]?=some u->w.cell? ⟨b,o+(j*L.size+i),none⟩=some u:=by
 obtain⟨b,o,hA,ht,hc⟩:=h (L.all_ne hl);exact⟨b,o,hA,RT.lt h hA (L.all_ne hl),ht,fun j a hj i u hu=>hc _ u (L.all_at l j a hj i u hu)⟩
theorem RL.sub {w:World}{b o:Nat}{l:List α}(h:RL L Z w (some ⟨b,o,none⟩) l)(k n:Nat):RL L Z w (some ⟨b,o+k*L.size,none⟩) ((l.drop k).take n):=by
 unfold RL;rw[L.all_take,L.all_drop];exact RT.sub h (k*L.size) (n*L.size)
theorem RL.take {w:World}{A}{l:List α}(h:RL L Z w A l)(n:Nat):RL L Z w A (l.take n):=by
 unfold RL;rw[L.all_take];exact RT.take h _
def OL (L:Lay α)(w:World)(base:Nat)(v:Value)(l:List α):Prop:=w.ownsRow base L.t L.size v l.length (L.all l)
theorem OL.nil (L:Lay α)(w:World)(base:Nat):OL L w base (.slice none 0 0) []:=World.ownsRow_nil w base _ _
theorem OL.rl {w:World}{base v}{l:List α}(h:OL L w base v l):∃A c,v=.slice A l.length c/\l.length<=c/\c<=maxLen/\RL L Z w A l/\∀b o,A=some ⟨b,o,none⟩->base<=b/\b<w.heap.size/\o=0/\v.ownBlock=some b:=zAf h
theorem OL.alloc {w:World}{base v}{l:List α}(h:OL L w base v l)(o:Obj):OL L (w.alloc o) base v l:=World.ownsRow.alloc h o
theorem OL.ext {w w':World}{base v}{l:List α}(h:OL L w base v l)(hx:Ext w w'):OL L w' base v l:=zyX h hx
def LU:Lay Nat:=⟨29,1,8,fun x=>[.int .u64 x],fun _=>rfl,fun _ u hu=>(by simp only[zBA9,zCR9,or_false]at hu;subst hu;rfl),by decide,.int .u64 0,by kernel_rfl,rfl⟩
def LI:Lay Int:=⟨3,1,8,fun x=>[.int .i64 x],fun _=>rfl,fun _ u hu=>(by simp only[zBA9,zCR9,or_false]at hu;subst hu;rfl),by decide,.int .i64 0,by kernel_rfl,rfl⟩
def LT:Lay (Int×Nat):=⟨120,2,16,fun x=>[.int .i64 x.1,.int .u64 x.2],fun _=>rfl,fun _ u hu=>(by simp only[zBA9,zCR9,or_false]at hu;rcases hu with rfl|rfl<;>rfl),by decide,.agg #[.int .i64 0,.int .u64 0],by kernel_rfl,rfl⟩
theorem RL.u64 {w:World}{A}{l:List Nat}(h:RL LU Z w A l)(hl:l ≠ []):∃b o,A=some ⟨b,o,none⟩/\b<w.heap.size/\zhU 29 Z w b/\∀j (hj:j<l.length),w.cell? ⟨b,o+j,none⟩=some (.int .u64 (l[j]:Nat)):=by
 obtain⟨b,o,hA,hb,ht,hc⟩:=h.at hl;refine⟨b,o,hA,hb,ht,fun j hj=>?_⟩;have:=hc j l[j] (zAA9 hj) 0 (.int .u64 (l[j]:Nat)) rfl;simpa[LU]using this
theorem RL.int {w:World}{A}{l:List Int}(h:RL LI Z w A l)(hl:l ≠ []):∃b o,A=some ⟨b,o,none⟩/\b<w.heap.size/\zhU 3 Z w b/\∀j (hj:j<l.length),w.cell? ⟨b,o+j,none⟩=some (.int .i64 l[j]):=by
 obtain⟨b,o,hA,hb,ht,hc⟩:=h.at hl;refine⟨b,o,hA,hb,ht,fun j hj=>?_⟩;have:=hc j l[j] (zAA9 hj) 0 (.int .i64 l[j]) rfl;simpa[LI]using this
theorem RL.put {w:World}{A}{l:List (Int×Nat)}(h:RL LT Z w A l)(hl:l ≠ []):∃b o,A=some ⟨b,o,none⟩/\b<w.heap.size/\zhU 120 Z w b/\∀j (hj:j<l.length),w.cell? ⟨b,o+j*2,none⟩=some (.int .i64 l[j].1)/\w.cell? ⟨b,o+j*2+1,none⟩=some (.int .u64 (l[j].2:Nat)):=by
 obtain⟨b,o,hA,hb,ht,hc⟩:=h.at hl;refine⟨b,o,hA,hb,ht,fun j hj=>⟨?_,?_⟩⟩
 ·have:=hc j l[j] (zAA9 hj) 0 (.int .i64 l[j].1) rfl;simpa[LT]using this
 ·have:=hc j l[j] (zAA9 hj) 1 (.int .u64 (l[j].2:Nat)) rfl;simpa[LT,zEK9]using this
theorem Ext.frozen {w w1:World}(h:Ext w w1){b o:Nat}{u:Bool}(hc:w.frozen? ⟨b,o,none⟩=u)(hb:b<w.heap.size):w1.frozen? ⟨b,o,none⟩=u:=(h.cells.2 b o hb).trans hc
end Go.Proofs.YtkeknmgnoceogaaGreat
namespace Go.Proofs.YtkeknmgnoceogaaGreat
open Go.RowKit
variable {Z:Nat}
end Go.Proofs.YtkeknmgnoceogaaGreat

namespace Go.Proofs.YtkeknmgnoceogaaGreat
open Go.RowKit
attribute [go_sem] Oper.semAt_some
theorem Typ.cells {w:World}{b:Nat}{t:TypeId}(h:Typ w b t):∃o,w.heap[b]?=some o/\o.isCells=true:=by
 obtain⟨cs,fr,h⟩:=h;exact⟨_,h,rfl⟩
section
variable {n:Nat}{P:Program}{ops:Array Oper}{Q:Exit->Act->World->Prop}{md:Region.Mode}{S:World->Prop}
end
end Go.Proofs.YtkeknmgnoceogaaGreat
namespace Go.Proofs.YtkeknmgnoceogaaGreat
open Go.RowKit
variable {Z:Nat}{α:Type}
variable {L:Lay α}{th:TypeId}{w:World}{bx base:Nat}{l:List α}
end Go.Proofs.YtkeknmgnoceogaaGreat

namespace Go.Proofs.YtkeknmgnoceogaaGreat
open Go.RowKit Go.Maps
variable {Z:Nat}
structure zAB where
 t:TypeId
 k:TypeId
 q:IntKind
 hk:Tryz.prog.underlying k=some (.int q)
 ht:Tryz.prog.underlying t=some (.map k 3)
variable {M:zAB}{B:Nat}{S:List Int}
theorem RT.map {t:TypeId}{w w':World}{A xs}(h:RT t Z w A xs){o:Obj}(ho:w.heap[B]?=some o)(hc:o.isCells=false)(hB:Z<=B)(hg:w.grownBy w' (some B)):RT t Z w' A xs :=
 h.move fun b _ _ ht hl=>hg.block b hl fun e=>by
  injection e with e;subst e;rcases ht with ht|⟨cs,fr,ht⟩
  ·omega
  ·rw[ho]at ht;injection ht with ht;subst ht;cases hc
end Go.Proofs.YtkeknmgnoceogaaGreat
namespace Go.Proofs.YtkeknmgnoceogaaGreat
open Go.RowKit
end Go.Proofs.YtkeknmgnoceogaaGreat

namespace Go.Proofs.YtkeknmgnoceogaaGreat
namespace Tw
variable {ρ:Rho}
theorem VR.sl_inv {b g o n q z:Nat}{v:Value}(h:VR ρ (.sl b g o n q z) v):∃loc o' c,v=.slice (some ⟨loc.r,o',none⟩) n c/\ρ b g=some loc/\n<=q/2/\q/2<=c/\o+q/2*z<=loc.L/\(o'=o\/n=0/\c=0/\o≠0)/\(q%2=0->o+c*z=loc.S)/\c<=maxLen:=by
 cases h
 grind
def srt (l:List Int):List Int:=l.mergeSort fun x y=>decide (x<=y)
theorem zBq (l:List Int):(srt l).length=l.length:=List.length_mergeSort _
def zBk:List TV->Option (List Int)
 | []=>some []
 | .int .i64 a::l=>(match zBk l with
  | some r=>some (a::r)
  | none=>none)
 | _=>none
def ivT (l:List Int):List TV:=l.map fun a=>.int .i64 a
theorem zBl:∀{l:List TV} {r:List Int},zBk l=some r->l=ivT r
 | [],r,h=>by injection h with h;subst h;rfl
 | x::l,r,h=>by
  unfold zBk at h
  split at h
  ·grind
  ·rename_i a l' e;injection e with e1 e2;subst e1;subst e2
   split at h
   ·rename_i r' hr;injection h with h;subst h;rw[zBl hr];rfl
   ·cases h
  ·cases h
noncomputable def zBo (h:TH)(b g n e0:Nat):TO->Option (TE×TH)
 | .row e G M len cells=>bif Nat.beq e e0 then bif Nat.beq g G then bif Nat.beq n len then bif Nat.ble M G then bif Nat.ble n 1000000 then(match cells.getL 0 len with
  | some l=>(match zBk l with
   | some r=>some (.ret (.tuple []),h.set b (.row e G G len (Tr.putL .nil 0 (ivT (srt r)))))
   | none=>none)
  | none=>none)else none else none else none else none else none
 | _=>none
noncomputable def zBm (e0:Nat)(vs:List TV)(h:TH):Option (TE×TH):=match vs with
 | [.sl b g 0 n _ 1]=>(match h.get b with
  | some o=>zBo h b g n e0 o
  | none=>none)
 | _=>none
end Tw
end Go.Proofs.YtkeknmgnoceogaaGreat
namespace Go.Proofs.YtkeknmgnoceogaaGreat
open Go.RowKit
variable {Z:Nat}
set_option maxRecDepth 100000
end Go.Proofs.YtkeknmgnoceogaaGreat






namespace Go.Proofs.YtkeknmgnoceogaaGreat
open Go.RowKit
variable {Z:Nat}
set_option maxRecDepth 100000
theorem zvS {P:Program}(w:World)(dT sT ty elem:TypeId)(size g o dLen dCap:Nat)(a:Addr)(sLen sCap:Nat)(cur:List Value)(t:TypeId)(cs:List Value)
  (hu:P.underlying dT=some (.slice elem)) (hs:(P.info? elem).map (·.size)=some size)
  (hg:w.heap[g]?=some (.cells cur.toArray t (0,0))) (hn:cs.length=Nat.min sLen dLen*size)
  (hsrc:∀j v,cs[j]?=some v->w.cell? (a.add j)=some v) (hfit:o+cs.length<=cur.length) (h1:∀v∈cs,v.oneCell'=true) :
  (Builtin.copy_ #[dT,sT] ty #[.slice (some ⟨g,o,none⟩) dLen dCap,.slice (some a) sLen sCap]).run P w =
   .ok (goInt (Nat.min sLen dLen:Nat)) (w.setRow g (splice cur o cs).toArray):=by
 have hl:=run_loadCells_list (P:=P) w a cs hsrc;have hst:=run_storeCells_at P g o t cs 0 cur.toArray w hg (by simpa using hfit) h1
 cases hq:P.info? elem with
 | none=>simp[hq]at hs
 | some i =>
  have hi:i.size=size:=by simpa[hq]using hs
  simp only[zDD9,zAD9]at hst;simp[Builtin.copy_,run_underlying hu,Builtin.lenOf,Builtin.firstCells,sizeOf,typeInfo,hq,hi,<- hn,hl,hst,splice]
theorem zso {α:Type}(R X S:List α)(hX:X.length=2):splice (splice R 0 X) 2 S=X++(S++R.drop (2+S.length)):=by
 have e1:splice R 0 X=X++R.drop 2:=by unfold splice;simp[hX]
 rw[e1];unfold splice;rw[zDJ9 (by omega),zBI9 (by omega),List.drop_append,List.drop_eq_nil_of_le (by omega),zDN9,zBB9]
 grind
theorem zqp {α:Type}(C X S:List α)(hX:X.length=2)(hC:2<=C.length):splice (splice C 2 S) 0 X=X++(S++C.drop (2+S.length)):=by
 unfold splice
 grind
theorem zkK (w:World)(g:Nat)(cs:Array Value):w.grownBy (w.setRow g cs) (some g) :=
 ⟨rfl,rfl,rfl,by simp[World.setRow],fun k _ hk=>setRow_other w g k cs (fun e=>hk (by rw[e]))⟩
theorem zdt {w:World}{ops:Array Oper}{rest:List Oper}{o:Oper}{a:Act}{Q:Exit->Act->World->Prop}(hgd:o.guard=none)(d s:Operand)(dT sT:TypeId)
  (ho:o.op=.call { callee:=.builtin .copy,args:=#[d,s],argTypes:=#[dT,sT] }) (elem:TypeId) (hu:Tryz.prog.underlying dT=some (.slice elem)) (size:Nat) (hsz:(Tryz.prog.info? elem).map (·.size)=some size)
  (g off dLen dCap:Nat) (ad:Addr) (sLen sCap:Nat) (hd:a.eval d=.slice (some ⟨g,off,none⟩) dLen dCap) (hs:a.eval s=.slice (some ad) sLen sCap)
  (cur:List Value) (t:TypeId) (hg:w.heap[g]?=some (.cells cur.toArray t (0,0))) (cs:List Value) (hn:cs.length=Nat.min sLen dLen*size)
  (hsrc:∀j v,cs[j]?=some v->w.cell? (ad.add j)=some v) (hfit:off+cs.length<=cur.length) (h1:∀v∈cs,v.oneCell'=true)
  (h:∀w',Hid (w'.heap[g]?=some (.cells (splice cur off cs).toArray t (0,0)))->Hid (w.grownBy w' (some g))->wpList Tryz.prog ops Q rest (a.put o.dst (goInt (Nat.min sLen dLen:Nat))) w'):wpList Tryz.prog ops Q (o::rest) a w:=by
 refine wpList_plain hgd fun K hK=>?_;have hrun:=zvS (P:=Tryz.prog) w dT sT o.type elem size g off dLen dCap ad sLen sCap cur t cs hu hsz hg hn hsrc hfit h1;unfold Oper.wp;simp[execOp,ho,resolve,invoke,builtin,hd,hs,hrun,Result.andThen];exact hK _ _ (h _ (Lib.hid (setRow_heap w g _ _ t _ hg)) (Lib.hid (zkK _ _ _)))
theorem ztp {w:World}{ops:Array Oper}{o:Oper}{a:Act}{K:Act->World->Prop}{Q:Exit->Act->World->Prop}{E:Prop}(hgd:o.guard=none)(d s:Operand)(dT sT:TypeId)
  (ho:o.op=.call { callee:=.builtin .copy,args:=#[d,s],argTypes:=#[dT,sT] }) (elem:TypeId) (hu:Tryz.prog.underlying dT=some (.slice elem)) (size:Nat) (hsz:(Tryz.prog.info? elem).map (·.size)=some size)
  (g off dLen dCap:Nat) (ad:Addr) (sLen sCap:Nat) (hd:a.eval d=.slice (some ⟨g,off,none⟩) dLen dCap) (hs:a.eval s=.slice (some ad) sLen sCap)
  (cur:List Value) (t:TypeId) (hg:w.heap[g]?=some (.cells cur.toArray t (0,0))) (cs:List Value) (hn:cs.length=Nat.min sLen dLen*size)
  (hsrc:∀j v,cs[j]?=some v->w.cell? (ad.add j)=some v) (hfit:off+cs.length<=cur.length) (h1:∀v∈cs,v.oneCell'=true)
  (h:∀w',Hid (w'.heap[g]?=some (.cells (splice cur off cs).toArray t (0,0)))->Hid (w.grownBy w' (some g))->K (a.put o.dst (goInt (Nat.min sLen dLen:Nat))) w') :
  if Region.wanted o (yielded ops a.tmps)=true then Oper.wp Tryz.prog o a w K Q else E:=by
 have hw:Region.wanted o (yielded ops a.tmps)=true:=by simp[Region.wanted,hgd]
 rw[if_pos hw];have hrun:=zvS (P:=Tryz.prog) w dT sT o.type elem size g off dLen dCap ad sLen sCap cur t cs hu hsz hg hn hsrc hfit h1;unfold Oper.wp;simp[execOp,ho,resolve,invoke,builtin,hd,hs,hrun,Result.andThen];exact h _ (Lib.hid (setRow_heap w g _ _ t _ hg)) (Lib.hid (zkK _ _ _))
theorem zcc:(Tryz.prog.info? 120).map (·.size)=some 2:=by
 obtain⟨i0,hi0,hz0,hz1,hz2⟩:=info_parts LT.info;rw[show 120=LT.t from rfl,hi0];simp[hz1,LT]
set_option maxHeartbeats 4000000 in
theorem zvw (l:List (Int×Nat))(x:Int×Nat)(base g c vb vc:Nat)(w:World)(hl:l ≠ [])(hn:l.length<=100000)(hroom:¬l.length+1<=c)
  (h:OL LT w base (.slice (some ⟨g,0,none⟩) l.length c) l) (hv:RL LT Z w (some ⟨vb,0,none⟩) [x]) (hb:base<=w.heap.size) :
  Calls Tryz.prog 200 #[.slice (some ⟨g,0,none⟩) l.length c,.int .i64 0,.slice (some ⟨vb,0,none⟩) 1 vc] w fun e w'=>∃v,e=.returned v/\OL LT w' base v (x::l)/\Below base w w'/\(∃g' c',v=.slice (some ⟨g',0,none⟩) (l.length+1) c'/\(g'=g\/w.heap.size<=g'))/\∀k,k≠g->k<w.heap.size->w'.heap[k]?=w.heap[k]?:=by
 obtain⟨A,c',hv',hlc,hcm,hrl,hbd⟩:=OL.rl (Z:=0) h;injection hv' with e1 e2 e3;subst e1;subst e3;have hgb:=hbd g 0 rfl;have hpos:0<l.length:=zCI9.2 hl;obtain rfl:c=l.length:=by omega
 obtain⟨bb,oo,hbo,hvw,_,hvc⟩:=RL.at hv (by simp);injection hbo with hbo;injection hbo with hbo1 hbo2;subst hbo1;subst hbo2;obtain⟨i0,hi0,hz0,hzs,hzb⟩:=info_parts LT.info;have hxl:(LT.all l).length=l.length*2:=LT.all_len l;have hxv:∀j u,(LT.all [x])[j]?=some u->w.cell? ((⟨vb,0,none⟩:Addr).add j)=some u:=fun j u hj=>by
  rw[zfU];have:=hvc 0 x rfl j u (by rwa [LT.all_one]at hj);simpa using this
 have hxs:∀j u,(LT.all l)[j]?=some u->w.cell? ((⟨g,0,none⟩:Addr).add j)=some u:=World.ownsRow.cells h rfl;have h1s:∀u∈LT.all l,u.oneCell'=true:=LT.all_oneCell l;have h1x:∀u∈LT.all [x],u.oneCell'=true:=LT.all_oneCell [x];have hxl1:(LT.all [x]).length=2:=LT.all_len [x];have hold:(Builtin.firstCells i0.size 0 (.slice (some ⟨g,0,none⟩) 0 l.length)).run Tryz.prog w.drew=.ok ([]:List Value).toArray w.drew :=
  run_firstCells_some w.drew _ 0 ⟨g,0,none⟩ 0 l.length [] (by simp) (fun j v hj=>by simp at hj)
 have hrz:∀ty,(Builtin.append_ #[57,3] ty #[.slice (some ⟨g,0,none⟩) 0 l.length,.int .i64 ((l.length:Int)+1)]).run Tryz.prog w =
   .ok (.slice (some ⟨w.heap.size,0,none⟩) (l.length+1) (grownCap w (l.length+1) l.length 120)) (w.drew.alloc (.cells (([]:List Value).toArray++Builtin.zeroCells LT.z.cells (l.length+1)++Builtin.zeroCells LT.z.cells (grownCap w (l.length+1) l.length 120-(l.length+1))) 120)):=fun ty=>by
  have h:=Lib.run_append_grow_zeros w 57 3 ty 120 i0 _ .i64 .i64 Tryz.underlying57 Tryz.underlying3 hi0 hz0 (some ⟨g,0,none⟩) 0 l.length [] hold (l.length+1) (by omega) (by rw[hzs];exact LT.pos) (by omega) (by omega) (by rw[hzb];simp only[LT];omega) (by rw[hzb];exact growslice_fits (by omega) (by simp only[LT];omega));simp only[zBN9]at h;exact h
 have hGn:=grownCap_ge w (l.length+1) l.length 120;have hGm:=grownCap_le_maxLen w (l.length+1) l.length 120 (by simp only[maxLen];omega);obtain⟨G,hG⟩:∃G,G=grownCap w (l.length+1) l.length 120:=⟨_,rfl⟩
 rw[<- hG]at hrz hGn hGm;obtain⟨ROW,hROW⟩:∃ROW:List Value,ROW.toArray=([]:List Value).toArray++Builtin.zeroCells LT.z.cells (l.length+1)++Builtin.zeroCells LT.z.cells (G-(l.length+1)):=⟨_,Array.toArray_toList⟩
 rw[<- hROW]at hrz;have hRl:ROW.length=G*2:=by
  have:=congrArg Array.size hROW;simp only[zDS9,zEA9,size_zeroCells,zAH9]at this;rw[show LT.z.cells.size=2 from rfl]at this;omega
 have hg1:(w.drew.alloc (.cells ROW.toArray 120)).heap[w.heap.size]?=some (.cells ROW.toArray 120 (0,0)):=heap_alloc_new w.drew _;have hx1:Ext w (w.drew.alloc (.cells ROW.toArray 120)):=((Ext.refl w).drew).alloc _;obtain⟨W1,hW1⟩:∃W1,W1=w.drew.alloc (.cells ROW.toArray 120):=⟨_,rfl⟩
 rw[<- hW1]at hrz hg1 hx1;clear hW1 hROW hG hold;have hsz1:w.heap.size+1<=W1.heap.size:=(zBT9.1 hg1).1;have hg63:G<=9223372036854775807:=by simp only[maxLen]at hGm;omega
 have k1:¬((l.length:Int)=0):=by omega
 have k1':¬((0:Int)=(l.length:Int)):=by omega
 have k2:¬G=0:=by omega
 have k3:¬G=1:=by omega
 have k4:¬l.length=0:=by omega
 have k5:(l.length:Int)<(l.length:Int)+1:=by omega
 have k6:(0:Int)<=(l.length:Int):=by omega
 have mixed:Tryz.prog.follows Departure.mixedOrders=true:=by kernel_rfl
 have k7:IntKind.i64.wrap 1=1:=by rw[IntKind.wrap_i64];omega
 have k8:(1:Int)<=(l.length:Int)+1:=by omega
 have k9:(1:Int).toNat=1:=rfl;have HG1:=Lib.hid hg1;have HXV:=Lib.hid hxv;have HXS:=Lib.hid hxs;have H1S:=Lib.hid h1s;have H1X:=Lib.hid h1x;have HL:=Lib.hid hxl;have HL1:=Lib.hid hxl1;have HRL:=Lib.hid hRl;have HX1:=Lib.hid hx1;have HO:=Lib.hid h;have HGB:=Lib.hid (And.intro hgb.1 hgb.2.1);clear hg1 hxv hxs h1s h1x hxl hxl1 hRl hx1 hrl hbd hgb hvc e2 hlc hcm h hv hi0 hz0 hzs hzb
 go_enter Tryz.func200,Tryz.ntmps200
 iterate 137 go_step
 refine Lib.wpList_append_run _ rfl _ _ _ _ rfl _ _ rfl rfl _ _ (hrz _) ?_
 iterate 20 go_step
 refine zdt rfl _ _ 57 57 rfl 120 Tryz.underlying57 2 zcc w.heap.size 0 _ _ ⟨vb,0,none⟩ 1 _ rfl rfl ROW 120 HG1.out (LT.all [x]) (by show _=min _ _*2;rw[HL1.out];omega) (fun j u hj=>HX1.out.cell (HXV.out j u hj)) (by rw[HL1.out,HRL.out];omega) H1X.out ?_;intro w2 hg2 hy2
 iterate 4 go_step
 have hc2:∀j u,(LT.all l)[j]?=some u->(w2.drew).cell? ((⟨g,0,none⟩:Addr).add j)=some u:=fun j u hj=>by
  have h1:=HX1.out.cell (HXS.out j u hj);rw[zfU]at h1⊢;exact hy2.out.cell h1 (fun e=>by injection e with e;have:=HGB.out.2;dsimp only at e;omega)
 have hl2:(splice ROW 0 (LT.all [x])).length=G*2:=by rw[length_splice _ _ _ (by rw[HL1.out,HRL.out];omega)];exact HRL.out
 have HC2:=Lib.hid hc2;have HL2:=Lib.hid hl2;clear hc2 hl2
 go_region_law_o (refine ztp rfl _ _ 57 57 rfl 120 Tryz.underlying57 2 zcc w.heap.size 2 l.length (G-1) ⟨g,0,none⟩ l.length l.length (by simp[Act.eval,Act.put]) (by simp[Act.eval,Act.put]) (splice ROW 0 (LT.all [x])) 120 hg2.out (LT.all l) (by show _=min _ _*2;rw[HL.out];omega) HC2.out (by rw[HL.out,HL2.out];omega) H1S.out ?_;intro w4 hg4 hy4)
 go_wp2
 go_ret
 refine⟨_,rfl,⟨?_,.inr ⟨w.heap.size,G,_,rfl,by omega,hg4.out,hGn,hGm,?_,?_⟩⟩,?_,?_,?_⟩
 ·rw[LT.all_len]
 ·rw[zDS9,length_splice _ _ _ (by rw[HL.out,HL2.out];omega),HL2.out];rfl
 ·have e1:splice (splice ROW 0 (LT.all [x])) 2 (LT.all l)=LT.all (x::l)++ROW.drop (2+(LT.all l).length):=by
   rw[zso _ _ _ HL1.out,LT.all_cons x l,<- LT.all_one x,zAD9]
  rw[show (splice (splice ROW 0 (LT.all [x])) 2 (LT.all l)).toArray.toList=splice (splice ROW 0 (LT.all [x])) 2 (LT.all l)from rfl,e1];rw[zDJ9 (by rw[LT.all_len];simp[LT]),zBI9 (by rw[LT.all_len];simp[LT])]
 ·have b1:Below base w W1:=HX1.out.below.mono hb;have b2:=(b1.grown hy2.out (by have:=HX1.out.size;omega) (fun k e=>by injection e with e;omega)).drew;exact b2.grown hy4.out (by have:=hy2.out.size;have:=HX1.out.size;show base<=w2.heap.size;omega) (fun k e=>by injection e with e;omega)
 ·have hle:=zAE9 w.heap.size
  first|exact⟨_,_,rfl,.inr hle⟩|exact⟨_,⟨_,rfl⟩,.inr hle⟩
 ·have b1:Below w.heap.size w W1:=HX1.out.below;have b2:=(b1.grown hy2.out (by have:=HX1.out.size;omega) (fun k e=>by injection e with e;omega)).drew;have b3:=b2.grown hy4.out (by have:=hy2.out.size;have:=HX1.out.size;show w.heap.size<=w2.heap.size;omega) (fun k e=>by injection e with e;omega);exact fun k _ hk=>b3.block k hk
set_option maxHeartbeats 4000000 in
theorem ztv (l:List (Int×Nat))(x:Int×Nat)(base g c vb vc:Nat)(w:World)(hl:l ≠ [])(hn:l.length<=100000)(hroom:l.length+1<=c)
  (h:OL LT w base (.slice (some ⟨g,0,none⟩) l.length c) l) (hv:RL LT Z w (some ⟨vb,0,none⟩) [x]) (hvg:vb≠g) (tA:TypeId) (kA:Nat) (hsa:w.shape? vb=some (tA,kA)) (hfa:w.frozen? ⟨vb,0,none⟩=false) (hfe:w.frozen? ⟨vb,kA,none⟩=false) (hb:base<=w.heap.size) :
  Calls Tryz.prog 200 #[.slice (some ⟨g,0,none⟩) l.length c,.int .i64 0,.slice (some ⟨vb,0,none⟩) 1 vc] w fun e w'=>∃v,e=.returned v/\OL LT w' base v (x::l)/\Below base w w'/\(∃g' c',v=.slice (some ⟨g',0,none⟩) (l.length+1) c'/\(g'=g\/w.heap.size<=g'))/\∀k,k≠g->k<w.heap.size->w'.heap[k]?=w.heap[k]?:=by
 rcases h with⟨hxl,⟨h1,_⟩|⟨g',cap,cur,h1,hbg,hg,hnc,hcm,hcs,htk⟩⟩
 ·cases h1
 injection h1 with e1 _ e3;injection e1 with e1;injection e1 with e1;subst e1;subst e3;have hpos:0<l.length:=zCI9.2 hl;obtain⟨bb,oo,hbo,hvw,_,hvc⟩:=RL.at hv (by simp);injection hbo with hbo;injection hbo with hbo1 hbo2;subst hbo1;subst hbo2;have hxl:(LT.all l).length=l.length*2:=LT.all_len l;have hxv:∀j u,(LT.all [x])[j]?=some u->w.cell? ((⟨vb,0,none⟩:Addr).add j)=some u:=fun j u hj=>by
  rw[zfU];have:=hvc 0 x rfl j u (by rwa [LT.all_one]at hj);simpa using this
 have hcl:cur.toList.length=c*2:=by rw[zDW9];exact hcs
 have hxs:∀j u,(LT.all l)[j]?=some u->w.cell? ((⟨g,0,none⟩:Addr).add j)=some u:=fun j u hj=>by
  rw[zfU,zBN9];rw[<- htk,zCY9]at hj
  split at hj
  ·simp only[World.cell?,hg];rw[<- zBX9];exact hj
  ·cases hj
 have h1s:∀u∈LT.all l,u.oneCell'=true:=LT.all_oneCell l;have h1x:∀u∈LT.all [x],u.oneCell'=true:=LT.all_oneCell [x];have hxl1:(LT.all [x]).length=2:=LT.all_len [x];have hsb:w.shape? g=some (120,cur.size):=by show _=some (LT.t,_);simp[World.shape?,hg]
 have hov:∀lb cb,(callFunc 255 #[.slice (some ⟨vb,0,none⟩) 1 vc,.slice (some ⟨g,2,none⟩) lb cb]).run Tryz.prog w=.ok (.value (.bool false)) w:=fun lb cb=>by
  obtain⟨i0,hi0,hz0,hzs,hzb⟩:=info_parts LT.info;rw[run_callFunc_extern Tryz.func255 (by kernel_rfl) (by kernel_rfl) (by kernel_rfl) (e:=Extern.SlicesOverlaps.overlaps #[57,57] #[4]) (by kernel_rfl),
   Lib.run_overlaps_apart w 57 4 120 Tryz.underlying57 2 (fun w=>by kernel_rfl) ⟨vb,0,none⟩ ⟨g,2,none⟩ 1 vc lb cb hvg tA 120 kA cur.size hsa hsb (by rw[hcs];simp only[LT];omega) hfa hfe]
  rfl
 have mixed:Tryz.prog.follows Departure.mixedOrders=true:=by kernel_rfl
 have hc63:c<=9223372036854775807:=by simp only[maxLen]at hcm;omega
 have k1:¬((l.length:Int)=0):=by omega
 have k1':¬((0:Int)=(l.length:Int)):=by omega
 have k2:¬c=0:=by omega
 have k3:¬c=1:=by omega
 have k5:¬(c:Int)<(l.length:Int)+1:=by omega
 have k6:(0:Int)<=(l.length:Int):=by omega
 have k7:IntKind.i64.wrap 1=1:=by rw[IntKind.wrap_i64];omega
 have k8:(1:Int)<=(l.length:Int)+1:=by omega
 have k9:(1:Int).toNat=1:=rfl;have k10:(0:Int)<=(l.length:Int)+1:=by omega
 have HG1:Hid (w.drew.heap[g]?=some (.cells cur.toList.toArray 120 (0,0))):=Lib.hid hg;have HXV:=Lib.hid hxv;have HXS:Hid (∀j u,(LT.all l)[j]?=some u->w.drew.cell? ((⟨g,0,none⟩:Addr).add j)=some u):=Lib.hid hxs;have H1S:=Lib.hid h1s;have H1X:=Lib.hid h1x;have HL:=Lib.hid hxl;have HL1:=Lib.hid hxl1;have HCL:=Lib.hid hcl;have HBG:=Lib.hid hbg;have HCM:=Lib.hid hcm;clear hxv hxs h1s h1x hxl hxl1 hcl hbg hcm hv hvc hg hcs htk hsb hsa hfa hfe hnc;generalize cur.toList=CUR at *
 go_enter Tryz.func200,Tryz.ntmps200
 go_wp2_with (simp only[hov])
 go_region_law_o (refine ztp rfl _ _ 57 57 rfl 120 Tryz.underlying57 2 zcc g 2 l.length (c-1) ⟨g,0,none⟩ (l.length+1) c (by simp[Act.eval,Act.put]) (by simp[Act.eval,Act.put]) CUR 120 HG1.out (LT.all l) (by show _=min _ _*2;rw[HL.out];omega) HXS.out (by rw[HL.out,HCL.out];omega) H1S.out ?_;intro w4 hg4 hy4)
 have hc4:∀j u,(LT.all [x])[j]?=some u->w4.cell? ((⟨vb,0,none⟩:Addr).add j)=some u:=fun j u hj=>by
  have h1:=HXV.out j u hj;rw[zfU]at h1⊢;exact hy4.out.cell h1 (fun e=>by injection e with e;exact hvg e)
 have hl4:(splice CUR 2 (LT.all l)).length=c*2:=by rw[length_splice _ _ _ (by rw[HL.out,HCL.out];omega)];exact HCL.out
 have HC4:=Lib.hid hc4;have HL4:=Lib.hid hl4;clear hc4 hl4
 first
 | ((iterate 10 (go_step));refine zdt rfl _ _ 57 57 rfl 120 Tryz.underlying57 2 zcc g 0 _ _ ⟨vb,0,none⟩ 1 _ rfl rfl (splice CUR 2 (LT.all l)) 120 hg4.out (LT.all [x]) (by show _=min _ _*2;rw[HL1.out];omega) HC4.out (by rw[HL1.out,HL4.out];omega) H1X.out ?_)
 | ((iterate 11 (go_step));refine zdt rfl _ _ 57 57 rfl 120 Tryz.underlying57 2 zcc g 0 _ _ ⟨vb,0,none⟩ 1 _ rfl rfl (splice CUR 2 (LT.all l)) 120 hg4.out (LT.all [x]) (by show _=min _ _*2;rw[HL1.out];omega) HC4.out (by rw[HL1.out,HL4.out];omega) H1X.out ?_)
 | ((iterate 12 (go_step));refine zdt rfl _ _ 57 57 rfl 120 Tryz.underlying57 2 zcc g 0 _ _ ⟨vb,0,none⟩ 1 _ rfl rfl (splice CUR 2 (LT.all l)) 120 hg4.out (LT.all [x]) (by show _=min _ _*2;rw[HL1.out];omega) HC4.out (by rw[HL1.out,HL4.out];omega) H1X.out ?_)
 | ((iterate 13 (go_step));refine zdt rfl _ _ 57 57 rfl 120 Tryz.underlying57 2 zcc g 0 _ _ ⟨vb,0,none⟩ 1 _ rfl rfl (splice CUR 2 (LT.all l)) 120 hg4.out (LT.all [x]) (by show _=min _ _*2;rw[HL1.out];omega) HC4.out (by rw[HL1.out,HL4.out];omega) H1X.out ?_)
 | ((iterate 14 (go_step));refine zdt rfl _ _ 57 57 rfl 120 Tryz.underlying57 2 zcc g 0 _ _ ⟨vb,0,none⟩ 1 _ rfl rfl (splice CUR 2 (LT.all l)) 120 hg4.out (LT.all [x]) (by show _=min _ _*2;rw[HL1.out];omega) HC4.out (by rw[HL1.out,HL4.out];omega) H1X.out ?_)
 | ((iterate 15 (go_step));refine zdt rfl _ _ 57 57 rfl 120 Tryz.underlying57 2 zcc g 0 _ _ ⟨vb,0,none⟩ 1 _ rfl rfl (splice CUR 2 (LT.all l)) 120 hg4.out (LT.all [x]) (by show _=min _ _*2;rw[HL1.out];omega) HC4.out (by rw[HL1.out,HL4.out];omega) H1X.out ?_)
 | ((iterate 16 (go_step));refine zdt rfl _ _ 57 57 rfl 120 Tryz.underlying57 2 zcc g 0 _ _ ⟨vb,0,none⟩ 1 _ rfl rfl (splice CUR 2 (LT.all l)) 120 hg4.out (LT.all [x]) (by show _=min _ _*2;rw[HL1.out];omega) HC4.out (by rw[HL1.out,HL4.out];omega) H1X.out ?_)
 | ((iterate 17 (go_step));refine zdt rfl _ _ 57 57 rfl 120 Tryz.underlying57 2 zcc g 0 _ _ ⟨vb,0,none⟩ 1 _ rfl rfl (splice CUR 2 (LT.all l)) 120 hg4.out (LT.all [x]) (by show _=min _ _*2;rw[HL1.out];omega) HC4.out (by rw[HL1.out,HL4.out];omega) H1X.out ?_)
 | ((iterate 18 (go_step));refine zdt rfl _ _ 57 57 rfl 120 Tryz.underlying57 2 zcc g 0 _ _ ⟨vb,0,none⟩ 1 _ rfl rfl (splice CUR 2 (LT.all l)) 120 hg4.out (LT.all [x]) (by show _=min _ _*2;rw[HL1.out];omega) HC4.out (by rw[HL1.out,HL4.out];omega) H1X.out ?_)
 | ((iterate 19 (go_step));refine zdt rfl _ _ 57 57 rfl 120 Tryz.underlying57 2 zcc g 0 _ _ ⟨vb,0,none⟩ 1 _ rfl rfl (splice CUR 2 (LT.all l)) 120 hg4.out (LT.all [x]) (by show _=min _ _*2;rw[HL1.out];omega) HC4.out (by rw[HL1.out,HL4.out];omega) H1X.out ?_)
 | ((iterate 20 (go_step));refine zdt rfl _ _ 57 57 rfl 120 Tryz.underlying57 2 zcc g 0 _ _ ⟨vb,0,none⟩ 1 _ rfl rfl (splice CUR 2 (LT.all l)) 120 hg4.out (LT.all [x]) (by show _=min _ _*2;rw[HL1.out];omega) HC4.out (by rw[HL1.out,HL4.out];omega) H1X.out ?_)
 | ((iterate 21 (go_step));refine zdt rfl _ _ 57 57 rfl 120 Tryz.underlying57 2 zcc g 0 _ _ ⟨vb,0,none⟩ 1 _ rfl rfl (splice CUR 2 (LT.all l)) 120 hg4.out (LT.all [x]) (by show _=min _ _*2;rw[HL1.out];omega) HC4.out (by rw[HL1.out,HL4.out];omega) H1X.out ?_)
 | ((iterate 22 (go_step));refine zdt rfl _ _ 57 57 rfl 120 Tryz.underlying57 2 zcc g 0 _ _ ⟨vb,0,none⟩ 1 _ rfl rfl (splice CUR 2 (LT.all l)) 120 hg4.out (LT.all [x]) (by show _=min _ _*2;rw[HL1.out];omega) HC4.out (by rw[HL1.out,HL4.out];omega) H1X.out ?_)
 | ((iterate 23 (go_step));refine zdt rfl _ _ 57 57 rfl 120 Tryz.underlying57 2 zcc g 0 _ _ ⟨vb,0,none⟩ 1 _ rfl rfl (splice CUR 2 (LT.all l)) 120 hg4.out (LT.all [x]) (by show _=min _ _*2;rw[HL1.out];omega) HC4.out (by rw[HL1.out,HL4.out];omega) H1X.out ?_)
 | ((iterate 24 (go_step));refine zdt rfl _ _ 57 57 rfl 120 Tryz.underlying57 2 zcc g 0 _ _ ⟨vb,0,none⟩ 1 _ rfl rfl (splice CUR 2 (LT.all l)) 120 hg4.out (LT.all [x]) (by show _=min _ _*2;rw[HL1.out];omega) HC4.out (by rw[HL1.out,HL4.out];omega) H1X.out ?_)
 | ((iterate 25 (go_step));refine zdt rfl _ _ 57 57 rfl 120 Tryz.underlying57 2 zcc g 0 _ _ ⟨vb,0,none⟩ 1 _ rfl rfl (splice CUR 2 (LT.all l)) 120 hg4.out (LT.all [x]) (by show _=min _ _*2;rw[HL1.out];omega) HC4.out (by rw[HL1.out,HL4.out];omega) H1X.out ?_)
 intro w5 hg5 hy5
 go_wp2
 go_ret
 refine⟨_,rfl,⟨?_,.inr ⟨g,c,_,rfl,HBG.out,hg5.out,hroom,HCM.out,?_,?_⟩⟩,?_,⟨_,_,rfl,.inl rfl⟩,?_⟩
 ·rw[LT.all_len]
 ·rw[zDS9,length_splice _ _ _ (by rw[HL1.out,HL4.out];omega),HL4.out];rfl
 ·have e1:splice (splice CUR 2 (LT.all l)) 0 (LT.all [x])=LT.all (x::l)++CUR.drop (2+(LT.all l).length):=by
   rw[zqp _ _ _ HL1.out (by rw[HCL.out];omega),LT.all_cons x l,<- LT.all_one x,zAD9]
  rw[show (splice (splice CUR 2 (LT.all l)) 0 (LT.all [x])).toArray.toList=splice (splice CUR 2 (LT.all l)) 0 (LT.all [x])from rfl,e1];rw[zDJ9 (by rw[LT.all_len];simp[LT]),zBI9 (by rw[LT.all_len];simp[LT])]
 ·have b2:=(Below.refl base w).drew.grown hy4.out hb (fun k e=>by injection e with e;have:=HBG.out;omega);exact b2.grown hy5.out (by have:=hy4.out.size;exact zBJ9 hb this) (fun k e=>by injection e with e;have:=HBG.out;omega)
 ·intro k hk hlt;obtain⟨_,_,_,s4,f4⟩:=hy4.out;obtain⟨_,_,_,s5,f5⟩:=hy5.out;exact(f5 k (zBC9 hlt s4) (fun e=>hk (by injection e))).trans (f4 k hlt (fun e=>hk (by injection e)))
end Go.Proofs.YtkeknmgnoceogaaGreat
namespace Go.Proofs.YtkeknmgnoceogaaGreat
set_option maxRecDepth 100000
def zBp:Go.Shelf.Ren:=⟨fun|5=>172|8=>230|7=>229|19=>299|20=>300|10=>290|11=>291|12=>292|13=>293|14=>294|15=>295|16=>296|17=>297|18=>298|30=>329|31=>330|32=>331|33=>332|34=>333|35=>334|40=>349|n=>n,fun|23=>33|25=>3|3=>3|32=>227|22=>33|0=>0|44=>381|46=>29|4=>4|36=>375|35=>374|41=>318|5=>5|9=>9|53=>397|57=>400|63=>418|64=>244|n=>n,fun|n=>n⟩
theorem zBr:Go.Proofs.SlLaysM.n5 Tryz.prog zBp where
 mixed:=by kernel_rfl
 f5 := ⟨"slices.Sort[[]int,int]", by decide, Tryz.func172.trans (congrArg some (by kernel_rfl))⟩
 f7 := ⟨"slices.pdqsortOrdered[int]", by decide, Tryz.func229.trans (congrArg some (by kernel_rfl))⟩
 f8:=Tryz.func230.trans (congrArg some (by kernel_rfl))
 f10 := ⟨"slices.insertionSortOrdered[int]", by decide, Tryz.func290.trans (congrArg some (by kernel_rfl))⟩
 f11 := ⟨"slices.heapSortOrdered[int]", by decide, Tryz.func291.trans (congrArg some (by kernel_rfl))⟩
 f12 := ⟨"slices.breakPatternsOrdered[int]", by decide, Tryz.func292.trans (congrArg some (by kernel_rfl))⟩
 f13 := ⟨"slices.choosePivotOrdered[int]", by decide, Tryz.func293.trans (congrArg some (by kernel_rfl))⟩
 f14 := ⟨"slices.reverseRangeOrdered[int]", by decide, Tryz.func294.trans (congrArg some (by kernel_rfl))⟩
 f15 := ⟨"slices.partialInsertionSortOrdered[int]", by decide, Tryz.func295.trans (congrArg some (by kernel_rfl))⟩
 f16 := ⟨"cmp.Less[int]", by decide, Tryz.func296.trans (congrArg some (by kernel_rfl))⟩
 f17 := ⟨"slices.partitionEqualOrdered[int]", by decide, Tryz.func297.trans (congrArg some (by kernel_rfl))⟩
 f18 := ⟨"slices.partitionOrdered[int]", by decide, Tryz.func298.trans (congrArg some (by kernel_rfl))⟩
 f19:=Tryz.func299.trans (congrArg some (by kernel_rfl))
 f20:=Tryz.func300.trans (congrArg some (by kernel_rfl))
 f30 := ⟨"slices.siftDownOrdered[int]", by decide, Tryz.func329.trans (congrArg some (by kernel_rfl))⟩
 f31:=Tryz.func330.trans (congrArg some (by kernel_rfl))
 f32:=Tryz.func331.trans (congrArg some (by kernel_rfl))
 f33 := ⟨"slices.medianAdjacentOrdered[int]", by decide, Tryz.func332.trans (congrArg some (by kernel_rfl))⟩
 f34 := ⟨"slices.medianOrdered[int]", by decide, Tryz.func333.trans (congrArg some (by kernel_rfl))⟩
 f35 := ⟨"cmp.isNaN[int]", by decide, Tryz.func334.trans (congrArg some (by kernel_rfl))⟩
 f40 := ⟨"slices.order2Ordered[int]", by decide, Tryz.func349.trans (congrArg some (by kernel_rfl))⟩
 t0:=Tryz.underlying0
 a0:=Tryz.isAgg0
 z0:=Tryz.sizeOf0
 v0:=Tryz.zeroValue0
 t3:=Tryz.underlying3
 a3:=Tryz.isAgg3
 z3:=Tryz.sizeOf3
 v3:=Tryz.zeroValue3
 t4:=Tryz.underlying4
 a4:=Tryz.isAgg4
 z4:=Tryz.sizeOf4
 v4:=Tryz.zeroValue4
 t5:=Tryz.underlying5
 a5:=Tryz.isAgg5
 z5:=Tryz.sizeOf5
 v5:=Tryz.zeroValue5
 t9:=Tryz.underlying9
 a9:=Tryz.isAgg9
 z9:=Tryz.sizeOf9
 v9:=Tryz.zeroValue9
 t22:=Tryz.underlying33
 a22:=Tryz.isAgg33
 z22:=Tryz.sizeOf33
 v22:=Tryz.zeroValue33
 t23:=Tryz.underlying33
 a23:=Tryz.isAgg33
 z23:=Tryz.sizeOf33
 v23:=Tryz.zeroValue33
 t25:=Tryz.underlying3
 a25:=Tryz.isAgg3
 z25:=Tryz.sizeOf3
 v25:=Tryz.zeroValue3
 t32:=Tryz.underlying227
 a32:=Tryz.isAgg227
 z32:=Tryz.sizeOf227
 v32:=Tryz.zeroValue227
 t35:=Tryz.underlying374
 a35:=Tryz.isAgg374
 z35:=Tryz.sizeOf374
 v35:=Tryz.zeroValue374
 t36:=Tryz.underlying375
 a36:=Tryz.isAgg375
 z36:=Tryz.sizeOf375
 v36:=Tryz.zeroValue375
 t41:=Tryz.underlying318
 a41:=Tryz.isAgg318
 z41:=Tryz.sizeOf318
 v41:=Tryz.zeroValue318
 t44:=Tryz.underlying381
 a44:=Tryz.isAgg381
 z44:=Tryz.sizeOf381
 v44:=Tryz.zeroValue381
 t46:=Tryz.underlying29
 a46:=Tryz.isAgg29
 z46:=Tryz.sizeOf29
 v46:=Tryz.zeroValue29
 t53:=Tryz.underlying397
 a53:=Tryz.isAgg397
 z53:=Tryz.sizeOf397
 v53:=Tryz.zeroValue397
 t57:=Tryz.underlying400
 a57:=Tryz.isAgg400
 z57:=Tryz.sizeOf400
 v57:=Tryz.zeroValue400
 t63:=Tryz.underlying418
 a63:=Tryz.isAgg418
 z63:=Tryz.sizeOf418
 v63:=Tryz.zeroValue418
 t64:=Tryz.underlying244
 a64:=Tryz.isAgg244
 z64:=Tryz.sizeOf244
 v64:=Tryz.zeroValue244
end Go.Proofs.YtkeknmgnoceogaaGreat
namespace Go.Proofs.YtkeknmgnoceogaaGreat
open Go.Sort Go.RowKit
namespace Tw
variable {ρ ρ':Rho}{Z:Nat}{h h':TH}{w:World}
set_option maxRecDepth 100000
theorem zBn (k:WR Tryz.prog Z ρ h w)(hZ:Z<=w.heap.size){args:List TV}{args':List Value}(hv:VL ρ args args'){r:TE}(hr:zBm 3 args h=some (r,h')) :
  CallsIn (Fr none) 0 Tryz.prog 172 args'.toArray w (zfz Tryz.prog Z ρ h h' w r):=by
 unfold zBm at hr
 split at hr
 ·rename_i b g n q
  split at hr
  ·rename_i o ho;unfold zBo at hr
   split at hr
   ·rename_i e G M len cells;obtain⟨c1,hr⟩:=zi hr;obtain⟨c2,hr⟩:=zi hr;obtain⟨c3,hr⟩:=zi hr;obtain⟨c4,hr⟩:=zi hr;obtain⟨c5,hr⟩:=zi hr;have c1:=zAF9 c1;have c2:=zAF9 c2;have c3:=zAF9 c3;have c4:=zAM9 c4;have c5:=zAM9 c5;subst c1;subst c2;subst c3
    split at hr
    ·rename_i l hl
     split at hr
     ·rename_i xs hxs;injection hr with hr;injection hr with hr hr2;subst hr;subst hr2;obtain⟨v,t1,rfl,v1,hv⟩:=hv.of_cons;obtain rfl:=hv.of_nil;have hinv:∃loc c,v=.slice (some ⟨loc.r,0,none⟩) n c/\ρ b g=some loc/\n<=c/\c<=maxLen:=by
       obtain⟨loc,o',c,e,a1,a2,a3,a4,a5,a6,a7⟩:=v1.sl_inv;refine⟨loc,c,?_,a1,by omega,a7⟩;rcases a5 with rfl|⟨_,_,a8⟩
       ·exact e
       ·exact absurd rfl a8
      obtain⟨loc,c,rfl,hρ,hnc,hcm⟩:=hinv;obtain⟨ob,hob,hor⟩:=k.obj _ _ _ hρ;rw[ho]at hob;injection hob with hob;subst hob;obtain⟨loc1,cur,q1,q2,q3,q4,q5,q6,q7⟩:=hor.2.2 g hor.1 (zAE9 _);rw[hρ]at q1;injection q1 with q1;subst q1;have q2:=q2.plain (by kernel_rfl);have hL:=q6 rfl;obtain rfl:=zBl hxs;obtain⟨lo1,lo2⟩:=Tr.getL_some hl;have hxl:xs.length=n:=by rw[<- lo1];unfold ivT;simp
      have hget:∀i,i<n->cur[i]?=(xs.map (Value.int .i64))[i]?:=fun i hi=>by
       obtain⟨x,v,z1,z2,_,z4⟩:=q7 i (by omega);have h1:=lo2 i hi;rw[zBN9,z1]at h1;rw[z2,zAI9];unfold ivT at h1;rw[zAI9]at h1
       cases hx:xs[i]? with
       | none=>rw[hx]at h1;cases h1
       | some a=>rw[hx]at h1;injection h1 with h1;subst h1;cases z4;rfl
      have hcn:n<=cur.size:=by omega
      have ht:cur.toList.take xs.length=xs.map (Value.int .i64):=zGK9 fun i=>by
       rw[zCY9,hxl]
       split
       ·rename_i hi;rw[zBX9];exact hget i hi
       ·rw[zCX9 (by simp;omega)]
      have hZo:=k.own hρ ho (fun cs e=>by cases e);have hlt:=(k.dom _ _ _ hρ).2.2;have hmain:=AnyM.slices_Sort_int zBr loc.r 0 c xs w (holds_of_blockI q2 ht) hlt (by omega);rw[hxl]at hmain;refine callsIn_wide.2 (Calls.mono hmain ?_);rintro e w' ⟨rfl,m,os,rfl⟩;have hts:(srt xs).length=n:=by rw[zBq,hxl]
      have hh:=heap_sortedI (n:=m) (os:=os) (srt xs).toArray q2;have hg:=grownBy_sortedI (w:=w) (g:=loc.r) (n:=m) (os:=os) (srt xs).toArray;have hbel:Below Z w _:=(Below.refl Z w).grown hg hZ fun k e=>by injection e with e;subst e;exact hZo
      change w.grownBy (grow (putRow (Value.int .i64) (Sort.ahead w m) loc.r 0 (xs.mergeSort fun x y=>decide (x<=y)).toArray) os) _ at hg;change (grow (putRow (Value.int .i64) (Sort.ahead w m) loc.r 0 (xs.mergeSort fun x y=>decide (x<=y)).toArray) os).heap[loc.r]?=_ at hh;change Below Z w (grow (putRow (Value.int .i64) (Sort.ahead w m) loc.r 0 (xs.mergeSort fun x y=>decide (x<=y)).toArray) os)at hbel;generalize grow (putRow (Value.int .i64) (Sort.ahead w m) loc.r 0 (xs.mergeSort fun x y=>decide (x<=y)).toArray) os=w' at hg hh hbel⊢;have htk:=take_putCellsI cur (srt xs) (by omega);have hsz:(putCells (Value.int .i64) 0 (srt xs).toArray cur).size=cur.size:=by simp[putCells]
      generalize putCells (Value.int .i64) 0 (srt xs).toArray cur=cur2 at hh htk hsz;have k2:=k.change (b:=b) (ρ':=ρ) (x':=.row 3 g g n (Tr.putL .nil 0 (ivT (srt xs)))) (fun _ _ _ h=>h) (fun _ _ _=>rfl) hρ (w':=w') hbel.size
       (fun c g0 l0 hc hl0=>hg.block _ (k.dom _ _ _ hl0).2.2 fun e=>hc (k.sep _ _ _ _ _ _ hl0 hρ (by injection e with e) (by injection e with e;rw[e];exact hZo)))
       ⟨zAE9 _,hor.2.1,fun g0 ha hb0=>by
        have:g0=g:=by omega
        subst this;refine⟨loc,cur2,hρ,.of hh,fun e=>by rw[hsz];exact q3 e,q4,by rw[hsz];exact q5,q6,fun i hi=>?_⟩;have hi2:i<(srt xs).length:=by omega
        have hi3:i<(ivT (srt xs)).length:=by unfold ivT;rw[zAX9];exact hi2
        refine⟨.int .i64 ((srt xs)[i]),.int .i64 ((srt xs)[i]),?_,?_,rfl,.int _ _⟩
        ·rw[Tr.get_putL,if_pos (by omega)];unfold ivT;simp
        ·have:(cur2.toList.take (srt xs).length)[i]?=((srt xs).map (Value.int .i64))[i]?:=by rw[htk]
         rw[zCY9,if_pos hi2,zBX9]at this;rw[this];simp[hi2]⟩
       (fun g0 l0 h0=>⟨k.own h0 ho (fun cs e=>by cases e),zBC9 (k.dom _ _ _ h0).2.2 hbel.size⟩)
       (fun g0 l0 h0 c g1 l1 hc h1' e=>hc (k.sep _ _ _ _ _ _ h1' h0 e.symm (by rw[<- e];exact k.own h0 ho (fun cs e=>by cases e))))
      exact⟨ρ,Rho.le.refl _ _,k2,hbel,zAE9 _,_,rfl,VR.tupL (VL.nil ρ)⟩
     ·cases hr
    ·cases hr
   ·cases hr
  ·cases hr
 ·cases hr
end Tw
end Go.Proofs.YtkeknmgnoceogaaGreat
namespace Go.Proofs.YtkeknmgnoceogaaGreat
namespace Fv
open Tw
inductive PV where
 | bad
 | bool (b:Bool)
 | int (k:IntKind) (n:Int)
 | str (s:List Nat)
 | nilptr
 | nilsl
 | nilmap
 | nilfn
 | niliface
 | iface (t:Nat) (v:PV)
 | list (p z:Nat) (l:List PV)
 | elem (cs:List PV)
 | sl (id g o n q z:Nat)
 | ptr (id g i o n:Nat)
 | map (id:Nat)
 | fn (f:Nat) (cap:List PV)
 | yield (id:Nat)
 | agg (vs:List PV)
 | tuple (vs:List PV)
 deriving Inhabited
def PV.cells:PV->List PV
 | .agg l=>l
 | .tuple _=>[]
 | v=>[v]
inductive FX where
 | norm|exit (id:Nat)|goto (l:Nat)|ret|panic (v:PV)
inductive zd where
 | row (e z G M:Nat) (l:List PV)
 | map0
 | mapI (k:IntKind) (m:Int->Option PV)
 | mapS (m:List Nat->Option PV)
 | dfr (shut:Bool)
 | loop (st:LoopState) (pe:FX) (tm:Nat->PV) (ps:List Nat) (aS bo:zbI) (m:Nat)
 | void
abbrev zeF:=Nat->Nat->Prop
inductive PR (S:zeF)(h:TH):PV->TV->Prop
 | bool (b:Bool):PR S h (.bool b) (.bool b)
 | int (k:IntKind) (n:Int):PR S h (.int k n) (.int k n)
 | str (s:List Nat):PR S h (.str s) (.str s)
 | nilptr:PR S h .nilptr .nilptr
 | nilsl:PR S h .nilsl .nilsl
 | nilmap:PR S h .nilmap .nilmap
 | nilfn:PR S h .nilfn .nilfn
 | niliface:PR S h .niliface .niliface
 | iface {t:Nat} {v:PV} {u:TV}:PR S h v u->PR S h (.iface t v) (.iface t u)
 | listnil (p z:Nat):PR S h (.list p z []) .nilsl
 | list {p z:Nat} {l:List PV} {b g o q:Nat} {cs:List TV}:S p b->zbL h b g o (l.length*z)=some cs->2*l.length<=q->(∀v∈l,v.cells.length=z)->(l.flatMap PV.cells).length=cs.length ->
   (∀(i:Nat) (x:PV) (y:TV),(l.flatMap PV.cells)[i]?=some x->cs[i]?=some y->PR S h x y)->PR S h (.list p z l) (.sl b g o l.length q z)
 | elem {vs:List PV} {p b g o:Nat} {cs:List TV}:S p b->zbL h b g o vs.length=some cs->vs.length=cs.length->(∀(i:Nat) (x:PV) (y:TV),vs[i]?=some x->cs[i]?=some y->PR S h x y)->PR S h (.elem vs) (.ptr b g o vs.length)
 | fn {f:Nat} {vs:List PV} {cs:List TV}:vs.length=cs.length->(∀(i:Nat) (x:PV) (y:TV),vs[i]?=some x->cs[i]?=some y->PR S h x y)->PR S h (.fn f vs) (.fn f cs)
 | agg {vs:List PV} {cs:List TV}:vs.length=cs.length->(∀(i:Nat) (x:PV) (y:TV),vs[i]?=some x->cs[i]?=some y->PR S h x y)->PR S h (.agg vs) (.agg cs)
 | tuple {vs:List PV} {cs:List TV}:vs.length=cs.length->(∀(i:Nat) (x:PV) (y:TV),vs[i]?=some x->cs[i]?=some y->PR S h x y)->PR S h (.tuple vs) (.tuple cs)
structure Cx where
 S:zeF
 ρ:Nat->Option (Nat×Nat×Nat)
 L:Nat->Prop
inductive VR (c:Cx)(h:TH):PV->TV->Prop
 | pure {v:PV} {u:TV}:PR c.S h v u->VR c h v u
 | sl {id b d z g o n q:Nat}:c.ρ id=some (b,d,z)->VR c h (.sl id (g+d) o n q z) (.sl b g (o*z) n q z)
 | slnil {id:Nat} (z:Nat):c.L id->VR c h (.sl id 0 0 0 0 z) .nilsl
 | ptr {id b d z g i o n:Nat}:c.ρ id=some (b,d,z)->VR c h (.ptr id (g+d) i o n) (.ptr b g (i*z+o) n)
 | map {id b d z:Nat}:c.ρ id=some (b,d,z)->VR c h (.map id) (.map b)
 | yield {id b d z:Nat}:c.ρ id=some (b,d,z)->VR c h (.yield id) (.yield b)
 | iface {t:Nat} {v:PV} {u:TV}:VR c h v u->VR c h (.iface t v) (.iface t u)
 | fn {f:Nat} {vs:List PV} {cs:List TV}:vs.length=cs.length->(∀(i:Nat) (x:PV) (y:TV),vs[i]?=some x->cs[i]?=some y->VR c h x y)->VR c h (.fn f vs) (.fn f cs)
 | agg {vs:List PV} {cs:List TV}:vs.length=cs.length->(∀(i:Nat) (x:PV) (y:TV),vs[i]?=some x->cs[i]?=some y->VR c h x y)->VR c h (.agg vs) (.agg cs)
 | tuple {vs:List PV} {cs:List TV}:vs.length=cs.length->(∀(i:Nat) (x:PV) (y:TV),vs[i]?=some x->cs[i]?=some y->VR c h x y)->VR c h (.tuple vs) (.tuple cs)
def LR (R:PV->TV->Prop)(l:List PV)(cs:List TV):Prop:=l.length=cs.length/\∀(i:Nat) (x:PV) (y:TV),l[i]?=some x->cs[i]?=some y->R x y
section lists
variable {R R':PV->TV->Prop}
theorem LR.nil:LR R [] []:=⟨rfl,fun i x y h=>by simp at h⟩
theorem LR.cons {x:PV}{y:TV}{l:List PV}{cs:List TV}(h:R x y)(hl:LR R l cs):LR R (x::l) (y::cs) :=
 ⟨by simp[hl.1],fun i a b ha hb=>by
  cases i with
  | zero=>simp at ha hb;subst ha;subst hb;exact h
  | succ i=>simp at ha hb;exact hl.2 i a b ha hb⟩
theorem LR.of_cons {x:PV}{l:List PV}{cs:List TV}(h:LR R (x::l) cs):∃y cs',cs=y::cs'/\R x y/\LR R l cs':=by
 cases cs with
 | nil=>have:=h.1;simp at this
 | cons y cs=>exact⟨y,cs,rfl,h.2 0 x y rfl rfl,by have:=h.1;simp at this;exact this,fun i a b ha hb=>h.2 (i+1) a b (by simpa using ha) (by simpa using hb)⟩
theorem LR.of_nil {cs:List TV}(h:LR R [] cs):cs=[]:=by
 cases cs with
 | nil=>rfl
 | cons y cs=>have:=h.1;simp at this
theorem LR.mono (hR:∀x y,R x y->R' x y){l:List PV}{cs:List TV}(h:LR R l cs):LR R' l cs:=⟨h.1,fun i x y hx hy=>hR _ _ (h.2 i x y hx hy)⟩
theorem LR.app {l m:List PV}{cs ds:List TV}(h:LR R l cs)(k:LR R m ds):LR R (l++m) (cs++ds):=by
 refine⟨by simp[h.1,k.1],fun i x y hx hy=>?_⟩
 by_cases hi:i<l.length
 ·rw[zAS9 hi]at hx;rw[zAS9 (by rw[<- h.1];exact hi)]at hy;exact h.2 i x y hx hy
 ·rw[zAU9 zo]at hx;rw[zAU9 (by rw[<- h.1];omega),<- h.1]at hy;exact k.2 _ x y hx hy
theorem LR.drop {l:List PV}{cs:List TV}(h:LR R l cs)(k:Nat):LR R (l.drop k) (cs.drop k) :=
 ⟨by simp[h.1],fun i x y hx hy=>by rw[zFB9]at hx hy;exact h.2 _ x y hx hy⟩
theorem LR.take {l:List PV}{cs:List TV}(h:LR R l cs)(k:Nat):LR R (l.take k) (cs.take k):=by
 refine⟨by simp[h.1],fun i x y hx hy=>?_⟩;rw[zCY9]at hx hy
 split at hx
 ·rename_i hi;rw[if_pos hi]at hy;exact h.2 _ x y hx hy
 ·cases hx
theorem LR.at {l:List PV}{cs:List TV}(h:LR R l cs){i:Nat}{x:PV}(hx:l[i]?=some x):∃y,cs[i]?=some y/\R x y:=by
 have hi:i<l.length:=(zAC9.1 hx).1;have hi2:i<cs.length:=by rw[<- h.1];exact hi
 exact⟨cs[i],zAA9 hi2,h.2 i x _ hx (zAA9 hi2)⟩
end lists
structure ER (R:PV->TV->Prop)(z:Nat)(l:List PV)(cs:List TV):Prop where
 one:∀v∈l,v.cells.length=z
 all:LR R (l.flatMap PV.cells) cs
theorem zl3 {z:Nat}:∀{l:List PV},(∀v∈l,v.cells.length=z)->(l.flatMap PV.cells).length=l.length*z
 | [],_=>by simp
 | v::l,h=>by
  rw[zBR9,zAB9,h v (by simp),zl3 (fun x hx=>h x (by simp[hx])),zAG9,zCV9,zDE9]
theorem zpN {z:Nat}:∀{l:List PV},(∀v∈l,v.cells.length=z)->∀k,(l.drop k).flatMap PV.cells=(l.flatMap PV.cells).drop (k*z)
 | [],_,k=>by simp
 | v::l,h,0=>by simp
 | v::l,h,k+1=>by
  rw[zEY9,zpN (fun x hx=>h x (by simp[hx])) k,zBR9,zCV9,zDE9,<- zDN9,<- h v (by simp),List.drop_left]
theorem zo3 {z:Nat}:∀{l:List PV},(∀v∈l,v.cells.length=z)->∀k,(l.take k).flatMap PV.cells=(l.flatMap PV.cells).take (k*z)
 | [],_,k=>by simp
 | v::l,h,0=>by simp
 | v::l,h,k+1=>by
  rw[zFU9,zBR9,zo3 (fun x hx=>h x (by simp[hx])) k,zBR9,zCV9,zDE9,<- h v (by simp),List.take_length_add_append]
section elems
variable {R R':PV->TV->Prop}{z:Nat}
theorem ER.len {l:List PV}{cs:List TV}(h:ER R z l cs):cs.length=l.length*z:=by rw[<- h.all.1,zl3 h.one]
theorem ER.nil:ER R z [] []:=⟨fun v h=>by simp at h,LR.nil⟩
theorem ER.drop {l:List PV}{cs:List TV}(h:ER R z l cs)(k:Nat):ER R z (l.drop k) (cs.drop (k*z)) :=
 ⟨fun v hv=>h.one v (zBM9 hv),by rw[zpN h.one];exact h.all.drop _⟩
theorem ER.take {l:List PV}{cs:List TV}(h:ER R z l cs)(k:Nat):ER R z (l.take k) (cs.take (k*z)) :=
 ⟨fun v hv=>h.one v (zBP9 hv),by rw[zo3 h.one];exact h.all.take _⟩
theorem ER.app {l m:List PV}{cs ds:List TV}(h:ER R z l cs)(k:ER R z m ds):ER R z (l++m) (cs++ds) :=
 ⟨fun v hv=>by rcases zBF9.1 hv with hv|hv;exact h.one v hv;exact k.one v hv,by rw[zEI9];exact h.all.app k.all⟩
theorem ER.mono (hR:∀x y,R x y->R' x y){l:List PV}{cs:List TV}(h:ER R z l cs):ER R' z l cs:=⟨h.one,h.all.mono hR⟩
theorem ER.at {l:List PV}{cs:List TV}(h:ER R z l cs){i:Nat}{v:PV}(hv:l[i]?=some v):LR R v.cells ((cs.drop (i*z)).take z):=by
 have h1:=(h.drop i).take 1;have hd:(l.drop i).take 1=[v]:=by
  have hi:i<l.length:=(zAC9.1 hv).1;rw[zAQ9 hi]
  grind
 rw[hd,Nat.one_mul]at h1;have h2:=h1.all
 grind
theorem ER.one' {v:PV}{cs:List TV}(h1:v.cells.length=z)(h:LR R v.cells cs):ER R z [v] cs:=⟨fun x hx=>by simp at hx;subst hx;exact h1,by simpa using h⟩
theorem ER.set {l:List PV}{cs:List TV}(h:ER R z l cs){i:Nat}(hi:i<l.length){v:PV}{ds:List TV}(hv:v.cells.length=z)(hd:LR R v.cells ds):ER R z (l.set i v) (cs.take (i*z)++ds++cs.drop ((i+1)*z)):=by
 rw[List.set_eq_take_append_cons_drop,if_pos hi];have h1:=h.take i;have h2:=h.drop (i+1);rw[zAD9];exact h1.app ((ER.one' hv hd).app h2)
end elems
theorem zrO {α:Type}{t:Tr α}:∀{n i m:Nat} {a b:List α},t.getL i n=some a->t.getL (i+n) m=some b->t.getL i (n+m)=some (a++b)
 | 0,i,m,a,b,h,k=>by simp[Tr.getL]at h;subst h;simpa using k
 | n+1,i,m,a,b,h,k=>by
  rw[show n+1+m=(n+m)+1 by omega];unfold Tr.getL at h
  split at h
  ·cases h
  ·rename_i x hx
   split at h
   ·cases h
   ·rename_i l hl;injection h with h;subst h;have:=zrO hl (by rw[show i+1+n=i+(n+1) by omega];exact k);simp only[Tr.getL,hx,this];rfl
theorem zj6 {α:Type}{t:Tr α}:∀{n i m:Nat} {a:List α},t.getL i (n+m)=some a->t.getL i n=some (a.take n)/\t.getL (i+n) m=some (a.drop n)
 | 0,i,m,a,h=>by simp[Tr.getL];simpa using h
 | n+1,i,m,a,h=>by
  rw[show n+1+m=(n+m)+1 by omega]at h;unfold Tr.getL at h
  split at h
  ·cases h
  ·rename_i x hx
   split at h
   ·cases h
   ·rename_i l hl;injection h with h;subst h;obtain⟨h1,h2⟩:=zj6 hl;refine⟨?_,?_⟩
    ·simp only[Tr.getL,hx,h1];rfl
    grind
theorem zh8 {α:Type}{t:Tr α}{n i:Nat}{a:List α}(h:t.getL i n=some a){k m:Nat}(hk:k+m<=n):t.getL (i+k) m=some ((a.drop k).take m):=by
 obtain⟨r,rfl⟩:=Nat.le.dest hk;rw[zEK9]at h;obtain⟨_,h2⟩:=zj6 h;exact(zj6 h2).1
theorem zhH {α:Type}{t:Tr α}:∀{a:List α} {i:Nat},(∀j,j<a.length->t.get (i+j)=a[j]?)->t.getL i a.length=some a
 | [],i,_=>rfl
 | x::a,i,h=>by
  have h0:=h 0 (by simp);have h1:=zhH (t:=t) (a:=a) (i:=i+1) fun j hj=>by
   have:=h (j+1) (by simpa using hj)
   grind
  rw[zAG9];unfold Tr.getL
  grind
theorem ztK {α:Type}{t t':Tr α}{n i:Nat}(h:∀j,i<=j->j<i+n->t'.get j=t.get j){a:List α}(ha:t.getL i n=some a):t'.getL i n=some a:=by
 obtain⟨h1,h2⟩:=Tr.getL_some ha;subst h1;exact zhH fun j hj=>by rw[h _ zo zo,<- h2 j hj]
theorem zcj {a b:Nat}(h:a<=b):Nat.ble a b=true:=Nat.ble_eq_true_of_le h
theorem zbV {a b:Nat}(h:a=b):Nat.beq a b=true:=by subst h;exact Nat.beq_refl a
theorem zAl {a b:Nat}(h:Nat.beq a b=true):a=b:=zAF9 h
theorem zm5 {a b:Nat}(h:¬a=b):Nat.beq a b=false:=by
 cases hb:Nat.beq a b
 all_goals simp_all
theorem ziB {h:TH}{b e G M len:Nat}{cells:Tr TV}(hg:h.get b=some (.row e G M len cells)){g o n:Nat}{cs:List TV}(h1:M<=g)(h2:g<=G)(hc:cells.getL o n=some cs):zbL h b g o n=some cs:=by
 unfold zbL;rw[hg];unfold zg4;dsimp only;rw[zcj h1,zcj h2];exact hc
theorem zg1 {h:TH}{b g o n:Nat}{cs:List TV}(hr:zbL h b g o n=some cs):∃x,h.get b=some x/\zg4 g o n x=some cs:=by
 unfold zbL at hr
 grind
theorem zgs {h:TH}{b g o n:Nat}{x:TO}{cs:List TV}(hx:h.get b=some x)(hr:zg4 g o n x=some cs):zbL h b g o n=some cs:=by
 unfold zbL
 grind
theorem zvX {g o n:Nat}{x:TO}{cs:List TV}(hr:zg4 g o n x=some cs){k m:Nat}(hk:k+m<=n):zg4 g (o+k) m x=some ((cs.drop k).take m):=by
 unfold zg4 at hr⊢
 split at hr
 ·rename_i e G M len cells
  cases h1:Nat.ble M g
  ·grind
  ·cases h2:Nat.ble g G
   ·grind
   ·rw[h1,h2]at hr;exact zh8 hr hk
 ·rename_i cells
  cases h1:Nat.beq g 0
  ·grind
  ·rw[h1]at hr;exact zh8 hr hk
 ·cases hr
theorem zeQ {h:TH}{b g o n:Nat}{cs:List TV}(hr:zbL h b g o n=some cs){k m:Nat}(hk:k+m<=n):zbL h b g (o+k) m=some ((cs.drop k).take m):=by
 obtain⟨x,h1,h2⟩:=zg1 hr;exact zgs h1 (zvX h2 hk)
theorem PR.mono {S S':zeF}{h h':TH}(hS:∀p b,S p b->S' p b)(hr:∀p b,S p b->∀g o n cs,zbL h b g o n=some cs->zbL h' b g o n=some cs){v:PV}{u:TV}(k:PR S h v u):PR S' h' v u:=by
 induction k with
 | bool b=>exact .bool b
 | int k n=>exact .int k n
 | str s=>exact .str s
 | nilptr=>exact .nilptr
 | nilsl=>exact .nilsl
 | nilmap=>exact .nilmap
 | nilfn=>exact .nilfn
 | niliface=>exact .niliface
 | iface _ ih=>exact .iface ih
 | listnil p z=>exact .listnil p z
 | list h1 h2 h3 h4 h5 _ ih=>exact .list (hS _ _ h1) (hr _ _ h1 _ _ _ _ h2) h3 h4 h5 ih
 | elem h1 h2 h3 _ ih=>exact .elem (hS _ _ h1) (hr _ _ h1 _ _ _ _ h2) h3 ih
 | fn h1 _ ih=>exact .fn h1 ih
 | agg h1 _ ih=>exact .agg h1 ih
 | tuple h1 _ ih=>exact .tuple h1 ih
structure Mo (c c':Cx)(h h':TH):Prop where
 S:∀p b,c.S p b->c'.S p b
 ρ:∀id x,c.ρ id=some x->c'.ρ id=some x
 L:∀id,c.L id->c'.L id
 rd:∀p b,c.S p b->∀g o n cs,zbL h b g o n=some cs->zbL h' b g o n=some cs
theorem Mo.refl (c:Cx)(h:TH):Mo c c h h:=⟨fun _ _ h=>h,fun _ _ h=>h,fun _ h=>h,fun _ _ _ _ _ _ _ h=>h⟩
theorem Mo.trans {c c' c'':Cx}{h h' h'':TH}(a:Mo c c' h h')(b:Mo c' c'' h' h''):Mo c c'' h h'' :=
 ⟨fun p x hx=>b.S _ _ (a.S _ _ hx),fun id x hx=>b.ρ _ _ (a.ρ _ _ hx),fun id hx=>b.L _ (a.L _ hx),fun p x hx g o n cs hc=>b.rd _ _ (a.S _ _ hx) _ _ _ _ (a.rd _ _ hx _ _ _ _ hc)⟩
theorem VR.mono {c c':Cx}{h h':TH}(m:Mo c c' h h'){v:PV}{u:TV}(k:VR c h v u):VR c' h' v u:=by
 induction k with
 | pure k=>exact .pure (k.mono m.S m.rd)
 | sl h=>exact .sl (m.ρ _ _ h)
 | slnil z h=>exact .slnil z (m.L _ h)
 | ptr h=>exact .ptr (m.ρ _ _ h)
 | map h=>exact .map (m.ρ _ _ h)
 | yield h=>exact .yield (m.ρ _ _ h)
 | iface _ ih=>exact .iface ih
 | fn h1 _ ih=>exact .fn h1 ih
 | agg h1 _ ih=>exact .agg h1 ih
 | tuple h1 _ ih=>exact .tuple h1 ih
theorem PR.aggL {S:zeF}{h:TH}{l:List PV}{cs:List TV}(k:LR (PR S h) l cs):PR S h (.agg l) (.agg cs):=.agg k.1 k.2
theorem VR.aggL {c:Cx}{h:TH}{l:List PV}{cs:List TV}(k:LR (VR c h) l cs):VR c h (.agg l) (.agg cs):=.agg k.1 k.2
theorem VR.tupL {c:Cx}{h:TH}{l:List PV}{cs:List TV}(k:LR (VR c h) l cs):VR c h (.tuple l) (.tuple cs):=.tuple k.1 k.2
theorem VR.fnL {c:Cx}{h:TH}{f:Nat}{l:List PV}{cs:List TV}(k:LR (VR c h) l cs):VR c h (.fn f l) (.fn f cs):=.fn k.1 k.2
theorem LR.pure {c:Cx}{h:TH}{l:List PV}{cs:List TV}(k:LR (PR c.S h) l cs):LR (VR c h) l cs:=k.mono fun _ _=>.pure
theorem VR.agg_inv {c:Cx}{h:TH}{l:List PV}{u:TV}(k:VR c h (.agg l) u):∃cs,u=.agg cs/\LR (VR c h) l cs:=by
 cases k with
 | pure k=>cases k with|agg h1 h2=>exact⟨_,rfl,LR.pure ⟨h1,h2⟩⟩
 | agg h1 h2=>exact⟨_,rfl,h1,h2⟩
theorem VR.tuple_inv {c:Cx}{h:TH}{l:List PV}{u:TV}(k:VR c h (.tuple l) u):∃cs,u=.tuple cs/\LR (VR c h) l cs:=by
 cases k with
 | pure k=>cases k with|tuple h1 h2=>exact⟨_,rfl,LR.pure ⟨h1,h2⟩⟩
 | tuple h1 h2=>exact⟨_,rfl,h1,h2⟩
theorem VR.fn_inv {c:Cx}{h:TH}{f:Nat}{l:List PV}{u:TV}(k:VR c h (.fn f l) u):∃cs,u=.fn f cs/\LR (VR c h) l cs:=by
 cases k with
 | pure k=>cases k with|fn h1 h2=>exact⟨_,rfl,LR.pure ⟨h1,h2⟩⟩
 | fn h1 h2=>exact⟨_,rfl,h1,h2⟩
theorem VR.iface_inv {c:Cx}{h:TH}{t:Nat}{v:PV}{u:TV}(k:VR c h (.iface t v) u):∃u',u=.iface t u'/\VR c h v u':=by
 cases k with
 | pure k=>cases k with|iface h1=>exact⟨_,rfl,.pure h1⟩
 | iface h1=>exact⟨_,rfl,h1⟩
theorem VR.int_inv {c:Cx}{h:TH}{k:IntKind}{n:Int}{u:TV}(x:VR c h (.int k n) u):u=.int k n:=by
 cases x with|pure x=>cases x;rfl
theorem VR.bool_inv {c:Cx}{h:TH}{b:Bool}{u:TV}(x:VR c h (.bool b) u):u=.bool b:=by
 cases x with|pure x=>cases x;rfl
theorem VR.str_inv {c:Cx}{h:TH}{s:List Nat}{u:TV}(x:VR c h (.str s) u):u=.str s:=by
 cases x with|pure x=>cases x;rfl
theorem VR.bad_inv {c:Cx}{h:TH}{u:TV}(x:VR c h .bad u):False:=by
 cases x with|pure x=>cases x
theorem VR.cells {c:Cx}{h:TH}{v:PV}{u:TV}(k:VR c h v u):LR (VR c h) v.cells u.cells:=by
 cases k with
 | pure k =>
  cases k with
  | bool b=>exact LR.cons (.pure (.bool b)) LR.nil
  | int kk n=>exact LR.cons (.pure (.int kk n)) LR.nil
  | str s=>exact LR.cons (.pure (.str s)) LR.nil
  | nilptr=>exact LR.cons (.pure .nilptr) LR.nil
  | nilsl=>exact LR.cons (.pure .nilsl) LR.nil
  | nilmap=>exact LR.cons (.pure .nilmap) LR.nil
  | nilfn=>exact LR.cons (.pure .nilfn) LR.nil
  | niliface=>exact LR.cons (.pure .niliface) LR.nil
  | iface h1=>exact LR.cons (.pure (.iface h1)) LR.nil
  | listnil p z=>exact LR.cons (.pure (.listnil p z)) LR.nil
  | list h1 h2 h3 h4 h5 h6=>exact LR.cons (.pure (.list h1 h2 h3 h4 h5 h6)) LR.nil
  | elem h1 h2 h3 h4=>exact LR.cons (.pure (.elem h1 h2 h3 h4)) LR.nil
  | fn h1 h2=>exact LR.cons (.pure (.fn h1 h2)) LR.nil
  | agg h1 h2=>exact LR.pure ⟨h1,h2⟩
  | tuple h1 h2=>exact LR.nil
 | sl h1=>exact LR.cons (.sl h1) LR.nil
 | slnil z h1=>exact LR.cons (.slnil z h1) LR.nil
 | ptr h1=>exact LR.cons (.ptr h1) LR.nil
 | map h1=>exact LR.cons (.map h1) LR.nil
 | yield h1=>exact LR.cons (.yield h1) LR.nil
 | iface h1=>exact LR.cons (.iface h1) LR.nil
 | fn h1 h2=>exact LR.cons (.fn h1 h2) LR.nil
 | agg h1 h2=>exact⟨h1,h2⟩
 | tuple h1 h2=>exact LR.nil
def zkb {K:Type}(κ:K->TV):Prop:=∀x y,(x=y->zgZ (κ x) (κ y)=some true)/\(¬x=y->zgZ (κ x) (κ y)=some false)
open Classical in
noncomputable def lk {K:Type}(κ:K->TV)(x:K):List zcD->Option TV
 | []=>none
 | e::l=>if e.k=κ x then some e.v else lk κ x l
structure MR {K:Type}(R:PV->TV->Prop)(κ:K->TV)(m:K->Option PV)(es:List zcD):Prop where
 keys:∀e∈es,∃n,e.k=κ n
 some:∀x v,m x=some v->∃u,lk κ x es=some u/\R v u
 none:∀x,m x=none->lk κ x es=none
def tmR (c:Cx)(h:TH)(tm:Nat->PV)(t:Tr TV):Prop:=∀i,tm i=.bad\/∃u,t.get i=some u/\VR c h (tm i) u
inductive XR (c:Cx)(h:TH):FX->TX->Prop
 | norm:XR c h .norm .norm
 | exit (id:Nat):XR c h (.exit id) (.exit id)
 | goto (l:Nat):XR c h (.goto l) (.goto l)
 | ret:XR c h .ret .ret
 | panic {v:PV} {u:TV}:VR c h v u->XR c h (.panic v) (.panic u)
def OR (c:Cx)(h:TH)(id:Nat):zd->Prop
 | .row e z G M l=>(l=[]/\G=0/\c.ρ id=none/\c.L id)\/∃b d G' M' cells cs,c.ρ id=some (b,d,z)/\h.get b=some (.row e G' M' (l.length*z) cells)/\G=G'+d/\M'<=M-d/\cells.getL 0 (l.length*z)=some cs/\ER (VR c h) z l cs
 | .map0=>∃b d z clock,c.ρ id=some (b,d,z)/\h.get b=some (.map [] clock)
 | .mapI k m=>∃b d z es clock,c.ρ id=some (b,d,z)/\h.get b=some (.map es clock)/\MR (VR c h) (TV.int k) m es
 | .mapS m=>∃b d z es clock,c.ρ id=some (b,d,z)/\h.get b=some (.map es clock)/\MR (VR c h) TV.str m es
 | .dfr shut=>∃b d z,c.ρ id=some (b,d,z)/\h.get b=some (.dfr shut)
 | .loop st pe tm ps aS bo m=>∃b d z bm dm zm t pe',c.ρ id=some (b,d,z)/\c.ρ m=some (bm,dm,zm)/\h.get b=some (.loop st pe' t ps aS bo bm)/\tmR c h tm t/\XR c h pe pe'
 | .void=>True
structure Ba where
 β:Nat
 h0:TH
 S:zeF
structure HR (B:Ba)(c:Cx)(H:List zd)(h:TH):Prop where
 le:B.β<=h.next
 keep:∀b,b<B.β->h.get b=B.h0.get b
 old:∀p b,c.S p b->B.S p b\/(p=0/\B.β<=b)
 S:∀p b,c.S p b->b<h.next/\∀id x,c.ρ id=some x->x.1=b->H[id]?=some .void
 own:∀id x,c.ρ id=some x->B.β<=x.1/\x.1<h.next/\id<H.length
 lz:∀id,c.L id->id<H.length/\∀x,c.ρ id=some x->x.2.1=1
 inj:∀id id' x x',c.ρ id=some x->c.ρ id'=some x'->x.1=x'.1->id=id'
 obj:∀id o,H[id]?=some o->OR c h id o
def PV.toT:PV->Option TV
 | .bool b=>some (.bool b)
 | .int k n=>some (.int k n)
 | .str s=>some (.str s)
 | _=>none
def ofT:TV->Option PV
 | .bool b=>some (.bool b)
 | .int k n=>some (.int k n)
 | .str s=>some (.str s)
 | _=>none
theorem znA {c:Cx}{h:TH}{v:PV}{u u':TV}(k:VR c h v u)(ht:v.toT=some u'):u=u':=by
 cases v<;>simp[PV.toT]at ht<;>subst ht
 ·exact k.bool_inv
 ·exact k.int_inv
 ·exact k.str_inv
theorem zrB {c:Cx}{h:TH}{v:PV}{u:TV}(ht:ofT u=some v):VR c h v u:=by
 cases u<;>simp[ofT]at ht<;>subst ht
 ·exact .pure (.bool _)
 ·exact .pure (.int _ _)
 ·exact .pure (.str _)
def sc1 (f:TV->Option TV):List PV->Option PV
 | [x]=>match x.toT with
  | some u=>(match f u with|some w=>ofT w|none=>none)
  | none=>none
 | _=>none
def sc2 (f:TV->TV->Option TV):List PV->Option PV
 | [x,y]=>match x.toT with
  | some u=>(match y.toT with
   | some t=>(match f u t with|some w=>ofT w|none=>none)
   | none=>none)
  | none=>none
 | _=>none
def zbk:List PV->Option (List TV)
 | []=>some []
 | x::l=>match x.toT with
  | some u=>(match zbk l with|some us=>some (u::us)|none=>none)
  | none=>none
def scL (f:List TV->Option TV)(l:List PV):Option PV:=match zbk l with
 | some us=>(match f us with|some w=>ofT w|none=>none)
 | none=>none
section plain
variable {c:Cx}{h:TH}
theorem zmK {f:TV->Option TV}{vs:List PV}{us:List TV}{v:PV}(hv:LR (VR c h) vs us)(hp:sc1 f vs=some v):∃u,zce us f=some u/\VR c h v u:=by
 unfold sc1 at hp
 split at hp
 ·rename_i x;obtain⟨y,cs,rfl,h1,h2⟩:=hv.of_cons;obtain rfl:=h2.of_nil
  split at hp
  ·rename_i u hu;obtain rfl:=znA h1 hu
   split at hp
   ·rename_i w hw;exact⟨w,hw,zrB hp⟩
   ·cases hp
  ·cases hp
 ·cases hp
theorem zkL {f:TV->TV->Option TV}{vs:List PV}{us:List TV}{v:PV}(hv:LR (VR c h) vs us)(hp:sc2 f vs=some v):∃u,zcv us f=some u/\VR c h v u:=by
 unfold sc2 at hp
 split at hp
 ·rename_i x x';obtain⟨y,cs,rfl,h1,h2⟩:=hv.of_cons;obtain⟨y',cs',rfl,h3,h4⟩:=h2.of_cons;obtain rfl:=h4.of_nil
  split at hp
  ·rename_i u hu;obtain rfl:=znA h1 hu
   split at hp
   ·rename_i u' hu';obtain rfl:=znA h3 hu'
    split at hp
    ·rename_i w hw;exact⟨w,hw,zrB hp⟩
    ·cases hp
   ·cases hp
  ·cases hp
 ·cases hp
theorem ziT:∀{vs:List PV} {us us':List TV},LR (VR c h) vs us->zbk vs=some us'->us=us'
 | [],us,us',hv,hp=>by simp[zbk]at hp;subst hp;exact hv.of_nil
 | x::l,us,us',hv,hp=>by
  obtain⟨y,cs,rfl,h1,h2⟩:=hv.of_cons;unfold zbk at hp
  split at hp
  ·rename_i u hu;obtain rfl:=znA h1 hu
   split at hp
   ·rename_i ws hws;injection hp with hp;subst hp;rw[ziT h2 hws]
   ·cases hp
  ·cases hp
theorem zAg {f:List TV->Option TV}{vs:List PV}{us:List TV}{v:PV}(hv:LR (VR c h) vs us)(hp:scL f vs=some v):∃u,f us=some u/\VR c h v u:=by
 unfold scL at hp
 split at hp
 ·rename_i ws hws;obtain rfl:=ziT hv hws
  split at hp
  ·rename_i w hw;exact⟨w,hw,zrB hp⟩
  ·cases hp
 ·cases hp
end plain
def zbn (f:TV->Option PV):List TV->Option (List PV)
 | []=>some []
 | x::l=>match f x with
  | some v=>(match zbn f l with|some vs=>some (v::vs)|none=>none)
  | none=>none
def ofC:Nat->TV->Option PV
 | 0,_=>none
 | n+1,u=>match u with
  | .bool b=>some (.bool b)
  | .int k m=>some (.int k m)
  | .str s=>some (.str s)
  | .nilptr=>some .nilptr
  | .nilsl=>some .nilsl
  | .nilmap=>some .nilmap
  | .nilfn=>some .nilfn
  | .niliface=>some .niliface
  | .fn f []=>some (.fn f [])
  | .iface t v=>(match ofC n v with|some v=>some (.iface t v)|none=>none)
  | .agg l=>(match zbn (ofC n) l with|some l=>some (.agg l)|none=>none)
  | .tuple l=>(match zbn (ofC n) l with|some l=>some (.tuple l)|none=>none)
  | _=>none
theorem zfW {f:TV->Option PV}{S:zeF}{h:TH}(hf:∀u v,f u=some v->PR S h v u):∀{us:List TV} {vs:List PV},zbn f us=some vs->LR (PR S h) vs us
 | [],vs,hp=>by simp[zbn]at hp;subst hp;exact LR.nil
 | u::us,vs,hp=>by
  unfold zbn at hp
  split at hp
  ·rename_i v hv
   split at hp
   ·rename_i ws hws;injection hp with hp;subst hp;exact LR.cons (hf _ _ hv) (zfW hf hws)
   ·cases hp
  ·cases hp
theorem zgm {S:zeF}{h:TH}:∀{n:Nat} {u:TV} {v:PV},ofC n u=some v->PR S h v u
 | 0,u,v,hp=>by cases hp
 | n+1,u,v,hp=>by
  unfold ofC at hp
  split at hp<;>first|(injection hp with hp;subst hp;constructor;done)|skip
  ·injection hp with hp;subst hp;exact .fn rfl (fun i x y hx=>by simp at hx)
  ·split at hp
   ·rename_i w hw;injection hp with hp;subst hp;exact .iface (zgm hw)
   ·cases hp
  ·split at hp
   ·rename_i w hw;injection hp with hp;subst hp;have:=zfW (fun u v=>zgm (S:=S) (h:=h)) hw;exact .agg this.1 this.2
   ·cases hp
  ·split at hp
   ·rename_i w hw;injection hp with hp;subst hp;have:=zfW (fun u v=>zgm (S:=S) (h:=h)) hw;exact .tuple this.1 this.2
   ·cases hp
  ·cases hp
def zaw:PV->Bool
 | .agg _=>false
 | .tuple _=>false
 | .bad=>false
 | _=>true
theorem zuY {v:PV}(h:zaw v=true):v.cells=[v]:=by cases v<;>first|rfl|cases h
def zbr (agg:Bool)(l:List PV):Option PV:=if agg then some (.agg l)else match l with
 | [x]=>some x
 | _=>none
def zbl (H:List zd)(id g i:Nat):Option PV:=match H[id]? with
 | some (.row _ _ G M l)=>if M<=g/\g<=G then l[i]? else none
 | _=>none
def zaz (H:List zd)(agg:Bool)(n:Nat):List PV->Option PV
 | [.elem cs]=>if n<=cs.length then zbr agg (cs.take n)else none
 | [.ptr id g i o m]=>if n<=m then(match zbl H id g i with
  | some v=>if o+n<=v.cells.length then zbr agg ((v.cells.drop o).take n)else none
  | none=>none)else none
 | _=>none
def zac (off size:Nat):List PV->Option PV
 | [.elem cs]=>if off+size<=cs.length then some (.elem ((cs.drop off).take size))else none
 | [.ptr id g i o m]=>if off+size<=m then some (.ptr id g i (o+off) size)else none
 | _=>none
def zaf (esz:Nat):List PV->Option PV
 | [.list _ z l,.int _ j]=>if esz=z/\0<=j then(match l[j.toNat]? with
  | some v=>some (.elem v.cells)
  | none=>none)else none
 | [.sl id g o n _ z,.int _ j]=>if esz=z/\0<=j/\j.toNat<n then some (.ptr id g (o+j.toNat) 0 z)else none
 | _=>none
def zR (len esz:Nat):List PV->Option PV
 | [.elem cs,.int _ j]=>if 0<=j/\j.toNat<len/\len*esz<=cs.length then some (.elem ((cs.drop (j.toNat*esz)).take esz))else none
 | [.ptr id g i o m,.int _ j]=>if 0<=j/\j.toNat<len/\len*esz<=m then some (.ptr id g i (o+j.toNat*esz) esz)else none
 | _=>none
def bnd (m:Nat):PV->Option Nat
 | .int _ j=>if 0<=j/\j.toNat<=m then some j.toNat else none
 | _=>none
def zah (lo hi mx:Bool)(p z:Nat)(l:List PV):List PV->Option PV
 | []=>if lo=false/\hi=false/\mx=false then some (.list p z l)else none
 | [x]=>if mx=true\/lo=hi then none else(match bnd l.length x with
  | some a=>some (.list p z (if lo then l.drop a else l.take a))
  | none=>none)
 | [x,y]=>if lo=true/\hi=true/\mx=false/\0<l.length then(match bnd l.length y with
  | some b=>(match bnd b x with
   | some a=>some (.list p z ((l.take b).drop a))
   | none=>none)
  | none=>none)else none
 | [x,y,w]=>if lo=true/\hi=true/\mx=true/\0<l.length then(match bnd l.length w with
  | some m=>(match bnd m y with
   | some b=>(match bnd b x with
    | some a=>some (.list p z ((l.take b).drop a))
    | none=>none)
   | none=>none)
  | none=>none)else none
 | _=>none
def zai (lo hi mx:Bool)(id g o n q z:Nat):List PV->Option PV
 | []=>if lo=false/\hi=false/\mx=false then some (.sl id g o n q z)else none
 | [x]=>if mx=true\/lo=hi\/q=0 then none else if lo then(match bnd n x with
   | some a=>some (.sl id g (o+a) (n-a) (q-2*a) z)
   | none=>none)else(match bnd (q/2) x with
   | some a=>some (.sl id g o a q z)
   | none=>none)
 | [x,y]=>if lo=true/\hi=true/\mx=false/\0<q then(match bnd (q/2) y with
  | some b=>(match bnd b x with
   | some a=>some (.sl id g (o+a) (b-a) (q-2*a) z)
   | none=>none)
  | none=>none)else none
 | [x,y,m]=>if lo=true/\hi=true/\mx=true/\0<q then(match bnd (q/2) m with
  | some m=>(match bnd m y with
   | some b=>(match bnd b x with
    | some a=>some (.sl id g (o+a) (b-a) (2*m+1-2*a) z)
    | none=>none)
   | none=>none)
  | none=>none)else none
 | _=>none
def zad (esz:Nat)(lo hi mx:Bool):List PV->Option PV
 | .list p z l::bs=>if esz=z then zah lo hi mx p z l bs else none
 | .sl id g o n q z::bs=>if esz=z then zai lo hi mx id g o n q z bs else none
 | _=>none
def zbz (f:Nat)(vs:List PV):Option PV:=match f with
 | 1=>(match vs with
  | [.nilsl]=>some (.int .i64 0)
  | [.list _ _ l]=>some (.int .i64 l.length)
  | [.sl _ _ _ n _ _]=>some (.int .i64 n)
  | _=>none)
 | 3=>sc1 zp7 vs
 | _=>none
def okF (ok:Bool)(v:PV)(b:Bool):PV:=if ok then .tuple [v,.bool b]else v
def zaC (H:List zd)(kf:Nat)(zero:TV)(ok:Bool):List PV->Option PV
 | [.map id,.int k x]=>if kf=1 then(match H[id]? with
  | some .map0=>(match ofC 3 zero with|some z=>some (okF ok z false)|none=>none)
  | some (.mapI k' m)=>if k=k' then(match m x with
   | some v=>some (okF ok v true)
   | none=>(match ofC 3 zero with|some z=>some (okF ok z false)|none=>none))else none
  | _=>none)else none
 | [.map id,.str x]=>if kf=2 then(match H[id]? with
  | some .map0=>(match ofC 3 zero with|some z=>some (okF ok z false)|none=>none)
  | some (.mapS m)=>(match m x with
   | some v=>some (okF ok v true)
   | none=>(match ofC 3 zero with|some z=>some (okF ok z false)|none=>none))
  | _=>none)else none
 | [.nilmap,.int _ _]=>if kf=1 then(match ofC 3 zero with|some z=>some (okF ok z false)|none=>none)else none
 | _=>none
def zbh (f:Nat)(v:PV):Option Bool:=match f,v with
 | 1,.nilptr=>some true
 | 1,.ptr ..=>some false
 | 1,.elem _=>some false
 | 2,.nilsl=>some true
 | 2,.list _ _ (_::_)=>some false
 | 3,.nilmap=>some true
 | 3,.map _=>some false
 | 4,.nilfn=>some true
 | 4,.fn ..=>some false
 | 5,.niliface=>some true
 | 5,.iface ..=>some false
 | _,_=>none
def zbx (neg:Bool):Option Bool->Option PV
 | some b=>some (.bool (if neg then !b else b))
 | none=>none
def zae (neg:Bool)(ks:List Nat):List PV->Option PV
 | [.agg l,.agg m]=>(match zbk l with
  | some l=>(match zbk m with
   | some m=>bif Nat.beq l.length ks.length then bif Nat.beq m.length ks.length then zbx neg (zcs ks l m)else none else none
   | none=>none)
  | none=>none)
 | _=>none
def zax (cells:List PV):List (Nat×Nat)->List PV->Option (List PV)
 | [],[]=>some cells
 | (off,size)::ps,v::vs=>if v.cells.length=size/\off+size<=cells.length then zax (cells.take off++v.cells++cells.drop (off+size)) ps vs else none
 | _,_=>none
def zaJ (agg:Bool)(off size:Nat)(l:List PV):Option PV :=
 if agg then(if off+size<=l.length then some (.agg ((l.drop off).take size))else none)else l[off]?
def zbu (H:List zd)(esz:Nat):PV->Option (List PV)
 | .nilsl=>some []
 | .list _ z l=>if esz=z then some l else none
 | .sl id g o n _ z=>if esz=z then(match H[id]? with
  | some (.row _ _ G M l)=>if M<=g/\g<=G/\o+n<=l.length then some ((l.drop o).take n)else none
  | _=>none)else none
 | _=>none
def zaa (H:List zd):List PV->Option PV
 | [x]=>(match zbu H 1 x with
  | some l=>(match zbk l with
   | some l=>(match zbs l with
    | some s=>some (.str s)
    | none=>none)
   | none=>none)
  | none=>none)
 | _=>none
def zbi (H:List zd)(k:zZ)(vs:List PV):Option PV :=
 match k with
 | .mov=>(match vs with | [v]=>some v|_=>none)
 | .pick=>(match vs with | [.bool c,a,b]=>some (if c then a else b)|_=>none)
 | .load agg n=>zaz H agg n vs
 | .nilchk=>(match vs with
  | [.elem cs]=>some (.elem cs)
  | [.ptr id g i o n]=>some (.ptr id g i o n)
  | [.fn f c]=>some (.fn f c)
  | _=>none)
 | .bin op=>sc2 (zcu op) vs
 | .eqnil neg f=>(match vs with
  | [x,y]=>zbx neg (zL (zbh f x) (zbh f y))
  | _=>none)
 | .eqB neg=>sc2 (zn8 neg) vs
 | .cstr=>sc1 zt6 vs
 | .eqagg neg ks=>zae neg ks vs
 | .un op=>sc1 (pUn op) vs
 | .conv k=>sc1 (zlf k) vs
 | .mkif t=>(match vs with | [v]=>some (.iface t v)|_=>none)
 | .mkfn f=>some (.fn f vs)
 | .slice esz lo hi mx=>zad esz lo hi mx vs
 | .slstr lo hi=>scL (zku lo hi) vs
 | .faddr off size=>zac off size vs
 | .fld agg off size=>(match vs with | [.agg l]=>zaJ agg off size l|_=>none)
 | .iaddr esz=>zaf esz vs
 | .iaddrA len esz=>zR len esz vs
 | .idxstr=>sc2 zi1 vs
 | .look kf zero ok=>zaC H kf zero ok vs
 | .tassert t zero ok=>(match vs with
  | [.iface t' v]=>if t=t' then some (okF ok v true)else if ok then(match ofC 3 zero with|some z=>some (.tuple [z,.bool false])|none=>none)else none
  | [.niliface]=>if ok then(match ofC 3 zero with|some z=>some (.tuple [z,.bool false])|none=>none)else none
  | _=>none)
 | .extr i=>(match vs with | [.tuple l]=>l[i]? | _=>none)
 | .len f=>zbz f vs
 | .tostr=>zaa H vs
 | .maxI=>sc2 (ziR true) vs
 | .minI=>sc2 (ziR false) vs
 | .build zero places=>(match zbn (ofC 3) zero with
  | some z=>(match zax z places vs with
   | some l=>some (.agg l)
   | none=>none)
  | none=>none)
 | _=>none
end Fv
end Go.Proofs.YtkeknmgnoceogaaGreat
namespace Go.Proofs.YtkeknmgnoceogaaGreat
namespace Fv
open Tw
variable {B:Ba}{h:TH}{c:Cx}{H:List zd}{vs:List PV}{us:List TV}{v:PV}
theorem znx {agg:Bool}{l:List PV}{cs:List TV}(hl:LR (VR c h) l cs)(hp:zbr agg l=some v):∃u,ziN agg cs=some u/\VR c h v u:=by
 unfold zbr at hp;unfold ziN
 cases agg
 ·simp only[zCD9,if_false]at hp
  split at hp
  ·rename_i x;injection hp with hp;subst hp;obtain⟨y,cs',rfl,h1,h2⟩:=hl.of_cons;obtain rfl:=h2.of_nil
   grind
  ·cases hp
 ·simp only[if_true]at hp;injection hp with hp;subst hp;exact⟨_,rfl,VR.aggL hl⟩
theorem zmH {i n z:Nat}(h:i<n):i*z+z<=n*z:=by
 have:=zBV9 z (Nat.succ_le_of_lt h)
 grind
theorem zp2 {α:Type}(cs:List α){a o n z:Nat}(hz:o+n<=z):((((cs.drop a).take z).drop o).take n)=(cs.drop (a+o)).take n:=by
 rw[zDK9,zEE9,zDN9,zDH9 zo]
theorem zrW (k:HR B c H h){id g i b d z:Nat}(hr:zbl H id (g+d) i=some v)(hρ:c.ρ id=some (b,d,z)):v.cells.length=z/\∀o n,o+n<=z->∃ds,zbL h b g (i*z+o) n=some ds/\LR (VR c h) ((v.cells.drop o).take n) ds:=by
 unfold zbl at hr
 split at hr
 ·rename_i e z' G M l hH
  split at hr
  ·rename_i hg;rcases k.obj _ _ hH with⟨rfl,_⟩|⟨b',d',G',M',cells,cs,h1,h2,h3,h4,h5,h6⟩
   ·simp at hr
   ·rw[hρ]at h1;injection h1 with h1;injection h1 with h1 h7;injection h7 with h7 h8;subst h1;subst h7;subst h8;subst h3;have hi:i<l.length:=(zAC9.1 hr).1;have hm:=zmH (z:=z) hi;have hvl:=h6.one v (zAJ9 hr);refine⟨hvl,fun o n hon=>?_⟩;refine⟨(cs.drop (i*z+o)).take n,ziB h2 zo zo ?_,?_⟩
    ·have:=zh8 h5 (k:=i*z+o) (m:=n) zo
     grind
    ·rw[<- zp2 cs hon];exact((h6.at hr).drop o).take n
  ·cases hr
 ·cases hr
theorem zeO {id g i o n:Nat}{u:TV}(x:VR c h (.ptr id g i o n) u):∃b d z g',c.ρ id=some (b,d,z)/\g=g'+d/\u=.ptr b g' (i*z+o) n:=by
 cases x with
 | pure x=>cases x
 | ptr hρ=>exact⟨_,_,_,_,hρ,rfl,rfl⟩
theorem zfR {cs:List PV}{u:TV}(x:VR c h (.elem cs) u):∃p b g o ds,c.S p b/\u=.ptr b g o cs.length/\zbL h b g o cs.length=some ds/\LR (PR c.S h) cs ds:=by
 cases x with
 | pure x=>cases x with|elem h1 h2 h3 h4=>exact⟨_,_,_,_,_,h1,rfl,h2,h3,h4⟩
theorem zqR {cs:List PV}{p b g o:Nat}{ds:List TV}(hS:c.S p b)(hr:zbL h b g o cs.length=some ds)(hl:LR (PR c.S h) cs ds){a n:Nat}(ha:a+n<=cs.length):VR c h (.elem ((cs.drop a).take n)) (.ptr b g (o+a) n):=by
 have hn:((cs.drop a).take n).length=n:=by simp;omega
 have h1:=zeQ hr ha;have h2:=(hl.drop a).take n;have:=PR.elem (S:=c.S) (h:=h) hS (by rw[hn];exact h1) h2.1 h2.2;rw[hn]at this;exact .pure this
theorem zs2 (k:HR B c H h){agg:Bool}{n:Nat}(hv:LR (VR c h) vs us)(hp:zaz H agg n vs=some v):∃u,zce us (zgn agg n h)=some u/\VR c h v u:=by
 unfold zaz at hp
 split at hp
 ·rename_i cs;obtain⟨y,cs',rfl,h1,h2⟩:=hv.of_cons;obtain rfl:=h2.of_nil
  split at hp
  ·rename_i hn;obtain⟨p,b,g,o,ds,s1,rfl,s2,s3⟩:=zfR h1;have s4:=zeQ s2 (k:=0) (m:=n) zo;rw[zDD9]at s4;obtain⟨u,u1,u2⟩:=znx (LR.pure (s3.take n)) hp;refine⟨u,?_,u2⟩;simp only[zce,zgn];rw[zcj hn,s4];exact u1
  ·cases hp
 ·rename_i id g i o m;obtain⟨y,cs',rfl,h1,h2⟩:=hv.of_cons;obtain rfl:=h2.of_nil
  split at hp
  ·rename_i hn
   split at hp
   ·rename_i w hw
    split at hp
    ·rename_i ho;obtain⟨b,d,z,g',s1,rfl,rfl⟩:=zeO h1;obtain⟨s2,s3⟩:=zrW k hw s1;obtain⟨ds,s4,s5⟩:=s3 o n (by rw[<- s2];exact ho);obtain⟨u,u1,u2⟩:=znx s5 hp;refine⟨u,?_,u2⟩;simp only[zce,zgn];rw[zcj hn,s4];exact u1
    ·cases hp
   ·cases hp
  ·cases hp
 ·cases hp
theorem zw5 {off size:Nat}(hv:LR (VR c h) vs us)(hp:zac off size vs=some v):∃u,zce us (ziW off size)=some u/\VR c h v u:=by
 unfold zac at hp
 split at hp
 ·rename_i cs;obtain⟨y,cs',rfl,h1,h2⟩:=hv.of_cons;obtain rfl:=h2.of_nil
  split at hp
  ·rename_i hn;injection hp with hp;subst hp;obtain⟨p,b,g,o,ds,s1,rfl,s2,s3⟩:=zfR h1;refine⟨.ptr b g (o+off) size,?_,zqR s1 s2 s3 hn⟩;simp only[zce,ziW];rw[zcj hn];rfl
  ·cases hp
 ·rename_i id g i o m;obtain⟨y,cs',rfl,h1,h2⟩:=hv.of_cons;obtain rfl:=h2.of_nil
  split at hp
  ·rename_i hn;injection hp with hp;subst hp;obtain⟨b,d,z,g',s1,rfl,rfl⟩:=zeO h1;refine⟨.ptr b g' (i*z+o+off) size,?_,?_⟩
   ·simp only[zce,ziW];rw[zcj hn];rfl
   ·rw[zEK9];exact .ptr s1
  ·cases hp
 ·cases hp
theorem zgT {j:Int}(h:0<=j):zxB j=some j.toNat:=by
 obtain⟨n,rfl⟩:=zCK9 h;rfl
theorem zeg {p z:Nat}{l:List PV}{u:TV}(x:VR c h (.list p z l) u):(l=[]/\u=.nilsl)\/∃b g o q ds,u=.sl b g o l.length q z/\c.S p b/\zbL h b g o (l.length*z)=some ds/\2*l.length<=q/\ER (PR c.S h) z l ds:=by
 cases x with
 | pure x=>cases x with
  | listnil=>exact .inl ⟨rfl,rfl⟩
  | list h1 h2 h3 h4 h5 h6=>exact .inr ⟨_,_,_,_,_,rfl,h1,h2,h3,h4,h5,h6⟩
theorem sl_inv {id g o n q z:Nat}{u:TV}(x:VR c h (.sl id g o n q z) u):(g=0/\o=0/\n=0/\q=0/\u=.nilsl/\c.L id)\/∃b d g',c.ρ id=some (b,d,z)/\g=g'+d/\u=.sl b g' (o*z) n q z:=by
 cases x with
 | pure x=>cases x
 | sl hρ=>exact .inr ⟨_,_,_,hρ,rfl,rfl⟩
 | slnil _ hL=>exact .inl ⟨rfl,rfl,rfl,rfl,rfl,hL⟩
theorem zxH {esz:Nat}(hv:LR (VR c h) vs us)(hp:zaf esz vs=some v):∃u,zcv us (ziU esz)=some u/\VR c h v u:=by
 unfold zaf at hp
 split at hp
 ·rename_i p z l k j;obtain⟨y,cs',rfl,h1,h2⟩:=hv.of_cons;obtain⟨y',cs'',rfl,h3,h4⟩:=h2.of_cons;obtain rfl:=h4.of_nil;obtain rfl:=h3.int_inv
  split at hp
  ·rename_i hc;obtain⟨rfl,hj⟩:=hc
   split at hp
   ·rename_i w hw;injection hp with hp;subst hp;have hi:j.toNat<l.length:=(zAC9.1 hw).1;rcases zeg h1 with⟨rfl,_⟩|⟨b,g,o,q,ds,rfl,s1,s2,s3,s4⟩
    ·simp at hi
    ·have hm:=zmH (z:=esz) hi;have hwl:=s4.one w (zAJ9 hw);refine⟨.ptr b g (o+j.toNat*esz) esz,?_,?_⟩
     ·simp only[zcv,ziU,zeA,zgT hj];rw[zbV rfl,zif hi];rfl
     ·have s5:=zeQ s2 (k:=j.toNat*esz) (m:=esz) hm;have s6:=s4.at hw;have:=PR.elem (S:=c.S) (h:=h) s1 (by rw[hwl];exact s5) s6.1 s6.2;rw[hwl]at this;exact .pure this
   ·cases hp
  ·cases hp
 ·rename_i id g o n q z k j;obtain⟨y,cs',rfl,h1,h2⟩:=hv.of_cons;obtain⟨y',cs'',rfl,h3,h4⟩:=h2.of_cons;obtain rfl:=h4.of_nil;obtain rfl:=h3.int_inv
  split at hp
  ·rename_i hc;obtain⟨rfl,hj,hi⟩:=hc;injection hp with hp;subst hp;rcases sl_inv h1 with⟨_,_,rfl,_⟩|⟨b,d,g',s1,rfl,rfl⟩
   ·omega
   ·refine⟨.ptr b g' (o*esz+j.toNat*esz) esz,?_,?_⟩
    ·simp only[zcv,ziU,zeA,zgT hj];rw[zbV rfl,zif hi];rfl
    ·have:=VR.ptr (h:=h) (g:=g') (i:=o+j.toNat) (o:=0) (n:=esz) s1
     grind
  ·cases hp
 ·cases hp
theorem zu8 {len esz:Nat}(hv:LR (VR c h) vs us)(hp:zR len esz vs=some v):∃u,zcv us (zhI len esz)=some u/\VR c h v u:=by
 unfold zR at hp
 split at hp
 ·rename_i cs k j;obtain⟨y,cs',rfl,h1,h2⟩:=hv.of_cons;obtain⟨y',cs'',rfl,h3,h4⟩:=h2.of_cons;obtain rfl:=h4.of_nil;obtain rfl:=h3.int_inv
  split at hp
  ·rename_i hc;obtain⟨hj,hi,hn⟩:=hc;injection hp with hp;subst hp;obtain⟨p,b,g,o,ds,s1,rfl,s2,s3⟩:=zfR h1;have hm:=zmH (z:=esz) hi;refine⟨.ptr b g (o+j.toNat*esz) esz,?_,zqR s1 s2 s3 zo⟩;simp only[zcv,zhI,zeA,zgT hj];rw[zif hi,zcj hn];rfl
  ·cases hp
 ·rename_i id g i o m k j;obtain⟨y,cs',rfl,h1,h2⟩:=hv.of_cons;obtain⟨y',cs'',rfl,h3,h4⟩:=h2.of_cons;obtain rfl:=h4.of_nil;obtain rfl:=h3.int_inv
  split at hp
  ·rename_i hc;obtain⟨hj,hi,hn⟩:=hc;injection hp with hp;subst hp;obtain⟨b,d,z,g',s1,rfl,rfl⟩:=zeO h1;refine⟨.ptr b g' (i*z+o+j.toNat*esz) esz,?_,?_⟩
   ·simp only[zcv,zhI,zeA,zgT hj];rw[zif hi,zcj hn];rfl
   ·rw[zEK9];exact .ptr s1
  ·cases hp
 ·cases hp
theorem zer {m a:Nat}{x:PV}{u:TV}(hx:VR c h x u)(hb:bnd m x=some a):zdx u m=some a/\a<=m:=by
 unfold bnd at hb
 split at hb
 ·rename_i k j;obtain rfl:=hx.int_inv
  split at hb
  ·rename_i hc;injection hb with hb;subst hb;refine⟨?_,hc.2⟩;unfold zdx;simp only[zeA,zgT hc.1];rw[zcj hc.2];rfl
  ·cases hb
 ·cases hb
theorem zix {p z:Nat}{l:List PV}{b g o q:Nat}{ds:List TV}(s1:c.S p b)(s2:zbL h b g o (l.length*z)=some ds)(s4:ER (PR c.S h) z l ds){a e:Nat}(ha:a<=e)(he:e<=l.length)(hq:2*(e-a)<=q):VR c h (.list p z ((l.take e).drop a)) (.sl b g (o+a*z) (e-a) q z):=by
 have hl:((l.take e).drop a).length=e-a:=by simp;omega
 have hm:a*z+(e-a)*z<=l.length*z:=by
  rw[<- zCH9,Nat.add_sub_cancel' ha];exact zBV9 z he
 have s5:=zeQ s2 (k:=a*z) (m:=(e-a)*z) hm;have s6:=(s4.take e).drop a;have s7:(ds.take (e*z)).drop (a*z)=(ds.drop (a*z)).take ((e-a)*z):=by
  rw[zDK9,Nat.sub_mul]
 rw[s7]at s6;have:=PR.list (S:=c.S) (h:=h) (q:=q) s1 (by rw[hl];exact s5) (by rw[hl];exact hq) s6.one s6.all.1 s6.all.2;rw[hl]at this;exact .pure this
theorem zw9 {esz:Nat}{lo hi mx:Bool}(hv:LR (VR c h) vs us)(hp:zad esz lo hi mx vs=some v):∃u,zhS esz lo hi mx us=some u/\VR c h v u:=by
 unfold zad at hp
 split at hp
 ·rename_i p z l bs;obtain⟨y,cs',rfl,h1,h2⟩:=hv.of_cons
  split at hp
  ·rename_i he;subst he;simp only[zhS];unfold zah at hp
   split at hp
   ·obtain rfl:=h2.of_nil
    split at hp
    ·rename_i hc;obtain⟨rfl,rfl,rfl⟩:=hc;injection hp with hp;subst hp;rcases zeg h1 with⟨rfl,rfl⟩|⟨b,g,o,q,ds,rfl,_⟩
     ·exact⟨_,rfl,.pure (.listnil _ _)⟩
     ·refine⟨_,?_,h1⟩;simp only[zem];rw[zbV rfl];rfl
    ·cases hp
   ·rename_i x;obtain⟨y',cs'',rfl,h3,h4⟩:=h2.of_cons;obtain rfl:=h4.of_nil
    split at hp
    ·cases hp
    ·rename_i hc;simp only[not_or,Bool.not_eq_true]at hc;obtain⟨rfl,hlh⟩:=hc
     split at hp
     ·rename_i a hb;injection hp with hp;subst hp;obtain⟨b1,b2⟩:=zer h3 hb;rcases zeg h1 with⟨rfl,rfl⟩|⟨b,g,o,q,ds,rfl,s1,s2,s3,s4⟩
      ·simp at b2;subst b2;simp only[zem,zkr]
       grind
      ·simp only[zem];rw[zbV rfl];simp only[cond_true,zfV,cond_false]
       cases lo<;>cases hi<;>first|exact absurd rfl hlh|skip
       ·simp only[cond_true,cond_false,zut];have b3:zdx y' (q/2)=some a:=by
         revert b1;unfold zdx;cases zeA y'<;>intro b1<;>first|(cases b1;done)|skip
         rename_i w;dsimp only at b1⊢
         cases hw:Nat.ble w l.length
         ·grind
         ·rw[hw]at b1;injection b1 with b1;subst b1;rw[zcj zo];rfl
        rw[b3];refine⟨_,rfl,?_⟩;have:=zix (a:=0) (e:=a) (q:=q) s1 s2 s4 (zAL9 _) b2 zo
        grind
       ·simp only[cond_true,cond_false,zho];rw[b1];refine⟨_,rfl,?_⟩;have:=zix (a:=a) (e:=l.length) (q:=q-2*a) s1 s2 s4 b2 (zAE9 _) zo
        grind
     ·cases hp
   ·rename_i x y0;obtain⟨y',cs'',rfl,h3,h4⟩:=h2.of_cons;obtain⟨y2,cs3,rfl,h5,h6⟩:=h4.of_cons;obtain rfl:=h6.of_nil
    split at hp
    ·rename_i hc;obtain⟨rfl,rfl,rfl,hpos⟩:=hc
     split at hp
     ·rename_i e hb;obtain⟨b1,b2⟩:=zer h5 hb
      split at hp
      ·rename_i a hb';obtain⟨b3,b4⟩:=zer h3 hb';injection hp with hp;subst hp;rcases zeg h1 with⟨rfl,rfl⟩|⟨b,g,o,q,ds,rfl,s1,s2,s3,s4⟩
       ·grind
       ·simp only[zem];rw[zbV rfl];simp only[cond_true,zfV,cond_false,znN,zho];have b5:zdx y2 (q/2)=some e:=by
         revert b1;unfold zdx;cases zeA y2<;>intro b1<;>first|(cases b1;done)|skip
         rename_i w;dsimp only at b1⊢
         cases hw:Nat.ble w l.length
         ·grind
         ·rw[hw]at b1;injection b1 with b1;subst b1;rw[zcj zo];rfl
        rw[b5];dsimp only;rw[b3];exact⟨_,rfl,zix s1 s2 s4 b4 b2 zo⟩
      ·cases hp
     ·cases hp
    ·cases hp
   ·rename_i x y0 w0;obtain⟨y',cs'',rfl,h3,h4⟩:=h2.of_cons;obtain⟨y2,cs3,rfl,h5,h6⟩:=h4.of_cons;obtain⟨y3,cs4,rfl,h7,h8⟩:=h6.of_cons;obtain rfl:=h8.of_nil
    split at hp
    ·rename_i hc;obtain⟨rfl,rfl,rfl,hpos⟩:=hc
     split at hp
     ·rename_i m hbm;obtain⟨m1,m2⟩:=zer h7 hbm
      split at hp
      ·rename_i e hb;obtain⟨b1,b2⟩:=zer h5 hb
       split at hp
       ·rename_i a hb';obtain⟨b3,b4⟩:=zer h3 hb';injection hp with hp;subst hp;rcases zeg h1 with⟨rfl,rfl⟩|⟨b,g,o,q,ds,rfl,s1,s2,s3,s4⟩
        ·grind
        ·simp only[zem];rw[zbV rfl];simp only[cond_true,zfV,zp8];have b5:zdx y3 (q/2)=some m:=by
          revert m1;unfold zdx;cases zeA y3<;>intro m1<;>first|(cases m1;done)|skip
          rename_i w;dsimp only at m1⊢
          cases hw:Nat.ble w l.length
          ·grind
          ·rw[hw]at m1;injection m1 with m1;subst m1;rw[zcj zo];rfl
         rw[b5];dsimp only;rw[b1];simp only[zho];rw[b3];exact⟨_,rfl,zix s1 s2 s4 b4 zo zo⟩
       ·cases hp
      ·cases hp
     ·cases hp
    ·cases hp
   ·cases hp
  ·cases hp
 ·rename_i id g o n q z bs;obtain⟨y,cs',rfl,h1,h2⟩:=hv.of_cons
  split at hp
  ·rename_i he;subst he;simp only[zhS];unfold zai at hp
   split at hp
   ·obtain rfl:=h2.of_nil
    split at hp
    ·rename_i hc;obtain⟨rfl,rfl,rfl⟩:=hc;injection hp with hp;subst hp;rcases sl_inv h1 with⟨rfl,rfl,rfl,rfl,rfl,hL⟩|⟨b,d,g',s1,rfl,rfl⟩
     ·exact⟨_,rfl,.slnil _ hL⟩
     ·refine⟨_,?_,h1⟩;simp only[zem];rw[zbV rfl];rfl
    ·cases hp
   ·rename_i x;obtain⟨y',cs'',rfl,h3,h4⟩:=h2.of_cons;obtain rfl:=h4.of_nil
    split at hp
    ·cases hp
    ·rename_i hc;simp only[not_or,Bool.not_eq_true]at hc;obtain⟨rfl,hlh,hq⟩:=hc;rcases sl_inv h1 with⟨rfl,rfl,rfl,rfl,rfl,hL⟩|⟨b,d,g',s1,rfl,rfl⟩
     ·omega
     ·simp only[zem];rw[zbV rfl];simp only[cond_true,zfV,cond_false]
      cases lo<;>cases hi<;>first|exact absurd rfl hlh|skip
      ·simp only[zCD9,if_false]at hp
       split at hp
       ·rename_i a hb;injection hp with hp;subst hp;obtain⟨b1,b2⟩:=zer h3 hb;simp only[cond_true,cond_false,zut];rw[b1];exact⟨_,rfl,.sl s1⟩
       ·cases hp
      ·simp only[if_true]at hp
       split at hp
       ·rename_i a hb;injection hp with hp;subst hp;obtain⟨b1,b2⟩:=zer h3 hb;simp only[cond_true,cond_false,zho];rw[b1];refine⟨_,rfl,?_⟩;have:=VR.sl (h:=h) (g:=g') (o:=o+a) (n:=n-a) (q:=q-2*a) s1
        grind
       ·cases hp
   ·rename_i x y0;obtain⟨y',cs'',rfl,h3,h4⟩:=h2.of_cons;obtain⟨y2,cs3,rfl,h5,h6⟩:=h4.of_cons;obtain rfl:=h6.of_nil
    split at hp
    ·rename_i hc;obtain⟨rfl,rfl,rfl,hq⟩:=hc;rcases sl_inv h1 with⟨rfl,rfl,rfl,rfl,rfl,hL⟩|⟨b,d,g',s1,rfl,rfl⟩
     ·omega
     ·split at hp
      ·rename_i e hb;obtain⟨b1,b2⟩:=zer h5 hb
       split at hp
       ·rename_i a hb';obtain⟨b3,b4⟩:=zer h3 hb';injection hp with hp;subst hp;simp only[zem];rw[zbV rfl];simp only[cond_true,zfV,cond_false,znN,zho];rw[b1];dsimp only;rw[b3];refine⟨_,rfl,?_⟩;have:=VR.sl (h:=h) (g:=g') (o:=o+a) (n:=e-a) (q:=q-2*a) s1
        grind
       ·cases hp
      ·cases hp
    ·cases hp
   ·rename_i x y0 m0;obtain⟨y',cs'',rfl,h3,h4⟩:=h2.of_cons;obtain⟨y2,cs3,rfl,h5,h6⟩:=h4.of_cons;obtain⟨y3,cs4,rfl,h7,h8⟩:=h6.of_cons;obtain rfl:=h8.of_nil
    split at hp
    ·rename_i hc;obtain⟨rfl,rfl,rfl,hq⟩:=hc;rcases sl_inv h1 with⟨rfl,rfl,rfl,rfl,rfl,hL⟩|⟨b,d,g',s1,rfl,rfl⟩
     ·omega
     ·split at hp
      ·rename_i m hbm;obtain⟨b6,b7⟩:=zer h7 hbm
       split at hp
       ·rename_i e hb;obtain⟨b1,b2⟩:=zer h5 hb
        split at hp
        ·rename_i a hb';obtain⟨b3,b4⟩:=zer h3 hb';injection hp with hp;subst hp;simp only[zem];rw[zbV rfl];simp only[cond_true,zfV,cond_false,zp8,zho];rw[b6];dsimp only;rw[b1];dsimp only;rw[b3];refine⟨_,rfl,?_⟩;have:=VR.sl (h:=h) (g:=g') (o:=o+a) (n:=e-a) (q:=2*m+1-2*a) s1
         grind
        ·cases hp
       ·cases hp
      ·cases hp
    ·cases hp
   ·cases hp
  ·cases hp
 ·cases hp
theorem zhV {n:Nat}{u:TV}{w:PV}(hp:ofC n u=some w):VR c h w u:=.pure (zgm hp)
theorem zrt (k:IntKind):zkb (TV.int k):=fun x y=>by
 unfold zgZ;dsimp only;rw[zbV rfl,cond_true,zcX];exact⟨fun h=>by simp[h],fun h=>by simp[h]⟩
theorem zg9:∀a b:List Nat,zdH a b=true↔a=b
 | [],[]=>by simp[zdH]
 | [],_::_=>by simp[zdH]
 | _::_,[]=>by simp[zdH]
 | x::a,y::b=>by
  unfold zdH
  by_cases h:x=y
  ·rw[zbV h,cond_true,zg9 a b];simp[h]
  ·rw[zm5 h,cond_false];simp[h]
theorem zrc:zkb TV.str:=fun x y=>by
 unfold zgZ;dsimp only;exact⟨fun h=>by rw[(zg9 x y).2 h],fun h=>by rw[zGG9.2 fun e=>h ((zg9 x y).1 e)]⟩
theorem zkb.inj {K:Type}{κ:K->TV}(hκ:zkb κ){x y:K}(h:κ x=κ y):x=y:=by
 apply Classical.byContradiction
 intro e;have h1:=(hκ x y).2 e;have h2:=(hκ x x).1 rfl;rw[h]at h1 h2;rw[h1]at h2;cases h2
theorem zk6 {K:Type}{κ:K->TV}(hκ:zkb κ){x:K}:∀{es:List zcD} {i:Nat},(∀e∈es,∃n,e.k=κ n)->(zft (κ x) es i=some none/\lk κ x es=none)\/∃j e,zft (κ x) es i=some (some (j,e))/\lk κ x es=some e.v
 | [],i,_=>.inl ⟨rfl,rfl⟩
 | e::l,i,hk=>by
  obtain⟨n,hn⟩:=hk e (by simp);have hl:=fun e' he'=>hk e' (zAO9 _ he');unfold zft lk
  by_cases hx:x=n
  ·rw[hn,(hκ x n).1 hx,if_pos (by rw[hx])];exact .inr ⟨i,e,rfl,rfl⟩
  ·rw[hn,(hκ x n).2 hx,if_neg (fun e=>hx (hκ.inj e.symm))];exact zk6 hκ hl
theorem zkW {ok:Bool}{b:Bool}{w:PV}{u:TV}(k:VR c h w u):VR c h (okF ok w b) (okT ok u b):=by
 unfold okF okT
 cases ok
 ·exact k
 ·exact VR.tupL (LR.cons k (LR.cons (.pure (.bool b)) LR.nil))
theorem zfX {id:Nat}{u:TV}(x:VR c h (.map id) u):∃b d z,c.ρ id=some (b,d,z)/\u=.map b:=by
 cases x with
 | pure x=>cases x
 | map h=>exact⟨_,_,_,h,rfl⟩
theorem zrV {K:Type}{κ:K->TV}(hκ:zkb κ){m:K->Option PV}{es:List zcD}{clock:Nat}(s4:MR (VR c h) κ m es){zero:TV}{ok:Bool}{x:K}{w:PV}
  (hp:(match m x with
   | some v=>some (okF ok v true)
   | none=>(match ofC 3 zero with|some z=>some (okF ok z false)|none=>none))=some w):∃u,znz zero ok (κ x) (.map es clock)=some u/\VR c h w u:=by
 simp only[znz]
 split at hp
 ·rename_i w hw;injection hp with hp;subst hp;obtain⟨u,u1,u2⟩:=s4.some _ _ hw;rcases zk6 hκ (x:=x) (i:=0) s4.keys with⟨f1,f2⟩|⟨j,e,f1,f2⟩
  ·grind
  ·rw[f2]at u1;injection u1 with u1;subst u1;exact⟨okT ok e.v true,by rw[f1],zkW u2⟩
 ·rename_i hw
  split at hp
  ·rename_i w hw';injection hp with hp;subst hp;have u1:=s4.none _ hw;rcases zk6 hκ (x:=x) (i:=0) s4.keys with⟨f1,f2⟩|⟨j,e,f1,f2⟩
   ·exact⟨okT ok zero false,by rw[f1],zkW (zhV hw')⟩
   ·grind
  ·cases hp
theorem zpO {K:Type}(κ:K->TV){clock:Nat}{zero:TV}{ok:Bool}{x:K}{w:PV}(hp:(match ofC 3 zero with|some z=>some (okF ok z false)|none=>none)=some w):∃u,znz zero ok (κ x) (.map [] clock)=some u/\VR c h w u:=by
 split at hp
 ·rename_i w hw;injection hp with hp;subst hp;exact⟨okT ok zero false,rfl,zkW (zhV hw)⟩
 ·cases hp
theorem zzc (k:HR B c H h){kf:Nat}{zero:TV}{ok:Bool}(hv:LR (VR c h) vs us)(hp:zaC H kf zero ok vs=some v):∃u,zcv us (zhu kf zero ok h)=some u/\VR c h v u:=by
 unfold zaC at hp
 split at hp
 ·rename_i id kk x;obtain⟨y,cs',rfl,h1,h2⟩:=hv.of_cons;obtain⟨y',cs'',rfl,h3,h4⟩:=h2.of_cons;obtain rfl:=h4.of_nil;obtain rfl:=h3.int_inv;obtain⟨b,d,z,s1,rfl⟩:=zfX h1
  split at hp
  ·rename_i hkf;subst hkf;simp only[zcv,zhu,zfv,zko,cond_true]
   split at hp
   ·rename_i hH;obtain⟨b',d',z',clock,s2,s3⟩:=k.obj _ _ hH;rw[s1]at s2;injection s2 with s2;injection s2 with s2 _;subst s2;rw[s3];exact zpO (TV.int kk) hp
   ·rename_i k' m hH;obtain⟨b',d',z',es,clock,s2,s3,s4⟩:=k.obj _ _ hH;rw[s1]at s2;injection s2 with s2;injection s2 with s2 _;subst s2
    split at hp
    ·rename_i hk;subst hk;rw[s3];exact zrV (zrt kk) s4 hp
    ·cases hp
   ·cases hp
  ·cases hp
 ·rename_i id x;obtain⟨y,cs',rfl,h1,h2⟩:=hv.of_cons;obtain⟨y',cs'',rfl,h3,h4⟩:=h2.of_cons;obtain rfl:=h4.of_nil;obtain rfl:=h3.str_inv;obtain⟨b,d,z,s1,rfl⟩:=zfX h1
  split at hp
  ·rename_i hkf;subst hkf;simp only[zcv,zhu,zfv,zkR,cond_true]
   split at hp
   ·rename_i hH;obtain⟨b',d',z',clock,s2,s3⟩:=k.obj _ _ hH;rw[s1]at s2;injection s2 with s2;injection s2 with s2 _;subst s2;rw[s3];exact zpO TV.str hp
   ·rename_i m hH;obtain⟨b',d',z',es,clock,s2,s3,s4⟩:=k.obj _ _ hH;rw[s1]at s2;injection s2 with s2;injection s2 with s2 _;subst s2;rw[s3];exact zrV zrc s4 hp
   ·cases hp
  ·cases hp
 ·rename_i kk x;obtain⟨y,cs',rfl,h1,h2⟩:=hv.of_cons;obtain⟨y',cs'',rfl,h3,h4⟩:=h2.of_cons;obtain rfl:=h4.of_nil;obtain rfl:=h3.int_inv;obtain rfl:y=.nilmap:=by cases h1 with|pure h1=>cases h1;rfl
  split at hp
  ·rename_i hkf;subst hkf
   split at hp
   ·rename_i w hw;injection hp with hp;subst hp;exact⟨okT ok zero false,rfl,zkW (zhV hw)⟩
   ·cases hp
  ·cases hp
 ·cases hp
theorem zvG {f:Nat}{x:PV}{u:TV}{b:Bool}(hx:VR c h x u)(hn:zbh f x=some b):znL f u=some b:=by
 unfold zbh at hn
 split at hn<;>first|(cases hn;done)|(injection hn with hn;subst hn)
 ·cases hx with|pure hx=>cases hx;rfl
 ·obtain⟨_,_,_,_,_,_,rfl⟩:=zeO hx;rfl
 ·obtain⟨_,_,_,_,_,_,rfl,_⟩:=zfR hx;rfl
 ·cases hx with|pure hx=>cases hx;rfl
 ·rcases zeg hx with⟨h1,_⟩|⟨_,_,_,_,_,rfl,_⟩
  ·cases h1
  ·rfl
 ·cases hx with|pure hx=>cases hx;rfl
 ·obtain⟨_,_,_,_,rfl⟩:=zfX hx;rfl
 ·cases hx with|pure hx=>cases hx;rfl
 ·obtain⟨_,rfl,_⟩:=hx.fn_inv;rfl
 ·cases hx with|pure hx=>cases hx;rfl
 ·obtain⟨_,rfl,_⟩:=hx.iface_inv;rfl
theorem zv2 {neg:Bool}{x:Option Bool}(hp:zbx neg x=some v):∃u,zm9 neg x=some u/\VR c h v u:=by
 unfold zbx at hp
 split at hp
 ·injection hp with hp;subst hp;refine⟨_,rfl,?_⟩
  cases neg<;>exact .pure (.bool _)
 ·cases hp
theorem zwK {neg:Bool}{ks:List Nat}(hv:LR (VR c h) vs us)(hp:zae neg ks vs=some v):∃u,zcv us (zkM neg ks)=some u/\VR c h v u:=by
 unfold zae at hp
 split at hp
 ·obtain⟨y,cs',rfl,h1,h2⟩:=hv.of_cons;obtain⟨y',cs'',rfl,h3,h4⟩:=h2.of_cons;obtain rfl:=h4.of_nil;obtain⟨a,rfl,a1⟩:=h1.agg_inv;obtain⟨a',rfl,a2⟩:=h3.agg_inv
  split at hp
  ·rename_i l' hl';obtain rfl:=ziT a1 hl'
   split at hp
   ·rename_i m' hm';obtain rfl:=ziT a2 hm';obtain⟨e1,hp⟩:=zi hp;obtain⟨e2,hp⟩:=zi hp;obtain⟨u,h1,h2⟩:=zv2 hp;exact⟨u,by simp only[zcv,zkM,e1,e2,cond_true];exact h1,h2⟩
   ·cases hp
  ·cases hp
 ·cases hp
theorem zoo:∀{places:List (Nat×Nat)} {vs:List PV} {us:List TV} {l m:List PV} {cs:List TV},LR (VR c h) l cs->LR (VR c h) vs us->zax l places vs=some m->∃ds,zit cs places us=some ds/\LR (VR c h) m ds
 | [],[],us,l,m,cs,hl,hv,hp=>by
  obtain rfl:=hv.of_nil;simp only[zax]at hp;injection hp with hp;subst hp;exact⟨cs,rfl,hl⟩
 | [],_::_,us,l,m,cs,hl,hv,hp=>by simp[zax]at hp
 | _::_,[],us,l,m,cs,hl,hv,hp=>by simp[zax]at hp
 | (off,size)::ps,v::vs,us,l,m,cs,hl,hv,hp=>by
  obtain⟨y,us',rfl,h1,h2⟩:=hv.of_cons;unfold zax at hp
  split at hp
  ·rename_i hc;have h3:=h1.cells;obtain⟨ds,d1,d2⟩:=zoo (((hl.take off).app h3).app (hl.drop (off+size))) h2 hp;refine⟨ds,?_,d2⟩;unfold zit;dsimp only;rw[zbV (by rw[<- h3.1];exact hc.1),zcj (by rw[<- hl.1];exact hc.2)];exact d1
  ·cases hp
theorem zhW:∀(l:List TV) (n:Nat),nth l n=l[n]?
 | [],n=>by simp[nth]
 | x::l,0=>rfl
 | x::l,n+1=>by simp only[nth,zBL9];exact zhW l n
theorem zy3 {agg:Bool}{off size:Nat}{l:List PV}{cs:List TV}(hl:LR (VR c h) l cs)(hp:zaJ agg off size l=some v):∃u,zla agg off size cs=some u/\VR c h v u:=by
 unfold zaJ at hp;unfold zla
 cases agg
 ·simp only[zCD9,if_false]at hp;obtain⟨y,y1,y2⟩:=hl.at hp;exact⟨y,by simp only[cond_false];rw[zhW];exact y1,y2⟩
 ·simp only[if_true]at hp
  split at hp
  ·rename_i hc;injection hp with hp;subst hp;refine⟨_,?_,VR.aggL ((hl.drop off).take size)⟩;simp only[cond_true];rw[zcj (by rw[<- hl.1];exact hc)];rfl
  ·cases hp
theorem zxS {neg:Bool}{f:Nat}(hv:LR (VR c h) vs us)(hp:zbi H (.eqnil neg f) vs=some v):∃u,pas (.eqnil neg f) us h=some u/\VR c h v u:=by
 simp only[zbi]at hp
 split at hp
 ·rename_i x x';obtain⟨y,cs',rfl,h1,h2⟩:=hv.of_cons;obtain⟨y',cs'',rfl,h3,h4⟩:=h2.of_cons;obtain rfl:=h4.of_nil;simp only[pas,zcv,ziz];have e1:zL (znL f y) (znL f y')=zL (zbh f x) (zbh f x'):=by
   revert hp
   cases hx:zbh f x with
   | none=>intro hp;simp[zL,zbx]at hp
   | some b =>
    cases hx':zbh f x' with
    | none=>intro hp;simp[zL,zbx]at hp
    | some b'=>intro _;rw[zvG h1 hx,zvG h3 hx']
  rw[e1];exact zv2 hp
 ·cases hp
theorem ztq {t:Nat}{zero:TV}{ok:Bool}(hv:LR (VR c h) vs us)(hp:zbi H (.tassert t zero ok) vs=some v):∃u,pas (.tassert t zero ok) us h=some u/\VR c h v u:=by
 simp only[zbi]at hp
 split at hp
 ·rename_i t' w;obtain⟨y,cs',rfl,h1,h2⟩:=hv.of_cons;obtain rfl:=h2.of_nil;obtain⟨u',rfl,h3⟩:=h1.iface_inv;simp only[pas,zce,zjg]
  split at hp
  ·rename_i ht;subst ht;injection hp with hp;subst hp;rw[zbV rfl];exact⟨_,rfl,zkW h3⟩
  ·rename_i ht
   split at hp
   ·rename_i hok;subst hok
    split at hp
    ·rename_i z hz;injection hp with hp;subst hp;rw[zm5 ht];exact⟨_,rfl,VR.tupL (LR.cons (zhV hz) (LR.cons (.pure (.bool _)) LR.nil))⟩
    ·cases hp
   ·cases hp
 ·obtain⟨y,cs',rfl,h1,h2⟩:=hv.of_cons;obtain rfl:=h2.of_nil;obtain rfl:y=.niliface:=by cases h1 with|pure h1=>cases h1;rfl
  split at hp
  ·rename_i hok;subst hok
   split at hp
   ·rename_i z hz;injection hp with hp;subst hp;exact⟨_,rfl,VR.tupL (LR.cons (zhV hz) (LR.cons (.pure (.bool _)) LR.nil))⟩
   ·cases hp
  ·cases hp
 ·cases hp
def lenP:PV->Nat
 | .list _ _ l=>l.length
 | .sl _ _ _ n _ _=>n
 | _=>0
theorem zhF (k:HR B c H h){id e z G M:Nat}{l:List PV}(hH:H[id]?=some (.row e z G M l)){b d z':Nat}(hρ:c.ρ id=some (b,d,z')) :
  z'=z/\∃G' M' cells cs,h.get b=some (.row e G' M' (l.length*z) cells)/\G=G'+d/\M'<=M-d/\cells.getL 0 (l.length*z)=some cs/\ER (VR c h) z l cs:=by
 rcases k.obj _ _ hH with⟨_,_,h1,_⟩|⟨b',d',G',M',cells,cs,h1,h2⟩
 all_goals grind
theorem zmS (k:HR B c H h){esz:Nat}{x:PV}{u:TV}{l:List PV}(hx:VR c h x u)(hp:zbu H esz x=some l):l.length=lenP x/\lenV u=l.length/\∀m,m<=l.length->∃cs,zeG h esz u m=some cs/\ER (VR c h) esz (l.take m) cs:=by
 unfold zbu at hp
 split at hp
 ·injection hp with hp;subst hp;obtain rfl:u=.nilsl:=by cases hx with|pure hx=>cases hx;rfl
  exact⟨rfl,rfl,fun m hm=>⟨[],rfl,by simpa using ER.nil⟩⟩
 ·split at hp
  ·rename_i he;injection hp with hp;subst hp;subst he;rcases zeg hx with⟨rfl,rfl⟩|⟨b,g,o,q,ds,rfl,s1,s2,s3,s4⟩
   ·exact⟨rfl,rfl,fun m hm=>⟨[],rfl,by simpa using ER.nil⟩⟩
   ·refine⟨rfl,rfl,fun m hm=>⟨ds.take (m*esz),?_,(s4.take m).mono fun _ _=>.pure⟩⟩;unfold zeG;dsimp only;rw[zbV rfl];have:=zeQ s2 (k:=0) (m:=m*esz) (by rw[zBN9];exact zBV9 esz hm)
    grind
  ·cases hp
 ·rename_i id g o n q z
  split at hp
  ·rename_i he;subst he
   split at hp
   ·rename_i e z' G M l' hH
    split at hp
    ·rename_i hc;obtain⟨c1,c2,c3⟩:=hc;injection hp with hp;subst hp;have hln:((l'.drop o).take n).length=n:=by simp;omega
     rcases sl_inv hx with⟨rfl,rfl,rfl,rfl,rfl,hL⟩|⟨b,d,g',s1,rfl,rfl⟩
     ·exact⟨by simp[lenP],by simp[lenV],fun m hm=>⟨[],rfl,by simpa using ER.nil⟩⟩
     ·obtain⟨rfl,G',M',cells,cs,r1,r2,r3,r4,r5⟩:=zhF k hH s1;refine⟨hln,by rw[hln];rfl,fun m hm=>⟨((cs.drop (o*esz)).take (n*esz)).take (m*esz),?_,((r5.drop o).take n).take m⟩⟩;rw[hln]at hm;unfold zeG;dsimp only;rw[zbV rfl,zEE9,zDH9 (zBV9 esz hm)];refine ziB r1 zo zo ?_;have h9:o*esz+m*esz<=l'.length*esz:=by rw[<- zCH9];exact zBV9 _ zo
      have:=zh8 r4 h9
      grind
    ·cases hp
   ·cases hp
  ·cases hp
 ·cases hp
theorem zo4:∀{l:List PV} {us:List TV},zbk l=some us->l.flatMap PV.cells=l
 | [],_,_=>rfl
 | x::l,us,h=>by
  unfold zbk at h
  split at h
  ·rename_i u hu
   split at h
   ·rename_i ws hws;rw[zBR9,zo4 hws]
    cases x<;>first|rfl|cases hu
   ·cases h
  ·cases h
theorem zwb (k:HR B c H h)(hv:LR (VR c h) vs us)(hp:zaa H vs=some v):∃u,zce us (zgr h)=some u/\VR c h v u:=by
 unfold zaa at hp
 split at hp
 ·obtain⟨y,cs',rfl,h1,h2⟩:=hv.of_cons;obtain rfl:=h2.of_nil
  split at hp
  ·rename_i l hl
   split at hp
   ·rename_i l' hl'
    split at hp
    ·rename_i s hs;injection hp with hp;subst hp;obtain⟨_,t2,t3⟩:=zmS k h1 hl;obtain⟨cs,t4,t5⟩:=t3 _ (zAE9 _);rw[zBS9]at t5;have t6:=t5.all;rw[zo4 hl']at t6;obtain rfl:=ziT t6 hl';rw[<- t2]at t4;refine⟨.str s,?_,.pure (.str s)⟩
     cases y<;>first|(cases t4;done)|skip
     ·injection t4 with t4;subst t4;injection hs with hs;subst hs;rfl
     ·rename_i b g o n q z;simp only[zeG]at t4;obtain⟨g1,g2⟩:=zi t4;obtain rfl:=zAl g1;rw[Nat.mul_one]at g2;simp only[lenV]at g2;simp only[zce,zgr];rw[g2];dsimp only;rw[hs]
    ·cases hp
   ·cases hp
  ·cases hp
 ·cases hp
theorem zmy (k:HR B c H h){kind:zZ}(hv:LR (VR c h) vs us)(hp:zbi H kind vs=some v):∃u,pas kind us h=some u/\VR c h v u:=by
 unfold zbi at hp
 split at hp
 ·split at hp
  ·obtain⟨y,cs',rfl,h1,h2⟩:=hv.of_cons;obtain rfl:=h2.of_nil;injection hp with hp;subst hp;exact⟨y,rfl,h1⟩
  ·cases hp
 ·split at hp
  ·rename_i b x x';obtain⟨y,cs',rfl,h1,h2⟩:=hv.of_cons;obtain⟨y',cs'',rfl,h3,h4⟩:=h2.of_cons;obtain⟨y2,cs3,rfl,h5,h6⟩:=h4.of_cons;obtain rfl:=h6.of_nil;obtain rfl:=h1.bool_inv;injection hp with hp;subst hp
   cases b
   ·exact⟨y2,rfl,h5⟩
   ·exact⟨y',rfl,h3⟩
  ·cases hp
 ·exact zs2 k hv hp
 ·split at hp
  ·obtain⟨y,cs',rfl,h1,h2⟩:=hv.of_cons;obtain rfl:=h2.of_nil;injection hp with hp;subst hp;obtain⟨p,b,g,o,ds,s1,rfl,s2,s3⟩:=zfR h1;exact⟨_,rfl,h1⟩
  ·obtain⟨y,cs',rfl,h1,h2⟩:=hv.of_cons;obtain rfl:=h2.of_nil;injection hp with hp;subst hp;obtain⟨b,d,z,g',s1,rfl,rfl⟩:=zeO h1;exact⟨_,rfl,h1⟩
  ·obtain⟨y,cs',rfl,h1,h2⟩:=hv.of_cons;obtain rfl:=h2.of_nil;injection hp with hp;subst hp;obtain⟨cs,rfl,_⟩:=h1.fn_inv;exact⟨_,rfl,h1⟩
  ·cases hp
 ·exact zkL hv hp
 ·exact zxS (H:=H) hv hp
 ·exact zkL hv hp
 ·exact zmK hv hp
 ·exact zwK hv hp
 ·exact zmK hv hp
 ·exact zmK hv hp
 ·split at hp
  ·obtain⟨y,cs',rfl,h1,h2⟩:=hv.of_cons;obtain rfl:=h2.of_nil;injection hp with hp;subst hp;exact⟨_,rfl,.iface h1⟩
  ·cases hp
 ·injection hp with hp;subst hp;exact⟨_,rfl,VR.fnL hv⟩
 ·exact zw9 hv hp
 ·exact zAg hv hp
 ·exact zw5 hv hp
 ·split at hp
  ·obtain⟨y,cs',rfl,h1,h2⟩:=hv.of_cons;obtain rfl:=h2.of_nil;obtain⟨cs,rfl,h3⟩:=h1.agg_inv;exact zy3 h3 hp
  ·cases hp
 ·exact zxH hv hp
 ·exact zu8 hv hp
 ·exact zkL hv hp
 ·exact zzc k hv hp
 ·exact ztq (H:=H) hv hp
 ·split at hp
  ·obtain⟨y,cs',rfl,h1,h2⟩:=hv.of_cons;obtain rfl:=h2.of_nil;obtain⟨cs,rfl,h3⟩:=h1.tuple_inv;obtain⟨u,u1,u2⟩:=h3.at hp;exact⟨u,by simp only[pas,zce,zp5,zhW];exact u1,u2⟩
  ·cases hp
 ·unfold zbz at hp
  split at hp
  ·split at hp
   ·obtain⟨y,cs',rfl,h1,h2⟩:=hv.of_cons;obtain rfl:=h2.of_nil;injection hp with hp;subst hp;obtain rfl:y=.nilsl:=by cases h1 with|pure h1=>cases h1;rfl
    exact⟨_,rfl,.pure (.int _ _)⟩
   ·obtain⟨y,cs',rfl,h1,h2⟩:=hv.of_cons;obtain rfl:=h2.of_nil;injection hp with hp;subst hp;rcases zeg h1 with⟨rfl,rfl⟩|⟨_,_,_,_,_,rfl,_⟩
    ·exact⟨_,rfl,.pure (.int _ _)⟩
    ·exact⟨_,rfl,.pure (.int _ _)⟩
   ·obtain⟨y,cs',rfl,h1,h2⟩:=hv.of_cons;obtain rfl:=h2.of_nil;injection hp with hp;subst hp;rcases sl_inv h1 with⟨rfl,rfl,rfl,rfl,rfl,_⟩|⟨_,_,_,_,_,rfl⟩
    ·exact⟨_,rfl,.pure (.int _ _)⟩
    ·exact⟨_,rfl,.pure (.int _ _)⟩
   ·cases hp
  ·exact zmK hv hp
  ·cases hp
 ·exact zwb k hv hp
 ·exact zkL hv hp
 ·exact zkL hv hp
 ·split at hp
  ·rename_i z hz
   split at hp
   ·rename_i l hl;injection hp with hp;subst hp;obtain⟨ds,d1,d2⟩:=zoo (LR.pure (c:=c) (zfW (fun u v=>zgm) hz)) hv hl;exact⟨.agg ds,by simp only[pas,zmJ];rw[d1],VR.aggL d2⟩
   ·cases hp
  ·cases hp
 ·cases hp
def Cx.add (c:Cx)(id b d z:Nat):Cx:=⟨c.S,fun i=>if i=id then some (b,d,z)else c.ρ i,c.L⟩
theorem zsO {h:TH}{b g o n:Nat}{cs:List TV}(x:TO)(hr:zbL h b g o n=some cs):zbL (h.push x) b g o n=some cs:=by
 obtain⟨y,h1,h2⟩:=zg1 hr;refine zgs (x:=y) ?_ h2;rw[TH.get_push,if_neg (by have:=TH.get_lt h1;omega)];exact h1
theorem MR.mono {R R':PV->TV->Prop}(hR:∀x y,R x y->R' x y){K:Type}{κ:K->TV}{m:K->Option PV}{es:List zcD}(a:MR R κ m es):MR R' κ m es :=
 ⟨a.keys,fun x v hx=>by obtain⟨u,u1,u2⟩:=a.some x v hx;exact⟨u,u1,hR _ _ u2⟩,a.none⟩
theorem OR.move {c c':Cx}{h h':TH}(m:Mo c c' h h'){id:Nat}{o:zd}(hρ:c'.ρ id=c.ρ id)(hL:c.L id->c'.L id)(hb:∀x,c.ρ id=some x->h'.get x.1=h.get x.1)(k:OR c h id o):OR c' h' id o:=by
 cases o with
 | row e z G M l =>
  rcases k with⟨h1,h2,h3,h4⟩|⟨b,d,G',M',cells,cs,h1,h2,h3,h4,h5,h6⟩
  ·exact .inl ⟨h1,h2,by rw[hρ];exact h3,hL h4⟩
  ·exact .inr ⟨b,d,G',M',cells,cs,by rw[hρ];exact h1,by rw[hb _ h1];exact h2,h3,h4,h5,h6.mono fun _ _=>VR.mono m⟩
 | map0 =>
  obtain⟨b,d,z,clock,h1,h2⟩:=k;exact⟨b,d,z,clock,by rw[hρ];exact h1,by rw[hb _ h1];exact h2⟩
 | mapI k m' =>
  obtain⟨b,d,z,es,clock,h1,h2,h3⟩:=k;exact⟨b,d,z,es,clock,by rw[hρ];exact h1,by rw[hb _ h1];exact h2,h3.mono fun _ _=>VR.mono m⟩
 | mapS m' =>
  obtain⟨b,d,z,es,clock,h1,h2,h3⟩:=k;exact⟨b,d,z,es,clock,by rw[hρ];exact h1,by rw[hb _ h1];exact h2,h3.mono fun _ _=>VR.mono m⟩
 | dfr shut =>
  obtain⟨b,d,z,h1,h2⟩:=k;exact⟨b,d,z,by rw[hρ];exact h1,by rw[hb _ h1];exact h2⟩
 | loop st pe tm ps aS bo mk =>
  obtain⟨b,d,z,bm,dm,zm,t,pe',h1,h2,h3,h4,h5⟩:=k;refine⟨b,d,z,bm,dm,zm,t,pe',by rw[hρ];exact h1,m.ρ _ _ h2,by rw[hb _ h1];exact h3,fun i=>?_,?_⟩
  ·rcases h4 i with h4|⟨u,u1,u2⟩
   ·exact .inl h4
   ·exact .inr ⟨u,u1,u2.mono m⟩
  ·cases h5 with
   | norm=>exact .norm
   | exit id=>exact .exit id
   | goto l=>exact .goto l
   | ret=>exact .ret
   | panic k=>exact .panic (k.mono m)
 | void=>trivial
theorem HR.push (k:HR B c H h){o:zd}{x:TO}{z:Nat}(ho:Mo c (c.add H.length h.next 0 z) h (h.push x)->OR (c.add H.length h.next 0 z) (h.push x) H.length o) :
  Mo c (c.add H.length h.next 0 z) h (h.push x)/\HR B (c.add H.length h.next 0 z) (H++[o]) (h.push x):=by
 have hnone:c.ρ H.length=none:=by
  cases hc:c.ρ H.length with
  | none=>rfl
  | some y=>have:=(k.own _ _ hc).2.2;omega
 have m:Mo c (c.add H.length h.next 0 z) h (h.push x):=⟨fun _ _ h=>h,fun id y hy=>by
  show (if id=H.length then _ else _)=_;rw[if_neg (fun e=>by subst e;rw[hnone]at hy;cases hy)];exact hy,fun _ h=>h,fun _ _ _ _ _ _ _ hr=>zsO x hr⟩
 have hget:∀b,b<h.next->(h.push x).get b=h.get b:=fun b hb=>by rw[TH.get_push,if_neg zo]
 have hρ:∀id y,(c.add H.length h.next 0 z).ρ id=some y->(id=H.length/\y=(h.next,0,z))\/c.ρ id=some y:=fun id y hy=>by
  have hy:(if id=H.length then some (h.next,0,z)else c.ρ id)=some y:=hy
  grind
 refine⟨m,⟨?_,fun b hb=>?_,k.old,fun p b hb=>?_,fun id y hy=>?_,fun id hL=>?_,fun id id' y y' hy hy' e=>?_,fun id o' ho'=>?_⟩⟩
 ·rw[TH.next_push];exact Nat.le_succ_of_le k.le
 ·rw[hget b (zBC9 hb k.le)];exact k.keep b hb
 ·obtain⟨h1,h2⟩:=k.S p b hb;refine⟨by rw[TH.next_push];omega,fun id y hy e=>?_⟩
  grind
 ·rw[TH.next_push,zAB9];rcases hρ id y hy with⟨rfl,rfl⟩|hy
  ·exact⟨k.le,zCE9 _,by simp⟩
  ·obtain⟨h1,h2,h3⟩:=k.own id y hy;omega
 ·obtain⟨h1,h2⟩:=k.lz id hL
  grind
 ·rcases hρ id y hy with⟨rfl,rfl⟩|hy<;>rcases hρ id' y' hy' with⟨rfl,rfl⟩|hy'
  ·rfl
  ·have:=(k.own _ _ hy').2.1;dsimp only at e;omega
  ·have:=(k.own _ _ hy).2.1;dsimp only at e;omega
  ·exact k.inj _ _ _ _ hy hy' e
 ·by_cases hi:id<H.length
  ·rw[zAS9 hi]at ho';have h1:=k.obj id o' ho';refine h1.move m (by show (if id=H.length then _ else _)=_;rw[if_neg zo]) (fun h=>h) fun y hy=>hget _ (k.own _ _ hy).2.1
  grind
theorem zzB {h:TH}{b b' g o n:Nat}{cs:List TV}(x:TO)(hb:b'<h.next)(hne:b≠b')(hr:zbL h b g o n=some cs):zbL (h.set b' x) b g o n=some cs:=by
 obtain⟨y,h1,h2⟩:=zg1 hr;refine zgs (x:=y) ?_ h2;rw[TH.get_set _ _ _ _ hb,if_neg hne];exact h1
theorem HR.set (k:HR B c H h){id b d z:Nat}(hρ:c.ρ id=some (b,d,z))(hv:¬H[id]?=some .void){o:zd}{x:TO}(ho:Mo c c h (h.set b x)->OR c (h.set b x) id o) :
  Mo c c h (h.set b x)/\HR B c (H.set id o) (h.set b x):=by
 obtain⟨hb1,hb2,hid⟩:=k.own _ _ hρ;have hget:∀b',b'≠b->(h.set b x).get b'=h.get b':=fun b' hb'=>by rw[TH.get_set _ _ _ _ hb2,if_neg hb']
 have m:Mo c c h (h.set b x):=⟨fun _ _ h=>h,fun _ _ h=>h,fun _ h=>h,fun p b' hb' g o n cs hr=>zzB x hb2 (fun e=>hv ((k.S p b' hb').2 _ _ hρ e.symm)) hr⟩
 refine⟨m,⟨by rw[TH.next_set];exact k.le,fun b' hb'=>?_,k.old,fun p b' hb'=>?_,fun id' y hy=>?_,fun id' hL=>?_,k.inj,fun id' o' ho'=>?_⟩⟩
 ·rw[hget b' (by dsimp only at hb1;omega)];exact k.keep b' hb'
 ·rw[TH.next_set];refine⟨(k.S p b' hb').1,fun i y hy e=>?_⟩;have:=(k.S p b' hb').2 i y hy e
  grind
 ·rw[TH.next_set,zBU9];exact k.own _ _ hy
 ·rw[zBU9];exact k.lz id' hL
 ·rw[List.getElem?_set]at ho'
  split at ho'
  ·grind
  ·rename_i hne;exact(k.obj id' o' ho').move m rfl (fun h=>h) fun y hy=>hget _ fun e=>hne (k.inj _ _ _ _ hρ hy e.symm)
def zAR (l:List PV):PV:=match l with
 | [x]=>x
 | l=>.agg l
theorem zdb {l:List PV}(h:l.all zaw=true):(zAR l).cells=l:=by
 unfold zAR
 split
 ·rename_i x;simp at h;exact zuY h
 ·rfl
def zag (esz:Nat):Nat->List PV->List PV
 | 0,_=>[]
 | n+1,l=>zAR (l.take esz)::zag esz n (l.drop esz)
theorem zpB {R:PV->TV->Prop}{esz:Nat}:∀{n:Nat} {l:List PV} {cs:List TV},l.all zaw=true->l.length=n*esz->LR R l cs->ER R esz (zag esz n l) cs
 | 0,l,cs,ha,hl,hr=>by
  obtain rfl:l=[]:=zDU9.1 (by simpa using hl);obtain rfl:=hr.of_nil;exact ER.nil
 | n+1,l,cs,ha,hl,hr=>by
  have ht:(l.take esz).all zaw=true:=by grind
  have hd:(l.drop esz).all zaw=true:=by grind
  have hle:esz<=l.length:=by rw[hl,zCV9];omega
  have h1:ER R esz [zAR (l.take esz)] (cs.take esz):=ER.one' (by rw[zdb ht];simp;omega) (by rw[zdb ht];exact hr.take esz);have h2:=zpB (esz:=esz) (n:=n) hd (by rw[zBG9,hl,zCV9];omega) (hr.drop esz);have:=h1.app h2;rw[zEP9]at this;exact this
def zbv (l:List PV):Nat->List PV
 | 0=>[]
 | n+1=>l++zbv l n
theorem zk5 {R:PV->TV->Prop}{l:List PV}{cs:List TV}(h:LR R l cs):∀n,LR R (zbv l n) (zdM cs n)
 | 0=>LR.nil
 | n+1=>h.app (zk5 h n)
theorem zqQ (l:List PV):∀n,(zbv l n).length=n*l.length
 | 0=>by simp[zbv]
 | n+1=>by rw[zbv,zAB9,zqQ l n,zCV9,zDE9]
theorem zpL:∀{places:List (Nat×Nat)} {vs l m:List PV},zax l places vs=some m->m.length=l.length
 | [],[],l,m,hp=>by simp only[zax]at hp;injection hp with hp;rw[hp]
 | [],_::_,l,m,hp=>by simp[zax]at hp
 | _::_,[],l,m,hp=>by simp[zax]at hp
 | (off,size)::ps,v::vs,l,m,hp=>by
  unfold zax at hp
  split at hp
  ·rename_i hc;rw[zpL hp]
   grind
  ·cases hp
def zbp (id:Nat)(k:zZ)(vs:List PV):Option (zd×PV) :=
 match k with
 | .box e n=>(match vs with
  | [v]=>if v.cells.length=n then some (.row e n 0 0 [v],.ptr id 0 0 0 n)else none
  | _=>none)
 | .alloc e zero=>(match vs,zbn (ofC 3) zero with
  | [],some zs=>if zs.all zaw=true then some (.row e zero.length 0 0 [zAR zs],.ptr id 0 0 0 zero.length)else none
  | _,_=>none)
 | .bslice e esz len zero places=>(match zbn (ofC 3) zero with
  | some zs=>if len*esz<=16777216/\zero.length=esz then(match zax (zbv zs len) places vs with
   | some l=>if l.all zaw=true then some (.row e esz 0 0 (zag esz len l),.sl id 0 0 len (2*len) esz)else none
   | none=>none)else none
  | none=>none)
 | .mkslice e esz bytes zero=>(match vs,zbn (ofC 3) zero with
  | [.int _ n,.int _ m],some zs=>if 0<=n/\n<=m/\m<=1000000/\m*bytes<=140737488355328/\zs.all zaw=true/\zero.length=esz then some (.row e esz 0 0 (List.replicate n.toNat (zAR zs)),.sl id 0 0 n.toNat (2*n.toNat) esz)else none
  | _,_=>none)
 | .mkmap=>(match vs with
  | []=>some (.map0,.map id)
  | [.int _ _]=>some (.map0,.map id)
  | _=>none)
 | .tobytes e=>(match vs with
  | [.str s]=>if s.length<=1000000 then some (.row e 1 0 0 (s.map fun n:Nat=>.int .u8 n),.sl id 0 0 s.length (2*s.length) 1)else none
  | _=>none)
 | _=>none
theorem add_same (c:Cx)(id b d z:Nat):(c.add id b d z).ρ id=some (b,d,z):=by simp[Cx.add]
theorem zpA {α:Type}(l:List α):(Tr.putL .nil 0 l).getL 0 l.length=some l:=zhH fun j hj=>by
 rw[Tr.get_putL,if_pos zo];simp
theorem zl4 (v:PV):∀n,(List.replicate n v).flatMap PV.cells=zbv v.cells n
 | 0=>rfl
 | n+1=>by rw[zCM9,zBR9,zl4 v n];rfl
theorem zfL (k:HR B c H h){e z:Nat}{l:List PV}{cs:List TV}(hl:ER (VR c h) z l cs) :
  Mo c (c.add H.length h.next 0 z) h (h.push (zcd e cs))/\HR B (c.add H.length h.next 0 z) (H++[.row e z 0 0 l]) (h.push (zcd e cs)) :=
 k.push fun m=>.inr ⟨h.next,0,0,0,Tr.putL .nil 0 cs,cs,add_same ..,by rw[TH.get_push,if_pos rfl,zcd,hl.len],rfl,zAL9 _,by rw[<- hl.len];exact zpA cs,hl.mono fun _ _=>VR.mono m⟩
theorem znj (k:HR B c H h){kind:zZ}{o:zd}(hv:LR (VR c h) vs us)(hp:zbp H.length kind vs=some (o,v)) :
  ∃x c',lay kind us h.next=some x/\Mo c c' h (h.push x.o)/\HR B c' (H++[o]) (h.push x.o)/\VR c' (h.push x.o) v x.v/\(∃z,c'.ρ H.length=some (h.next,0,z))/\zeo x.v=some h.next:=by
 cases kind with
 | box e n =>
  simp only[zbp]at hp
  split at hp
  ·rename_i w;obtain⟨y,cs',rfl,h1,h2⟩:=hv.of_cons;obtain rfl:=h2.of_nil
   split at hp
   ·rename_i hn;injection hp with hp;injection hp with hp1 hp2;subst hp1;subst hp2;have hc:=h1.cells;obtain⟨m,k'⟩:=zfL k (e:=e) (ER.one' hn hc);refine⟨⟨zcd e y.cells,.ptr h.next 0 0 n⟩,_,?_,m,k',?_,⟨_,add_same ..⟩,rfl⟩
    ·simp only[lay,zoi];rw[zbV (by rw[<- hc.1];exact hn)];rfl
    ·have:=VR.ptr (h:=h.push (zcd e y.cells)) (g:=0) (i:=0) (o:=0) (n:=n) (add_same c H.length h.next 0 n);simpa using this
   ·cases hp
  ·cases hp
 | alloc e zero =>
  simp only[zbp]at hp
  split at hp
  ·rename_i zs hz;obtain rfl:=hv.of_nil
   split at hp
   ·rename_i ha;injection hp with hp;injection hp with hp1 hp2;subst hp1;subst hp2;have hc:=zfW (S:=c.S) (h:=h) (fun u v=>zgm) hz;have hlen:(zAR zs).cells.length=zero.length:=by rw[zdb ha];exact hc.1
    obtain⟨m,k'⟩:=zfL k (e:=e) (ER.one' (R:=VR c h) hlen (by rw[zdb ha];exact LR.pure hc));refine⟨⟨zcd e zero,.ptr h.next 0 0 zero.length⟩,_,rfl,m,k',?_,⟨_,add_same ..⟩,rfl⟩;have:=VR.ptr (h:=h.push (zcd e zero)) (g:=0) (i:=0) (o:=0) (n:=zero.length) (add_same c H.length h.next 0 zero.length);simpa using this
   ·cases hp
  ·cases hp
 | bslice e esz len zero places =>
  simp only[zbp]at hp
  split at hp
  ·rename_i zs hz
   split at hp
   ·rename_i hcond
    split at hp
    ·rename_i l hl
     split at hp
     ·rename_i ha;injection hp with hp;injection hp with hp1 hp2;subst hp1;subst hp2;have hc:=zfW (S:=c.S) (h:=h) (fun u v=>zgm) hz;obtain⟨ds,d1,d2⟩:=zoo (zk5 (LR.pure (c:=c) hc) len) hv hl;have hlen:l.length=len*esz:=by rw[zpL hl,zqQ,hc.1,hcond.2]
      obtain⟨m,k'⟩:=zfL k (e:=e) (zpB ha hlen d2);refine⟨⟨zcd e ds,.sl h.next 0 0 len (2*len) esz⟩,_,?_,m,k',?_,⟨_,add_same ..⟩,rfl⟩
      ·simp only[lay,zhG];rw[zcj hcond.1,d1];rfl
      ·have:=VR.sl (h:=h.push (zcd e ds)) (g:=0) (o:=0) (n:=len) (q:=2*len) (add_same c H.length h.next 0 esz);simpa using this
     ·cases hp
    ·cases hp
   ·cases hp
  ·cases hp
 | mkslice e esz bytes zero =>
  simp only[zbp]at hp
  split at hp
  ·rename_i k1 n k2 mm zs hz;obtain⟨y,cs',rfl,h1,h2⟩:=hv.of_cons;obtain⟨y',cs'',rfl,h3,h4⟩:=h2.of_cons;obtain rfl:=h4.of_nil;obtain rfl:=h1.int_inv;obtain rfl:=h3.int_inv
   split at hp
   ·rename_i hcond;obtain⟨c1,c2,c3,c4,c5,c6⟩:=hcond;injection hp with hp;injection hp with hp1 hp2;subst hp1;subst hp2;have hc:=zfW (S:=c.S) (h:=h) (fun u v=>zgm) hz;have hel:ER (VR c h) esz (List.replicate n.toNat (zAR zs)) (zdM zero n.toNat):=by
     refine⟨fun w hw=>?_,?_⟩
     ·rw[zCW9 hw,zdb c5,hc.1,c6]
     ·rw[zl4,zdb c5];exact zk5 (LR.pure hc) _
    obtain⟨m,k'⟩:=zfL k (e:=e) hel;refine⟨⟨zcd e (zdM zero n.toNat),.sl h.next 0 0 n.toNat (2*n.toNat) esz⟩,_,?_,m,k',?_,⟨_,add_same ..⟩,rfl⟩
    ·simp only[lay,zgH,zeA,zgT c1,zgT (Int.le_trans c1 c2)];have e4:mm.toNat*bytes<=140737488355328:=by grind
     rw[zcj (show n.toNat<=mm.toNat by omega),zcj (show mm.toNat<=1000000 by omega),zcj e4];rfl
    ·have:=VR.sl (h:=h.push (zcd e (zdM zero n.toNat))) (g:=0) (o:=0) (n:=n.toNat) (q:=2*n.toNat) (add_same c H.length h.next 0 esz);simpa using this
   ·cases hp
  ·cases hp
 | tobytes e =>
  simp only[zbp]at hp
  split at hp
  ·rename_i s;obtain⟨y,cs',rfl,h1,h2⟩:=hv.of_cons;obtain rfl:=h2.of_nil;obtain rfl:=h1.str_inv
   split at hp
   ·rename_i hs;injection hp with hp;injection hp with hp1 hp2;subst hp1;subst hp2;have hel:∀s:List Nat,ER (VR c h) 1 (s.map fun n:Nat=>PV.int .u8 n) (s.map fun n=>TV.int .u8 (.ofNat n)):=by
     intro s
     induction s with
     | nil=>exact ER.nil
     | cons a l ih=>exact(ER.one' (R:=VR c h) (v:=.int .u8 a) rfl (LR.cons (.pure (.int _ _)) LR.nil)).app ih
    obtain⟨m,k'⟩:=zfL k (e:=e) (hel s);refine⟨⟨zcd e (s.map fun n=>TV.int .u8 (.ofNat n)),.sl h.next 0 0 s.length (2*s.length) 1⟩,_,?_,m,k',?_,⟨_,add_same ..⟩,rfl⟩
    ·simp only[lay,zgR];rw[zcj hs];rfl
    ·have:=VR.sl (h:=h.push (zcd e (s.map fun n=>TV.int .u8 (.ofNat n)))) (g:=0) (o:=0) (n:=s.length) (q:=2*s.length) (add_same c H.length h.next 0 1);simpa using this
   ·cases hp
  ·cases hp
 | mkmap =>
  simp only[zbp]at hp;have hmap:∃x,lay .mkmap us h.next=some x/\x.o=.map [] 0/\x.v=.map h.next/\o=.map0/\v=.map H.length:=by
   split at hp
   ·obtain rfl:=hv.of_nil;injection hp with hp;injection hp with hp1 hp2;exact⟨_,rfl,rfl,rfl,hp1.symm,hp2.symm⟩
   ·obtain⟨y,cs',rfl,h1,h2⟩:=hv.of_cons;obtain rfl:=h2.of_nil;obtain rfl:=h1.int_inv;injection hp with hp;injection hp with hp1 hp2;exact⟨_,rfl,rfl,rfl,hp1.symm,hp2.symm⟩
   ·cases hp
  obtain⟨⟨xo,xv⟩,h1,h2,h3,rfl,rfl⟩:=hmap;dsimp only at h2 h3;subst h2;subst h3;obtain⟨m,k'⟩:=k.push (o:=.map0) (x:=.map [] 0) (z:=0) fun m=>⟨h.next,0,0,0,add_same ..,by rw[TH.get_push,if_pos rfl]⟩
  exact⟨_,_,h1,m,k',.map (add_same ..),⟨_,add_same ..⟩,rfl⟩
 | _=>simp only[zbp]at hp;cases hp
theorem zrx {α:Type}{t:Tr α}{cs u:List α}{a:Nat}(h:t.getL 0 cs.length=some cs)(ha:a+u.length<=cs.length):(t.putL a u).getL 0 cs.length=some (cs.take a++u++cs.drop (a+u.length)):=by
 have hlen:(cs.take a++u++cs.drop (a+u.length)).length=cs.length:=by simp;omega
 have:=zhH (t:=t.putL a u) (a:=cs.take a++u++cs.drop (a+u.length)) (i:=0) fun j hj=>by
  rw[hlen]at hj;have h2:=(Tr.getL_some h).2 j hj;rw[zBN9]at h2⊢;rw[Tr.get_putL]
  grind
 grind
theorem zsz {α:Type}{t:Tr α}{cs u:List α}(h:t.getL 0 cs.length=some cs):(t.putL cs.length u).getL 0 (cs.length+u.length)=some (cs++u):=by
 refine zrO (ztK (fun j h1 h2=>?_) h) ?_
 ·rw[Tr.get_putL,if_neg zo]
 ·rw[zBN9];exact zhH fun j hj=>by
   rw[Tr.get_putL,if_pos zo]
   congr 1
   omega
def spl (old v:PV)(o n z:Nat):PV:=if n=z then v else .agg (old.cells.take o++v.cells++old.cells.drop (o+n))
structure AR where
 v:PV
 H:List zd
 W:List Nat
def zab (H:List zd)(n:Nat):List PV->Option AR
 | [.ptr id g i o m,v]=>if v.cells.length=n/\n<=m then(match H[id]? with
  | some (.row e z G _ l)=>if g=G/\o+n<=z then(match l[i]? with
   | some old=>some ⟨.tuple [],H.set id (.row e z G G (l.set i (spl old v o n z))),[id]⟩
   | none=>none)else none
  | _=>none)else none
 | _=>none
def zM (H:List zd)(e esz bytes:Nat)(s:PV)(news:List PV):Option AR:=match s with
 | .nilsl=>if news.length=0 then some ⟨.nilsl,H,[]⟩else if news.length*(bytes+1)<=140737488355328 then some ⟨.sl H.length 0 0 news.length (2*news.length) esz,H++[.row e esz 0 0 news],[]⟩else none
 | .sl id g o n q z=>if news.length=0 then some ⟨.sl id g o n q z,H,[]⟩else if o=0/\q%2=0/\esz=z then(match H[id]? with
  | some (.row e' z' G M l)=>if e=e'/\z=z'/\g=G/\n=l.length/\(n+news.length)*(bytes+1)<=140737488355328 then some ⟨.sl id (G+1) 0 (n+news.length) (2*(n+news.length)) z,H.set id (.row e z (G+1) M (l++news)),[id]⟩else none
  | _=>none)else none
 | _=>none
def zV (H:List zd)(e esz bytes:Nat):List PV->Option AR
 | [s,x]=>(match zbu H esz x with
  | none=>none
  | some news=>zM H e esz bytes s news)
 | _=>none
def zaF (H:List zd)(e esz bytes:Nat)(zero:List TV):List PV->Option AR
 | [s,.int _ m]=>(match zbn (ofC 3) zero with
  | some zs=>if 0<=m/\m<=1000000/\m*(bytes+1)<=140737488355328/\zs.all zaw=true/\zero.length=esz then zM H e esz bytes s (List.replicate m.toNat (zAR zs))else none
  | none=>none)
 | _=>none
def ztu (H:List zd)(esz:Nat):List PV->Option AR
 | [.nilsl,x]=>(match zbu H esz x with
  | some _=>some ⟨.int .i64 0,H,[]⟩
  | none=>none)
 | [.sl id g o n _ z,x]=>(match zbu H esz x with
  | none=>none
  | some news=>if min news.length n=0 then some ⟨.int .i64 0,H,[]⟩else if esz=z then(match H[id]? with
   | some (.row e z' G _ l)=>if z=z'/\g=G/\o+min news.length n<=l.length then some ⟨.int .i64 (min news.length n:Nat),H.set id (.row e z G G (l.take o++news.take (min news.length n)++l.drop (o+min news.length n))),[id]⟩else none
   | _=>none)else none)
 | _=>none
def zaH (H:List zd)(kf:Nat):List PV->Option AR
 | [.map id,.int k x,v]=>if kf=1 then(match H[id]? with
  | some .map0=>some ⟨.tuple [],H.set id (.mapI k fun y=>if y=x then some v else none),[id]⟩
  | some (.mapI k' m)=>if k=k' then some ⟨.tuple [],H.set id (.mapI k fun y=>if y=x then some v else m y),[id]⟩else none
  | _=>none)else none
 | _=>none
def zaG (H:List zd)(kf:Nat):List PV->Option AR
 | [.map id,.str x,v]=>if kf=2 then(match H[id]? with
  | some .map0=>some ⟨.tuple [],H.set id (.mapS fun y=>if y=x then some v else none),[id]⟩
  | some (.mapS m)=>some ⟨.tuple [],H.set id (.mapS fun y=>if y=x then some v else m y),[id]⟩
  | _=>none)else none
 | l=>zaH H kf l
def zbt (H:List zd)(k:zZ)(vs:List PV):Option AR :=
 match k with
 | .store n=>zab H n vs
 | .append e esz bytes=>zV H e esz bytes vs
 | .copy esz=>ztu H esz vs
 | .mupd kf=>zaG H kf vs
 | .appz e esz bytes zero=>zaF H e esz bytes zero vs
 | _=>none
structure zhN (B:Ba)(c:Cx)(H:List zd)(h:TH)(a:AR)(u:TV)(h':TH)(c':Cx):Prop where
 mo:Mo c c' h h'
 hr:HR B c' a.H h'
 v:VR c' h' a.v u
 W:∀id,id ∉ a.W->∀x,c.ρ id=some x->h'.get x.1=h.get x.1
theorem zm7 (k:HR B c H h){id b d z:Nat}(hρ:c.ρ id=some (b,d,z))(x:TO):∀id',id' ∉ [id]->∀y,c.ρ id'=some y->(h.set b x).get y.1=h.get y.1:=fun id' hn y hy=>by
 rw[TH.get_set _ _ _ _ (k.own _ _ hρ).2.1,if_neg];intro e;exact hn (by rw[k.inj _ _ _ _ hy hρ e];simp)
theorem zvA {α:Type}(cs u:List α){a o n z:Nat}(hon:o+n<=z)(hu:u.length=n):cs.take a++(((cs.drop a).take z).take o++u++((cs.drop a).take z).drop (o+n))++cs.drop (a+z)=cs.take (a+o)++u++cs.drop (a+o+u.length):=by
 have h1:cs.take (a+o)=cs.take a++(cs.drop a).take o:=List.take_add;have h2:cs.drop (a+o+u.length)=((cs.drop a).take z).drop (o+n)++cs.drop (a+z):=by
  rw[hu,zEK9,<- zDN9,<- zDN9 (i:=z) (j:=a)]
  by_cases hz:z<=(cs.drop a).length
  ·conv=>lhs;rw[<- zEP9 z (cs.drop a)]
   grind
  ·rw[zBI9 zo,zCS9 (l:=cs.drop a) (i:=z) zo,zDG9]
 grind
theorem zrf (k:HR B c H h){n:Nat}{a:AR}(hv:LR (VR c h) vs us)(hp:zab H n vs=some a):∃u h' c',zhi n h us=some (.ok u h')/\zhN B c H h a u h' c':=by
 unfold zab at hp
 split at hp
 ·rename_i id g i o m w;obtain⟨y,cs',rfl,h1,h2⟩:=hv.of_cons;obtain⟨y',cs'',rfl,h3,h4⟩:=h2.of_cons;obtain rfl:=h4.of_nil;obtain⟨b,d,z',g',s1,rfl,rfl⟩:=zeO h1
  split at hp
  ·rename_i hc;obtain⟨hc1,hc2⟩:=hc
   split at hp
   ·rename_i e z G M l hH
    split at hp
    ·rename_i hc;obtain⟨hg,ho⟩:=hc
     split at hp
     ·rename_i old hold;injection hp with hp;subst hp;obtain⟨rfl,G',M',cells,cs,r1,r2,r3,r4,r5⟩:=zhF k hH s1;have hgG:g'=G':=zo;subst hgG;have hi:i<l.length:=(zAC9.1 hold).1;have hm:=zmH (z:=z') hi;have hcells:=h3.cells;have hol:=r5.one old (zAJ9 hold);have hcl:=r5.len;have hsc:(spl old w o n z').cells=old.cells.take o++w.cells++old.cells.drop (o+n):=by
       unfold spl
       split
       ·rename_i e;subst e
        grind
       ·rfl
      have hn':y'.cells.length=n:=by rw[<- hcells.1];exact hc1
      have hold2:=r5.at hold;have hnew:ER (VR c h) z' (l.set i (spl old w o n z')) (cs.take (i*z'+o)++y'.cells++cs.drop (i*z'+o+y'.cells.length)):=by
       have hsl:(spl old w o n z').cells.length=z':=by rw[hsc];simp;omega
       have hds:LR (VR c h) (spl old w o n z').cells (((cs.drop (i*z')).take z').take o++y'.cells++((cs.drop (i*z')).take z').drop (o+n)):=by
        rw[hsc];exact((hold2.take o).app hcells).app (hold2.drop (o+n))
       have hset:=r5.set hi hsl hds;have e1:cs.take (i*z')++(((cs.drop (i*z')).take z').take o++y'.cells++((cs.drop (i*z')).take z').drop (o+n))++cs.drop ((i+1)*z')=cs.take (i*z'+o)++y'.cells++cs.drop (i*z'+o+y'.cells.length):=by
        rw[zCV9];exact zvA cs y'.cells ho hn'
       grind
      obtain⟨m1,k1⟩:=k.set (o:=.row e z' G G (l.set i (spl old w o n z'))) (x:=.row e g' g' (l.length*z') (cells.putL (i*z'+o) y'.cells)) s1 (fun e=>by rw[hH]at e;cases e) fun mm =>
       .inr ⟨b,d,g',g',cells.putL (i*z'+o) y'.cells,cs.take (i*z'+o)++y'.cells++cs.drop (i*z'+o+y'.cells.length),s1,by rw[TH.get_set _ _ _ _ (k.own _ _ s1).2.1,if_pos rfl,zBU9],r2,by omega,by
        rw[zBU9,<- hcl];exact zrx (by rw[hcl];exact r4) (by rw[hcl];omega),hnew.mono fun _ _=>VR.mono mm⟩
      refine⟨.tuple [],_,c,?_,m1,k1,VR.tupL LR.nil,zm7 k s1 _⟩;simp only[zhi,zet];rw[zbV hn',zcj hc2,r1];simp only[cond_true,znd];rw[zbV rfl,zcj zo];rfl
     ·cases hp
    ·cases hp
   ·cases hp
  ·cases hp
 ·cases hp
theorem HR.first (k:HR B c H h){id e e' z G M:Nat}{l:List PV}(hH:H[id]?=some (.row e' z G M l))(hρ:c.ρ id=none)(hL:c.L id){news:List PV}{cs:List TV}(hn:ER (VR c h) z news cs) :
  Mo c (c.add id h.next 1 z) h (h.push (zcd e cs))/\HR B (c.add id h.next 1 z) (H.set id (.row e z 1 M news)) (h.push (zcd e cs)):=by
 have hid:id<H.length:=(zAC9.1 hH).1;have m:Mo c (c.add id h.next 1 z) h (h.push (zcd e cs)):=⟨fun _ _ h=>h,fun i y hy=>by
  show (if i=id then _ else _)=_;rw[if_neg (fun e=>by subst e;rw[hρ]at hy;cases hy)];exact hy,fun _ h=>h,fun _ _ _ _ _ _ _ hr=>zsO _ hr⟩
 have hget:∀b,b<h.next->(h.push (zcd e cs)).get b=h.get b:=fun b hb=>by rw[TH.get_push,if_neg zo]
 have hr:∀i y,(c.add id h.next 1 z).ρ i=some y->(i=id/\y=(h.next,1,z))\/c.ρ i=some y:=fun i y hy=>by
  have hy:(if i=id then some (h.next,1,z)else c.ρ i)=some y:=hy
  grind
 refine⟨m,⟨?_,fun b hb=>?_,k.old,fun p b hb=>?_,fun i y hy=>?_,fun i hi=>?_,fun i i' y y' hy hy' e=>?_,fun i o' ho'=>?_⟩⟩
 ·rw[TH.next_push];exact Nat.le_succ_of_le k.le
 ·rw[hget b (zBC9 hb k.le)];exact k.keep b hb
 ·obtain⟨h1,h2⟩:=k.S p b hb;refine⟨by rw[TH.next_push];omega,fun i y hy e=>?_⟩
  grind
 ·rw[TH.next_push,zBU9];rcases hr i y hy with⟨rfl,rfl⟩|hy
  ·exact⟨k.le,zCE9 _,hid⟩
  ·obtain⟨h1,h2,h3⟩:=k.own i y hy;omega
 ·rw[zBU9];obtain⟨h1,h2⟩:=k.lz i hi
  grind
 ·rcases hr i y hy with⟨a1,a2⟩|h5<;>rcases hr i' y' hy' with⟨b1,b2⟩|h6
  ·omega
  ·have:=(k.own _ _ h6).2.1;rw[a2]at e;dsimp only at e;omega
  ·have:=(k.own _ _ h5).2.1;rw[b2]at e;dsimp only at e;omega
  ·exact k.inj _ _ _ _ h5 h6 e
 ·by_cases hii:id=i
  ·subst hii;rw[zAY9 hid]at ho';injection ho' with ho';subst ho';exact .inr ⟨h.next,1,0,0,Tr.putL .nil 0 cs,cs,add_same ..,by rw[TH.get_push,if_pos rfl,zcd,hn.len],rfl,zAL9 _,by rw[<- hn.len];exact zpA cs,hn.mono fun _ _=>VR.mono m⟩
  ·rw[zAT9 hii]at ho';exact(k.obj i o' ho').move m (by show (if i=id then _ else _)=_;rw[if_neg (Ne.symm hii)]) (fun h=>h) fun y hy=>hget _ (k.own _ _ hy).2.1
theorem znu (k:HR B c H h){e esz bytes:Nat}{s:PV}{y:TV}{news:List PV}{cs:List TV}{a:AR}(h1:VR c h s y)(t5:ER (VR c h) esz news cs)(hp:zM H e esz bytes s news=some a):∃u h' c',zhm h e esz bytes y news.length cs=some (.ok u h')/\zhN B c H h a u h' c':=by
 have hpush:∀b,b<h.next->(h.push (zcd e cs)).get b=h.get b:=fun b hb=>by rw[TH.get_push,if_neg zo]
 unfold zM at hp
 split at hp
 ·obtain rfl:y=.nilsl:=by cases h1 with|pure h1=>cases h1;rfl
  dsimp only[zhm]
  split at hp
  ·rename_i hz;injection hp with hp;subst hp;rw[hz];exact⟨_,h,c,rfl,Mo.refl _ _,k,h1,fun _ _ _ _=>rfl⟩
  ·rename_i hz
   split at hp
   ·rename_i hb;injection hp with hp;subst hp;obtain⟨m1,k1⟩:=zfL k (e:=e) t5;refine⟨.sl h.next 0 0 news.length (2*news.length) esz,_,_,?_,m1,k1,?_,fun id _ y hy=>hpush _ (k.own _ _ hy).2.1⟩
    ·have:Nat.beq news.length 0=false:=by
      cases hb:Nat.beq news.length 0
      all_goals simp_all
     rw[this];simp only[cond_false,zkm];rw[zcj hb];rfl
    ·have:=VR.sl (h:=h.push (zcd e cs)) (g:=0) (o:=0) (n:=news.length) (q:=2*news.length) (add_same c H.length h.next 0 esz)
     grind
   ·cases hp
 ·rename_i id g o n q z
  split at hp
  ·rename_i hz;injection hp with hp;subst hp;refine⟨y,h,c,?_,Mo.refl _ _,k,h1,fun _ _ _ _=>rfl⟩;rcases sl_inv h1 with⟨rfl,rfl,rfl,rfl,rfl,hL⟩|⟨b,d,g',s1,rfl,rfl⟩<;>(dsimp only[zhm];rw[hz];rfl)
  ·rename_i hz;have hbz:Nat.beq news.length 0=false:=by
    cases hb:Nat.beq news.length 0
    ·rfl
    simp_all
   split at hp
   ·rename_i hc;obtain⟨rfl,hq,rfl⟩:=hc
    split at hp
    ·rename_i e' z' G M l hH
     split at hp
     ·rename_i hc;obtain⟨rfl,rfl,rfl,rfl,hbnd⟩:=hc;injection hp with hp;subst hp;rcases sl_inv h1 with⟨rfl,_,hl0,rfl,rfl,hL⟩|⟨b,d,g',s1,hgd,rfl⟩
      ·have hl:l=[]:=zDU9.1 hl0;subst hl;have hn:c.ρ id=none:=by
        rcases k.obj _ _ hH with⟨_,_,hn,_⟩|⟨b,d,G',M',cells,cs,p1,p2,p3,_⟩
        ·exact hn
        ·have:=(k.lz id hL).2 _ p1
         grind
       obtain⟨m1,k1⟩:=k.first (e:=e) hH hn hL t5;refine⟨.sl h.next 0 0 news.length (2*news.length) esz,h.push (zcd e cs),_,?_,m1,by simpa using k1,?_,fun i hi y hy=>hpush _ (k.own _ _ hy).2.1⟩
       ·dsimp only[zhm];rw[hbz];simp only[cond_false,zkm];rw[zcj (by simpa using hbnd)];rfl
       ·have:=VR.sl (h:=h.push (zcd e cs)) (g:=0) (o:=0) (n:=news.length) (q:=2*news.length) (add_same c id h.next 1 esz)
        grind
      ·obtain⟨_,G',M',cells,ds,r1,r2,r3,r4,r5⟩:=zhF k hH s1;have hgG:g'=G':=zo;subst hgG;have hdl:=r5.len;obtain⟨m1,k1⟩:=k.set (o:=.row e esz (g+1) M (l++news)) (x:=.row e (g'+1) M' (l.length*esz+cs.length) (cells.putL (l.length*esz) cs)) s1 (fun e=>by rw[hH]at e;cases e) fun mm =>
        .inr ⟨b,d,g'+1,M',cells.putL (l.length*esz) cs,ds++cs,s1,by rw[TH.get_set _ _ _ _ (k.own _ _ s1).2.1,if_pos rfl,zAB9,zCH9,t5.len],by omega,by omega,by
         rw[zAB9,zCH9,<- t5.len,<- hdl];exact zsz (by rw[hdl];exact r4),(r5.app t5).mono fun _ _=>VR.mono mm⟩
       refine⟨.sl b (g'+1) 0 (l.length+news.length) (2*(l.length+news.length)) esz,_,c,?_,m1,k1,?_,zm7 k s1 _⟩
       ·dsimp only[zhm];rw[hbz];simp only[cond_false];rw[zbV (show 0*esz=0 by simp),zbV hq,zbV (rfl:esz=esz),r1];simp only[cond_true,zmw];rw[zbV rfl,zbV rfl,zbV rfl,zcj hbnd];rfl
       ·have:=VR.sl (h:=h.set b (.row e (g'+1) M' (l.length*esz+cs.length) (cells.putL (l.length*esz) cs))) (g:=g'+1) (o:=0) (n:=l.length+news.length) (q:=2*(l.length+news.length)) s1
        grind
     ·cases hp
    ·cases hp
   ·cases hp
 ·cases hp
theorem zuK (k:HR B c H h){e esz bytes:Nat}{a:AR}(hv:LR (VR c h) vs us)(hp:zV H e esz bytes vs=some a):∃u h' c',zfY e esz bytes h us=some (.ok u h')/\zhN B c H h a u h' c':=by
 unfold zV at hp
 split at hp
 ·rename_i s x;obtain⟨y,cs',rfl,h1,h2⟩:=hv.of_cons;obtain⟨y',cs'',rfl,h3,h4⟩:=h2.of_cons;obtain rfl:=h4.of_nil
  split at hp
  ·cases hp
  ·rename_i news hs;obtain⟨_,t2,t3⟩:=zmS k h3 hs;obtain⟨cs,t4,t5⟩:=t3 _ (zAE9 _);rw[zBS9]at t5;simp only[zfY,ztH];rw[t2,t4];dsimp only;exact znu k h1 t5 hp
 ·cases hp
theorem zzh (k:HR B c H h){e esz bytes:Nat}{zero:List TV}{a:AR}(hv:LR (VR c h) vs us)(hp:zaF H e esz bytes zero vs=some a):∃u h' c',zjn e esz bytes zero h us=some (.ok u h')/\zhN B c H h a u h' c':=by
 unfold zaF at hp
 split at hp
 ·rename_i s kk m;obtain⟨y,cs',rfl,h1,h2⟩:=hv.of_cons;obtain⟨y',cs'',rfl,h3,h4⟩:=h2.of_cons;obtain rfl:=h4.of_nil;obtain rfl:=h3.int_inv
  split at hp
  ·rename_i zs hz
   split at hp
   ·rename_i hc;obtain⟨c1,c2,c3,c4,c5⟩:=hc;obtain⟨n,rfl⟩:=zCK9 c1;have hcs:=zfW (S:=c.S) (h:=h) (fun u v=>zgm) hz;have hel:ER (VR c h) esz (List.replicate n (zAR zs)) (zdM zero n):=by
     refine⟨fun w hw=>?_,?_⟩
     ·rw[zCW9 hw,zdb c4,hcs.1,c5]
     ·rw[zl4,zdb c4];exact zk5 (LR.pure hcs) _
    obtain⟨u,h',c',a1,a2⟩:=znu k h1 hel hp;rw[zCF9]at a1;refine⟨u,h',c',?_,a2⟩;show (bif Nat.ble n 1000000 then bif Nat.ble (n*(bytes+1)) 140737488355328 then zhm h e esz bytes y n (zdM zero n)else none else none)=_;have c6:n*(bytes+1)<=140737488355328:=by
     have c7:((n*(bytes+1):Nat):Int)<=140737488355328:=by simpa using c3
     omega
    have c8:n<=1000000:=zo;rw[zcj c8,zcj c6];exact a1
   ·cases hp
  ·cases hp
 ·cases hp
theorem zy7 {a b:Nat}(h:¬min a b=0):Nat.beq (min a b) 0=false:=by
 cases hb:Nat.beq (min a b) 0
 all_goals simp_all
theorem zyN (k:HR B c H h){esz:Nat}{a:AR}(hv:LR (VR c h) vs us)(hp:ztu H esz vs=some a):∃u h' c',zgp esz h us=some (.ok u h')/\zhN B c H h a u h' c':=by
 unfold ztu at hp
 split at hp
 ·rename_i x;obtain⟨y,cs',rfl,h1,h2⟩:=hv.of_cons;obtain⟨y',cs'',rfl,h3,h4⟩:=h2.of_cons;obtain rfl:=h4.of_nil;obtain rfl:y=.nilsl:=by cases h1 with|pure h1=>cases h1;rfl
  split at hp
  ·rename_i news hs;injection hp with hp;subst hp;obtain⟨_,t2,t3⟩:=zmS k h3 hs;obtain⟨cs,t4,t5⟩:=t3 0 (zAL9 _);refine⟨_,h,c,?_,Mo.refl _ _,k,.pure (.int _ _),fun _ _ _ _=>rfl⟩;simp only[zgp,lenV,Nat.min_zero];rw[t4];rfl
  ·cases hp
 ·rename_i id g o n q z x;obtain⟨y,cs',rfl,h1,h2⟩:=hv.of_cons;obtain⟨y',cs'',rfl,h3,h4⟩:=h2.of_cons;obtain rfl:=h4.of_nil
  split at hp
  ·cases hp
  ·rename_i news hs;obtain⟨_,t2,t3⟩:=zmS k h3 hs;obtain⟨cs,t4,t5⟩:=t3 (min news.length n) (Nat.min_le_left _ _)
   split at hp
   ·rename_i hz;injection hp with hp;subst hp;refine⟨.int .i64 (.ofNat 0),h,c,?_,Mo.refl _ _,k,.pure (.int _ _),fun _ _ _ _=>rfl⟩;rcases sl_inv h1 with⟨rfl,rfl,rfl,rfl,rfl,hL⟩|⟨b,d,g',s1,rfl,rfl⟩
    ·simp only[zgp,lenV,Nat.min_zero]
     grind
    ·simp only[zgp];rw[t2,show lenV (.sl b g' (o*z) n q z)=n from rfl,t4,hz];rfl
   ·rename_i hz
    split at hp
    ·rename_i he;subst he
     split at hp
     ·rename_i e z' G M l hH
      split at hp
      ·rename_i hc;obtain⟨rfl,rfl,hle⟩:=hc;injection hp with hp;subst hp;rcases sl_inv h1 with⟨_,_,rfl,_⟩|⟨b,d,g',s1,hgd,rfl⟩
       ·simp at hz
       ·obtain⟨_,G',M',cells,ds,r1,r2,r3,r4,r5⟩:=zhF k hH s1;have hgG:g'=G':=zo;subst hgG;have hdl:=r5.len;have htl:(news.take (min news.length n)).length=min news.length n:=by simp
        have hcl:cs.length=min news.length n*esz:=by rw[t5.len,htl]
        have hlen:o*esz+cs.length<=l.length*esz:=by rw[hcl,<- zCH9];exact zBV9 _ hle
        have hnew:=((r5.take o).app t5).app (r5.drop (o+min news.length n));have hll:(l.take o++news.take (min news.length n)++l.drop (o+min news.length n)).length=l.length:=by simp;omega
        obtain⟨m1,k1⟩:=k.set (o:=.row e esz g g (l.take o++news.take (min news.length n)++l.drop (o+min news.length n))) (x:=.row e g' g' (l.length*esz) (cells.putL (o*esz) cs)) s1 (fun e=>by rw[hH]at e;cases e) fun mm =>
         .inr ⟨b,d,g',g',cells.putL (o*esz) cs,ds.take (o*esz)++cs++ds.drop (o*esz+cs.length),s1,by rw[TH.get_set _ _ _ _ (k.own _ _ s1).2.1,if_pos rfl,hll],r2,by omega,by
          rw[hll,<- hdl];exact zrx (by rw[hdl];exact r4) (by rw[hdl];exact hlen),by
          rw[hcl,<- zCH9];exact hnew.mono fun _ _=>VR.mono mm⟩
        refine⟨.int .i64 (.ofNat (min news.length n)),_,c,?_,m1,k1,.pure (.int _ _),zm7 k s1 _⟩;simp only[zgp];rw[t2,show lenV (.sl b g' (o*esz) n q esz)=n from rfl,t4];dsimp only;rw[zy7 hz,zbV (rfl:esz=esz)];simp only[cond_false,cond_true,zet];rw[r1];simp only[znd];rw[zbV rfl,zcj hlen];rfl
      ·cases hp
     ·cases hp
    ·cases hp
 ·cases hp
section keys
variable {K:Type}{κ:K->TV}
theorem zqn {x:K}:∀{es:List zcD} {fs:List zcD},lk κ x es=none->lk κ x (es++fs)=lk κ x fs
 | [],fs,_=>rfl
 | e::l,fs,h=>by
  unfold lk at h
  split at h
  ·cases h
  ·rename_i he;rw[zAR9,lk,if_neg he];exact zqn h
theorem zlT {x:K}{u:TV}:∀{es:List zcD} {fs:List zcD},lk κ x es=some u->lk κ x (es++fs)=some u
 | [],fs,h=>by cases h
 | e::l,fs,h=>by
  unfold lk at h;rw[zAR9,lk]
  split at h
  ·rename_i he;rw[if_pos he];exact h
  ·rename_i he;rw[if_neg he];exact zlT h
theorem zs7 (hκ:zkb κ){x:K}:∀{es:List zcD} {i j:Nat} {e:zcD},(∀e∈es,∃n,e.k=κ n)->zft (κ x) es i=some (some (j,e))->∃t,j=i+t/\(∀u,(∀e∈setE t (κ x) u es,∃n,e.k=κ n)/\lk κ x (setE t (κ x) u es)=some u/\∀y,y≠x->lk κ y (setE t (κ x) u es)=lk κ y es)
 | [],i,j,e,hk,h=>by simp[zft]at h
 | e0::l,i,j,e,hk,h=>by
  obtain⟨n,hn⟩:=hk e0 (by simp);have hl:=fun e' he'=>hk e' (zAO9 _ he');unfold zft at h;rw[hn]at h
  by_cases hx:x=n
  ·subst hx;rw[(hκ x x).1 rfl]at h;injection h with h;injection h with h;injection h with h1 h2;refine⟨0,h1.symm,fun u=>⟨fun e' he'=>?_,?_,fun y hy=>?_⟩⟩
   ·simp only[setE,zBA9]at he'
    grind
   ·simp[setE,lk]
   ·have hyx:¬κ x=κ y:=fun e=>hy (hκ.inj e.symm);have hyx':¬e0.k=κ y:=by rw[hn];exact hyx
    simp only[setE,lk,if_neg hyx,if_neg hyx']
  ·rw[(hκ x n).2 hx]at h;dsimp only at h;obtain⟨t,rfl,ht⟩:=zs7 hκ hl h;refine⟨t+1,by omega,fun u=>?_⟩;obtain⟨t1,t2,t3⟩:=ht u;have hnx:¬e0.k=κ x:=by rw[hn];exact fun e=>hx (hκ.inj e).symm
   refine⟨fun e' he'=>?_,?_,fun y hy=>?_⟩
   ·simp only[setE,zBA9]at he'
    grind
   ·simp only[setE,lk,if_neg hnx];exact t2
   ·simp only[setE,lk];rw[t3 y hy]
theorem zs5 [DecidableEq K](hκ:zkb κ){R:PV->TV->Prop}{m:K->Option PV}{es:List zcD}{clock b:Nat}(hm:MR R κ m es)(x:K){w:PV}{y2:TV}(h5:R w y2) :
  ∃es' clock',zrr h b (κ x) y2 (.map es clock)=some (.ok (.tuple []) (h.set b (.map es' clock')))/\MR R κ (fun y=>if y=x then some w else m y) es':=by
 simp only[zrr];rcases zk6 hκ (x:=x) (i:=0) hm.keys with⟨f1,f2⟩|⟨j,e,f1,f2⟩
 ·rw[f1];refine⟨_,_,rfl,fun e he=>?_,fun x' v' hx'=>?_,fun x' hx'=>?_⟩
  ·rcases zBF9.1 he with he|he
   ·exact hm.keys e he
   ·simp at he;subst he;exact⟨x,rfl⟩
  ·try dsimp only at hx'
   split at hx'
   ·rename_i e;subst e;injection hx' with hx';subst hx';exact⟨y2,by rw[zqn f2];simp[lk],h5⟩
   ·obtain⟨u,u1,u2⟩:=hm.some _ _ hx';exact⟨u,zlT u1,u2⟩
  ·try dsimp only at hx'
   split at hx'
   ·cases hx'
   ·rename_i hne;have hnk:¬κ x=κ x':=fun e=>hne (hκ.inj e).symm;rw[zqn (hm.none _ hx')];simp only[lk,if_neg hnk]
 ·rw[f1];obtain⟨t,rfl,ht⟩:=zs7 hκ hm.keys f1;obtain⟨t1,t2,t3⟩:=ht y2;rw[zBN9];refine⟨_,_,rfl,t1,fun x' v' hx'=>?_,fun x' hx'=>?_⟩
  ·try dsimp only at hx'
   split at hx'
   ·rename_i e;subst e;injection hx' with hx';subst hx';exact⟨y2,t2,h5⟩
   ·rename_i hne;obtain⟨u,u1,u2⟩:=hm.some _ _ hx';exact⟨u,by rw[t3 _ hne];exact u1,u2⟩
  ·try dsimp only at hx'
   split at hx'
   ·cases hx'
   ·rename_i hne;rw[t3 _ hne];exact hm.none _ hx'
theorem zux (κ:K->TV){R:PV->TV->Prop}:MR R κ (fun _=>none) []:=⟨fun e he=>by simp at he,fun x v h=>(by cases h),fun x _=>rfl⟩
end keys
theorem zyO (k:HR B c H h){kf:Nat}{a:AR}(hv:LR (VR c h) vs us)(hp:zaH H kf vs=some a):∃u h' c',zg0 kf h us=some (.ok u h')/\zhN B c H h a u h' c':=by
 unfold zaH at hp
 split at hp
 ·rename_i id kk x w;obtain⟨y,cs',rfl,h1,h2⟩:=hv.of_cons;obtain⟨y',cs'',rfl,h3,h4⟩:=h2.of_cons;obtain⟨y2,cs3,rfl,h5,h6⟩:=h4.of_cons;obtain rfl:=h6.of_nil;obtain rfl:=h3.int_inv;obtain⟨b,d,z,s1,rfl⟩:=zfX h1
  split at hp
  ·rename_i hkf;subst hkf;have main:∀(m:Int->Option PV) (es:List zcD) (clock:Nat),¬H[id]?=some .void->h.get b=some (.map es clock)->MR (VR c h) (TV.int kk) m es->∃u h' c',zg0 1 h [.map b,.int kk x,y2]=some (.ok u h')/\zhN B c H h ⟨.tuple [],H.set id (.mapI kk fun y=>if y=x then some w else m y),[id]⟩ u h' c':=fun m es clock hnv hg hm=>by
    simp only[zg0,zfv,zko,cond_true];rw[hg];obtain⟨es',clock',e1,e2⟩:=zs5 (h:=h) (b:=b) (clock:=clock) (zrt kk) hm x h5;refine⟨_,_,c,e1,?_⟩;obtain⟨m1,k1⟩:=k.set (o:=.mapI kk fun y=>if y=x then some w else m y) (x:=.map es' clock') s1 hnv fun mm =>
     ⟨b,d,z,es',clock',s1,by rw[TH.get_set _ _ _ _ (k.own _ _ s1).2.1,if_pos rfl],by
      exact e2.mono fun _ _=>VR.mono mm⟩
    exact⟨m1,k1,VR.tupL LR.nil,zm7 k s1 _⟩
   split at hp
   ·rename_i hH;injection hp with hp;subst hp;obtain⟨b',d',z',clock,s2,s3⟩:=k.obj _ _ hH;rw[s1]at s2;injection s2 with s2;injection s2 with s2 _;subst s2;exact main (fun _=>none) [] clock (fun e=>by rw[hH]at e;cases e) s3 (zux _)
   ·rename_i k' m hH;obtain⟨b',d',z',es,clock,s2,s3,s4⟩:=k.obj _ _ hH;rw[s1]at s2;injection s2 with s2;injection s2 with s2 _;subst s2
    split at hp
    ·rename_i hk;subst hk;injection hp with hp;subst hp;exact main m es clock (fun e=>by rw[hH]at e;cases e) s3 s4
    ·cases hp
   ·cases hp
  ·cases hp
 ·cases hp
theorem zyE (k:HR B c H h){kf:Nat}{a:AR}(hv:LR (VR c h) vs us)(hp:zaG H kf vs=some a):∃u h' c',zg0 kf h us=some (.ok u h')/\zhN B c H h a u h' c':=by
 unfold zaG at hp
 split at hp
 ·rename_i id x w;obtain⟨y,cs',rfl,h1,h2⟩:=hv.of_cons;obtain⟨y',cs'',rfl,h3,h4⟩:=h2.of_cons;obtain⟨y2,cs3,rfl,h5,h6⟩:=h4.of_cons;obtain rfl:=h6.of_nil;obtain rfl:=h3.str_inv;obtain⟨b,d,z,s1,rfl⟩:=zfX h1
  split at hp
  ·rename_i hkf;subst hkf;have main:∀(m:List Nat->Option PV) (es:List zcD) (clock:Nat),¬H[id]?=some .void->h.get b=some (.map es clock)->MR (VR c h) TV.str m es->∃u h' c',zg0 2 h [.map b,.str x,y2]=some (.ok u h')/\zhN B c H h ⟨.tuple [],H.set id (.mapS fun y=>if y=x then some w else m y),[id]⟩ u h' c':=fun m es clock hnv hg hm=>by
    simp only[zg0,zfv,zkR,cond_true];rw[hg];obtain⟨es',clock',e1,e2⟩:=zs5 (h:=h) (b:=b) (clock:=clock) zrc hm x h5;refine⟨_,_,c,e1,?_⟩;obtain⟨m1,k1⟩:=k.set (o:=.mapS fun y=>if y=x then some w else m y) (x:=.map es' clock') s1 hnv fun mm =>
     ⟨b,d,z,es',clock',s1,by rw[TH.get_set _ _ _ _ (k.own _ _ s1).2.1,if_pos rfl],by
      exact e2.mono fun _ _=>VR.mono mm⟩
    exact⟨m1,k1,VR.tupL LR.nil,zm7 k s1 _⟩
   split at hp
   ·rename_i hH;injection hp with hp;subst hp;obtain⟨b',d',z',clock,s2,s3⟩:=k.obj _ _ hH;rw[s1]at s2;injection s2 with s2;injection s2 with s2 _;subst s2;exact main (fun _=>none) [] clock (fun e=>by rw[hH]at e;cases e) s3 (zux _)
   ·rename_i m hH;obtain⟨b',d',z',es,clock,s2,s3,s4⟩:=k.obj _ _ hH;rw[s1]at s2;injection s2 with s2;injection s2 with s2 _;subst s2;injection hp with hp;subst hp;exact main m es clock (fun e=>by rw[hH]at e;cases e) s3 s4
   ·cases hp
  ·cases hp
 ·exact zyO k hv hp
theorem zmI (k:HR B c H h){C:zbS}{caught:Tr Unit}{kind:zZ}{a:AR}(hv:LR (VR c h) vs us)(hp:zbt H kind vs=some a):∃u h' c',act C caught kind us h=some (.ok u h')/\zhN B c H h a u h' c':=by
 unfold zbt at hp
 split at hp
 ·exact zrf k hv hp
 ·exact zuK k hv hp
 ·exact zyN k hv hp
 ·exact zyE k hv hp
 ·exact zzh k hv hp
 ·cases hp
end Fv
end Go.Proofs.YtkeknmgnoceogaaGreat
namespace Go.Proofs.YtkeknmgnoceogaaGreat
namespace Fv
open Tw
def EN (E:Env)(N:Nat):Env:={ E with N:=N }
def Ev (E:Env)(φ:zbS->Nat->Prop):Prop:=∃K,∀N,K<=N->∀d,K<=d->φ (zdq (EN E N) d) N
section ev
variable {E:Env}{φ ψ χ:zbS->Nat->Prop}
theorem Ev.all (h:∀C N,φ C N):Ev E φ:=⟨0,fun _ _ _ _=>h _ _⟩
theorem Ev.mono (hh:∀C N,φ C N->ψ C N)(h:Ev E φ):Ev E ψ:=by
 obtain⟨K,hK⟩:=h;exact⟨K,fun N hN d hd=>hh _ _ (hK N hN d hd)⟩
theorem Ev.and2 (hh:∀C N,φ C N->ψ C N->χ C N)(h:Ev E φ)(k:Ev E ψ):Ev E χ:=by
 obtain⟨K,hK⟩:=h;obtain⟨L,hL⟩:=k;exact⟨max K L,fun N hN d hd=>hh _ _ (hK N zo d zo) (hL N zo d zo)⟩
end ev
inductive FD where
 | caught (p clear:PV)
 | mark (id:Nat)
structure FSt where
 tm:Nat->PV
 df:List FD
 H:List zd
def upd (tm:Nat->PV)(d:Nat)(v:PV):Nat->PV:=fun t=>if t=d then v else tm t
def FSt.put (s:FSt)(d:Option Nat)(v:PV):FSt:=match d with
 | none=>s
 | some d=>⟨upd s.tm d v,s.df,s.H⟩
def DR (c:Cx)(h:TH):FD->TD->Prop
 | .caught p l,.caught p' l'=>VR c h p p'/\VR c h l l'
 | .mark id,.mark b=>∃d z,c.ρ id=some (b,d,z)
 | _,_=>False
def dfR (c:Cx)(h:TH):List FD->List TD->Prop
 | [],[]=>True
 | x::l,y::m=>DR c h x y/\dfR c h l m
 | _,_=>False
structure SR (B:Ba)(c:Cx)(s:FSt)(t:St):Prop where
 hr:HR B c s.H t.h
 tm:tmR c t.h s.tm t.tm
 df:dfR c t.h s.df t.df
section mono
variable {c c':Cx}{h h':TH}
theorem tmR.mono (m:Mo c c' h h'){tm:Nat->PV}{t:Tr TV}(k:tmR c h tm t):tmR c' h' tm t:=fun i=>by
 rcases k i with k|⟨u,u1,u2⟩
 ·grind
 ·exact .inr ⟨u,u1,u2.mono m⟩
theorem DR.mono (m:Mo c c' h h'){x:FD}{y:TD}(k:DR c h x y):DR c' h' x y:=by
 cases x<;>cases y<;>first|exact k.elim|skip
 ·exact⟨k.1.mono m,k.2.mono m⟩
 ·obtain⟨d,z,k⟩:=k;exact⟨d,z,m.ρ _ _ k⟩
theorem dfR.mono (m:Mo c c' h h'):∀{l:List FD} {l':List TD},dfR c h l l'->dfR c' h' l l'
 | [],[],_=>trivial
 | _::_,_::_,k=>⟨k.1.mono m,k.2.mono m⟩
 | [],_::_,k=>k.elim
 | _::_,[],k=>k.elim
theorem tmR.put {tm:Nat->PV}{t:Tr TV}(k:tmR c h tm t){d:Nat}{v:PV}{u:TV}(hv:VR c h v u):tmR c h (upd tm d v) (t.set d (some u)):=fun i=>by
 unfold upd;rw[Tr.get_set]
 by_cases e:i=d
 ·grind
 ·rw[if_neg e,if_neg e];exact k i
theorem XR.mono (m:Mo c c' h h'){x:FX}{y:TX}(k:XR c h x y):XR c' h' x y:=by
 cases k with
 | norm=>exact .norm
 | exit id=>exact .exit id
 | goto l=>exact .goto l
 | ret=>exact .ret
 | panic k=>exact .panic (k.mono m)
end mono
theorem SR.put {B:Ba}{c c':Cx}{s:FSt}{t:St}(k:SR B c s t){H':List zd}{h':TH}(m:Mo c c' t.h h')(hr:HR B c' H' h'){v:PV}{u:TV}(hv:VR c' h' v u)(d:Option Nat) :
  SR B c' (FSt.put ⟨s.tm,s.df,H'⟩ d v) (St.put ⟨t.tm,t.df,h'⟩ d u):=by
 cases d with
 | none=>exact⟨hr,k.tm.mono m,k.df.mono m⟩
 | some d=>exact⟨hr,(k.tm.mono m).put hv,k.df.mono m⟩
theorem put_h (t:St)(d:Option Nat)(u:TV):(t.put d u).h=t.h:=by cases d<;>rfl
def okv:PV->Option PV
 | .bad=>none
 | v=>some v
def ev (tm:Nat->PV):TOp->Option PV
 | .tmp t=>okv (tm t)
 | .new _=>none
 | .const u=>ofC 4 u
 | .fn f=>some (.fn f [])
def evs (tm:Nat->PV):List TOp->Option (List PV)
 | []=>some []
 | x::l=>match ev tm x with
  | none=>none
  | some v=>match evs tm l with
   | none=>none
   | some vs=>some (v::vs)
def zaA (b:Bool):Option PV->Option Bool
 | some (.bool c)=>some (if b then c else !c)
 | some (.tuple _)=>some false
 | _=>none
def zat (tm:Nat->PV):Option (TOp×Bool)->Option Bool
 | none=>some true
 | some (x,b)=>zaA b (ev tm x)
theorem zmd {v w:PV}(h:okv v=some w):v=w/\v ≠ .bad:=by
 cases v<;>first|(cases h;done)|(injection h with h;subst h;exact⟨rfl,fun e=>by cases e⟩)
section operands
variable {c:Cx}{h:TH}{tm:Nat->PV}{t:Tr TV}
theorem zjx (k:tmR c h tm t){x:TOp}{v:PV}(hx:ev tm x=some v):∃u,zfl t x=some u/\VR c h v u:=by
 cases x with
 | tmp i =>
  obtain⟨h1,h2⟩:=zmd hx;rcases k i with h3|⟨u,u1,u2⟩
  ·exact absurd h3 h2
  ·exact⟨u,u1,by rw[<- h1];exact u2⟩
 | new i=>cases hx
 | const u=>exact⟨u,rfl,zhV hx⟩
 | fn f=>injection hx with hx;subst hx;exact⟨_,rfl,VR.fnL LR.nil⟩
theorem zi6 (k:tmR c h tm t):∀{l:List TOp} {vs:List PV},evs tm l=some vs->∃us,zd8 t l=some us/\LR (VR c h) vs us
 | [],vs,hv=>by injection hv with hv;subst hv;exact⟨[],rfl,LR.nil⟩
 | x::l,vs,hv=>by
  unfold evs at hv
  split at hv
  ·cases hv
  ·rename_i v hx
   split at hv
   ·cases hv
   ·rename_i ws hw;injection hv with hv;subst hv;obtain⟨u,u1,u2⟩:=zjx k hx;obtain⟨us,w1,w2⟩:=zi6 k hw;refine⟨u::us,?_,LR.cons u2 w2⟩;unfold zd8;rw[u1,w1]
theorem zeR (k:tmR c h tm t){g:Option (TOp×Bool)}{b:Bool}(hg:zat tm g=some b):zmf t g=some b:=by
 cases g with
 | none=>exact hg
 | some x =>
  obtain⟨x,b'⟩:=x;change zaA b' (ev tm x)=some b at hg;unfold zaA at hg
  split at hg
  ·rename_i cc hx;obtain⟨u,u1,u2⟩:=zjx k hx;obtain rfl:=u2.bool_inv;show zg8 b' (zfl t x)=some b;unfold zg8;rw[u1];injection hg with hg;subst hg
   cases b'<;>rfl
  ·rename_i hx;obtain⟨u,u1,u2⟩:=zjx k hx;obtain⟨cs,rfl,_⟩:=u2.tuple_inv;show zg8 b' (zfl t x)=some b;rw[u1];exact hg
  ·cases hg
end operands
def zbA (o:zbo)(s:FSt)(vs:List PV):Option FSt :=
 match o.kind.cls with
 | 0=>(match zbi s.H o.kind vs with
  | some v=>some (s.put o.dst v)
  | none=>none)
 | 1=>(match zbp s.H.length o.kind vs with
  | some (ob,v)=>some (FSt.put ⟨s.tm,s.df,s.H++[ob]⟩ o.dst v)
  | none=>none)
 | _=>(match zbt s.H o.kind vs with
  | some a=>some (FSt.put ⟨s.tm,s.df,a.H⟩ o.dst a.v)
  | none=>none)
def zaE (o:zbo)(s:FSt):Option FSt :=
 match zat s.tm o.guard with
 | none=>none
 | some false=>some (s.put o.dst (.tuple []))
 | some true=>match evs s.tm o.args with
  | none=>none
  | some vs=>zbA o s vs
theorem zoE {B:Ba}{c:Cx}{s s':FSt}{t:St}(k:SR B c s t){o:zbo}(hs:zaE o s=some s')(C:zbS)(caught:Tr Unit):∃c' t',(∀C,zfH C caught o t=some (.go t'))/\Mo c c' t.h t'.h/\SR B c' s' t':=by
 unfold zaE at hs
 split at hs
 ·cases hs
 ·rename_i hw;injection hs with hs;subst hs;have hw':=zeR k.tm hw;refine⟨c,t.put o.dst (.tuple []),fun C=>?_,by rw[put_h];exact Mo.refl _ _,k.put (Mo.refl _ _) k.hr (VR.tupL LR.nil) _⟩;unfold zfH;rw[hw']
 ·rename_i hw;have hw':=zeR k.tm hw
  split at hs
  ·cases hs
  ·rename_i vs hvs;obtain⟨us,u1,u2⟩:=zi6 k.tm hvs;have e1:∀C,zfH C caught o t=ziO C caught o t us:=fun C=>by unfold zfH;rw[hw',u1]
   unfold zbA at hs
   split at hs
   ·rename_i hcls
    split at hs
    ·rename_i v hp;injection hs with hs;subst hs;obtain⟨u,p1,p2⟩:=zmy k.hr u2 hp;refine⟨c,t.put o.dst u,fun C=>?_,by rw[put_h];exact Mo.refl _ _,k.put (Mo.refl _ _) k.hr p2 _⟩;rw[e1];unfold ziO;rw[hcls];(try dsimp only);rw[p1];rfl
    ·cases hs
   ·rename_i hcls
    split at hs
    ·rename_i ob v hp;injection hs with hs;subst hs;obtain⟨x,c',p1,p2,p3,p4,_⟩:=znj k.hr u2 hp;refine⟨c',(⟨t.tm,t.df,t.h.push x.o⟩:St).put o.dst x.v,fun C=>?_,by rw[put_h];exact p2,k.put p2 p3 p4 _⟩;rw[e1];unfold ziO;rw[hcls];(try dsimp only);rw[p1];rfl
    ·cases hs
   ·rename_i _ n0 n1
    split at hs
    ·rename_i a hp;injection hs with hs;subst hs;have hact:∀C,∃u h' c',act C caught o.kind us t.h=some (.ok u h')/\zhN B c s.H t.h a u h' c':=fun C=>zmI k.hr u2 hp;have hsame:∀C C',act C caught o.kind us t.h=act C' caught o.kind us t.h:=fun C C'=>by
      unfold zbt at hp
      split at hp
      ·rename_i e;rw[e];rfl
      ·rename_i e;rw[e];rfl
      ·rename_i e;rw[e];rfl
      ·rename_i e;rw[e];rfl
      ·rename_i e;rw[e];rfl
      ·cases hp
     obtain⟨u,h',c',p1,p2⟩:=hact C;refine⟨c',(⟨t.tm,t.df,h'⟩:St).put o.dst u,fun C'=>?_,by rw[put_h];exact p2.mo,k.put p2.mo p2.hr p2.v _⟩;rw[e1];unfold ziO
     split
     ·grind
     ·grind
     ·rw[hsame C' C,p1];rfl
    ·cases hs
inductive FE where
 | ret (v:PV)
 | panic (v:PV)
def RE (R:PV->TV->Prop):FE->TE->Prop
 | .ret v,.ret u=>R v u
 | .panic v,.panic u=>R v u
 | _,_=>False
def S0 (S:zeF)(a b:Nat):zeF:=fun p x=>p=0/\(S 0 x\/(a<=x/\x<b))
def S1 (S:zeF)(a b:Nat):zeF:=fun p x=>S p x\/(p=0/\a<=x/\x<b)
def FN (E:Env)(f:Nat)(args:List PV)(e:FE):Prop :=
 ∀S h us,(∀p b,S p b->b<h.next)->LR (PR S h) args us->∃r h',Ev E (fun C _=>C.fn f us h=some (r,h'))/\h.next<=h'.next/\(∀b,b<h.next->h'.get b=h.get b)/\RE (PR (S0 S h.next h'.next) h') e r
def FP (E:Env)(f:Nat)(args:List PV)(e:FE):Prop :=
 ∀S h us,(∀p b,S p b->b<h.next)->LR (PR S h) args us->∃r h',Ev E (fun C _=>C.fn f us h=some (r,h'))/\h.next<=h'.next/\(∀b,b<h.next->h'.get b=h.get b)/\RE (PR (S1 S h.next h'.next) h') e r
def FO (E:Env)(f:Nat)(args:List PV)(H:List zd)(same:Bool)(Q:FE->List zd->Prop):Prop :=
 ∀B c h us,HR B c H h->LR (VR c h) args us->∃r h' e H' c',Ev E (fun C _=>C.fn f us h=some (r,h'))/\Q e H'/\Mo c c' h h'/\HR B c' H' h'/\RE (VR c' h') e r/\(same=true->∀id x,c.ρ id=some x->h'.get x.1=h.get x.1)
theorem zoT {h h':TH}(hk:∀b,b<h.next->h'.get b=h.get b){b g o n:Nat}{cs:List TV}(hr:zbL h b g o n=some cs):zbL h' b g o n=some cs:=by
 obtain⟨y,h1,h2⟩:=zg1 hr;exact zgs (by rw[hk _ (TH.get_lt h1)];exact h1) h2
theorem zw3 {H:List zd}{id g i:Nat}{w:PV}(h:zbl H id g i=some w):∃e z G M l,H[id]?=some (.row e z G M l):=by
 unfold zbl at h
 grind
inductive Frz (H:List zd)(lab:Nat):PV->PV->Prop
 | bool (b:Bool):Frz H lab (.bool b) (.bool b)
 | int (k:IntKind) (n:Int):Frz H lab (.int k n) (.int k n)
 | str (s:List Nat):Frz H lab (.str s) (.str s)
 | nilptr:Frz H lab .nilptr .nilptr
 | nilsl:Frz H lab .nilsl .nilsl
 | nilmap:Frz H lab .nilmap .nilmap
 | nilfn:Frz H lab .nilfn .nilfn
 | niliface:Frz H lab .niliface .niliface
 | nil (p z:Nat):Frz H lab .nilsl (.list p z [])
 | list (p z:Nat) (l:List PV):Frz H lab (.list p z l) (.list p z l)
 | elem (vs:List PV):Frz H lab (.elem vs) (.elem vs)
 | iface {t:Nat} {v w:PV}:Frz H lab v w->Frz H lab (.iface t v) (.iface t w)
 | fn {f:Nat} {vs ws:List PV}:vs.length=ws.length->(∀(i:Nat) (x y:PV),vs[i]?=some x->ws[i]?=some y->Frz H lab x y)->Frz H lab (.fn f vs) (.fn f ws)
 | agg {vs ws:List PV}:vs.length=ws.length->(∀(i:Nat) (x y:PV),vs[i]?=some x->ws[i]?=some y->Frz H lab x y)->Frz H lab (.agg vs) (.agg ws)
 | tuple {vs ws:List PV}:vs.length=ws.length->(∀(i:Nat) (x y:PV),vs[i]?=some x->ws[i]?=some y->Frz H lab x y)->Frz H lab (.tuple vs) (.tuple ws)
 | sl {id g o n q z e z' G M:Nat} {l m:List PV}:H[id]?=some (.row e z' G M l)->M<=g->g<=G->o+n<=l.length->2*n<=q->m.length=n->(∀v∈m,v.cells.length=z)->(((l.drop o).take n).flatMap PV.cells).length=(m.flatMap PV.cells).length ->
   (∀(i:Nat) (x y:PV),(((l.drop o).take n).flatMap PV.cells)[i]?=some x->(m.flatMap PV.cells)[i]?=some y->Frz H lab x y)->Frz H lab (.sl id g o n q z) (.list lab z m)
 | ptr {id g i o n:Nat} {w:PV} {cs:List PV}:zbl H id g i=some w->o+n<=w.cells.length->n=cs.length->(∀(j:Nat) (x y:PV),((w.cells.drop o).take n)[j]?=some x->cs[j]?=some y->Frz H lab x y)->Frz H lab (.ptr id g i o n) (.elem cs)
theorem Frz.ok' {B:Ba}{c:Cx}{H:List zd}{h:TH}(k:HR B c H h){lab:Nat}{S:zeF}(hS:∀p b,c.S p b->S p b)(hown:∀id x e z G M l,H[id]?=some (.row e z G M l)->c.ρ id=some x->S lab x.1){v w:PV}(f:Frz H lab v w):∀{u:TV},VR c h v u->PR S h w u:=by
 have hmono:∀{v:PV} {u:TV},PR c.S h v u->PR S h v u:=fun hv=>hv.mono hS fun _ _ _ _ _ _ _ hr=>hr
 induction f with
 | bool b=>intro u hv;obtain rfl:=hv.bool_inv;exact .bool b
 | int kk n=>intro u hv;obtain rfl:=hv.int_inv;exact .int kk n
 | str s=>intro u hv;obtain rfl:=hv.str_inv;exact .str s
 | nilptr=>intro u hv;cases hv with|pure hv=>exact hmono hv
 | nilsl=>intro u hv;cases hv with|pure hv=>exact hmono hv
 | nilmap=>intro u hv;cases hv with|pure hv=>exact hmono hv
 | nilfn=>intro u hv;cases hv with|pure hv=>exact hmono hv
 | niliface=>intro u hv;cases hv with|pure hv=>exact hmono hv
 | nil p z=>intro u hv;cases hv with|pure hv=>cases hv;exact .listnil p z
 | list p z l=>intro u hv;cases hv with|pure hv=>exact hmono hv
 | elem vs=>intro u hv;cases hv with|pure hv=>exact hmono hv
 | iface _ ih=>intro u hv;obtain⟨u',rfl,h1⟩:=hv.iface_inv;exact .iface (ih h1)
 | fn hl _ ih =>
  intro u hv;obtain⟨cs,rfl,h1⟩:=hv.fn_inv;exact .fn (by rw[<- hl];exact h1.1) fun i x y hx hy=>by
   obtain⟨x',hx'⟩:∃x',(_:List PV)[i]?=some x':=⟨_,zAA9 (by rw[hl];exact(zAC9.1 hx).1)⟩
   exact ih i _ _ hx' hx (h1.2 i _ _ hx' hy)
 | agg hl _ ih =>
  intro u hv;obtain⟨cs,rfl,h1⟩:=hv.agg_inv;exact .agg (by rw[<- hl];exact h1.1) fun i x y hx hy=>by
   obtain⟨x',hx'⟩:∃x',(_:List PV)[i]?=some x':=⟨_,zAA9 (by rw[hl];exact(zAC9.1 hx).1)⟩
   exact ih i _ _ hx' hx (h1.2 i _ _ hx' hy)
 | tuple hl _ ih =>
  intro u hv;obtain⟨cs,rfl,h1⟩:=hv.tuple_inv;exact .tuple (by rw[<- hl];exact h1.1) fun i x y hx hy=>by
   obtain⟨x',hx'⟩:∃x',(_:List PV)[i]?=some x':=⟨_,zAA9 (by rw[hl];exact(zAC9.1 hx).1)⟩
   exact ih i _ _ hx' hx (h1.2 i _ _ hx' hy)
 | @sl id g o n q z e z' G M l m hH hM hG hn hq hm hz hlen _ ih =>
  intro u hv;rcases sl_inv hv with⟨rfl,rfl,rfl,rfl,rfl,hL⟩|⟨b,d,g',s1,rfl,rfl⟩
  ·obtain rfl:=zDU9.1 hm;exact .listnil _ _
  ·obtain⟨rfl,G',M',cells,cs,r1,r2,r3,r4,r5⟩:=zhF k hH s1;have h9:o*z+n*z<=l.length*z:=by rw[<- zCH9];exact zBV9 _ hn
   have h8:=zh8 r4 h9;rw[zBN9]at h8;have h7:=(r5.drop o).take n;subst hm;refine .list (hown _ _ _ _ _ _ _ hH s1) (ziB r1 zo zo h8) hq hz (by rw[<- hlen];exact h7.all.1) fun i x y hx hy=>?_;obtain⟨x',hx'⟩:∃x',(((l.drop o).take m.length).flatMap PV.cells)[i]?=some x':=⟨_,zAA9 (by rw[hlen];exact(zAC9.1 hx).1)⟩
   exact ih i _ _ hx' hx (h7.all.2 i _ _ hx' hy)
 | @ptr id g i o n w cs hw hn hcs _ ih =>
  intro u hv;obtain⟨b,d,z,g',s1,rfl,rfl⟩:=zeO hv;obtain⟨s2,s3⟩:=zrW k hw s1;obtain⟨ds,s4,s5⟩:=s3 o n (by rw[<- s2];exact hn);have hll:((w.cells.drop o).take n).length=n:=by simp;omega
  subst hcs;obtain⟨e0,z0,G0,M0,l0,hH⟩:=zw3 hw;refine .elem (hown _ _ _ _ _ _ _ hH s1) s4 (by rw[<- s5.1,hll]) fun j x y hx hy=>?_;obtain⟨x',hx'⟩:∃x',((w.cells.drop o).take cs.length)[j]?=some x':=⟨_,zAA9 (by rw[hll];exact(zAC9.1 hx).1)⟩
  exact ih j _ _ hx' hx (s5.2 j _ _ hx' hy)
theorem Frz.ok {B:Ba}{c:Cx}{H:List zd}{h:TH}(k:HR B c H h){lab:Nat}{S:zeF}(hS:∀p b,c.S p b->S p b)(hown:∀id x,c.ρ id=some x->S lab x.1){v w:PV}(f:Frz H lab v w):∀{u:TV},VR c h v u->PR S h w u:=f.ok' k hS fun id x _ _ _ _ _ _ h=>hown id x h
def LF (H:List zd)(lab:Nat):List PV->List PV->Prop
 | [],[]=>True
 | x::l,y::m=>Frz H lab x y/\LF H lab l m
 | _,_=>False
theorem LF.ok {B:Ba}{c:Cx}{H:List zd}{h:TH}(k:HR B c H h){lab:Nat}{S:zeF}(hS:∀p b,c.S p b->S p b)(hown:∀id x,c.ρ id=some x->S lab x.1):∀{l m:List PV} {us:List TV},LF H lab l m->LR (VR c h) l us->LR (PR S h) m us
 | [],[],us,_,hl=>by obtain rfl:=hl.of_nil;exact LR.nil
 | x::l,y::m,us,f,hl=>by
  obtain⟨u,us',rfl,h1,h2⟩:=hl.of_cons;exact LR.cons (f.1.ok k hS hown h1) (LF.ok k hS hown f.2 h2)
 | [],_::_,us,f,_=>f.elim
 | _::_,[],us,f,_=>f.elim
theorem LF.len {H:List zd}{lab:Nat}:∀{l m:List PV},LF H lab l m->l.length=m.length
 | [],[],_=>rfl
 | x::l,y::m,f=>by rw[zAG9,zAG9,LF.len f.2]
 | [],_::_,f=>f.elim
 | _::_,[],f=>f.elim
theorem LF.at {H:List zd}{lab:Nat}:∀{l m:List PV},LF H lab l m->∀(i:Nat) (x y:PV),l[i]?=some x->m[i]?=some y->Frz H lab x y
 | [],[],_,i,x,y,hx,_=>by simp at hx
 | x::l,y::m,f,0,a,b,hx,hy=>by simp at hx hy;subst hx;subst hy;exact f.1
 | x::l,y::m,f,i+1,a,b,hx,hy=>LF.at f.2 i a b (by simpa using hx) (by simpa using hy)
 | [],_::_,f,_,_,_,_,_=>f.elim
 | _::_,[],f,_,_,_,_,_=>f.elim
theorem Frz.aggL {H:List zd}{lab:Nat}{vs ws:List PV}(f:LF H lab vs ws):Frz H lab (.agg vs) (.agg ws):=.agg f.len f.at
theorem Frz.tupL {H:List zd}{lab:Nat}{vs ws:List PV}(f:LF H lab vs ws):Frz H lab (.tuple vs) (.tuple ws):=.tuple f.len f.at
theorem Frz.fnL {H:List zd}{lab:Nat}{f:Nat}{vs ws:List PV}(k:LF H lab vs ws):Frz H lab (.fn f vs) (.fn f ws):=.fn k.len k.at
inductive Lb:PV->Prop
 | bool (b:Bool):Lb (.bool b)
 | int (k:IntKind) (n:Int):Lb (.int k n)
 | str (s:List Nat):Lb (.str s)
 | nilptr:Lb .nilptr
 | nilsl:Lb .nilsl
 | nilmap:Lb .nilmap
 | nilfn:Lb .nilfn
 | niliface:Lb .niliface
 | list {z:Nat} {l:List PV}:(∀x∈l.flatMap PV.cells,Lb x)->Lb (.list 0 z l)
 | iface {t:Nat} {v:PV}:Lb v->Lb (.iface t v)
 | fn {f:Nat} {l:List PV}:(∀x∈l,Lb x)->Lb (.fn f l)
 | agg {l:List PV}:(∀x∈l,Lb x)->Lb (.agg l)
 | tuple {l:List PV}:(∀x∈l,Lb x)->Lb (.tuple l)
theorem Lb.ok {S S':zeF}{h:TH}(hS:∀b,S 0 b->S' 0 b){v:PV}{u:TV}(k:PR S h v u):Lb v->PR S' h v u:=by
 induction k with
 | bool b=>intro _;exact .bool b
 | int k n=>intro _;exact .int k n
 | str s=>intro _;exact .str s
 | nilptr=>intro _;exact .nilptr
 | nilsl=>intro _;exact .nilsl
 | nilmap=>intro _;exact .nilmap
 | nilfn=>intro _;exact .nilfn
 | niliface=>intro _;exact .niliface
 | iface _ ih=>intro hl;cases hl with|iface hl=>exact .iface (ih hl)
 | listnil p z=>intro _;exact .listnil p z
 | list h1 h2 h3 h4 h5 _ ih=>intro hl;cases hl with|list hl=>exact .list (hS _ h1) h2 h3 h4 h5 fun i x y hx hy=>ih i x y hx hy (hl x (zAJ9 hx))
 | elem h1 h2 h3 _ ih=>intro hl;cases hl
 | fn h1 _ ih=>intro hl;cases hl with|fn hl=>exact .fn h1 fun i x y hx hy=>ih i x y hx hy (hl x (zAJ9 hx))
 | agg h1 _ ih=>intro hl;cases hl with|agg hl=>exact .agg h1 fun i x y hx hy=>ih i x y hx hy (hl x (zAJ9 hx))
 | tuple h1 _ ih=>intro hl;cases hl with|tuple hl=>exact .tuple h1 fun i x y hx hy=>ih i x y hx hy (hl x (zAJ9 hx))
end Fv
end Go.Proofs.YtkeknmgnoceogaaGreat
