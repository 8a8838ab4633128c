/- part 2 of the proof of tree_reads. -/
import Derived.Test.YtfomlmhnmheenaaGreatTR1
import Derived.ScopeJumps
import Derived.LoopNIn
set_option linter.unusedSimpArgs false
set_option linter.unusedVariables false
namespace Go.Proofs.YtfomlmhnmheenaaGreat
open Go.RowKit
namespace Tw
variable {P:Program}{ρ ρ':Rho}{Z:Nat}{h h':TH}{w:World}
theorem zob (f:Nat->Nat):∀(l:List Edge) (s j:Nat),(l.foldl (fun s e=>if Region.binds .any e then Nat.lor (Nat.lor s (2 ^ e.on)) (f e.on)else s) s).testBit j=true↔s.testBit j=true\/∃e∈l,Region.binds .any e=true/\(j=e.on\/(f e.on).testBit j=true)
 | [],s,j=>by simp
 | e::l,s,j=>by
  rw[List.foldl_cons,zob f l]
  by_cases hb:Region.binds .any e=true
  ·rw[if_pos hb];have:(Nat.lor (Nat.lor s (2 ^ e.on)) (f e.on)).testBit j=(s.testBit j||decide (e.on=j)||(f e.on).testBit j):=by
    change ((s ||| 2 ^ e.on) ||| f e.on).testBit j=_;rw[Nat.testBit_or,Nat.testBit_or,Nat.testBit_two_pow]
   rw[this];simp only[zEM9,decide_eq_true_eq,zAX9]
   constructor
   ·rintro (((h|h)|h)|⟨e',h1,h2⟩)
    ·exact .inl h
    ·exact .inr ⟨e,.inl rfl,hb,.inl h.symm⟩
    ·exact .inr ⟨e,.inl rfl,hb,.inr h⟩
    ·exact .inr ⟨e',.inr h1,h2⟩
   ·rintro (h|⟨e',h1,h2,h3⟩)
    ·exact .inl (.inl (.inl h))
    ·rcases h1 with rfl|h1
     ·rcases h3 with h3|h3
      ·exact .inl (.inl (.inr h3.symm))
      ·exact .inl (.inr h3)
     ·exact .inr ⟨e',h1,h2,h3⟩
  ·rw[if_neg hb];simp only[zAX9]
   constructor
   ·rintro (h|⟨e',h1,h2⟩)
    ·exact .inl h
    ·exact .inr ⟨e',.inr h1,h2⟩
   ·rintro (h|⟨e',h1,h2,h3⟩)
    ·exact .inl h
    ·rcases h1 with rfl|h1
     ·exact absurd h2 hb
     ·exact .inr ⟨e',h1,h2,h3⟩
theorem zg3:∀{l:List Oper} {i:Nat},zj6 l i=true->∀k o,l[k]?=some o->∀e∈o.after,Region.binds .any e=true->e.on<i+k
 | [],i,_,k,o,h,_,_,_=>by simp at h
 | o::l,i,hb,k,o',h,e,he,hbd=>by
  simp only[zj6,zAR9]at hb
  cases k with
  | zero =>
   simp at h;subst h;have:=Array.all_eq_true_iff_forall_mem.1 hb.1 e he;simp[hbd]at this;simpa using this
  | succ k =>
   have:=zg3 hb.2 k o' (by simpa using h) e he hbd;omega
theorem zn2:∀(l:List Oper) (acc:List Nat),zj6 l acc.length=true->(zcm l acc).length=acc.length+l.length/\(∀i,i<acc.length->(zcm l acc).getD i 0=acc.reverse.getD i 0) /\
  ∀k o,l[k]?=some o->∀j,((zcm l acc).getD (acc.length+k) 0).testBit j=true↔∃e∈o.after.toList,Region.binds .any e=true/\(j=e.on\/((zcm l acc).getD e.on 0).testBit j=true)
 | [],acc,_=>⟨by simp[zcm],fun i _=>rfl,fun k o h=>by simp at h⟩
 | o::l,acc,hb=>by
  have hb':=hb;simp only[zj6,zAR9]at hb;have hrec:zcm (o::l) acc=zcm l (o.after.toList.foldl (fun s e=>if Region.binds .any e then Nat.lor (Nat.lor s (2 ^ e.on)) (acc.reverse.getD e.on 0)else s) 0::acc):=rfl;generalize hm:o.after.toList.foldl (fun s e=>if Region.binds .any e then Nat.lor (Nat.lor s (2 ^ e.on)) (acc.reverse.getD e.on 0)else s) 0=m at hrec;obtain⟨h1,h2,h3⟩:=zn2 l (m::acc) (by simpa using hb.2);rw[hrec];simp only[zAE9]at h1 h2 h3;have hold:∀i,i<acc.length->(zcm l (m::acc)).getD i 0=acc.reverse.getD i 0:=fun i hi=>by
   rw[h2 i (by omega)];simp only[zER9,zAQ9];rw[zAW9 (by simpa using hi)]
  refine⟨by simp only[zAE9];omega,hold,fun k o' ho j=>?_⟩
  cases k with
  | zero =>
   simp at ho;subst ho;have hself:(zcm l (m::acc)).getD (acc.length+0) 0=m:=by
    rw[h2 _ (by omega)];simp[zAQ9]
   rw[hself];have key:=zob (fun i=>acc.reverse.getD i 0) o.after.toList 0 j;rw[hm]at key;refine key.trans ?_;simp only[Nat.zero_testBit,zCW9,false_or]
   constructor
   ·rintro ⟨e,a1,a2,a3⟩;have:=zg3 hb' 0 o rfl e (by simpa using a1) a2;exact⟨e,a1,a2,by rw[hold _ (by omega)];exact a3⟩
   ·rintro ⟨e,a1,a2,a3⟩;have:=zg3 hb' 0 o rfl e (by simpa using a1) a2;exact⟨e,a1,a2,by rw[hold _ (by omega)]at a3;exact a3⟩
  | succ k =>
   have:=h3 k o' (by simpa using ho) j;rw[show acc.length+(k+1)=acc.length+1+k by omega];exact this
theorem zlr:∀(os:List zY) (ms:List Nat) (i:Nat),os.length=ms.length->∀k x,(zfH os ms i)[k]?=some x↔(x.i=i+k/\os[k]?=some x.o/\ms[k]?=some x.m)
 | [],[],i,_,k,x=>by simp[zfH]
 | o::os,m::ms,i,hl,k,x=>by
  simp only[zfH]
  cases k with
  | zero =>
   simp only[zFI9,Option.some.injEq]
   constructor
   ·rintro rfl;exact⟨rfl,rfl,rfl⟩
   ·rintro ⟨a,b,c⟩;cases x;simp_all
  | succ k =>
   simp only[zAY9];rw[zlr os ms (i+1) (by simpa using hl) k x]
   constructor
   ·rintro ⟨a,b⟩;exact⟨by omega,b⟩
   ·rintro ⟨a,b⟩;exact⟨by omega,b⟩
 | [],_::_,i,hl,_,_=>by simp at hl
 | _::_,[],i,hl,_,_=>by simp at hl
structure Reg (P:Program)(N:Nat)(ops:Array Oper)(all acts:List Item):Prop where
 item:∀i o,ops[i]?=some o->∃x∈all,x.i=i
 op:∀x∈all,∃o,ops[x.i]?=some o/\OpR P N ops o x.o
 uniq:∀x∈all,∀y∈all,x.i=y.i->x=y
 back:∀x∈all,∀o,ops[x.i]?=some o->∀e∈o.after,Region.binds .any e=true->e.on<x.i
 bits:∀x∈all,∀o,ops[x.i]?=some o->∀j,x.m.testBit j=true↔∃e∈o.after,Region.binds .any e=true/\(j=e.on\/∃y∈all,y.i=e.on/\y.m.testBit j=true)
 ac:acts=all.filter fun x=>x.o.kind.cls==2
 row:zjc acts=true
 tmps:zjY all=true
theorem Reg.lt {N:Nat}{ops:Array Oper}{all acts:List Item}(R:Reg P N ops all acts){x:Item}(hx:x∈all):x.i<ops.size:=by
 obtain⟨o,ho,_⟩:=R.op x hx;exact(zBW9.1 ho).1
theorem ztY {N:Nat}{ops:Array Oper}{os:List zY}(hos:zct (zkf P N ops) ops.toList=some os){c:zbl}(hc:zmn ops.toList os=some c) :
  ∃all acts,Reg P N ops all acts/\c=.drawn (zef all acts 0 acts) (all.filterMap fun x=>x.o.dst):=by
 unfold zmn at hc;dsimp only at hc
 split at hc
 ·rename_i hcond;injection hc with hc;simp only[zAR9]at hcond;obtain⟨⟨h1,h2⟩,h3⟩:=hcond;obtain⟨m1,m2⟩:=zh8 hos;obtain⟨r1,_,r3⟩:=zn2 ops.toList [] h1;simp only[zAH9,zAN9]at r1 r3;have hlen:os.length=(zcm ops.toList []).length:=by rw[r1,m1]
  have get:=zlr os (zcm ops.toList []) 0 hlen;have mem:∀x,x∈zfH os (zcm ops.toList []) 0↔os[x.i]?=some x.o/\(zcm ops.toList [])[x.i]?=some x.m:=fun x=>by
   rw[zDO9]
   constructor
   ·rintro ⟨k,hk⟩;obtain⟨a,b,c⟩:=(get k x).1 hk;simp only[zAN9]at a;rw[a];exact⟨b,c⟩
   ·rintro ⟨b,c⟩;exact⟨x.i,(get x.i x).2 ⟨by simp,b,c⟩⟩
  have ex:∀i,i<ops.size->∃x∈zfH os (zcm ops.toList []) 0,x.i=i/\x.m=(zcm ops.toList []).getD i 0:=fun i hi=>by
   have h1:i<os.length:=by rw[m1];simpa using hi
   have h2:i<(zcm ops.toList []).length:=by rw[<- hlen];exact h1
   exact⟨⟨i,os[i],(zcm ops.toList [])[i]⟩,(mem _).2 ⟨zAB9 h1,zAB9 h2⟩,rfl,by simp[zAQ9,zAB9 h2]⟩
  have md:∀x∈zfH os (zcm ops.toList []) 0,x.m=(zcm ops.toList []).getD x.i 0:=fun x hx=>by
   rw[zAQ9,((mem x).1 hx).2];rfl
  refine⟨zfH os (zcm ops.toList []) 0,_,⟨fun i o ho=>?_,fun x hx=>?_,fun x hx y hy e=>?_,fun x hx o ho e he hb=>?_,fun x hx o ho j=>?_,rfl,h2,h3⟩,hc.symm⟩
  ·obtain⟨x,hx,e,_⟩:=ex i (zBW9.1 ho).1;exact⟨x,hx,e⟩
  ·obtain⟨a,b⟩:=(mem x).1 hx;have hi:x.i<ops.size:=by have:=(zAD9.1 a).1;rw[m1]at this;simpa using this
   exact⟨ops[x.i],zCL9 hi,zpC (m2 x.i ops[x.i] x.o (by simp[hi]) a)⟩
  ·obtain⟨a,b⟩:=(mem x).1 hx;obtain⟨c,d⟩:=(mem y).1 hy;rw[e,c]at a;rw[e,d]at b;injection a with a;injection b with b;obtain⟨xi,xo,xm⟩:=x;obtain⟨yi,yo,ym⟩:=y
   simp_all
  ·have:=zg3 h1 x.i o (by simpa using ho) e he hb;omega
  ·rw[md x hx,r3 x.i o (by simpa using ho) j]
   constructor
   ·rintro ⟨e,a1,a2,a3⟩;have a1':e∈o.after:=by simpa using a1
    refine⟨e,a1',a2,?_⟩;rcases a3 with a3|a3
    ·exact .inl a3
    ·have hlt:=zg3 h1 x.i o (by simpa using ho) e a1' a2;have hx':=(zBW9.1 ho).1;obtain⟨y,hy,e1,e2⟩:=ex e.on (by omega);exact .inr ⟨y,hy,e1,by rw[e2];exact a3⟩
   ·rintro ⟨e,a1,a2,a3⟩;refine⟨e,by simpa using a1,a2,?_⟩;rcases a3 with a3|⟨y,hy,e1,a3⟩
    ·exact .inl a3
    ·rw[md y hy,e1]at a3;exact .inr a3
 ·cases hc
def zgl (all:List Item)(D:Array Bool):Prop:=∀x∈all,D.getD x.i true=true->∀j,x.m.testBit j=true->D.getD j true=true
theorem zr6 {D:Array Bool}{i:Nat}(h:D.getD i false=true):D.getD i true=true:=by
 simp only[zCR9]at *
 cases hD:D[i]? with
 | none=>rfl
 | some b=>rw[hD]at h;exact h
theorem zsH {N:Nat}{ops:Array Oper}{all acts:List Item}(R:Reg P N ops all acts){D:Array Bool}(hc:zgl all D){x:Item}(hx:x∈all)(hr:x.i∈Region.ready .any ops D):D.getD x.i true=false/\∀j,x.m.testBit j=true->D.getD j true=true:=by
 obtain⟨h0,o,ho,hall⟩:=mem_ready.1 hr;refine⟨h0,fun j hj=>?_⟩;obtain⟨e,he,hb,hor⟩:=(R.bits x hx o ho j).1 hj;rcases hor with rfl|⟨y,hy,e1,hyj⟩
 ·exact zr6 (hall e he hb)
 ·exact hc y hy (by rw[e1];exact zr6 (hall e he hb)) j hyj
theorem zn9 {N:Nat}{ops:Array Oper}{all acts:List Item}(R:Reg P N ops all acts){D:Array Bool}(hs:D.size=ops.size)(hr:Region.ready .any ops D=[]):∀i,i<ops.size->D.getD i true=true:=by
 intro i
 induction i using Nat.strongRecOn with
 | _ i ih =>
  intro hi
  cases hd:D.getD i true with
  | true=>rfl
  | false =>
   exfalso
   obtain⟨x,hx,e⟩:=R.item i ops[i] (zCL9 hi);have:i∈Region.ready .any ops D:=mem_ready.2 ⟨hd,ops[i],zCL9 hi,fun ed hed hb=>by
    have hlt:=R.back x hx ops[i] (by rw[e];exact zCL9 hi) ed hed hb;rw[e]at hlt;have h1:=ih ed.on hlt (by omega);simp only[zCR9]at *
    rw[zCL9 (by omega)]at *
    exact h1⟩
   rw[hr]at this
   cases this
theorem zdd (D:Array Bool)(i j:Nat)(hi:i<D.size):(D.setIfInBounds i true).getD j true=if j=i then true else D.getD j true:=by
 simp only[zCR9]
 by_cases h:j=i
 ·subst h;rw[if_pos rfl];simp[hi]
 ·rw[if_neg h,zDR9 (fun e=>h e.symm)]
theorem zgl.set {all:List Item}{D:Array Bool}(hc:zgl all D){N:Nat}{ops:Array Oper}{acts:List Item}(R:Reg P N ops all acts){x:Item}(hx:x∈all)(hi:x.i<D.size)(hm:∀j,x.m.testBit j=true->D.getD j true=true):zgl all (D.setIfInBounds x.i true):=by
 intro y hy hd j hj;rw[zdd _ _ _ hi]at hd⊢
 split
 ·rfl
 ·split at hd
  ·rename_i e;rw[R.uniq y hy x hx e]at hj;exact hm j hj
  ·exact hc y hy hd j hj
theorem zhB {D:Array Bool}{i:Nat}(h:D.getD i true=false):0<D.toList.count false/\i<D.size:=by
 simp only[zCR9]at h
 cases hD:D[i]? with
 | none=>rw[hD]at h;cases h
 | some b =>
  rw[hD]at h;simp only[zEU9]at h;subst h;have:=zBW9.1 hD;obtain⟨h1,h2⟩:=this;exact⟨List.count_pos_iff.2 (by rw[<- h2];exact Array.getElem_mem_toList h1),h1⟩
theorem count_set {D:Array Bool}{i:Nat}(h:D.getD i true=false):(D.setIfInBounds i true).toList.count false+1=D.toList.count false:=by
 obtain⟨hp,hi⟩:=zhB h;have hx:D[i]=false:=by simpa[zCR9,zCL9 hi]using h
 rw[zEV9,List.count_set (by simpa using hi)];have h1:(D.toList[i]'(by simpa using hi)==false)=true:=by simp[hx]
 rw[h1];simp only[if_true];have h2:(true==false)=false:=rfl;rw[h2];simp only[zCW9,if_false];omega
theorem zjG:∀{l:List Item} {a x:Item},zjc (a::l)=true->x∈l->∃p∈a::l,x.m.testBit p.i=true
 | [],a,x,_,hx=>by simp at hx
 | b::l,a,x,hr,hx=>by
  simp only[zjc,zAR9]at hr;rcases zAX9.1 hx with rfl|hx
  ·exact⟨a,zAV9,hr.1⟩
  ·obtain⟨p,hp,e⟩:=zjG hr.2 hx;exact⟨p,zAT9 _ hp,e⟩
theorem zjy:∀(pre:List Item) {l:List Item},zjc (pre++l)=true->zjc l=true
 | [],l,h=>h
 | a::pre,l,h=>by
  refine zjy pre ?_
  cases hp:pre++l with
  | nil=>rfl
  | cons b m =>
   rw[zAI9,hp]at h;simp only[zjc,zAR9]at h;exact h.2
theorem zrT {pre l:List Item}{x:Item}(h:∀a∈l,x.m.testBit a.i=false):zeO (pre++l) x<=pre.length:=by
 unfold zeO;rw[List.filter_append,zAC9];have:l.filter (fun a=>x.m.testBit a.i)=[]:=List.filter_eq_nil_iff.2 fun a ha=>by rw[h a ha];simp
 rw[this];have:=zFP9 (fun a:Item=>x.m.testBit a.i) pre;simpa using this
theorem zuI {all:List Item}(h:zjY all=true){x:Item}(hx:x∈all)(h2:x.o.kind.cls≠2):∃d,x.o.dst=some d:=by
 have:=zBI9.1 h x hx;simp only[zAR9]at this
 cases hd:x.o.dst with
 | some d=>exact⟨d,rfl⟩
 | none=>have h1:=this.1.1;rw[hd]at h1;simp at h1;exact absurd h1 h2
theorem zqd {all:List Item}(h:zjY all=true){x y:Item}(hx:x∈all)(hy:y∈all)(hne:y.i≠x.i){d:Nat}(hd:x.o.dst=some d):y.o.dst≠some d:=by
 have:=zBI9.1 h x hx;simp only[zAR9]at this;have h1:=this.1.1;rw[hd]at h1;have:=zBI9.1 h1 y hy;simp[hne]at this;exact this
theorem zpD {all:List Item}(h:zjY all=true){x:Item}(hx:x∈all):x.o.args.all zg2=true/\∀p b,x.o.guard=some (p,b)->zg2 p=true:=by
 have:=zBI9.1 h x hx;simp only[zAR9]at this;refine⟨this.1.2.1,fun p b hg=>?_⟩;have h1:=this.1.2.2;rw[hg]at h1;exact h1
theorem zrk {all:List Item}(h:zjY all=true){x y:Item}(hx:x∈all)(hy:y∈all){t:Nat}(ht:t∈zjh x.o)(hd:y.o.dst=some t):x.m.testBit y.i=true\/y.m.testBit x.i=true:=by
 have:=zBI9.1 h x hx;simp only[zAR9]at this;have:=zBI9.1 (zBI9.1 this.2 t ht) y hy;simpa[hd]using this
structure ziq (all:List Item)(D:Array Bool)(ρ:Rho)(tm nm:Tr TV)(tmps:Array Value):Prop where
 old:∀t v,tm.get t=some v->(∀y∈all,D.getD y.i true=true->y.o.dst≠some t)->∃v',tmps[t]?=some v'/\VR ρ v v'
 new:∀y∈all,D.getD y.i true=true->∀d,y.o.dst=some d->∃v v',nm.get d=some v/\tmps[d]?=some v'/\VR ρ v v'
theorem ziq.look {N:Nat}{ops:Array Oper}{all acts:List Item}(R:Reg P N ops all acts){D:Array Bool}(hc:zgl all D){tm nm:Tr TV}{tmps:Array Value}(k:ziq all D ρ tm nm tmps){x:Item}(hx:x∈all)(hu:D.getD x.i true=false)(hm:∀j,x.m.testBit j=true->D.getD j true=true) :
  ∃tx,TmR ρ tx tmps/\zdw tx x.o.args=zc1 tm nm (zcA all x).args/\zkS tx x.o.guard=zd3 tm nm (zcA all x).guard:=by
 obtain⟨tx,h1,h2⟩:=zlZ (zlG all x tm nm) (zjh x.o);obtain⟨n1,n2⟩:=zpD R.tmps hx;refine⟨tx,fun t v hv=>?_,zkG n1 fun y hy t ht=>h1 t ?_,zsn n2 fun p b t hg ht=>h1 t ?_⟩
 ·obtain⟨ht,hs⟩:=h2 t v hv;simp only[zlG,zk3]at hs
  split at hs
  ·rename_i hany;obtain⟨y,hy,hyt⟩:=List.any_eq_true.1 hany;simp only[zAR9,beq_iff_eq]at hyt;obtain⟨v1,v',a1,a2,a3⟩:=k.new y hy (hm _ hyt.2) t hyt.1;simp only[zfA]at hs;rw[hs]at a1;injection a1 with a1;subst a1;exact⟨v',a2,a3⟩
  ·rename_i hany;refine k.old t v hs fun y hy hd hdst=>?_;rcases zrk R.tmps hx hy ht hdst with e|e
   ·exact hany (List.any_eq_true.2 ⟨y,hy,by simp[hdst,e]⟩)
   ·have:=hc y hy hd _ e;rw[hu]at this;cases this
 ·unfold zjh;exact zEN9.2 ⟨y,zEE9 _ hy,ht⟩
 ·unfold zjh;rw[hg];exact zEN9.2 ⟨p,zDP9 _ (by simp),ht⟩
theorem ziq.step {N:Nat}{ops:Array Oper}{all acts:List Item}(R:Reg P N ops all acts){D:Array Bool}{tm nm nm':Tr TV}{a:Act}(k:ziq all D ρ tm nm a.tmps)(hρ:∀b g loc,ρ b g=some loc->ρ' b g=some loc)(hnm:nm.sub nm'){x:Item}(hx:x∈all)(hi:x.i<D.size){v':Value}
  (hv:∀d,x.o.dst=some d->d<a.tmps.size/\∃v,nm'.get d=some v/\VR ρ' v v'):ziq all (D.setIfInBounds x.i true) ρ' tm nm' (a.put x.o.dst v').tmps:=by
 have put:∀t,x.o.dst≠some t->(a.put x.o.dst v').tmps[t]?=a.tmps[t]?:=fun t ht=>by
  cases hd:x.o.dst with
  | none=>rfl
  | some d =>
   simp only[Act.put];rw[zDR9 (fun e=>ht (by rw[hd,e]))]
 refine⟨fun t v hv' hno=>?_,fun y hy hd d hdst=>?_⟩
 ·obtain⟨u,h1,h2⟩:=k.old t v hv' fun y hy hd=>hno y hy (by rw[zdd _ _ _ hi];split;rfl;exact hd);exact⟨u,by rw[put t (hno x hx (by rw[zdd _ _ _ hi,if_pos rfl]))];exact h1,h2.mono hρ⟩
 ·rw[zdd _ _ _ hi]at hd
  by_cases e:y.i=x.i
  ·have:=R.uniq y hy x hx e;subst this;obtain⟨h1,v,h2,h3⟩:=hv d hdst;exact⟨v,v',h2,by rw[hdst];simp[Act.put,h1],h3⟩
  ·rw[if_neg e]at hd;obtain⟨v,u,h1,h2,h3⟩:=k.new y hy hd d hdst;exact⟨v,u,hnm _ _ h1,by rw[put d (zqd R.tmps hy hx (fun h=>e h.symm) hdst)];exact h2,h3.mono hρ⟩
def zeH (all:List Item)(tm:Tr TV)(ρ:Rho)(m n:Nat)(nm:Tr TV)(x:Item):Prop :=
 ∃b d u,zd3 tm nm (zcA all x).guard=some b/\x.o.dst=some d/\nm.get d=some u/\(b=false->u=.tuple []) /\
  (b=true->∃vs,zc1 tm nm (zcA all x).args=some vs/\(x.o.kind.cls=1->∃c,zdL u=some c/\m<=c/\c<n/\∀g,ρ c g=none))
def zhW (all:List Item)(tm nm:Tr TV)(h:TH)(x:Item):Prop:=zd3 tm nm (zcA all x).guard=some true->∀vs d u,zc1 tm nm (zcA all x).args=some vs->x.o.dst=some d->nm.get d=some u ->
 (x.o.kind.cls=0->pas x.o.kind vs h=some u)/\(x.o.kind.cls=1->∀c,zdL u=some c->∃z y,lay x.o.kind vs c=some z/\z.v=u/\h.get c=some y/\OEq z.o y)
def Dis (G:Item->Prop)(nm:Tr TV):Prop:=∀x x' d d' u u' c,G x->G x'->x.o.kind.cls=1->x'.o.kind.cls=1->x.o.dst=some d->x'.o.dst=some d'->d≠d'->nm.get d=some u->nm.get d'=some u'->zdL u=some c->zdL u'=some c->False
theorem zeH.mono {all:List Item}{tm nm nm':Tr TV}{m n n':Nat}{x:Item}(k:zeH all tm ρ m n nm x)(hnm:nm.sub nm')(hn:n<=n')(hρ:∀c,c<n->(∀g,ρ c g=none)->∀g,ρ' c g=none):zeH all tm ρ' m n' nm' x:=by
 obtain⟨b,d,u,h1,h2,h3,h4,h5⟩:=k;refine⟨b,d,u,zeB hnm h1,h2,hnm _ _ h3,h4,fun hb=>?_⟩;obtain⟨vs,a1,a2⟩:=h5 hb;refine⟨vs,zdA hnm a1,fun hc=>?_⟩;obtain⟨c,c1,c0,c2,c3⟩:=a2 hc;exact⟨c,c1,c0,by omega,hρ c c2 c3⟩
theorem zhW.mono {all:List Item}{tm nm nm':Tr TV}{m n:Nat}{x:Item}(k:zeH all tm ρ m n nm x)(s:zhW all tm nm h x)(hnm:nm.sub nm')(hh:h.sub h'):zhW all tm nm' h' x:=by
 obtain⟨b,d,u,h1,h2,h3,h4,h5⟩:=k;intro hw vs d' u' hv hd hu;have h1':=zeB hnm h1;rw[hw]at h1';injection h1' with e;subst e;obtain⟨vs',a1,_⟩:=h5 rfl;have a1':=zdA hnm a1;rw[hv]at a1';injection a1' with e;subst e;rw[hd]at h2;injection h2 with e;subst e;have h3':=hnm _ _ h3;rw[hu]at h3';injection h3' with e;subst e;obtain⟨s1,s2⟩:=s h1 vs _ _ a1 hd h3;refine⟨fun h0=>zu8 hh (s1 h0),fun hc c hb=>?_⟩;obtain⟨z,y,z1,z2,z3,z4⟩:=s2 hc c hb;exact⟨z,y,z1,z2,hh _ _ z3,z4⟩
theorem Dis.mono {G:Item->Prop}{all:List Item}{tm nm nm':Tr TV}{m n:Nat}(k:Dis G nm)(hk:∀x,G x->zeH all tm ρ m n nm x)(hnm:nm.sub nm'):Dis G nm':=by
 intro x x' d d' u u' c g g' k1 k1' hd hd' hne hu hu' hb hb';obtain⟨_,d0,u0,_,h2,h3,_⟩:=hk x g;obtain⟨_,d0',u0',_,h2',h3',_⟩:=hk x' g';rw[hd]at h2;injection h2 with e;subst e;rw[hd']at h2';injection h2' with e;subst e;have e:=hnm _ _ h3;rw[hu]at e;injection e with e;subst e;have e:=hnm _ _ h3';rw[hu']at e;injection e with e;subst e;exact k x x' _ _ _ _ c g g' k1 k1' hd hd' hne h3 h3' hb hb'
theorem Dis.sub {G G':Item->Prop}{nm:Tr TV}(k:Dis G nm)(hg:∀x,G' x->G x):Dis G' nm:=fun x x' d d' u u' c g g'=>k x x' d d' u u' c (hg _ g) (hg _ g')
theorem zmq {tm:Tr TV}{s:DS}:∀{l:List zY},zfM tm s l=true->∀o∈l,zge tm s o=true
 | [],_,o,ho=>by simp at ho
 | a::l,h,o,ho=>by
  unfold zfM at h;obtain⟨h1,h2⟩:=bnd h;rcases zAX9.1 ho with rfl|ho
  ·exact h1
  ·exact zmq h2 o ho
theorem zvS {all:List Item}{tm:Tr TV}{s:DS}{x:Item}(h:zge tm s (zcA all x)=true):zhW all tm s.nm s.h x:=by
 intro hw vs d u hv hd hu;unfold zge at h;rw[hw]at h;dsimp only at h;unfold zoN at h;rw[show (zcA all x).dst=some d from hd]at h;dsimp only at h;rw[hv]at h;dsimp only at h;rw[hu]at h;unfold zoP at h;dsimp only at h;change (match x.o.kind.cls with|0=>zoQ s.h x.o.kind vs u|1=>zoS s.h x.o.kind vs u|_=>false)=true at h;refine⟨fun h0=>?_,fun h1 c hc=>?_⟩
 ·simp only[h0]at h;unfold zoQ at h
  split at h
  ·rename_i v hp;rw[hp,TV.beq_sound _ _ _ h]
  ·cases h
 ·simp only[h1]at h;unfold zoS at h;rw[hc]at h;dsimp only at h
  split at h
  ·rename_i z hz
   split at h
   ·rename_i y hy;obtain⟨e1,e2⟩:=bnd h;exact⟨z,y,hz,TV.beq_sound _ _ _ e1,hy,zsU e2⟩
   ·cases h
  ·cases h
theorem zni {all:List Item}{tm:Tr TV}{s s2:DS}{x:Item}{m:Nat}(hm:m<=s.h.next)(h2:x.o.kind.cls≠2){d:Nat}(hd:x.o.dst=some d)(he:zja tm (zcA all x) s=some s2)(hwr:WR P Z ρ s.h w) :
  s2.df=s.df/\s.nm.sub s2.nm/\s.nm.get d=none/\s.h.sub s2.h/\s.h.next<=s2.h.next/\WR P Z ρ s2.h w/\zeH all tm ρ m s2.h.next s2.nm x/\zhW all tm s2.nm s2.h x/\∀u c,s2.nm.get d=some u->x.o.kind.cls=1->zdL u=some c->c=s.h.next:=by
 unfold zja at he
 split at he
 ·cases he
 ·rename_i hw;obtain⟨nm,e1,rfl⟩:=zgN he;rw[show (zcA all x).dst=some d from hd]at e1;obtain⟨a1,a2,a3⟩:=zgO e1;obtain⟨b1,b2⟩:=a2 d rfl;refine⟨rfl,a1,b1,.refl _,zAM9 _,hwr,⟨false,d,_,zeB a1 hw,hd,b2,fun _=>rfl,fun h=>by cases h⟩,fun hw'=>?_,fun u c hu _ hb=>?_⟩
  ·have:=zeB a1 hw;dsimp only at hw';rw[hw']at this;cases this
  ·dsimp only at hu;rw[b2]at hu;injection hu with hu;subst hu;cases hb
 ·rename_i hw;unfold zpI at he
  split at he
  ·cases he
  ·rename_i vs hv;change (match x.o.kind.cls with|0=>zvB s x.o.dst (pas x.o.kind vs s.h)|1=>zvT s x.o.dst (lay x.o.kind vs s.h.next)|_=>none)=some s2 at he
   by_cases h0:x.o.kind.cls=0
   ·rw[h0]at he
    cases hp:pas x.o.kind vs s.h with
    | none=>rw[hp]at he;cases he
    | some v =>
     rw[hp]at he;obtain⟨nm,e1,rfl⟩:=zgN he;rw[hd]at e1;obtain⟨a1,a2,a3⟩:=zgO e1;obtain⟨b1,b2⟩:=a2 d rfl;refine⟨rfl,a1,b1,.refl _,zAM9 _,hwr,⟨true,d,v,zeB a1 hw,hd,b2,(fun h=>by cases h),fun _=>⟨vs,zdA a1 hv,fun h=>by rw[h0]at h;cases h⟩⟩,fun _ vs' d' u' hv' hd' hu'=>?_,fun u c _ hc=>by rw[h0]at hc;cases hc⟩;have e:=zdA a1 hv;dsimp only at hv' hu';rw[hv']at e;injection e with e;subst e;rw[hd]at hd';injection hd' with e;subst e;rw[b2]at hu';injection hu' with e;subst e;exact⟨fun _=>hp,fun h=>by rw[h0]at h;cases h⟩
   ·by_cases h1:x.o.kind.cls=1
    ·rw[h1]at he
     cases hp:lay x.o.kind vs s.h.next with
     | none=>rw[hp]at he;cases he
     | some z =>
      rw[hp]at he;obtain⟨nm,e1,rfl⟩:=zgN he;rw[hd]at e1;obtain⟨a1,a2,a3⟩:=zgO e1;obtain⟨b1,b2⟩:=a2 d rfl;have hbl:=zun hp;refine⟨rfl,a1,b1,TH.sub_push _ _,by dsimp only;rw[TH.next_push];omega,hwr.push _,⟨true,d,z.v,zeB a1 hw,hd,b2,(fun h=>by cases h),fun _=>⟨vs,zdA a1 hv,fun _=>⟨s.h.next,hbl,hm,by dsimp only;rw[TH.next_push];omega,fun g=>?_⟩⟩⟩,fun _ vs' d' u' hv' hd' hu'=>?_,fun u c hu _ hb=>?_⟩
      ·cases hg:ρ s.h.next g with
       | none=>rfl
       | some loc=>have:=(hwr.dom _ _ _ hg).1;omega
      ·have e:=zdA a1 hv;dsimp only at hv' hu';rw[hv']at e;injection e with e;subst e;rw[hd]at hd';injection hd' with e;subst e;rw[b2]at hu';injection hu' with e;subst e;refine⟨fun h=>(by rw[h1]at h;cases h),fun _ c hc=>?_⟩;rw[hbl]at hc;injection hc with hc;subst hc;exact⟨z,z.o,hp,rfl,by dsimp only;rw[TH.get_push,if_pos rfl],.refl _ (zwe hp)⟩
      ·dsimp only at hu;rw[b2]at hu;injection hu with hu;subst hu;rw[hbl]at hb;injection hb with hb;exact hb.symm
    ·exact absurd (zvr h0 h1) h2
theorem zeJ {all:List Item}{tm:Tr TV}{m:Nat}:∀(L:List Item) (G:Item->Prop) (s s2:DS),m<=s.h.next->(∀x∈L,x.o.kind.cls≠2/\∃d,x.o.dst=some d)->zhR tm (L.map (zcA all)) s=some s2->WR P Z ρ s.h w->(∀x,G x->zeH all tm ρ m s.h.next s.nm x/\zhW all tm s.nm s.h x)->Dis G s.nm ->
  s2.df=s.df/\s.nm.sub s2.nm/\s.h.next<=s2.h.next/\WR P Z ρ s2.h w/\(∀x,G x\/x∈L->zeH all tm ρ m s2.h.next s2.nm x/\zhW all tm s2.nm s2.h x)/\Dis (fun x=>G x\/x∈L) s2.nm
 | [],G,s,s2,_,_,he,hwr,hK,hD=>by
  simp only[zBX9,zhR]at he;injection he with he;subst he;exact⟨rfl,.refl _,zAM9 _,hwr,fun x hx=>hK x (by simpa using hx),hD.sub fun x hx=>by simpa using hx⟩
 | x::L,G,s,s2,hm,hL,he,hwr,hK,hD=>by
  simp only[zCH9,zhR]at he
  cases h1:zja tm (zcA all x) s with
  | none=>rw[h1]at he;cases he
  | some s1 =>
   rw[h1]at he;dsimp only at he;obtain⟨hx2,d,hd⟩:=hL x zAV9;obtain⟨e1,e2,e3,e4,e5,e6,e7,e8,e9⟩:=zni hm hx2 hd h1 hwr;have hK1:∀y,G y\/y=x->zeH all tm ρ m s1.h.next s1.nm y/\zhW all tm s1.nm s1.h y:=fun y hy=>by
    rcases hy with hy|rfl
    ·obtain⟨k1,k2⟩:=hK y hy;exact⟨k1.mono e2 e5 fun c _ hn=>hn,k2.mono k1 e2 e4⟩
    ·exact⟨e7,e8⟩
   have new:∀y d' u u' c,G y->y.o.kind.cls=1->y.o.dst=some d'->x.o.kind.cls=1->s1.nm.get d=some u->s1.nm.get d'=some u'->zdL u=some c->zdL u'=some c->False:=fun y d' u u' c gy hy hdy hx hu hu' hb hb'=>by
    have hc:=e9 u c hu hx hb;obtain⟨b,d0,u0,k1,k2,k3,k4,k5⟩:=(hK y gy).1;rw[hdy]at k2;injection k2 with e;subst e;have e:=e2 _ _ k3;rw[hu']at e;injection e with e;subst e
    cases b with
    | false=>rw[k4 rfl]at hb';cases hb'
    | true =>
     obtain⟨vs,_,a2⟩:=k5 rfl;obtain⟨c',c1,_,c2,_⟩:=a2 hy;rw[hb']at c1;injection c1 with c1;omega
   have hD1:Dis (fun y=>G y\/y=x) s1.nm:=by
    intro y y' d0 d1 u u' c g g' k1 k1' hd0 hd1 hne hu hu' hb hb';rcases g with g|rfl
    ·rcases g' with g'|rfl
     ·exact hD.mono (fun z hz=>(hK z hz).1) e2 y y' d0 d1 u u' c g g' k1 k1' hd0 hd1 hne hu hu' hb hb'
     ·rw[hd]at hd1;injection hd1 with e;subst e;exact new y d0 u' u c g k1 hd0 k1' hu' hu hb' hb
    ·rcases g' with g'|rfl
     ·rw[hd]at hd0;injection hd0 with e;subst e;exact new y' d1 u u' c g' k1' hd1 k1 hu hu' hb hb'
     ·rw[hd0]at hd1;injection hd1 with e;exact hne e
   obtain⟨f1,f2,f3,f4,f5,f6⟩:=zeJ L _ s1 s2 (zBN9 hm e5) (fun y hy=>hL y (zAT9 _ hy)) he e6 hK1 hD1;refine⟨f1.trans e1,e2.trans f2,zBN9 e5 f3,f4,fun y hy=>f5 y ?_,f6.sub fun y hy=>?_⟩
   ·rcases hy with hy|hy
    ·exact .inl (.inl hy)
    ·rcases zAX9.1 hy with rfl|hy
     ·exact .inl (.inr rfl)
     ·exact .inr hy
   ·rcases hy with hy|hy
    ·exact .inl (.inl hy)
    ·rcases zAX9.1 hy with rfl|hy
     ·exact .inl (.inr rfl)
     ·exact .inr hy
def zln (C:zbt)(ca:Tr Unit)(tm:Tr TV)(all acts:List Item)(j:Nat):List Item->DS->Option DR
 | [],s=>some (.go s)
 | a::l,s=>match zi3 C ca tm (zcA all a) s with
  | some (.go s)=>zcy C ca tm (zef all acts (j+1) l) s
  | r=>r
theorem zuy {C:zbt}{ca:Tr Unit}{tm:Tr TV}{all acts:List Item}{j:Nat}{l:List Item}{s:DS}{R:DR}(h:zcy C ca tm (zef all acts j l) s=some R):zfM tm s (zv9 all acts j)=true/\∃s2,zhR tm (zpd all acts j) s=some s2/\zln C ca tm all acts j l s2=some R:=by
 cases l with
 | nil =>
  simp only[zef,zcy]at h;obtain⟨h1,h2⟩:=zI h;refine⟨h1,?_⟩
  cases he:zhR tm (zpd all acts j) s with
  | none=>rw[he]at h2;cases h2
  | some s2=>rw[he]at h2;exact⟨s2,rfl,h2⟩
 | cons a l =>
  simp only[zef,zcy]at h;obtain⟨h1,h2⟩:=zI h;refine⟨h1,?_⟩
  cases he:zhR tm (zpd all acts j) s with
  | none=>rw[he]at h2;cases h2
  | some s2=>rw[he]at h2;exact⟨s2,rfl,h2⟩
def zg1 (all acts:List Item)(D:Array Bool)(j:Nat)(x:Item):Prop:=x∈all/\x.o.kind.cls≠2/\zeO acts x<=j/\D.getD x.i true=false
theorem enter {C:zbt}{ca:Tr Unit}{tm:Tr TV}{N:Nat}{ops:Array Oper}{all acts:List Item}(R:Reg P N ops all acts){D:Array Bool}(hc:zgl all D){pre l:List Item}(hal:acts=pre++l)(hpre:∀a∈pre,D.getD a.i true=true)(hund:∀x∈all,x.o.kind.cls≠2->zeO acts x=pre.length->D.getD x.i true=false)
  {s:DS} {m:Nat} (hms:m<=s.h.next) (hwr:WR P Z ρ s.h w) (hK:∀x∈all,x.o.kind.cls≠2->zeO acts x<pre.length->D.getD x.i true=false->zeH all tm ρ m s.h.next s.nm x)
  (hD:Dis (fun x=>x∈all/\x.o.kind.cls≠2/\zeO acts x<pre.length/\D.getD x.i true=false) s.nm) {r:DR} (hs:zcy C ca tm (zef all acts pre.length l) s=some r) :
  ∃s2,zln C ca tm all acts pre.length l s2=some r/\s2.df=s.df/\s.nm.sub s2.nm/\s.h.next<=s2.h.next/\WR P Z ρ s2.h w/\(∀x,zg1 all acts D pre.length x->zeH all tm ρ m s2.h.next s2.nm x/\zhW all tm s2.nm s2.h x)/\Dis (zg1 all acts D pre.length) s2.nm:=by
 obtain⟨h1,s2,h2,h3⟩:=zuy hs;have hsame:=zmq h1;obtain⟨f1,f2,f3,f4,f5,f6⟩:=zeJ _ (fun x=>x∈all/\x.o.kind.cls≠2/\zeO acts x<pre.length/\D.getD x.i true=false) s s2 hms (fun x hx=>by
   obtain⟨m1,m2⟩:=zCY9.1 hx;simp only[zAR9,bne_iff_ne]at m2;exact⟨m2.1,zuI R.tmps m1 m2.1⟩) h2 hwr (fun x ⟨g1,g2,g3,g4⟩=>⟨hK x g1 g2 g3 g4,zvS (hsame _ (zAP9.2 ⟨x,zCY9.2 ⟨g1,by
    simp only[zAR9,bne_iff_ne,decide_eq_true_eq];refine⟨⟨g2,g3⟩,zBI9.2 fun a ha=>?_⟩;have ha':a∈pre:=by rw[hal]at ha;simpa using ha
    have haa:a∈all:=by
     have:a∈acts:=by rw[hal];exact zEE9 _ ha'
     rw[R.ac]at this;exact(zCY9.1 this).1
    cases hb:a.m.testBit x.i with
    | false=>rfl
    | true=>have:=hc a haa (hpre a ha') x.i hb;rw[g4]at this;cases this⟩,rfl⟩))⟩) hD
 have hsub:∀x,zg1 all acts D pre.length x->(x∈all/\x.o.kind.cls≠2/\zeO acts x<pre.length/\D.getD x.i true=false)\/x∈all.filter fun x=>x.o.kind.cls != 2&&zeO acts x==pre.length:=fun x ⟨g1,g2,g3,g4⟩=>by
  by_cases e:zeO acts x=pre.length
  ·exact .inr (zCY9.2 ⟨g1,by simp[g2,e]⟩)
  ·exact .inl ⟨g1,g2,by omega,g4⟩
 exact⟨s2,h3,f1,f2,f3,f4,fun x hx=>f5 x (hsub x hx),f6.sub hsub⟩
theorem zos {nm:Tr TV}:∀(ds:List Nat) (tm:Tr TV) (t:Nat) v,(zir nm ds tm).get t=some v->(t∈ds/\nm.get t=some v)\/(t ∉ ds/\tm.get t=some v)
 | [],tm,t,v,h=>.inr ⟨by simp,h⟩
 | d::ds,tm,t,v,h=>by
  simp only[zir]at h;rcases zos ds _ t v h with⟨h1,h2⟩|⟨h1,h2⟩
  ·exact .inl ⟨zAT9 _ h1,h2⟩
  ·rw[Tr.get_set]at h2
   split at h2
   ·rename_i e;subst e;exact .inl ⟨zAV9,h2⟩
   ·rename_i e;exact .inr ⟨by simp[e,h1],h2⟩
theorem zkz:∀(ds:List Nat) (tm:Tr TV) (t:Nat) v,(zfS ds tm).get t=some v->t ∉ ds/\tm.get t=some v
 | [],tm,t,v,h=>⟨by simp,h⟩
 | d::ds,tm,t,v,h=>by
  simp only[zfS]at h;obtain⟨h1,h2⟩:=zkz ds _ t v h;rw[Tr.get_set]at h2
  split at h2
  ·cases h2
  ·rename_i e;exact⟨by simp[e,h1],h2⟩
section
variable {C:zbt}{rnd:Option Nat}{ca:Tr Unit}{N:Nat}{ops:Array Oper}{all acts:List Item}{tm:Tr TV}{h0:TH}{w0:World}{ρ0:Rho}
structure Inv (P:Program)(Z:Nat)(C:zbt)(ca:Tr Unit)(N:Nat)(ops:Array Oper)(all acts:List Item)(tm:Tr TV)(ρ0:Rho)(h0:TH)(w0:World)(r:DR)(D:Array Bool)(a:Act)(w:World)(ρ:Rho)(pre l:List Item)(s:DS):Prop where
 size:D.size=ops.size
 ac:acts=pre++l
 done:∀y∈pre,D.getD y.i true=true
 und:∀y∈l,D.getD y.i true=false
 closed:zgl all D
 wr:WR P Z ρ s.h w
 df:DfR ρ ca s.df a.defers
 hZ:Z<=w.heap.size
 sz:N<=a.tmps.size
 le:Rho.le h0.next ρ0 ρ
 bel:Below Z w0 w
 nx:h0.next<=s.h.next
 slots:ziq all D ρ tm s.nm a.tmps
 told:∀x,zg1 all acts D pre.length x->zeH all tm ρ h0.next s.h.next s.nm x/\zhW all tm s.nm s.h x
 dis:Dis (zg1 all acts D pre.length) s.nm
 tail:zln C ca tm all acts pre.length l s=some r
theorem Inv.fin (R:Reg P N ops all acts){r:DR}{D:Array Bool}{a:Act}{pre l:List Item}{s:DS}(k:Inv P Z C ca N ops all acts tm ρ0 h0 w0 r D a w ρ pre l s)(hall:∀i,i<ops.size->D.getD i true=true){x:TX}{s':St}
  (hx:zjD (all.filterMap fun x=>x.o.dst) tm (some r)=some (x,s')):CR P Z ρ0 N ca h0 w0 x s' .normal a w:=by
 have hl:l=[]:=by
  cases l with
  | nil=>rfl
  | cons y l =>
   have h1:=k.und y zAV9;have hy:y∈all:=by
    have:y∈acts:=by rw[k.ac];simp
    rw[R.ac]at this;exact(zCY9.1 this).1
   rw[hall _ (R.lt hy)]at h1;cases h1
 have ht:=k.tail;subst hl;simp only[zln]at ht;injection ht with ht;subst ht;simp only[zjD]at hx;injection hx with hx;injection hx with h1 h2;subst h1;subst h2;refine⟨ρ,k.le,k.bel,k.nx,rfl,k.wr,fun t v hv=>?_,k.sz,k.df,k.hZ⟩;rcases zos _ _ t v hv with⟨h1,h2⟩|⟨h1,h2⟩
 ·obtain⟨y,hy,hd⟩:=zEN9.1 h1;obtain⟨u,v',a1,a2,a3⟩:=k.slots.new y hy (hall _ (R.lt hy)) t hd;rw[h2]at a1;injection a1 with a1;subst a1;exact⟨v',a2,a3⟩
 ·exact k.slots.old t v h2 fun y hy _ hd=>h1 (zEN9.2 ⟨y,hy,hd⟩)
theorem zg1.unset {D:Array Bool}{x y:Item}{j:Nat}(hi:x.i<D.size)(h:zg1 all acts (D.setIfInBounds x.i true) j y):zg1 all acts D j y/\y.i≠x.i:=by
 obtain⟨h1,h2,h3,h4⟩:=h;rw[zdd _ _ _ hi]at h4
 split at h4
 ·cases h4
 ·rename_i e;exact⟨⟨h1,h2,h3,h4⟩,e⟩
theorem Inv.next (R:Reg P N ops all acts){r:DR}{D:Array Bool}{a:Act}{pre l:List Item}{s:DS}(k:Inv P Z C ca N ops all acts tm ρ0 h0 w0 r D a w ρ pre l s){x:Item}(hx:x∈all)(hx2:x.o.kind.cls≠2)(hu:D.getD x.i true=false)(hm:∀j,x.m.testBit j=true->D.getD j true=true)
  {d:Nat} (hd:x.o.dst=some d) (hdN:d<N) {u:TV} (hud:s.nm.get d=some u) {v':Value} {w':World} {ρ':Rho} (hle:Rho.le h0.next ρ ρ') (hv:VR ρ' u v') (hwr:WR P Z ρ' s.h w') (hb:Below Z w w')
  (hnone:∀y,zg1 all acts D pre.length y->y.i≠x.i->zeH all tm ρ' h0.next s.h.next s.nm y):Inv P Z C ca N ops all acts tm ρ0 h0 w0 r (D.setIfInBounds x.i true) (a.put x.o.dst v') w' ρ' pre l s:=by
 have hi:=(zhB hu).2;refine⟨by rw[Array.size_setIfInBounds];exact k.size,k.ac,fun y hy=>?_,fun y hy=>?_,k.closed.set R hx hi hm,hwr,by rw[zhF];exact k.df.mono hle.more,zBN9 k.hZ hb.size,by rw[zbO];exact k.sz,k.le.trans hle (zAM9 _),k.bel.trans hb,k.nx,
  k.slots.step R hle.more (.refl _) hx hi fun d' hd'=>?_,fun y hy=>?_,k.dis.sub fun y hy=>(hy.unset hi).1,k.tail⟩
 ·rw[zdd _ _ _ hi];split
  ·rfl
  ·exact k.done y hy
 ·have hne:y.i≠x.i:=fun e=>by
   have hya:y∈all.filter fun x=>x.o.kind.cls==2:=by rw[<- R.ac,k.ac];exact zDP9 _ hy
   obtain⟨h1,h2⟩:=zCY9.1 hya;rw[R.uniq y h1 x hx e]at h2;exact hx2 (by simpa using h2)
  rw[zdd _ _ _ hi,if_neg hne];exact k.und y hy
 ·rw[hd]at hd';injection hd' with e;subst e;exact⟨zBE9 hdN k.sz,u,hud,hv⟩
 ·obtain⟨h1,h2⟩:=hy.unset hi;exact⟨hnone y h1 h2,(k.told y h1).2⟩
theorem Inv.acted (R:Reg P N ops all acts){r:DR}{D:Array Bool}{a:Act}{pre l:List Item}{s:DS}{x:Item}(k:Inv P Z C ca N ops all acts tm ρ0 h0 w0 r D a w ρ pre (x::l) s)(hm:∀j,x.m.testBit j=true->D.getD j true=true)
  {s1:DS} {a':Act} (hat:a'.tmps=a.tmps) (hs:zcy C ca tm (zef all acts (pre.length+1) l) s1=some r) {v':Value} {w':World} {ρ':Rho} (hle:Rho.le s.h.next ρ ρ') (hwr:WR P Z ρ' s1.h w') (hb:Below Z w w') (hnx:s.h.next<=s1.h.next) (hnm:s.nm.sub s1.nm)
  (hdf:DfR ρ' ca s1.df a'.defers) (hdst:∀d,x.o.dst=some d->d<N/\∃v,s1.nm.get d=some v/\VR ρ' v v'):∃s2,Inv P Z C ca N ops all acts tm ρ0 h0 w0 r (D.setIfInBounds x.i true) (a'.put x.o.dst v') w' ρ' (pre++[x]) l s2:=by
 have hu:=k.und x zAV9;have hi:=(zhB hu).2;have hxa:x∈all.filter fun x=>x.o.kind.cls==2:=by rw[<- R.ac,k.ac];simp
 obtain⟨hx,hx2⟩:=zCY9.1 hxa;have hx2:x.o.kind.cls=2:=by simpa using hx2
 have hc:=k.closed.set R hx hi hm;have hal:acts=(pre++[x])++l:=by rw[k.ac];simp
 have hdone:∀y∈pre++[x],(D.setIfInBounds x.i true).getD y.i true=true:=fun y hy=>by
  rw[zdd _ _ _ hi];split
  ·rfl
  ·rename_i e;rcases zBF9.1 hy with hy|hy
   ·exact k.done y hy
   ·simp at hy;subst hy;exact absurd rfl e
 have hund:∀y∈all,y.o.kind.cls≠2->zeO acts y=(pre++[x]).length->(D.setIfInBounds x.i true).getD y.i true=false:=fun y hy hy2 hlow=>by
  rw[zdd _ _ _ hi]
  split
  ·rename_i e;rw[R.uniq y hy x hx e]at hy2;exact absurd hx2 hy2
  ·cases hd:D.getD y.i true with
   | false=>rfl
   | true =>
    exfalso
    have h1:zeO acts y<=pre.length:=by
     rw[k.ac];refine zrT fun z hz=>?_
     cases hb:y.m.testBit z.i with
     | false=>rfl
     | true=>have h2:=k.closed y hy hd _ hb;rw[k.und z hz]at h2;cases h2
    rw[hlow]at h1;simp at h1;omega
 have conv:∀y,y∈all->y.o.kind.cls≠2->zeO acts y<(pre++[x]).length->(D.setIfInBounds x.i true).getD y.i true=false->zg1 all acts D pre.length y:=fun y h1 h2 h3 h4=>by
  rw[zdd _ _ _ hi]at h4
  split at h4
  ·cases h4
  ·exact⟨h1,h2,by simp at h3;omega,h4⟩
 have hlen:(pre++[x]).length=pre.length+1:=by simp
 rw[<- hlen]at hs;obtain⟨s2,t1,t2,t3,t4,t5,t6,t7⟩:=enter (w:=w') R hc hal hdone hund (zBN9 k.nx hnx) hwr (fun y h1 h2 h3 h4=>((k.told y (conv y h1 h2 h3 h4)).1).mono hnm hnx hle.none) ((k.dis.mono (fun y hy=>(k.told y hy).1) hnm).sub fun y ⟨h1,h2,h3,h4⟩=>conv y h1 h2 h3 h4) hs;refine⟨s2,by rw[Array.size_setIfInBounds];exact k.size,hal,hdone,fun y hy=>?_,hc,t5,by rw[t2,zhF];exact hdf,zBN9 k.hZ hb.size,by rw[zbO,hat];exact k.sz,k.le.trans hle k.nx,k.bel.trans hb,zBN9 k.nx (zBN9 hnx t4),?_,t6,t7,t1⟩
 ·have hne:y.i≠x.i:=fun e=>by
   have hya:y∈all.filter fun x=>x.o.kind.cls==2:=by rw[<- R.ac,k.ac];simp[hy]
   have hyx:=R.uniq y (zCY9.1 hya).1 x hx e;have hrow:=R.row;rw[k.ac]at hrow;obtain⟨p,hp,hpe⟩:=zjG (zjy pre hrow) hy;rw[hyx]at hpe;have:=hm _ hpe;rw[k.und p hp]at this;cases this
  rw[zdd _ _ _ hi,if_neg hne];exact k.und y (zAT9 _ hy)
 ·refine ziq.step R (a:=a') (by rw[hat];exact k.slots) hle.more (hnm.trans t3) hx hi fun d hd=>?_;obtain⟨h1,v,h2,h3⟩:=hdst d hd;exact⟨by rw[hat];exact zBE9 h1 k.sz,v,t3 _ _ h2,h3⟩
theorem ztS (hC:zfF P C)(hR:zhb P C)(hrnd:rnd=none\/∀f,ca.get f=none)(R:Reg P N ops all acts){r:DR}{x:TX}{s':St}(hx:zjD (all.filterMap fun x=>x.o.dst) tm (some r)=some (x,s')) :
  ∀(n:Nat) (D:Array Bool) (a:Act) (w:World) (ρ:Rho) (pre l:List Item) (s:DS),D.toList.count false<=n->Inv P Z C ca N ops all acts tm ρ0 h0 w0 r D a w ρ pre l s->wpAnyIn (Fr rnd) 0 P .any ops (CR P Z ρ0 N ca h0 w0 x s') n D a w:=by
 intro n
 induction n with
 | zero =>
  intro D a w ρ pre l s hn k;have hr:Region.ready .any ops D=[]:=by
   cases hr:Region.ready .any ops D with
   | nil=>rfl
   | cons i m =>
    have h1:i∈Region.ready .any ops D:=by rw[hr];exact zAV9
    have:=(zhB (mem_ready.1 h1).1).1;omega
  exact⟨hr,k.fin R (zn9 R k.size hr) hx⟩
 | succ n ih =>
  intro D a w ρ pre l s hn k;refine⟨fun hr=>k.fin R (zn9 R k.size hr) hx,fun i hi=>?_⟩;obtain⟨hu0,o,ho,_⟩:=mem_ready.1 hi;obtain⟨y,hy,e⟩:=R.item i o ho;subst e;obtain⟨hu,hm⟩:=zsH R k.closed hy hi;have hcnt:(D.setIfInBounds y.i true).toList.count false<=n:=by have:=count_set hu;omega
  obtain⟨o',ho',ko⟩:=R.op y hy;rw[ho]at ho';injection ho' with e;subst e;obtain⟨tx,x1,x2,x3⟩:=k.slots.look R k.closed hy hu hm;unfold wpOpIn;rw[ho];dsimp only;have hwant:∀b,zd3 tm s.nm (zcA all y).guard=some b->Region.wanted o (yielded ops a.tmps)=b:=fun b hb=>zeA ko x1 (by rw[x3];exact hb)
  by_cases hy2:y.o.kind.cls=2
  ·-- one that acts
   have hya:y∈acts:=by rw[R.ac];exact zCY9.2 ⟨hy,by simp[hy2]⟩
   have hyl:y∈l:=by
    rw[k.ac]at hya;rcases zBF9.1 hya with h1|h1
    ·rw[k.done y h1]at hu;cases hu
    ·exact h1
   cases l with
   | nil=>cases hyl
   | cons z l =>
    have hyz:y=z:=by
     rcases zAX9.1 hyl with h1|h1
     ·exact h1
     ·have hrow:=R.row;rw[k.ac]at hrow;obtain⟨p,hp,hpe⟩:=zjG (zjy pre hrow) h1;have:=hm _ hpe;rw[k.und p hp]at this;cases this
    subst hyz;have htail:=k.tail;simp only[zln]at htail
    cases h1:zi3 C ca tm (zcA all y) s with
    | none=>rw[h1]at htail;cases htail
    | some r1 =>
     rw[h1]at htail;unfold zi3 at h1
     split at h1
     ·cases h1
     ·rename_i hw;rw[hwant _ hw];simp only[zCW9,if_false];refine⟨fun _ _=>trivial,?_⟩
      cases hp:dput s.df s.h (zft s.nm (zcA all y).dst (.tuple []))with
      | none=>rw[hp]at h1;cases h1
      | some s1 =>
       rw[hp]at h1;simp only[dgo]at h1;injection h1 with h1;subst h1;obtain⟨nm,e1,rfl⟩:=zgN hp;obtain⟨a1,a2,a3⟩:=zgO e1;rw[<- ko.dst];obtain⟨s2,k2⟩:=k.acted R hm rfl htail (.refl _ _) k.wr (.refl _ _) (zAM9 _) a1 k.df (v':=undef) fun d hd=>⟨ko.lt d hd,_,(a2 d hd).2,VR.undef ρ⟩
       exact ih _ _ _ _ _ _ _ hcnt k2
     ·rename_i hw;rw[hwant _ hw];simp only[if_true]
      split at h1
      ·cases h1
      ·rename_i vs hv
       cases hact:act C ca y.o.kind vs s.h with
       | none=>rw[show (zcA all y).kind=y.o.kind from rfl,hact]at h1;cases h1
       | some tr =>
        rw[show (zcA all y).kind=y.o.kind from rfl,hact]at h1;refine zrX hC hR hrnd k.wr k.hZ x1 k.df ko (x2.trans hv) hy2 hact (fun v h' e v' w' ρ' hle hwr hb hvr hnx=>?_) (fun v h' e v' w' ρ' hle hwr hb hvr hnx=>?_) (fun d e d' hdf=>?_)
        ·subst e;simp only[ziU]at h1
         cases hp:dput s.df h' (zft s.nm (zcA all y).dst v)with
         | none=>rw[hp]at h1;cases h1
         | some s1 =>
          rw[hp]at h1;simp only[dgo]at h1;injection h1 with h1;subst h1;obtain⟨nm,e1,rfl⟩:=zgN hp;obtain⟨a1,a2,a3⟩:=zgO e1;rw[<- ko.dst];obtain⟨s2,k2⟩:=k.acted R hm rfl htail hle hwr hb hnx a1 (k.df.mono hle.more) (v':=v') fun d hd=>⟨ko.lt d hd,_,(a2 d hd).2,hvr⟩
          exact ih _ _ _ _ _ _ _ hcnt k2
        ·subst e;simp only[ziU]at h1;injection h1 with h1;subst h1;dsimp only at htail;injection htail with htail;subst htail;simp only[zjD]at hx;injection hx with hx;injection hx with h1 h2;subst h1;subst h2;refine⟨ρ',k.le.trans hle k.nx,k.bel.trans hb,zBN9 k.nx hnx,⟨v',rfl,hvr⟩,hwr,fun t u hu=>?_,k.sz,k.df.mono hle.more,zBN9 k.hZ hb.size⟩;obtain⟨g1,g2⟩:=zkz _ _ t u hu;obtain⟨u',b1,b2⟩:=k.slots.old t u g2 fun z hz _ hd=>g1 (zEN9.2 ⟨z,hz,hd⟩);exact⟨u',b1,b2.mono hle.more⟩
        ·subst e;simp only[ziU]at h1
         cases hp:dput (d::s.df) s.h (zft s.nm (zcA all y).dst (.tuple []))with
         | none=>rw[hp]at h1;cases h1
         | some s1 =>
          rw[hp]at h1;simp only[dgo]at h1;injection h1 with h1;subst h1;obtain⟨nm,e1,rfl⟩:=zgN hp;obtain⟨a1,a2,a3⟩:=zgO e1;rw[<- ko.dst];obtain⟨s2,k2⟩:=k.acted R (a':={ a with defers:=d'::a.defers }) hm rfl htail (.refl _ _) k.wr (.refl _ _) (zAM9 _) a1 hdf (v':=undef) fun d hd=>⟨ko.lt d hd,_,(a2 d hd).2,VR.undef ρ⟩
          exact ih _ _ _ _ _ _ _ hcnt k2
  ·-- one that does not
   have hlow:zeO acts y<=pre.length:=by
    rw[k.ac];refine zrT fun z hz=>?_
    cases hb:y.m.testBit z.i with
    | false=>rfl
    | true=>have h2:=hm _ hb;rw[k.und z hz]at h2;cases h2
   have hto:zg1 all acts D pre.length y:=⟨hy,hy2,hlow,hu⟩
   obtain⟨⟨b,d,u,g1,g2,g3,g4,g5⟩,hsame⟩:=k.told y hto;rw[hwant _ g1];have hput:∀v',VR ρ u v'->wpAnyIn (Fr rnd) 0 P .any ops (CR P Z ρ0 N ca h0 w0 x s') n (D.setIfInBounds y.i true) (a.put o.dst v') w:=fun v' hv'=>by
    rw[<- ko.dst];exact ih _ _ _ _ _ _ _ hcnt (k.next R hy hy2 hu hm g2 (ko.lt d g2) g3 (.refl _ _) hv' k.wr (.refl _ _) fun z hz _=>(k.told z hz).1)
   cases b with
   | false =>
    simp only[zCW9,if_false];refine⟨fun _ _=>trivial,hput _ ?_⟩;rw[g4 rfl];exact VR.undef ρ
   | true =>
    simp only[if_true];obtain⟨vs,hv,hbl⟩:=g5 rfl;obtain⟨s1,s2⟩:=hsame g1 vs d u hv g2 g3
    by_cases h0':y.o.kind.cls=0
    ·exact zru k.wr x1 ko (x2.trans hv) h0' (s1 h0') hput
    ·have h1':y.o.kind.cls=1:=Decidable.byContradiction fun h1=>hy2 (zvr h0' h1);obtain⟨c,c1,c0,c2,c3⟩:=hbl h1';obtain⟨z,yy,z1,z2,z3,z4⟩:=s2 h1' c c1;have hset:=k.wr.set_none c3 z.o;refine zrz hset k.hZ x1 ko (x2.trans hv) h1' c3 (by rw[TH.next_set];exact c2) z1 (by rw[TH.get_set _ _ _ _ c2,if_pos rfl]) fun v' ob L S q1 q2=>?_;rw[z2]at q2;have hmore:=Rho.add_more (loc:=⟨w.heap.size,L,S⟩) (c3 0);rw[<- ko.dst];refine ih _ _ _ _ _ _ _ hcnt (k.next R hy hy2 hu hm g2 (ko.lt d g2) g3 ⟨hmore,fun b hb hn g=>?_⟩ q2 (q1.unset z3 z4) ((Below.refl Z w).alloc k.hZ ob) fun x' hx' hne=>?_)
     ·rw[Rho.add_ne (by omega)];exact hn g
     ·obtain⟨b',d',u',e1,e2,e3,e4,e5⟩:=(k.told x' hx').1;refine⟨b',d',u',e1,e2,e3,e4,fun hb'=>?_⟩;obtain⟨vs',e6,e7⟩:=e5 hb';refine⟨vs',e6,fun hk=>?_⟩;obtain⟨c',i1,i0,i2,i3⟩:=e7 hk;refine⟨c',i1,i0,i2,fun g=>?_⟩;have hcc:c'≠c:=fun e=>by
       rw[e]at i1;refine k.dis y x' d d' u u' c hto hx' h1' hk g2 e2 (fun ed=>?_) g3 e3 c1 i1;rw[<- ed]at e2;exact zqd R.tmps hy hx'.1 hne g2 e2
      rw[Rho.add_ne hcc];exact i3 g
end
theorem zvj {C:zbt}(hC:zfF P C)(hR:zhb P C){rnd:Option Nat}{ca:Tr Unit}(hrnd:rnd=none\/∀f,ca.get f=none)(hmix:P.follows .mixedOrders=true){N:Nat}{id:Nat}{ops:Array Oper}{os:List zY}(hts:zct (zkf P N ops) ops.toList=some os){c:zbl}(hc:zmn ops.toList os=some c)
  {s:St} {a:Act} (k:StR P Z ρ N ca s a w) {M:Nat} {trnd:Option Nat} {x:TX} {s':St} (hs:zbc C ca M trnd c s=some (x,s')):(Code.region id ops true).wpIn (Fr rnd) 0 P (CR P Z ρ N ca s.h w x s') a w:=by
 obtain⟨all,acts,R,rfl⟩:=ztY hts hc;simp only[zbc]at hs;refine wpIn_region_any hmix ?_
 cases hst:zcy C ca s.tm (zef all acts 0 acts) ⟨.nil,s.df,s.h⟩with
 | none=>rw[hst]at hs;cases hs
 | some r =>
  rw[hst]at hs;have hund:∀x∈all,(Array.replicate ops.size false).getD x.i true=false:=fun x hx=>by
   have:=R.lt hx;simp[zCR9,Array.getElem?_replicate,this]
  have hclosed:zgl all (Array.replicate ops.size false):=fun x hx hd=>by rw[hund x hx]at hd;cases hd
  have hwr:WR P Z ρ s.h w.drew:=k.wr.drew;obtain⟨s2,t1,t2,t3,t4,t5,t6,t7⟩:=enter (C:=C) (ca:=ca) (tm:=s.tm) (pre:=[]) (l:=acts) (w:=w.drew) (s:=⟨.nil,s.df,s.h⟩) (m:=s.h.next) R hclosed rfl (fun a ha=>by cases ha) (fun x hx _ _=>hund x hx) (zAM9 _) hwr (fun x _ _ h=>by simp at h) (fun x x' _ _ _ _ _ g=>by simp at g) hst;have hin:∀y∈acts,y∈all:=fun y hy=>by rw[R.ac]at hy;exact(zCY9.1 hy).1
  refine ztS hC hR hrnd R hs ops.size _ a w.drew ρ [] acts s2 ?_ ⟨(by simp),rfl,fun y hy=>(by cases hy),fun y hy=>hund y (hin y hy),hclosed,t5,(by rw[t2];exact k.df),k.hZ,k.sz,.refl _ _,⟨rfl,rfl,rfl,zAM9 _,fun _ _=>rfl⟩,t4,⟨fun t v hv _=>k.tm t v hv,fun y hy hd=>(by rw[hund y hy]at hd;cases hd)⟩,t6,t7,t1⟩;exact zBN9 (List.count_le_length) (by simp)
section
variable {F:Fence}{n:Nat}{Q:Exit->Act->World->Prop}{a:Act}
theorem zkA {b:Frame}{k:List Go.Item}{cs:List Frame}{c:Code}:step P (lone (b.atR a (.code (.scope c)::k)) cs w)=.next (lone (b.atR a (.code c::.inScope c::k)) cs w) :=
 step_lone_go (by simp[stepG,stepG.exec,Frame.atR])
theorem zoC {b:Frame}{k:List Go.Item}{cs:List Frame}{c:Code}:step P (lone (b.atR a (.inScope c::k)) cs w)=.next (lone (b.atR a k) cs w) :=
 step_lone_go (by simp[stepG,stepG.exec,Frame.atR])
theorem zi7 (id:Nat)(c:Code)(k:List Go.Item):exitTo id (.inScope c::k)=exitTo id k:=by simp[exitTo]
theorem zil {c:Code}(J:Act->World->Prop)(l:Nat)(hf:(∀a w,¬J a w)\/∃rest,findLabel c l=some rest/\∀a w,J a w->rest.wpIn F n P (Exit.noGoto Q) a w)(first:c.wpIn F n P (Exit.jump l J Q) a w):(Code.scope c).wpIn F n P Q a w:=by
 intro b k cs hro hb hr;have h0:(lone (b.atR a (.code (.scope c)::k)) cs w).fenced P F:=fenced_calm hb hr rfl;have tl:∀{e:Exit} {a₁:Act} {w₁:World} {m:Machine},(∀l,e ≠ .goto l)->ArrivesIn (Machine.fenced P F) P m b (.inScope c::k) cs e a₁ w₁->ArrivesIn (Machine.fenced P F) P m b k cs e a₁ w₁:=fun{e a₁ w₁ m} hne harr=>by
  cases e with
  | normal=>exact StepsIn.trans harr (.one (fenced_calm hb hr rfl) zoC)
  | exit id=>exact⟨fun k' hk=>harr.1 k' (by rw[zi7];exact hk),fun hr' hk=>harr.2 hr' (by rw[zi7];exact hk)⟩
  | goto l'=>exact absurd rfl (hne l')
  | ret=>exact harr
  | panic ch=>exact harr
  | outgrown=>exact harr
 obtain⟨e,a₁,w₁,hq,harr⟩:=first b (.inScope c::k) cs hro hb hr
 by_cases hg:∃l',e=.goto l'
 ·obtain⟨l',rfl⟩:=hg;obtain⟨rfl,hJ⟩:=hq;rcases hf with hf|⟨rest,hf,hpass⟩
  ·exact absurd hJ (hf _ _)
  ·have hgo:gotoIn l' (.inScope c::k)=some (.code rest::.inScope c::k):=by simp[gotoIn,hf]
   obtain⟨e₂,a₂,w₂,hq₂,harr₂⟩:=hpass a₁ w₁ hJ b (.inScope c::k) cs hro hb hr;have hne:∀l,e₂ ≠ .goto l:=fun l e=>by subst e;exact hq₂
   refine⟨e₂,a₂,w₂,?_,.of_steps (.head h0 zkA (harr.1 _ hgo)) (tl hne harr₂)⟩
   cases e₂<;>first|exact hq₂|exact absurd rfl (hne _)
 ·have hne:∀l,e ≠ .goto l:=fun l e=>hg ⟨l,e⟩;refine⟨e,a₁,w₁,?_,.of_steps (.one h0 zkA) (tl hne harr)⟩
  cases e<;>first|exact hq|exact absurd rfl (hne _)
end
def Rnd (ρ:Rho):Option Nat->Option Nat->Prop
 | none,none=>True
 | some l,some r=>∃loc,ρ l 0=some loc/\loc.r=r
 | _,_=>False
theorem Rnd.mono (hρ:∀b g loc,ρ b g=some loc->ρ' b g=some loc){t r:Option Nat}(k:Rnd ρ t r):Rnd ρ' t r:=by
 cases t<;>cases r<;>first|exact k|skip
 obtain⟨loc,h1,h2⟩:=k;exact⟨loc,hρ _ _ _ h1,h2⟩
theorem zjr {r:Nat}(hr:Z<=r)(o:Obj):Below Z w (w.putObj r o):=⟨rfl,rfl,rfl,by simp,fun k hk=>World.putObj_heap_other (by omega)⟩
theorem zi0 {l:Nat}{r:Loop}(hl:w.heap[l]?=some (.loop r))(fn:FuncId)(tmps:Array Value)(ps:Array Tmp)(assign body:Code) :
  (Instr.enterLoop fn tmps ps assign body (some l)).run P w=.ok (w.heap.size,[]) (w.alloc (.loop { state:=.ready,pending:=none,fn,tmps,params:=ps,assign,body,defers:=r.defers })):=by
 unfold Instr.enterLoop;simp only[Sem.run_bind,run_getLoop hl,run_newObj_alloc,Result.andThen,Sem.run_pure]
theorem WR.none_at (k:WR P Z ρ h w)(g:Nat):ρ h.next g=none:=by
 cases hg:ρ h.next g with
 | none=>rfl
 | some loc=>have:=(k.dom _ _ _ hg).1;omega
theorem Rho.le_add {n b:Nat}(hb:n<=b)(hn:ρ b 0=none){loc:Loc}:Rho.le n ρ (ρ.add b 0 loc) :=
 ⟨Rho.add_more hn,fun c hc h g=>by rw[Rho.add_ne (by omega)];exact h g⟩
theorem zv1 {N:Nat}{ca:Tr Unit}{trnd rnd:Option Nat}{s:St}{a:Act}(k:StR P Z ρ N ca s a w)(kr:Rnd ρ trnd rnd){x:zwv}(hx:zjB trnd s=some x){ps:Array Tmp}{assign body:Code}{aS bo:zbl}{n m:Nat}(hps:∀p∈ps.toList,p<N)(has:zbZ P N n assign=some aS)(hbo:zbZ P N m body=some bo)(fn:FuncId) :
  ∃lr mark w1 ρ1 loc,(Instr.enterLoop fn a.tmps ps assign body rnd).run P w=.ok (lr,mark) w1/\Rho.le s.h.next ρ ρ1/\ρ1 x.l 0=some loc/\loc.r=lr/\WR P Z ρ1 (x.h.push (.loop .ready .norm s.tm ps.toList aS bo x.d)) w1/\Below Z w w1/\DfR ρ1 ca x.df (mark++a.defers)/\s.h.next<=x.h.next:=by
 cases trnd with
 | none =>
  cases rnd with
  | some r=>exact kr.elim
  | none =>
   simp only[zjB]at hx;injection hx with hx;subst hx;have k1:WR P Z ρ (s.h.push (.dfr false)) w:=k.wr.push _;have hn:=k.wr.none_at
   have k2:=k1.real (x:=.dfr false) (o:=.deferred (some [])) (L:=0) (S:=0) hn (by rw[TH.next_push];omega) k.hZ (by rw[TH.get_push,if_pos rfl]) ⟨_,Rho.add_same _ _ _ _,World.alloc_heap_new _ _⟩;have le1:=Rho.le_add (ρ:=ρ) (loc:=⟨w.heap.size,0,0⟩) (zAM9 s.h.next) (hn 0);have k3:=k2.push (.loop .ready .norm s.tm ps.toList aS bo s.h.next);have hn2:=k2.none_at
   rw[TH.next_push]at hn2;have le2:=Rho.le_add (ρ:=ρ.add s.h.next 0 ⟨w.heap.size,0,0⟩) (loc:=⟨(w.alloc (.deferred (some []))).heap.size,0,0⟩) (Nat.le_succ s.h.next) (hn2 0);have hZ2:Z<=(w.alloc (.deferred (some []))).heap.size:=by have:=k.hZ;simp;omega
   have k4:=k3.real (x:=.loop .ready .norm s.tm ps.toList aS bo s.h.next) (b:=s.h.next+1) (L:=0) (S:=0) (o:=.loop { state:=.ready,pending:=none,fn,tmps:=a.tmps,params:=ps,assign,body,defers:=w.heap.size }) hn2 (by rw[TH.next_push,TH.next_push];omega) hZ2 (by rw[TH.get_push,TH.next_push,if_pos rfl])
    ⟨_,_,⟨w.heap.size,0,0⟩,N,n,m,Rho.add_same _ _ _ _,le2.more _ _ _ (Rho.add_same _ _ _ _),World.alloc_heap_new _ _,rfl,rfl,(k.tm.mono le1.more).mono le2.more,k.sz,rfl,hps,has,hbo,rfl⟩
   refine⟨_,_,_,_,_,run_enterLoop_outer fn a.tmps ps assign body,le1.trans le2 (zAM9 _),Rho.add_same _ _ _ _,by simp,k4,((Below.refl Z w).alloc k.hZ _).trans ((Below.refl Z _).alloc hZ2 _),?_,by dsimp only;rw[TH.next_push];omega⟩;exact .mark (le2.more _ _ _ (Rho.add_same _ _ _ _)) ((k.df.mono le1.more).mono le2.more)
 | some l0 =>
  cases rnd with
  | none=>exact kr.elim
  | some r =>
   obtain⟨loc0,hl0,rfl⟩:=kr;simp only[zjB]at hx;obtain⟨o,ho,hor⟩:=k.wr.obj _ _ _ hl0;rw[ho]at hx;dsimp only at hx
   cases o with
   | loop st pe tm' ps' as' bo' d =>
    simp only[zwl]at hx;injection hx with hx;subst hx;obtain⟨loc1,rec,locd,N',n',m',q1,q2,q3,_,_,_,_,_,_,_,_,q4⟩:=hor;rw[hl0]at q1;injection q1 with q1;subst q1;have hn:=k.wr.none_at
    have k3:=k.wr.push (.loop .ready .norm s.tm ps.toList aS bo d);have le2:=Rho.le_add (ρ:=ρ) (loc:=⟨w.heap.size,0,0⟩) (zAM9 s.h.next) (hn 0);have k4:=k3.real (x:=.loop .ready .norm s.tm ps.toList aS bo d) (b:=s.h.next) (L:=0) (S:=0) (o:=.loop { state:=.ready,pending:=none,fn,tmps:=a.tmps,params:=ps,assign,body,defers:=rec.defers }) hn (by rw[TH.next_push];omega) k.hZ (by rw[TH.get_push,if_pos rfl])
     ⟨_,_,locd,N,n,m,Rho.add_same _ _ _ _,le2.more _ _ _ q2,World.alloc_heap_new _ _,rfl,rfl,k.tm.mono le2.more,k.sz,rfl,hps,has,hbo,q4⟩
    exact⟨_,_,_,_,_,zi0 q3 fn a.tmps ps assign body,le2,Rho.add_same _ _ _ _,rfl,k4,(Below.refl Z w).alloc k.hZ _,k.df.mono le2.more,zAM9 _⟩
   | row=>cases hx
   | map=>cases hx
   | dfr=>cases hx
   | ro=>cases hx
theorem zva {C:zbt}(hC:zfF P C){rnd trnd:Option Nat}{ca:Tr Unit}{N:Nat}{s:St}{a:Act}(k:StR P Z ρ N ca s a w)(kr:Rnd ρ trnd rnd){g:Operand}{gid:Nat}{cap:List TV}(hg:VR ρ (.fn gid cap) (a.eval g)){ps:Array Tmp}{assign body:Code}{aS bo:zbl}{n m:Nat}(hps:∀p∈ps.toList,p<N)(has:zbZ P N n assign=some aS)(hbo:zbZ P N m body=some bo)
  {x:TX} {s':St} (hs:zmx C trnd gid cap ps.toList aS bo s=some (x,s')):(Code.rangeFunc g ps assign body).wpIn (Fr rnd) 0 P (CR P Z ρ N ca s.h w x s') a w:=by
 unfold zmx at hs
 split at hs
 ·cases hs
 ·rename_i st hst
  cases hc:C.fn gid (.yield st.l::cap) (st.h.push (.loop .ready .norm s.tm ps.toList aS bo st.d))with
  | none=>rw[hc]at hs;cases hs
  | some res =>
   obtain⟨te,h1⟩:=res;rw[hc]at hs
   cases te with
   | panic v=>cases hs
   | ret v =>
    simp only[zqb]at hs
    cases ho:h1.get st.l with
    | none=>rw[ho]at hs;cases hs
    | some o =>
     rw[ho]at hs;dsimp only at hs;refine wpIn_rangeFunc fun fn hfn=>?_;obtain⟨lr,mark,w1,ρ1,loc,e1,e2,e3,e4,e5,e6,e7,e8⟩:=zv1 k kr hst hps has hbo fn;subst e4;have hg1:=hg.mono e2.more;generalize hgv:a.eval g=gv at hg1
     cases hg1 with
     | fn hcl hcr =>
      rename_i caps;obtain⟨hent,hcalls⟩:=hC gid _ _ _ h1 hc Z ρ1 w1 (.func (.yield loc.r) #[] #[]::caps) e5 (zBN9 k.hZ e6.size) (.cons (.yield e3) ⟨hcl,hcr⟩);refine⟨loc.r,mark,w1,{ target:=.fn (.func gid) caps.toArray,args:=#[.func (.yield loc.r) #[] #[]] },w1,gid,(.func (.yield loc.r) #[] #[]::caps).toArray,w1,e1,?_,fun _ _=>trivial,?_,fun hd=>by simp[Fr,Fence.wide]at hd,?_⟩
      ·have hy:a.eval (.const (.func (.yield loc.r) #[] #[]))=.func (.yield loc.r) #[] #[]:=rfl;simp[resolve,rangeCall,hgv,Deferred.ofValue,hy]
      ·have:(#[.func (.yield loc.r) #[] #[]]:Array Value)++caps.toArray=(.func (.yield loc.r) #[] #[]::caps).toArray:=by simp
       simp only[invoke,this];exact hent w1
      ·refine CallsIn.mono (zsR.2 hcalls) ?_;rintro e w2 ⟨ρ2,g1,g2,g3,g4,v',rfl,g5⟩;have g1':Rho.le s.h.next ρ ρ2:=e2.trans g1 (by rw[TH.next_push];omega);have hl2:=g1.more _ _ _ e3;obtain⟨o',ho',hor⟩:=g2.obj _ _ _ hl2;rw[ho]at ho';injection ho' with ho';subst ho'
       cases o with
       | row=>cases hs
       | map=>cases hs
       | dfr=>cases hs
       | ro=>cases hs
       | loop st' pe tm' ps' as' bo' d =>
        obtain⟨loc1,rec,locd,N',n',m',q1,q2,q3,q4,q5,q6,q7,q8,q9,q10,q11,q12⟩:=hor;rw[hl2]at q1;injection q1 with q1;subst q1;have hnb:rec.state ≠ .busy:=fun hb=>by rw[q4]at hb;subst hb;cases hs
        have hs':some (pe,(⟨s.tm,st.df,h1.set st.l (.loop .exhausted pe tm' ps' as' bo' d)⟩:St))=some (x,s'):=by
         rw[<- hs]
         cases st'<;>first|rfl|(exact absurd q4 hnb)
        injection hs' with hs';injection hs' with hs1 hs2;subst hs1;subst hs2;have hZo:∀g' loc',ρ2 st.l g'=some loc'->Z<=loc'.r:=fun g' loc' hl'=>g2.own hl' ho (fun cs h=>by cases h);have hdm:=g2.dom _ _ _ hl2;have hZr:=hZo _ _ hl2;have hput:(w2.putObj loc.r (.loop { rec with state:=.exhausted })).heap[loc.r]?=some (.loop { rec with state:=.exhausted }):=World.putObj_heap_same hdm.2.2;have hne:∀c g' l',c≠st.l->ρ2 c g'=some l'->l'.r≠loc.r:=fun c g' l' hc hl' e=>hc (g2.sep _ _ _ _ _ _ hl' hl2 e (by omega));have k2:=g2.change (ρ':=ρ2) (x':=.loop .exhausted pe tm' ps' as' bo' d) (fun _ _ _ h=>h) (fun _ _ _=>rfl) hl2 (w':=w2.putObj loc.r (.loop { rec with state:=.exhausted })) (by simp) (fun c g' l' hc hl'=>World.putObj_heap_other (hne c g' l' hc hl'))
         ⟨loc,_,locd,N',n',m',hl2,q2,hput,rfl,q5,q6,q7,q8,q9,q10,q11,q12⟩ (fun g' l' hl'=>by
          have hd':=g2.dom _ _ _ hl';exact⟨hZo _ _ hl',by simp;exact hd'.2.2⟩) (fun g' l' hl' c g'' l'' hc hl'' e=>hc (g2.sep _ _ _ _ _ _ hl' hl'' e (hZo _ _ hl')).symm)
        have hb2:=zjr (w:=w2) hZr (.loop { rec with state:=.exhausted });have hCR:∀e,XR ρ2 pe e->CR P Z ρ N ca s.h w pe ⟨s.tm,st.df,h1.set st.l (.loop .exhausted pe tm' ps' as' bo' d)⟩ e { a with defers:=mark++a.defers } (w2.putObj loc.r (.loop { rec with state:=.exhausted })):=fun e he =>
         ⟨ρ2,g1',(e6.trans g3).trans hb2,by
          rw[TH.next_set];rw[TH.next_push]at g4;omega,he,k2,k.tm.mono g1'.more,k.sz,e7.mono g1.more,zBN9 k.hZ ((e6.trans g3).trans hb2).size⟩
        refine⟨rec.pending,_,run_endLoop q3 hnb,?_⟩
        suffices hpd:∀pd,pd=rec.pending->(match pd with
         | none=>CR P Z ρ N ca s.h w pe ⟨s.tm,st.df,h1.set st.l (.loop .exhausted pe tm' ps' as' bo' d)⟩ .normal { a with defers:=mark++a.defers } (w2.putObj loc.r (.loop { rec with state:=.exhausted }))
         | some c=>c.wpIn (Fr rnd) 0 P (CR P Z ρ N ca s.h w pe ⟨s.tm,st.df,h1.set st.l (.loop .exhausted pe tm' ps' as' bo' d)⟩) { a with defers:=mark++a.defers } (w2.putObj loc.r (.loop { rec with state:=.exhausted }))) by
         exact hpd _ rfl
        intro pd hpd;rw[<- hpd]at q5
        cases pe with
        | norm =>
         have q5:pd=none:=q5;subst q5;exact hCR _ rfl
        | exit id =>
         have q5:pd=some (.exit id):=q5;subst q5;exact wpIn_exit (hCR _ rfl)
        | goto l =>
         have q5:pd=some (.goto l):=q5;subst q5;exact wpIn_goto (hCR _ rfl)
        | ret =>
         have q5:pd=some .ret:=q5;subst q5;exact wpIn_ret (hCR _ rfl)
        | panic v=>exact q5.elim
theorem CR.refl {N:Nat}{ca:Tr Unit}{s:St}{a:Act}(k:StR P Z ρ N ca s a w){x:TX}{e:Exit}(hx:XR ρ x e):CR P Z ρ N ca s.h w x s e a w:=⟨ρ,.refl _ _,.refl _ _,zAM9 _,hx,k⟩
theorem XR.norm {e:Exit}{x:TX}(hx:XR ρ x e)(h:e=.normal):x=.norm:=by
 cases x<;>simp only[XR]at hx<;>first|rfl|(subst hx;cases h)|(obtain⟨_,e,_⟩:=hx;rw[e]at h;cases h)
theorem XR.goto {e:Exit}{x:TX}{l:Nat}(hx:XR ρ x e)(h:e=.goto l):x=.goto l:=by
 cases x<;>simp only[XR]at hx<;>first|(subst hx;cases h;done)|(obtain⟨_,e,_⟩:=hx;rw[e]at h;cases h;done)|(subst hx;injection h with h;subst h;rfl)
theorem XR.exit {e:Exit}{x:TX}{l:Nat}(hx:XR ρ x e)(h:e=.exit l):x=.exit l:=by
 cases x<;>simp only[XR]at hx<;>first|(subst hx;cases h;done)|(obtain⟨_,e,_⟩:=hx;rw[e]at h;cases h;done)|(subst hx;injection h with h;subst h;rfl)
theorem znh {C:zbt}(hC:zfF P C)(hR:zhb P C)(hmix:P.follows .mixedOrders=true){N M:Nat}{ca:Tr Unit}{rnd trnd:Option Nat}(hrnd:rnd=none\/∀f,ca.get f=none) :
  ∀(n:Nat) (c:Code) (T:zbl),zbZ P N n c=some T->∀(ρ:Rho) (s:St) (a:Act) (w:World) (x:TX) (s':St),Rnd ρ trnd rnd->StR P Z ρ N ca s a w->zbc C ca M trnd T s=some (x,s')->c.wpIn (Fr rnd) 0 P (CR P Z ρ N ca s.h w x s') a w:=by
 intro n
 induction n with
 | zero=>intro c T hT;cases hT
 | succ n ih =>
  intro c T hT ρ s a w x s' hr k hs
  cases c with
  | skip =>
   simp only[zbZ]at hT;injection hT with hT;subst hT;simp only[zbc]at hs;injection hs with hs;injection hs with h1 h2;subst h1;subst h2;exact wpIn_skip (CR.refl k rfl)
  | label l =>
   simp only[zbZ]at hT;injection hT with hT;subst hT;simp only[zbc]at hs;injection hs with hs;injection hs with h1 h2;subst h1;subst h2;exact wpIn_label (CR.refl k rfl)
  | region id ops draw =>
   simp only[zbZ]at hT
   split at hT
   ·cases hT
   ·rename_i os hos
    cases draw with
    | false =>
     simp only[zCW9,if_false]at hT;injection hT with hT;subst hT;exact zuN hC hR hrnd hos k hs
    | true =>
     simp only[if_true]at hT;exact zvj hC hR hrnd hmix hos hT k hs
  | seq c1 c2 =>
   simp only[zbZ]at hT
   split at hT
   ·rename_i t1 t2 h1 h2;injection hT with hT;subst hT;simp only[zbc]at hs;refine wpIn_seq ?_
    cases hr1:zbc C ca M trnd t1 s with
    | none=>rw[hr1]at hs;cases hs
    | some r1 =>
     obtain⟨x1,s1⟩:=r1;rw[hr1]at hs;refine wpIn_mono (ih c1 t1 h1 ρ s a w x1 s1 hr k hr1) ?_;intro e a1 w1 hc;obtain⟨ρ1,g1,g2,g3,g4,g5⟩:=hc
     by_cases he:e=.normal
     ·have:=g4.norm he;subst this;subst he;exact wpIn_mono (ih c2 t2 h2 ρ1 s1 a1 w1 x s' (hr.mono g1.more) g5 hs) fun e a2 w2 hc2=>hc2.trans g1 g2 g3
     ·have hx1:x1 ≠ .norm:=fun e'=>by subst e';exact he g4
      have hs':some (x1,s1)=some (x,s'):=by
       rw[<- hs];cases x1<;>first|rfl|exact absurd rfl hx1
      injection hs' with hs';injection hs' with q1 q2;subst q1;subst q2
      cases e<;>first|exact absurd rfl he|exact⟨ρ1,g1,g2,g3,g4,g5⟩
   ·cases hT
  | cond c c1 c2 =>
   simp only[zbZ]at hT
   split at hT
   ·rename_i c' t1 t2 hc' h1 h2;injection hT with hT;subst hT;simp only[zbc]at hs
    split at hs
    ·rename_i hb;have hv:=zin k.tm hc' hb;generalize hav:a.eval c=av at hv
     cases hv
     exact wpIn_cond_true hav (ih c1 t1 h1 ρ s a w x s' hr k hs)
    ·rename_i hb;have hv:=zin k.tm hc' hb;generalize hav:a.eval c=av at hv
     cases hv
     exact wpIn_cond_false hav (ih c2 t2 h2 ρ s a w x s' hr k hs)
    ·cases hs
   ·cases hT
  | block id b =>
   simp only[zbZ]at hT
   split at hT
   ·rename_i t ht;injection hT with hT;subst hT;simp only[zbc]at hs;refine wpIn_block ?_
    cases hr1:zbc C ca M trnd t s with
    | none=>rw[hr1]at hs;cases hs
    | some r1 =>
     obtain⟨x1,s1⟩:=r1;rw[hr1]at hs;refine wpIn_mono (ih b t ht ρ s a w x1 s1 hr k hr1) ?_;intro e a1 w1 hc;obtain⟨ρ1,g1,g2,g3,g4,g5⟩:=hc
     by_cases he:∃j,e=.exit j
     ·obtain⟨j,rfl⟩:=he;have:=g4.exit rfl;subst this;simp only[Exit.inBlock];dsimp only at hs
      by_cases hj:j=id
      ·subst hj;rw[show Nat.beq j j=true from Nat.beq_refl j]at hs;simp only[cond_true]at hs;injection hs with hs;injection hs with q1 q2;subst q1;subst q2;rw[if_pos rfl];exact⟨ρ1,g1,g2,g3,rfl,g5⟩
      ·rw[show Nat.beq j id=false from Bool.eq_false_iff.2 fun h=>hj (zAJ9 h)]at hs;simp only[cond_false]at hs;injection hs with hs;injection hs with q1 q2;subst q1;subst q2;rw[if_neg hj];exact⟨ρ1,g1,g2,g3,rfl,g5⟩
     ·have hx1:∀j,x1 ≠ .exit j:=fun j e'=>by subst e';exact he ⟨j,g4⟩
      have hs':some (x1,s1)=some (x,s'):=by
       rw[<- hs];cases x1<;>first|rfl|exact absurd rfl (hx1 _)
      injection hs' with hs';injection hs' with q1 q2;subst q1;subst q2
      cases e<;>first|exact absurd ⟨_,rfl⟩ he|exact⟨ρ1,g1,g2,g3,g4,g5⟩
   ·cases hT
  | loop b =>
   simp only[zbZ]at hT
   split at hT
   ·rename_i t ht;injection hT with hT;subst hT;simp only[zbc]at hs;refine wpIn_loop_rounds M ?_;have key:∀(m:Nat) (ρ:Rho) (s:St) (a:Act) (w:World),Rnd ρ trnd rnd->StR P Z ρ N ca s a w->zhz (zbc C ca M trnd t) m s=some (x,s')->∀Q:Exit->Act->World->Prop,(∀e a' w',CR P Z ρ N ca s.h w x s' e a' w'->Q e a' w')->Code.roundsIn (Fr rnd) 0 P b Q m a w:=by
     intro m
     induction m with
     | zero=>intro ρ s a w _ _ hs;cases hs
     | succ m ihm =>
      intro ρ s a w hr k hs Q hQ;simp only[zhz]at hs;rw[roundsIn_succ]
      cases hr1:zbc C ca M trnd t s with
      | none=>rw[hr1]at hs;cases hs
      | some r1 =>
       obtain⟨x1,s1⟩:=r1;rw[hr1]at hs;refine wpIn_mono (ih b t ht ρ s a w x1 s1 hr k hr1) ?_;intro e a1 w1 hc;obtain⟨ρ1,g1,g2,g3,g4,g5⟩:=hc
       by_cases he:e=.normal
       ·have:=g4.norm he;subst this;subst he;exact ihm ρ1 s1 a1 w1 (hr.mono g1.more) g5 hs Q fun e a2 w2 hc2=>hQ _ _ _ (hc2.trans g1 g2 g3)
       ·have hx1:x1 ≠ .norm:=fun e'=>by subst e';exact he g4
        have hs':some (x1,s1)=some (x,s'):=by
         rw[<- hs];cases x1<;>first|rfl|exact absurd rfl hx1
        injection hs' with hs';injection hs' with q1 q2;subst q1;subst q2;have:=hQ e a1 w1 ⟨ρ1,g1,g2,g3,g4,g5⟩
        cases e<;>first|exact absurd rfl he|exact this
    exact key M ρ s a w hr k hs _ fun _ _ _ h=>h
   ·cases hT
  | rangeFunc f ps c1 c2 =>
   simp only[zbZ]at hT
   split at hT
   ·cases hT
   ·rename_i hps
    split at hT
    ·rename_i f' t1 t2 hf h1 h2;injection hT with hT;subst hT;simp only[zbc]at hs
     split at hs
     ·rename_i g cap hg;exact zva hC k hr (zin k.tm hf hg) (fun p hp=>by
       have:=zBI9.1 (Bool.not_eq_false _ ▸ hps) p hp;simpa using this) h1 h2 hs
     ·cases hs
    ·cases hT
  | exit id =>
   simp only[zbZ]at hT;injection hT with hT;subst hT;simp only[zbc]at hs;injection hs with hs;injection hs with h1 h2;subst h1;subst h2;exact wpIn_exit (CR.refl k rfl)
  | goto l =>
   simp only[zbZ]at hT;injection hT with hT;subst hT;simp only[zbc]at hs;injection hs with hs;injection hs with h1 h2;subst h1;subst h2;exact wpIn_goto (CR.refl k rfl)
  | ret =>
   simp only[zbZ]at hT;injection hT with hT;subst hT;simp only[zbc]at hs;injection hs with hs;injection hs with h1 h2;subst h1;subst h2;exact wpIn_ret (CR.refl k rfl)
  | scope b =>
   simp only[zbZ]at hT
   split at hT
   ·split at hT
    ·rename_i t ht;injection hT with hT;subst hT;simp only[zbc]at hs
     cases hr1:zbc C ca M trnd t s with
     | none=>rw[hr1]at hs;cases hs
     | some r1 =>
      obtain⟨x1,s1⟩:=r1;rw[hr1]at hs;refine zil (fun _ _=>False) 0 (.inl fun _ _ h=>h) ?_;refine wpIn_mono (ih b t ht ρ s a w x1 s1 hr k hr1) ?_;intro e a1 w1 hc;have hx1:∀j,x1 ≠ .goto j:=fun j e'=>by subst e';cases hs
      have hs':some (x1,s1)=some (x,s'):=by
       rw[<- hs];cases x1<;>first|rfl|exact absurd rfl (hx1 _)
      injection hs' with hs';injection hs' with q1 q2;subst q1;subst q2
      cases e<;>first|exact hc|(obtain⟨_,_,_,_,g4,_⟩:=hc;exact absurd (g4.goto rfl) (hx1 _))
    ·cases hT
   ·rename_i l hl
    split at hT
    ·cases hT
    ·rename_i r hfl
     split at hT
     ·rename_i t1 t2 h1 h2;injection hT with hT;subst hT;simp only[zbc]at hs
      cases hr1:zbc C ca M trnd t1 s with
      | none=>rw[hr1]at hs;cases hs
      | some r1 =>
       obtain⟨x1,s1⟩:=r1;rw[hr1]at hs
       by_cases hg:∃j,x1=.goto j
       ·obtain⟨j,rfl⟩:=hg;dsimp only at hs;obtain⟨hj,hsA⟩:=zI hs;have hj:=zAJ9 hj;subst hj
        cases hr2:zbc C ca M trnd t2 s1 with
        | none=>rw[hr2]at hsA;cases hsA
        | some r2 =>
         obtain⟨x2,s2⟩:=r2;rw[hr2]at hsA;have hx2:∀j,x2 ≠ .goto j:=fun j e'=>by subst e';cases hsA
         have hs':some (x2,s2)=some (x,s'):=by
          rw[<- hsA];cases x2<;>first|rfl|exact absurd rfl (hx2 _)
         injection hs' with hs';injection hs' with q1 q2;subst q1;subst q2;refine zil (fun a1 w1=>CR P Z ρ N ca s.h w (.goto j) s1 (.goto j) a1 w1) j (.inr ⟨r,hfl,fun a1 w1 hc=>?_⟩) ?_
         ·obtain⟨ρ1,g1,g2,g3,g4,g5⟩:=hc;refine wpIn_mono (ih r t2 h2 ρ1 s1 a1 w1 x2 s2 (hr.mono g1.more) g5 hr2) ?_;intro e a2 w2 hc2;have hc2':=hc2.trans g1 g2 g3
          cases e<;>first|exact hc2'|(obtain⟨_,_,_,_,g4,_⟩:=hc2;exact absurd (g4.goto rfl) (hx2 _))
         ·refine wpIn_mono (ih b t1 h1 ρ s a w (.goto j) s1 hr k hr1) ?_;intro e a1 w1 hc;have he:e=.goto j:=by obtain⟨_,_,_,_,g4,_⟩:=hc;exact g4
          subst he;exact⟨rfl,hc⟩
       ·have hx1:∀j,x1 ≠ .goto j:=fun j e'=>hg ⟨j,e'⟩;have hs':some (x1,s1)=some (x,s'):=by
         rw[<- hs];cases x1<;>first|rfl|exact absurd rfl (hx1 _)
        injection hs' with hs';injection hs' with q1 q2;subst q1;subst q2;refine zil (fun _ _=>False) 0 (.inl fun _ _ h=>h) ?_;refine wpIn_mono (ih b t1 h1 ρ s a w x1 s1 hr k hr1) ?_;intro e a1 w1 hc
        cases e<;>first|exact hc|(obtain⟨_,_,_,_,g4,_⟩:=hc;exact absurd (g4.goto rfl) (hx1 _))
     ·cases hT
  | refuse=>cases hT
theorem zpo {N:Nat}:∀(ps:List Nat) (vs:List TV) (vs':List Value) (tm:Tr TV) (tmps:Array Value),ps.length=vs.length->VL ρ vs vs'->(∀p∈ps,p<N)->N<=tmps.size->TmR ρ tm tmps ->
  TmR ρ (zgG ps vs tm) ((ps.zip vs').foldl (fun tmps (t,a)=>tmps.setIfInBounds t a) tmps)/\((ps.zip vs').foldl (fun tmps (t,a)=>tmps.setIfInBounds t a) tmps).size=tmps.size
 | [],vs,vs',tm,tmps,hl,hv,hp,hN,k=>by exact⟨k,rfl⟩
 | p::ps,[],vs',tm,tmps,hl,hv,hp,hN,k=>by simp at hl
 | p::ps,v::vs,vs',tm,tmps,hl,hv,hp,hN,k=>by
  obtain⟨v',cs,rfl,h1,h2⟩:=hv.of_cons;simp only[zgG,List.zip_cons_cons,List.foldl_cons];have hlt:=hp p zAV9;have k1:TmR ρ (tm.set p (some v)) (tmps.setIfInBounds p v'):=fun t u hu=>by
   rw[Tr.get_set]at hu
   by_cases e:t=p
   ·subst e;rw[if_pos rfl]at hu;injection hu with hu;subst hu;exact⟨v',by simp[zBE9 hlt hN],h1⟩
   ·rw[if_neg e]at hu;obtain⟨u',a1,a2⟩:=k t u hu;exact⟨u',by rw[zDR9 (fun e'=>e e'.symm)];exact a1,a2⟩
  obtain⟨r1,r2⟩:=zpo ps vs cs _ _ (by simpa using hl) h2 (fun q hq=>hp q (zAT9 _ hq)) (by simpa using hN) k1;exact⟨r1,by rw[r2];simp⟩
theorem zpS (ps:Array Nat)(vs:List Value)(tmps:Array Value):(ps.zip vs.toArray).foldl (fun tmps (t,a)=>tmps.setIfInBounds t a) tmps=(ps.toList.zip vs).foldl (fun tmps (t,a)=>tmps.setIfInBounds t a) tmps:=by
 obtain⟨ps⟩:=ps;simp
theorem zkN (k:WR P Z ρ h w){l:Nat}{loc:Loc}(hl:ρ l 0=some loc){st st':LoopState}{pe pe':TX}{tm:Tr TV}{ps:List Nat}{aS bo:zbl}{d:Nat}(ho:h.get l=some (.loop st pe tm ps aS bo d)){pd:Option Code}(hpd:PeR pe' pd) :
  ∃rec,w.heap[loc.r]?=some (.loop rec)/\rec.state=st/\PeR pe rec.pending/\WR P Z ρ (h.set l (.loop st' pe' tm ps aS bo d)) (w.putObj loc.r (.loop { rec with state:=st',pending:=pd }))/\Below Z w (w.putObj loc.r (.loop { rec with state:=st',pending:=pd })):=by
 obtain⟨o',ho',hor⟩:=k.obj _ _ _ hl;rw[ho]at ho';injection ho' with ho';subst ho';obtain⟨loc1,rec,locd,N',n',m',q1,q2,q3,q4,q5,q6,q7,q8,q9,q10,q11,q12⟩:=hor;rw[hl]at q1;injection q1 with q1;subst q1;have hZo:∀g' loc',ρ l g'=some loc'->Z<=loc'.r:=fun g' loc' hl'=>k.own hl' ho (fun cs h=>by cases h);have hdm:=k.dom _ _ _ hl;have hZr:=hZo _ _ hl;have hput:(w.putObj loc.r (.loop { rec with state:=st',pending:=pd })).heap[loc.r]?=some (.loop { rec with state:=st',pending:=pd }):=World.putObj_heap_same hdm.2.2;have hne:∀c g' l',c≠l->ρ c g'=some l'->l'.r≠loc.r:=fun c g' l' hc hl' e=>hc (k.sep _ _ _ _ _ _ hl' hl e (by omega));exact⟨rec,q3,q4,q5,k.change (ρ':=ρ) (x':=.loop st' pe' tm ps aS bo d) (fun _ _ _ h=>h) (fun _ _ _=>rfl) hl (w':=w.putObj loc.r (.loop { rec with state:=st',pending:=pd })) (by simp) (fun c g' l' hc hl'=>World.putObj_heap_other (hne c g' l' hc hl'))
  ⟨loc,_,locd,N',n',m',hl,q2,hput,rfl,hpd,q6,q7,q8,q9,q10,q11,q12⟩ (fun g' l' hl'=>by
   have hd':=k.dom _ _ _ hl';exact⟨hZo _ _ hl',by simp;exact hd'.2.2⟩) (fun g' l' hl' c g'' l'' hc hl'' e=>hc (k.sep _ _ _ _ _ _ hl' hl'' e (hZo _ _ hl')).symm),zjr hZr _⟩
theorem zvl {E:Env}{C:zbt}(hC:zfF P C)(hR:zhb P C)(hmix:P.follows .mixedOrders=true){l:Nat}{args:List TV}{b:Bool}(hr:zmN E C l args h=some (b,h')){args':List Value}{loc:Loc}(k:WR P Z ρ h w)(hZ:Z<=w.heap.size)(hl:ρ l 0=some loc)(hv:VL ρ args args') :
  ∃fn tmps assign body,(Instr.yield loc.r args'.toArray).run P w=.ok (.round loc.r fn tmps assign body) w/\RoundIn (Fr none) 0 P loc.r fn tmps assign body w (zhS P Z ρ h h' w (.ret (.bool b))):=by
 unfold zmN at hr;obtain⟨o,ho,hor⟩:=k.obj _ _ _ hl;rw[ho]at hr;dsimp only at hr
 cases o with
 | row=>cases hr
 | map=>cases hr
 | dfr=>cases hr
 | ro=>cases hr
 | loop st pe tm ps aS bo d =>
  simp only[zqI]at hr;obtain⟨hlen,hrA⟩:=zI hr;have hlen:=zAJ9 hlen;obtain⟨loc1,rec,locd,N,n,m,q1,q2,q3,q4,q5,q6,q7,q8,q9,q10,q11,q12⟩:=hor;rw[hl]at q1;injection q1 with q1;subst q1;subst q8;refine⟨rec.fn,_,rec.assign,rec.body,run_yield q3 (by rw[zDV9,<- hv.1,<- hlen];simp),?_⟩;refine roundIn_of_wpIn trivial ?_;obtain⟨t1,t2⟩:=zpo rec.params.toList args args' tm rec.tmps hlen hv q9 q7 q6
  cases hr1:zbc C .nil E.N (some l) aS ⟨zgG rec.params.toList args tm,[],h⟩with
  | none=>rw[hr1]at hrA;cases hrA
  | some r1 =>
   obtain⟨x1,s1⟩:=r1;rw[hr1]at hrA;have kst:StR P Z ρ N .nil ⟨zgG rec.params.toList args tm,[],h⟩ { tmps:=(rec.params.zip args'.toArray).foldl (fun tmps (t,a)=>tmps.setIfInBounds t a) rec.tmps,defers:=[] } w :=
    ⟨k,by rw[zpS];exact t1,by dsimp only;rw[zpS,t2];exact q7,.nil,hZ⟩
   refine wpIn_mono (znh hC hR hmix (ca:=.nil) (rnd:=some loc.r) (trnd:=some l) (.inr fun _=>rfl) n rec.assign aS q10 ρ _ _ w x1 s1 ⟨loc,hl,rfl⟩ kst hr1) ?_;intro e a1 w1 hc;obtain⟨ρ1,g1,g2,g3,g4,g5⟩:=hc;simp only[zvg]at hrA
   cases x1<;>try cases hrA
   have g4:e=.normal:=g4;subst g4
   cases ho1:s1.h.get l with
   | none=>rw[ho1]at hrA;cases hrA
   | some o1 =>
    rw[ho1]at hrA;dsimp only at hrA
    cases o1 with
    | row=>cases hrA
    | map=>cases hrA
    | dfr=>cases hrA
    | ro=>cases hrA
    | loop st1 pe1 tm1 ps1 as1 bo1 d1 =>
     simp only[zpA]at hrA
     cases st1<;>try cases hrA
     have hl1:=g1.more _ _ _ hl;obtain⟨rec0,p1,p2,p3,_,_⟩:=zkN (st':=.busy) (pe':=.norm) (pd:=none) g5.wr hl1 ho1 rfl;obtain⟨rec1,p1',p2',p3',p4,p5⟩:=zkN (st':=.busy) (pe':=pe1) (pd:=rec0.pending) g5.wr hl1 ho1 p3;rw[p1]at p1';injection p1' with p1';injection p1' with p1';subst p1';refine⟨w1.putObj loc.r (.loop { rec0 with state:=.busy }),run_beginRound p1 p2,?_⟩
     cases hr2:zbc C .nil E.N (some l) bo ⟨s1.tm,s1.df,s1.h.set l (.loop .busy pe1 tm1 ps1 as1 bo1 d1)⟩with
     | none=>rw[hr2]at hrA;cases hrA
     | some r2 =>
      obtain⟨x2,s2⟩:=r2;rw[hr2]at hrA;have k2:StR P Z ρ1 N .nil ⟨s1.tm,s1.df,s1.h.set l (.loop .busy pe1 tm1 ps1 as1 bo1 d1)⟩ a1 (w1.putObj loc.r (.loop { rec0 with state:=.busy })):=⟨p4,g5.tm,g5.sz,g5.df,zBN9 g5.hZ p5.size⟩
      refine wpIn_mono (znh hC hR hmix (ca:=.nil) (rnd:=some loc.r) (trnd:=some l) (.inr fun _=>rfl) m rec.body bo q11 ρ1 _ _ _ x2 s2 ⟨loc,hl1,rfl⟩ k2 hr2) ?_;intro e a2 w2 hc2;obtain⟨ρ2,f1,f2,f3,f4,f5⟩:=hc2;simp only[zhd]at hrA
      cases hdf:s2.df with
      | cons _ _=>rw[hdf]at hrA;cases hrA
      | nil =>
       rw[hdf]at hrA;dsimp only at hrA
       cases ho2:s2.h.get l with
       | none=>rw[ho2]at hrA;cases hrA
       | some o2 =>
        rw[ho2]at hrA;dsimp only at hrA
        cases o2 with
        | row=>cases hrA
        | map=>cases hrA
        | dfr=>cases hrA
        | ro=>cases hrA
        | loop st2 pe2 tm2 ps2 as2 bo2 d2 =>
         have hl2:=f1.more _ _ _ hl1;have hle:Rho.le h.next ρ ρ2:=g1.trans f1 (by rw[TH.next_set];exact g3);have hbl:Below Z w w2:=(g2.trans p5).trans f2;have hnx:h.next<=s2.h.next:=zBN9 g3 (by have:=f3;rw[TH.next_set]at this;exact this);have fin:∀(x:TX) (pd:Option Code),PeR x pd->h'=s2.h.set l (.loop (if pd.isNone then .ready else .done) x tm2 ps2 as2 bo2 d2)->b=pd.isNone->∃v w',(Instr.endRound loc.r pd).run P w2=.ok v w'/\zhS P Z ρ h h' w (.ret (.bool b)) (.returned v) w':=fun x pd hx hh hb=>by
          obtain⟨rec2,z1,z2,z3,z4,z5⟩:=zkN (st':=if pd.isNone then .ready else .done) (pe':=x) (pd:=pd) f5.wr hl2 ho2 hx;refine⟨_,_,run_endRound pd z1,ρ2,hle,by rw[hh];exact z4,hbl.trans z5,by rw[hh,TH.next_set];exact hnx,_,rfl,by rw[hb];exact .bool _⟩
         simp only[zsl]at hrA
         cases x2 with
         | norm =>
          have f4:e=.normal:=f4;subst f4;injection hrA with hrA;injection hrA with y1 y2;exact fin .norm none rfl y2.symm y1.symm
         | exit id =>
          have f4:e=.exit id:=f4;subst f4;injection hrA with hrA;injection hrA with y1 y2;exact fin (.exit id) (some (.exit id)) rfl y2.symm y1.symm
         | goto t =>
          have f4:e=.goto t:=f4;subst f4;injection hrA with hrA;injection hrA with y1 y2;exact fin (.goto t) (some (.goto t)) rfl y2.symm y1.symm
         | ret =>
          have f4:e=.ret:=f4;subst f4;injection hrA with hrA;injection hrA with y1 y2;exact fin .ret (some .ret) rfl y2.symm y1.symm
         | panic v=>cases hrA
theorem zr1 (k:WR P Z ρ h w){tm:Tr TV}{tmps:Array Value}(kt:TmR ρ tm tmps):∀(rs:List ResultVar) (ts:List zkZ) (vs:List TV),zct (zgS P) rs=some ts->zgW tm h ts=some vs ->
  ∃vs',(rs.mapM fun(x:ResultVar)=>(match x with
  | .tmp t=>pure (tmps.getD t undef)
  | .cell a t=>do loadVar t (<- asAddr (tmps.getD a undef)):Sem Value)).run P w=.ok vs' w/\VL ρ vs vs'
 | [],ts,vs,hm,hr=>by
  simp only[zct]at hm;injection hm with hm;subst hm;simp only[zgW]at hr;injection hr with hr;subst hr;exact⟨[],by simp,VL.nil ρ⟩
 | r::rs,ts,vs,hm,hr=>by
  unfold zct at hm
  split at hm
  ·cases hm
  ·rename_i t ht
   split at hm
   ·cases hm
   ·rename_i ts' hts;injection hm with hm;subst hm;simp only[zgW]at hr
    split at hr
    ·cases hr
    ·rename_i v hv
     split at hr
     ·cases hr
     ·rename_i us hus;injection hr with hr;subst hr;obtain⟨us',e1,e2⟩:=zr1 k kt rs ts' us hts hus;have hone:∃v',((match r with
       | .tmp t=>pure (tmps.getD t undef)
       | .cell a t=>do loadVar t (<- asAddr (tmps.getD a undef)):Sem Value)).run P w=.ok v' w/\VR ρ v v':=by
       cases r with
       | tmp t0 =>
        simp only[zgS]at ht;injection ht with ht;subst ht;obtain⟨v',a1,a2⟩:=kt _ _ hv;exact⟨v',by simp[zCR9,a1],a2⟩
       | cell t0 ty =>
        simp only[zgS]at ht
        split at ht
        ·rename_i g n hg hn;injection ht with ht;subst ht;dsimp only at hv
         split at hv
         ·rename_i p hp;obtain⟨p',a1,a2⟩:=kt _ _ hp;obtain⟨v',b1,b2⟩:=zoX k hg hn a2 hv;refine⟨v',?_,b2⟩;have hpt:∃ad,p'=.pointer (some ad):=by
           have hv2:zfD g n h p=some v:=hv;unfold zfD at hv2
           split at hv2
           ·cases a2;exact⟨_,rfl⟩
           ·cases hv2
          obtain⟨ad,rfl⟩:=hpt;simp only[Instr.loadAt,Instr.sureAddr,Sem.run_bind,Sem.run_pure,Result.andThen_ok]at b1;simp only[zCR9,a1,zEU9,asAddr,Sem.run_bind,Sem.run_pure,Result.andThen_ok];exact b1
         ·cases hv
        ·cases ht
      obtain⟨v',c1,c2⟩:=hone;refine⟨v'::us',?_,.cons c2 e2⟩;rw[List.mapM_cons];simp only[Sem.run_bind];rw[c1];simp only[Result.andThen_ok,Sem.run_bind];rw[e1];simp
theorem zsN (k:WR P Z ρ h w){tm:Tr TV}{fn:Func}{tmps:Array Value}(kt:TmR ρ tm tmps){ts:List zkZ}{vs:List TV}(hm:zct (zgS P) fn.results.toList=some ts)(hr:zgW tm h ts=some vs):∃v',(results fn tmps).run P w=.ok v' w/\VR ρ (tup vs) v':=by
 obtain⟨vs',e1,e2⟩:=zr1 k kt _ _ _ hm hr;unfold results;rw[Array.mapM_eq_mapM_toList];simp only[Sem.run_bind,map_eq_pure_bind,bind_assoc];generalize hX:Sem.run P (List.mapM _ fn.results.toList) w=X;have hX2:X=.ok vs' w:=hX.symm.trans e1;rw[hX2];simp only[Result.andThen_ok,pure_bind,Sem.run_pure]
 cases vs with
 | nil =>
  have:=e2.of_nil;subst this;exact⟨_,rfl,VR.tupL (VL.nil ρ)⟩
 | cons v vs =>
  obtain⟨v',cs,rfl,a1,a2⟩:=e2.of_cons
  cases vs with
  | nil =>
   have:=a2.of_nil;subst this;exact⟨_,rfl,a1⟩
  | cons u us =>
   obtain⟨u',ds,rfl,b1,b2⟩:=a2.of_cons;refine⟨.tuple (v'::u'::ds).toArray,?_,VR.tupL (.cons a1 (.cons b1 b2))⟩;simp
theorem zr3 (k:WR P Z ρ h w){b g:Nat}{loc:Loc}(hρ:ρ b g=some loc){x:TV}{h':TH}(hw:zdo h b g 0 [x]=some h'):(∃v,w.cell? ⟨loc.r,0,none⟩=some v)/\w.frozen? ⟨loc.r,0,none⟩=false:=by
 unfold zdo at hw
 split at hw
 ·rename_i y hy;unfold zl4 at hw
  split at hw
  ·rename_i e G M len cells;obtain⟨ha,hwA⟩:=zI hw;obtain⟨hb,hwB⟩:=zI hwA;have ha:=zAJ9 ha;have hb:=zBA9 hb;subst ha;obtain⟨o,ho,hor⟩:=k.obj _ _ _ hρ;rw[hy]at ho;injection ho with ho;subst ho;obtain⟨loc',cur,q1,q2,q3,q4,q5,q6,q7⟩:=hor.2.2 g hor.1 (zAM9 _);rw[hρ]at q1;injection q1 with q1;subst q1;have hlen:=q6 rfl;obtain⟨_,v,_,c2,_,_⟩:=q7 0 (by simp at hb;omega);exact⟨⟨v,by simp[World.cell?,q2,c2]⟩,frozen_of_row w _ _ _ _ q2⟩
  ·cases hw
 ·cases hw
theorem zju (n:Int){r:Nat}{v:Value}(hc:w.cell? ⟨r,0,none⟩=some v)(hf:w.frozen? ⟨r,0,none⟩=false):(storeCells ⟨r,0,none⟩ [.int .i64 n]).run P w=.ok () (w.setCell ⟨r,0,none⟩ (.int .i64 n)):=by
 have h0:(⟨r,0,none⟩:Addr).add 0=⟨r,0,none⟩:=by simp[zdD]
 simp[storeCells,h0,go_sem,hc,hf]
structure ziS (P:Program)(errno f:Nat):Prop where
 ent:∀(args:Array Value) w,(callFunc f args).run P w=.ok (.enter f args) w
 idle:∀p' c' w,CallsDIn (Fr none) 0 P f #[p',c'] .returning w fun e u' w'=>(∃v,e=.returned v)/\u'=.returning/\w'=w
 hit:∀(n:Int) (eb gid:Nat) (cap:Array Value) (w:World) (R:World->Prop),(∀w,(callFunc gid cap).run P w=.ok (.enter gid cap) w)->CallsIn (Fr none) 0 P gid cap w (fun e w'=>e=.returned (.tuple #[])/\R w') ->
  (∀w1,R w1->(∃v,w1.cell? ⟨eb,0,none⟩=some v)/\w1.frozen? ⟨eb,0,none⟩=false) ->
  CallsDIn (Fr none) 0 P f #[.pointer (some ⟨eb,0,none⟩),.func (.func gid) #[] cap] (.panicking [{ v:=.iface errno (.int .i64 n),recovered:=false }]) w fun e u' w' =>
   (∃v,e=.returned v)/\u'=.panicking [{ v:=.iface errno (.int .i64 n),recovered:=true }]/\∃w1,R w1/\w'=w1.setCell ⟨eb,0,none⟩ (.int .i64 n)
def MR (ρ:Rho):TM->FrameMode->Prop
 | .returning,u=>u=.returning
 | .panicking v,u=>∃v',u=.panicking [{ v:=v',recovered:=false }]/\VR ρ v v'
theorem MR.mono (hρ:∀b g loc,ρ b g=some loc->ρ' b g=some loc){m:TM}{u:FrameMode}(k:MR ρ m u):MR ρ' m u:=by
 cases m with
 | returning=>exact k
 | panicking v=>obtain⟨v',a,b⟩:=k;exact⟨v',a,b.mono hρ⟩
theorem MR.ne {m:TM}{u:FrameMode}(k:MR ρ m u):u ≠ .run:=by
 cases m with
 | returning=>simp only[MR]at k;subst k;simp
 | panicking v=>obtain⟨v',rfl,_⟩:=k;simp
theorem zwg {E:Env}{C:zbt}(hC:zfF P C)(hca:∀f,E.caught.get f=some ()->ziS P E.errno f){fn:Func}{tmps:Array Value}{R:Ending->World->Prop} :
  ∀(td:List TD) (ds:List Deferred) (m:TM) (u:FrameMode) (h:TH) (w:World) (ρ:Rho) (m':TM) (h':TH),WR P Z ρ h w->Z<=w.heap.size->DfR ρ E.caught td ds->MR ρ m u->zcw E C td m h=some (m',h') ->
  (∀ρ' w' u',Rho.le h.next ρ ρ'->WR P Z ρ' h' w'->Below Z w w'->h.next<=h'.next->MR ρ' m' u'->LeavesIn (Fr none) 0 P fn tmps R [] u' w')->LeavesInM (Fr none) 0 P fn tmps R ds u w:=by
 intro td
 induction td with
 | nil =>
  intro ds m u h w ρ m' h' k hZ hd hm hl hfin
  cases hd
  simp only[zcw]at hl;injection hl with hl;injection hl with h1 h2;subst h1;subst h2;exact hfin ρ w u (.refl _ _) k (.refl _ _) (zAM9 _) hm
 | cons t td ih =>
  intro ds m u h w ρ m' h' k hZ hd hm hl hfin
  cases hd with
  | mark hb hrest =>
   rename_i b loc ds;simp only[zcw]at hl
   split at hl
   ·rename_i hg;obtain⟨o,ho,hor⟩:=k.obj _ _ _ hb;rw[hg]at ho;injection ho with ho;subst ho;obtain⟨loc1,q1,q2⟩:=hor;rw[hb]at q1;injection q1 with q1;subst q1;have hZo:∀g' loc',ρ b g'=some loc'->Z<=loc'.r:=fun g' loc' hl'=>k.own hl' hg (fun cs h=>by cases h);have hdm:=k.dom _ _ _ hb;have hZr:=hZo _ _ hb;have hput:(w.putObj loc.r (.deferred none)).heap[loc.r]?=some (.deferred none):=World.putObj_heap_same hdm.2.2;have hne:∀c g' l',c≠b->ρ c g'=some l'->l'.r≠loc.r:=fun c g' l' hc hl' e=>hc (k.sep _ _ _ _ _ _ hl' hb e (by omega));have k2:=k.change (ρ':=ρ) (x':=.dfr true) (fun _ _ _ h=>h) (fun _ _ _=>rfl) hb (w':=w.putObj loc.r (.deferred none)) (by simp) (fun c g' l' hc hl'=>World.putObj_heap_other (hne c g' l' hc hl'))
     ⟨loc,hb,hput⟩ (fun g' l' hl'=>by
      have hd':=k.dom _ _ _ hl';exact⟨hZo _ _ hl',by simp;exact hd'.2.2⟩) (fun g' l' hl' c g'' l'' hc hl'' e=>hc (k.sep _ _ _ _ _ _ hl' hl'' e (hZo _ _ hl')).symm)
    have hb2:=zjr (w:=w) hZr (.deferred none);refine⟨hm.ne,.inl ⟨loc.r,_,rfl,run_takeDeferred q2,?_⟩⟩;exact ih _ m u _ _ ρ m' h' k2 (zBN9 hZ hb2.size) hrest hm hl fun ρ' w' u' a1 a2 a3 a4 a5=>hfin ρ' w' u' a1 a2 (hb2.trans a3) a4 a5
   ·cases hl
  | caught hf hp hc hrest =>
   rename_i f p c p' c' ds;have hok:=hca f hf;have hinv:(invoke (.fn (.func f) #[]) #[p',c']).run P w=.ok (.enter f #[p',c']) w:=by
    simp only[invoke,Array.append_empty];exact hok.ent _ w
   refine⟨hm.ne,.inr ⟨fun hd=>by simp[Fr,Fence.wide]at hd,_,_,f,#[p',c'],rfl,hinv,fun _ _=>trivial,?_⟩⟩
   cases m with
   | returning =>
    have hm:u=.returning:=hm;subst hm;simp only[zcw]at hl;refine(hok.idle p' c' w).mono ?_;rintro e u' w' ⟨⟨v,rfl⟩,rfl,rfl⟩;exact ih _ .returning .returning _ _ ρ m' h' k hZ hrest rfl hl hfin
   | panicking v =>
    obtain⟨v',rfl,hv⟩:=hm;simp only[zcw]at hl
    split at hl
    ·rename_i heq
     cases heq
    ·rename_i t n heq
     cases heq
     obtain⟨ht,hlA⟩:=zI hl;have ht:=zAJ9 ht
     split at hlA
     ·rename_i g cap
      split at hlA
      ·rename_i h1 hcall
       split at hlA
       ·rename_i b g' e0
        split at hlA
        ·rename_i h2 hw
         cases hp with
         | ptr hpl hpc =>
          rename_i loc
          cases hc with
          | fn hcl hcr =>
           rename_i caps;obtain⟨hent,hcalls⟩:=hC g _ _ _ h1 hcall Z ρ w caps k hZ ⟨hcl,hcr⟩
           cases hv with
           | iface hv =>
            cases hv
            subst ht;refine(hok.hit n loc.r g caps.toArray w (fun w1=>∃ρ1,Rho.le h.next ρ ρ1/\WR P Z ρ1 h1 w1/\Below Z w w1/\h.next<=h1.next) hent (hcalls.mono ?_) ?_).mono ?_
            ·rintro e w1 ⟨ρ1,a1,a2,a3,a4,v',rfl,a5⟩;refine⟨?_,ρ1,a1,a2,a3,a4⟩;generalize hvv:v'=vv at a5
             cases a5 with
             | tuple hl0 hx0 =>
              rename_i cs;have:cs=[]:=by cases cs;rfl;simp at hl0
              subst this;rfl
            ·rintro w1 ⟨ρ1,a1,a2,a3,a4⟩;exact zr3 a2 (a1.more _ _ _ hpl) hw
            ·rintro e u' w' ⟨⟨v,rfl⟩,rfl,w1,⟨ρ1,a1,a2,a3,a4⟩,b0⟩;obtain⟨w2,b1,b2,b3,b4⟩:=ziL a2 (a1.more _ _ _ hpl) (VL.one (.int .i64 n)) (by simp[TV.one]) hw;obtain⟨⟨v0,q1⟩,q2⟩:=zr3 a2 (a1.more _ _ _ hpl) hw;rw[zju n q1 q2]at b1;injection b1 with _ b1;rw[<- b0]at b1;subst b1;exact ih _ .returning .returning _ _ ρ1 m' h' b2 (zBN9 hZ (a3.trans b3).size) (hrest.mono a1.more) rfl hlA fun ρ' w3 u' c1 c2 c3 c4 c5=>hfin ρ' w3 u' (a1.trans c1 (by rw[b4];exact a4)) c2 ((a3.trans b3).trans c3) (by rw[b4]at c4;exact zBN9 a4 c4) c5
        ·cases hlA
       ·cases hlA
      ·cases hlA
     ·cases hlA
    ·cases hl
structure zfq (P:Program)(E:Env):Prop where
 mix:P.follows .mixedOrders=true
 fn:∀f F,E.funcs.get f=some F->∃fn,P.funcs[f]?=some fn/\zkm P fn=some F/\∀(args:Array Value) w,(callFunc f args).run P w=.ok (.enter f args) w
 spec:∀f g,E.spec f=some g->∀(Z:Nat) (ρ:Rho) (w:World) (args:List TV) (args':List Value) (h:TH) (r:TE) (h':TH),g args h=some (r,h')->WR P Z ρ h w->Z<=w.heap.size->VL ρ args args' ->
  (∀w,(callFunc f args'.toArray).run P w=.ok (.enter f args'.toArray) w)/\CallsIn (Fr none) 0 P f args'.toArray w (zhS P Z ρ h h' w r)
 caught:∀f,E.caught.get f=some ()->ziS P E.errno f
theorem zvi {fn:Func}{F:zC}(hF:zkm P fn=some F):∃c,fn.body=some c/\zbZ P fn.ntmps 1000 c=some F.body/\zct (zgS P) fn.results.toList=some F.res/\F.N=fn.ntmps:=by
 unfold zkm at hF
 split at hF
 ·cases hF
 ·rename_i c hc
  split at hF
  ·rename_i t r h1 h2;injection hF with hF;subst hF;exact⟨c,hc,h1,h2,rfl⟩
  ·cases hF
theorem zyj {E:Env}(hE:zfq P E){C:zbt}(hC:zfF P C)(hR:zhb P C):zfF P ⟨zaZ E C,zmN E C⟩:=by
 intro f args h r h' hr Z ρ w args' k hZ hv;simp only[zaZ]at hr
 split at hr
 ·rename_i F hF;obtain⟨hlen,hrA⟩:=zI hr;have hlen:=zBA9 hlen;obtain⟨fn,p1,p2,p3⟩:=hE.fn f F hF;obtain⟨c,c1,c2,c3,c4⟩:=zvi p2;refine⟨fun w=>p3 _ w,callsIn_of_wp_marks p1 c1 trivial ?_⟩
  cases hr1:zbc C E.caught E.N none F.body ⟨Tr.putL .nil 0 args,[],h⟩with
  | none=>rw[hr1]at hrA;cases hrA
  | some r1 =>
   obtain⟨x,s⟩:=r1;rw[hr1]at hrA;have kst:StR P Z ρ fn.ntmps E.caught ⟨Tr.putL .nil 0 args,[],h⟩ { tmps:=args'.toArray++Array.replicate (fn.ntmps-args'.toArray.size) undef,defers:=[] } w:=by
    refine⟨k,fun t v ht=>?_,by simp;omega,.nil,hZ⟩;dsimp only at ht;rw[Tr.get_putL]at ht
    split at ht
    ·rename_i hlt;obtain⟨y,y1,y2⟩:=hv.at ht;rw[zFR9]at y1;refine⟨y,?_,y2⟩;have hlt2:t<args'.length:=by rw[<- hv.1];omega
     dsimp only;rw[zEW9 (by simpa using hlt2)];simpa using y1
    ·rw[Tr.get_nil]at ht;cases ht
   refine wpIn_mono (znh hC hR hE.mix (rnd:=none) (trnd:=none) (.inl rfl) 1000 c F.body c2 ρ _ _ w x s trivial kst hr1) ?_;intro e a1 w1 hc;obtain⟨ρ1,g1,g2,g3,g4,g5⟩:=hc;have out:∀(m:TM) (u:FrameMode),MR ρ1 m u->zhr E F s.tm (zcw E C s.df m s.h)=some (r,h')->LeavesInM (Fr none) 0 P fn a1.tmps (zhS P Z ρ h h' w r) a1.defers u w1:=fun m u hm hl=>by
    cases hlv:zcw E C s.df m s.h with
    | none=>rw[hlv]at hl;cases hl
    | some q =>
     obtain⟨m',h2⟩:=q;rw[hlv]at hl;refine zwg hC hE.caught s.df a1.defers m u s.h w1 ρ1 m' h2 g5.wr g5.hZ g5.df hm hlv fun ρ2 w2 u2 b1 b2 b3 b4 b5=>?_;have hle:=g1.trans b1 g3;have hb:=g2.trans b3;have hn:=zBN9 g3 b4
     cases m' with
     | returning =>
      have b5:u2=.returning:=b5;subst b5;simp only[zhr]at hl
      split at hl
      ·rename_i vs hvs;injection hl with hl;injection hl with l1 l2;subst l1;subst l2;obtain⟨v',d1,d2⟩:=zsN b2 (g5.tm.mono b1.more) c3 hvs;exact⟨v',d1,ρ2,hle,b2,hb,hn,v',rfl,d2⟩
      ·cases hl
     | panicking v =>
      obtain⟨v',rfl,d2⟩:=b5;simp only[zhr]at hl;injection hl with hl;injection hl with l1 l2;subst l1;subst l2;exact⟨ρ2,hle,b2,hb,hn,v',rfl,d2⟩
   simp only[zu2]at hrA
   cases x with
   | norm =>
    have g4:e=.normal:=g4;subst g4;exact out .returning .returning rfl hrA
   | ret =>
    have g4:e=.ret:=g4;subst g4;exact out .returning .returning rfl hrA
   | panic v =>
    obtain⟨v',rfl,hv'⟩:=g4;exact out (.panicking v) _ ⟨v',rfl,hv'⟩ hrA
   | exit id=>cases hrA
   | goto l=>cases hrA
 ·split at hr
  ·rename_i g hg;exact hE.spec f g hg Z ρ w args args' h r h' hr k hZ hv
  ·cases hr
theorem ziQ {E:Env}(hE:zfq P E):∀d,zfF P (zcK E d)/\zhb P (zcK E d)
 | 0=>⟨fun f args h r h' hr=>(by cases hr),fun l args h b h' hr=>(by cases hr)⟩
 | d+1=>by
  obtain⟨hC,hR⟩:=ziQ hE d;exact⟨zyj hE hC hR,fun l args h b h' hr Z ρ w args' loc k hZ hl hv=>zvl hC hR hE.mix hr k hZ hl hv⟩
theorem WR.start (w:World):WR P w.heap.size (fun _ _=>none) ⟨0,.nil⟩ w:=⟨fun _ _ _ h=>(by cases h),fun _ _ _ h=>(by cases h),fun _ _ _ _ _ _ h=>(by cases h)⟩
theorem zuw {E:Env}(hE:zfq P E){d f:Nat}{r:TE}{h':TH}(hr:(zcK E d).fn f [] ⟨0,.nil⟩=some (r,h'))(w:World) :
  (∀w,(callFunc f #[]).run P w=.ok (.enter f #[]) w)/\CallsIn (Fr none) 0 P f #[] w fun e w'=>Below w.heap.size w w'/\match r with
   | .ret v=>∃ρ v',e=.returned v'/\VR ρ v v'
   | .panic v=>∃ρ v',e=.panicked [{ v:=v',recovered:=false }]/\VR ρ v v':=by
 obtain⟨h1,h2⟩:=(ziQ hE d).1 f [] ⟨0,.nil⟩ r h' hr w.heap.size _ w [] (WR.start w) (zAM9 _) (VL.nil _);refine⟨h1,h2.mono ?_⟩;rintro e w' ⟨ρ',_,_,hb,_,he⟩;refine⟨hb,?_⟩
 cases r with
 | ret v=>obtain⟨v',a,b⟩:=he;exact⟨ρ',v',a,b⟩
 | panic v=>obtain⟨v',a,b⟩:=he;exact⟨ρ',v',a,b⟩
end Tw
end Go.Proofs.YtfomlmhnmheenaaGreat
namespace Go.Proofs.YtfomlmhnmheenaaGreat
namespace Tw
variable {ρ:Rho}
theorem VR.sl_inv {b g o n q z:Nat}{v:Value}(h:VR ρ (.sl b g o n q z) v):∃loc o' c,v=.slice (some ⟨loc.r,o',none⟩) n c/\ρ b g=some loc/\n<=q/2/\q/2<=c/\o+q/2*z<=loc.L/\(o'=o\/n=0/\c=0/\o≠0)/\(q%2=0->o+c*z=loc.S)/\c<=maxLen:=by
 cases h
 exact⟨_,_,_,rfl,‹_›,‹_›,‹_›,‹_›,‹_›,‹_›,‹_›⟩
def srt (l:List Int):List Int:=l.mergeSort fun x y=>decide (x<=y)
theorem zjW (l:List Int):(srt l).length=l.length:=List.length_mergeSort _
def zig:List TV->Option (List Int)
 | []=>some []
 | .int .i64 a::l=>(match zig l with
  | some r=>some (a::r)
  | none=>none)
 | _=>none
def ivT (l:List Int):List TV:=l.map fun a=>.int .i64 a
theorem zoh:∀{l:List TV} {r:List Int},zig l=some r->l=ivT r
 | [],r,h=>by injection h with h;subst h;rfl
 | x::l,r,h=>by
  unfold zig at h
  split at h
  ·rename_i e;cases e
  ·rename_i a l' e;injection e with e1 e2;subst e1;subst e2
   split at h
   ·rename_i r' hr;injection h with h;subst h;rw[zoh hr];rfl
   ·cases h
  ·cases h
theorem zlv:∀r:List Int,zig (ivT r)=some r
 | []=>rfl
 | a::r=>by have:=zlv r;unfold ivT at this⊢;rw[zCH9,zig,this]
def zl2 (h:TH)(b g n e0:Nat):TO->Option (TE×TH)
 | .row e G M len cells=>bif Nat.beq e e0 then bif Nat.beq g G then bif Nat.beq n len then bif Nat.ble M G then bif Nat.ble n 1000000 then(match cells.getL 0 len with
  | some l=>(match zig l with
   | some r=>some (.ret (.tuple []),h.set b (.row e G G len (Tr.putL .nil 0 (ivT (srt r)))))
   | none=>none)
  | none=>none)else none else none else none else none else none
 | _=>none
def zhA (e0:Nat)(vs:List TV)(h:TH):Option (TE×TH):=match vs with
 | [.sl b g 0 n _ 1]=>(match h.get b with
  | some o=>zl2 h b g n e0 o
  | none=>none)
 | _=>none
end Tw
end Go.Proofs.YtfomlmhnmheenaaGreat
namespace Go.Proofs.YtfomlmhnmheenaaGreat
namespace Fv
open Tw
inductive PV where
 | bad
 | bool (b:Bool)
 | int (k:IntKind) (n:Int)
 | str (s:List Nat)
 | nilptr
 | nilsl
 | nilmap
 | nilfn
 | niliface
 | iface (t:Nat) (v:PV)
 | list (p z:Nat) (l:List PV)
 | elem (cs:List PV)
 | sl (id g o n q z:Nat)
 | ptr (id g i o n:Nat)
 | map (id:Nat)
 | fn (f:Nat) (cap:List PV)
 | yield (id:Nat)
 | agg (vs:List PV)
 | tuple (vs:List PV)
 deriving Inhabited
def PV.cells:PV->List PV
 | .agg l=>l
 | .tuple _=>[]
 | v=>[v]
inductive FX where
 | norm|exit (id:Nat)|goto (l:Nat)|ret|panic (v:PV)
inductive zn where
 | row (e z G M:Nat) (l:List PV)
 | map0
 | mapI (k:IntKind) (m:Int->Option PV)
 | dfr (shut:Bool)
 | loop (st:LoopState) (pe:FX) (tm:Nat->PV) (ps:List Nat) (aS bo:zbl) (m:Nat)
 | void
abbrev zdT:=Nat->Nat->Prop
inductive PR (S:zdT)(h:TH):PV->TV->Prop
 | bool (b:Bool):PR S h (.bool b) (.bool b)
 | int (k:IntKind) (n:Int):PR S h (.int k n) (.int k n)
 | str (s:List Nat):PR S h (.str s) (.str s)
 | nilptr:PR S h .nilptr .nilptr
 | nilsl:PR S h .nilsl .nilsl
 | nilmap:PR S h .nilmap .nilmap
 | nilfn:PR S h .nilfn .nilfn
 | niliface:PR S h .niliface .niliface
 | iface {t:Nat} {v:PV} {u:TV}:PR S h v u->PR S h (.iface t v) (.iface t u)
 | listnil (p z:Nat):PR S h (.list p z []) .nilsl
 | list {p z:Nat} {l:List PV} {b g o q:Nat} {cs:List TV}:S p b->zbs h b g o (l.length*z)=some cs->2*l.length<=q->(∀v∈l,v.cells.length=z)->(l.flatMap PV.cells).length=cs.length ->
   (∀(i:Nat) (x:PV) (y:TV),(l.flatMap PV.cells)[i]?=some x->cs[i]?=some y->PR S h x y)->PR S h (.list p z l) (.sl b g o l.length q z)
 | elem {vs:List PV} {p b g o:Nat} {cs:List TV}:S p b->zbs h b g o vs.length=some cs->vs.length=cs.length->(∀(i:Nat) (x:PV) (y:TV),vs[i]?=some x->cs[i]?=some y->PR S h x y)->PR S h (.elem vs) (.ptr b g o vs.length)
 | fn {f:Nat} {vs:List PV} {cs:List TV}:vs.length=cs.length->(∀(i:Nat) (x:PV) (y:TV),vs[i]?=some x->cs[i]?=some y->PR S h x y)->PR S h (.fn f vs) (.fn f cs)
 | agg {vs:List PV} {cs:List TV}:vs.length=cs.length->(∀(i:Nat) (x:PV) (y:TV),vs[i]?=some x->cs[i]?=some y->PR S h x y)->PR S h (.agg vs) (.agg cs)
 | tuple {vs:List PV} {cs:List TV}:vs.length=cs.length->(∀(i:Nat) (x:PV) (y:TV),vs[i]?=some x->cs[i]?=some y->PR S h x y)->PR S h (.tuple vs) (.tuple cs)
structure Cx where
 S:zdT
 ρ:Nat->Option (Nat×Nat×Nat)
 L:Nat->Prop
inductive VR (c:Cx)(h:TH):PV->TV->Prop
 | pure {v:PV} {u:TV}:PR c.S h v u->VR c h v u
 | sl {id b d z g o n q:Nat}:c.ρ id=some (b,d,z)->VR c h (.sl id (g+d) o n q z) (.sl b g (o*z) n q z)
 | slnil {id:Nat} (z:Nat):c.L id->VR c h (.sl id 0 0 0 0 z) .nilsl
 | ptr {id b d z g i o n:Nat}:c.ρ id=some (b,d,z)->VR c h (.ptr id (g+d) i o n) (.ptr b g (i*z+o) n)
 | map {id b d z:Nat}:c.ρ id=some (b,d,z)->VR c h (.map id) (.map b)
 | yield {id b d z:Nat}:c.ρ id=some (b,d,z)->VR c h (.yield id) (.yield b)
 | iface {t:Nat} {v:PV} {u:TV}:VR c h v u->VR c h (.iface t v) (.iface t u)
 | fn {f:Nat} {vs:List PV} {cs:List TV}:vs.length=cs.length->(∀(i:Nat) (x:PV) (y:TV),vs[i]?=some x->cs[i]?=some y->VR c h x y)->VR c h (.fn f vs) (.fn f cs)
 | agg {vs:List PV} {cs:List TV}:vs.length=cs.length->(∀(i:Nat) (x:PV) (y:TV),vs[i]?=some x->cs[i]?=some y->VR c h x y)->VR c h (.agg vs) (.agg cs)
 | tuple {vs:List PV} {cs:List TV}:vs.length=cs.length->(∀(i:Nat) (x:PV) (y:TV),vs[i]?=some x->cs[i]?=some y->VR c h x y)->VR c h (.tuple vs) (.tuple cs)
def LR (R:PV->TV->Prop)(l:List PV)(cs:List TV):Prop:=l.length=cs.length/\∀(i:Nat) (x:PV) (y:TV),l[i]?=some x->cs[i]?=some y->R x y
section lists
variable {R R':PV->TV->Prop}
theorem LR.nil:LR R [] []:=⟨rfl,fun i x y h=>by simp at h⟩
theorem LR.cons {x:PV}{y:TV}{l:List PV}{cs:List TV}(h:R x y)(hl:LR R l cs):LR R (x::l) (y::cs) :=
 ⟨by simp[hl.1],fun i a b ha hb=>by
  cases i with
  | zero=>simp at ha hb;subst ha;subst hb;exact h
  | succ i=>simp at ha hb;exact hl.2 i a b ha hb⟩
theorem LR.of_cons {x:PV}{l:List PV}{cs:List TV}(h:LR R (x::l) cs):∃y cs',cs=y::cs'/\R x y/\LR R l cs':=by
 cases cs with
 | nil=>have:=h.1;simp at this
 | cons y cs=>exact⟨y,cs,rfl,h.2 0 x y rfl rfl,by have:=h.1;simp at this;exact this,fun i a b ha hb=>h.2 (i+1) a b (by simpa using ha) (by simpa using hb)⟩
theorem LR.of_nil {cs:List TV}(h:LR R [] cs):cs=[]:=by
 cases cs with
 | nil=>rfl
 | cons y cs=>have:=h.1;simp at this
theorem LR.mono (hR:∀x y,R x y->R' x y){l:List PV}{cs:List TV}(h:LR R l cs):LR R' l cs:=⟨h.1,fun i x y hx hy=>hR _ _ (h.2 i x y hx hy)⟩
theorem LR.app {l m:List PV}{cs ds:List TV}(h:LR R l cs)(k:LR R m ds):LR R (l++m) (cs++ds):=by
 refine⟨by simp[h.1,k.1],fun i x y hx hy=>?_⟩
 by_cases hi:i<l.length
 ·rw[zAW9 hi]at hx;rw[zAW9 (by rw[<- h.1];exact hi)]at hy;exact h.2 i x y hx hy
 ·rw[zAO9 (by omega)]at hx;rw[zAO9 (by rw[<- h.1];omega),<- h.1]at hy;exact k.2 _ x y hx hy
theorem LR.drop {l:List PV}{cs:List TV}(h:LR R l cs)(k:Nat):LR R (l.drop k) (cs.drop k) :=
 ⟨by simp[h.1],fun i x y hx hy=>by rw[zCB9]at hx hy;exact h.2 _ x y hx hy⟩
theorem LR.take {l:List PV}{cs:List TV}(h:LR R l cs)(k:Nat):LR R (l.take k) (cs.take k):=by
 refine⟨by simp[h.1],fun i x y hx hy=>?_⟩;rw[zBD9]at hx hy
 split at hx
 ·rename_i hi;rw[if_pos hi]at hy;exact h.2 _ x y hx hy
 ·cases hx
theorem LR.at {l:List PV}{cs:List TV}(h:LR R l cs){i:Nat}{x:PV}(hx:l[i]?=some x):∃y,cs[i]?=some y/\R x y:=by
 have hi:i<l.length:=(zAD9.1 hx).1;have hi2:i<cs.length:=by rw[<- h.1];exact hi
 exact⟨cs[i],zAB9 hi2,h.2 i x _ hx (zAB9 hi2)⟩
end lists
structure ER (R:PV->TV->Prop)(z:Nat)(l:List PV)(cs:List TV):Prop where
 one:∀v∈l,v.cells.length=z
 all:LR R (l.flatMap PV.cells) cs
theorem zkO {z:Nat}:∀{l:List PV},(∀v∈l,v.cells.length=z)->(l.flatMap PV.cells).length=l.length*z
 | [],_=>by simp
 | v::l,h=>by
  rw[zBS9,zAC9,h v (by simp),zkO (fun x hx=>h x (by simp[hx])),zAE9,zDA9,zDL9]
theorem zn6 {z:Nat}:∀{l:List PV},(∀v∈l,v.cells.length=z)->∀k,(l.drop k).flatMap PV.cells=(l.flatMap PV.cells).drop (k*z)
 | [],_,k=>by simp
 | v::l,h,0=>by simp
 | v::l,h,k+1=>by
  rw[List.drop_succ_cons,zn6 (fun x hx=>h x (by simp[hx])) k,zBS9,zDA9,zDL9,<- zEH9,<- h v (by simp),List.drop_left]
theorem zn4 {z:Nat}:∀{l:List PV},(∀v∈l,v.cells.length=z)->∀k,(l.take k).flatMap PV.cells=(l.flatMap PV.cells).take (k*z)
 | [],_,k=>by simp
 | v::l,h,0=>by simp
 | v::l,h,k+1=>by
  rw[zFW9,zBS9,zn4 (fun x hx=>h x (by simp[hx])) k,zBS9,zDA9,zDL9,<- h v (by simp),List.take_length_add_append]
section elems
variable {R R':PV->TV->Prop}{z:Nat}
theorem ER.len {l:List PV}{cs:List TV}(h:ER R z l cs):cs.length=l.length*z:=by rw[<- h.all.1,zkO h.one]
theorem ER.nil:ER R z [] []:=⟨fun v h=>by simp at h,LR.nil⟩
theorem ER.drop {l:List PV}{cs:List TV}(h:ER R z l cs)(k:Nat):ER R z (l.drop k) (cs.drop (k*z)) :=
 ⟨fun v hv=>h.one v (zBY9 hv),by rw[zn6 h.one];exact h.all.drop _⟩
theorem ER.take {l:List PV}{cs:List TV}(h:ER R z l cs)(k:Nat):ER R z (l.take k) (cs.take (k*z)) :=
 ⟨fun v hv=>h.one v (zCE9 hv),by rw[zn4 h.one];exact h.all.take _⟩
theorem ER.app {l m:List PV}{cs ds:List TV}(h:ER R z l cs)(k:ER R z m ds):ER R z (l++m) (cs++ds) :=
 ⟨fun v hv=>by rcases zBF9.1 hv with hv|hv;exact h.one v hv;exact k.one v hv,by rw[zCT9];exact h.all.app k.all⟩
theorem ER.mono (hR:∀x y,R x y->R' x y){l:List PV}{cs:List TV}(h:ER R z l cs):ER R' z l cs:=⟨h.one,h.all.mono hR⟩
theorem ER.at {l:List PV}{cs:List TV}(h:ER R z l cs){i:Nat}{v:PV}(hv:l[i]?=some v):LR R v.cells ((cs.drop (i*z)).take z):=by
 have h1:=(h.drop i).take 1;have hd:(l.drop i).take 1=[v]:=by
  have hi:i<l.length:=(zAD9.1 hv).1;rw[zAU9 hi];have:=(zAD9.1 hv).2;simp[this]
 rw[hd,Nat.one_mul]at h1;have h2:=h1.all;simpa using h2
theorem ER.one' {v:PV}{cs:List TV}(h1:v.cells.length=z)(h:LR R v.cells cs):ER R z [v] cs:=⟨fun x hx=>by simp at hx;subst hx;exact h1,by simpa using h⟩
theorem ER.set {l:List PV}{cs:List TV}(h:ER R z l cs){i:Nat}(hi:i<l.length){v:PV}{ds:List TV}(hv:v.cells.length=z)(hd:LR R v.cells ds):ER R z (l.set i v) (cs.take (i*z)++ds++cs.drop ((i+1)*z)):=by
 rw[List.set_eq_take_append_cons_drop,if_pos hi];have h1:=h.take i;have h2:=h.drop (i+1);rw[zAF9];exact h1.app ((ER.one' hv hd).app h2)
end elems
theorem zo3 {α:Type}{t:Tr α}:∀{n i m:Nat} {a b:List α},t.getL i n=some a->t.getL (i+n) m=some b->t.getL i (n+m)=some (a++b)
 | 0,i,m,a,b,h,k=>by simp[Tr.getL]at h;subst h;simpa using k
 | n+1,i,m,a,b,h,k=>by
  rw[show n+1+m=(n+m)+1 by omega];unfold Tr.getL at h
  split at h
  ·cases h
  ·rename_i x hx
   split at h
   ·cases h
   ·rename_i l hl;injection h with h;subst h;have:=zo3 hl (by rw[show i+1+n=i+(n+1) by omega];exact k);simp only[Tr.getL,hx,this];rfl
theorem zjE {α:Type}{t:Tr α}:∀{n i m:Nat} {a:List α},t.getL i (n+m)=some a->t.getL i n=some (a.take n)/\t.getL (i+n) m=some (a.drop n)
 | 0,i,m,a,h=>by simp[Tr.getL];simpa using h
 | n+1,i,m,a,h=>by
  rw[show n+1+m=(n+m)+1 by omega]at h;unfold Tr.getL at h
  split at h
  ·cases h
  ·rename_i x hx
   split at h
   ·cases h
   ·rename_i l hl;injection h with h;subst h;obtain⟨h1,h2⟩:=zjE hl;refine⟨?_,?_⟩
    ·simp only[Tr.getL,hx,h1];rfl
    ·rw[show i+(n+1)=i+1+n by omega];exact h2
theorem zg7 {α:Type}{t:Tr α}{n i:Nat}{a:List α}(h:t.getL i n=some a){k m:Nat}(hk:k+m<=n):t.getL (i+k) m=some ((a.drop k).take m):=by
 obtain⟨r,rfl⟩:=Nat.le.dest hk;rw[zDF9]at h;obtain⟨_,h2⟩:=zjE h;exact(zjE h2).1
theorem zgP {α:Type}{t:Tr α}:∀{a:List α} {i:Nat},(∀j,j<a.length->t.get (i+j)=a[j]?)->t.getL i a.length=some a
 | [],i,_=>rfl
 | x::a,i,h=>by
  have h0:=h 0 (by simp);have h1:=zgP (t:=t) (a:=a) (i:=i+1) fun j hj=>by
   have:=h (j+1) (by simpa using hj);rw[show i+1+j=i+(j+1) by omega,this];simp
  rw[zAE9];unfold Tr.getL;rw[zDH9]at h0;rw[h0];simp only[zFI9];rw[h1]
theorem zsx {α:Type}{t t':Tr α}{n i:Nat}(h:∀j,i<=j->j<i+n->t'.get j=t.get j){a:List α}(ha:t.getL i n=some a):t'.getL i n=some a:=by
 obtain⟨h1,h2⟩:=Tr.getL_some ha;subst h1;exact zgP fun j hj=>by rw[h _ (by omega) (by omega),<- h2 j hj]
theorem zch {a b:Nat}(h:a<=b):Nat.ble a b=true:=Nat.ble_eq_true_of_le h
theorem zby {a b:Nat}(h:a=b):Nat.beq a b=true:=by subst h;exact Nat.beq_refl a
theorem zoD {a b:Nat}(h:Nat.beq a b=true):a=b:=zAJ9 h
theorem zwm {a b:Nat}(h:¬a=b):Nat.beq a b=false:=by
 cases hb:Nat.beq a b
 ·rfl
 ·exact absurd (zoD hb) h
theorem zhQ {h:TH}{b e G M len:Nat}{cells:Tr TV}(hg:h.get b=some (.row e G M len cells)){g o n:Nat}{cs:List TV}(h1:M<=g)(h2:g<=G)(hc:cells.getL o n=some cs):zbs h b g o n=some cs:=by
 unfold zbs;rw[hg];unfold zgg;dsimp only;rw[zch h1,zch h2];exact hc
theorem zf8 {h:TH}{b g o n:Nat}{cs:List TV}(hr:zbs h b g o n=some cs):∃x,h.get b=some x/\zgg g o n x=some cs:=by
 unfold zbs at hr
 split at hr
 ·rename_i x hx;exact⟨x,hx,hr⟩
 ·cases hr
theorem zfr {h:TH}{b g o n:Nat}{x:TO}{cs:List TV}(hx:h.get b=some x)(hr:zgg g o n x=some cs):zbs h b g o n=some cs:=by
 unfold zbs;rw[hx];exact hr
theorem ztN {g o n:Nat}{x:TO}{cs:List TV}(hr:zgg g o n x=some cs){k m:Nat}(hk:k+m<=n):zgg g (o+k) m x=some ((cs.drop k).take m):=by
 unfold zgg at hr⊢
 split at hr
 ·rename_i e G M len cells
  cases h1:Nat.ble M g
  ·rw[h1]at hr;cases hr
  ·cases h2:Nat.ble g G
   ·rw[h1,h2]at hr;cases hr
   ·rw[h1,h2]at hr;exact zg7 hr hk
 ·rename_i cells
  cases h1:Nat.beq g 0
  ·rw[h1]at hr;cases hr
  ·rw[h1]at hr;exact zg7 hr hk
 ·cases hr
theorem zeb {h:TH}{b g o n:Nat}{cs:List TV}(hr:zbs h b g o n=some cs){k m:Nat}(hk:k+m<=n):zbs h b g (o+k) m=some ((cs.drop k).take m):=by
 obtain⟨x,h1,h2⟩:=zf8 hr;exact zfr h1 (ztN h2 hk)
theorem PR.mono {S S':zdT}{h h':TH}(hS:∀p b,S p b->S' p b)(hr:∀p b,S p b->∀g o n cs,zbs h b g o n=some cs->zbs h' b g o n=some cs){v:PV}{u:TV}(k:PR S h v u):PR S' h' v u:=by
 induction k with
 | bool b=>exact .bool b
 | int k n=>exact .int k n
 | str s=>exact .str s
 | nilptr=>exact .nilptr
 | nilsl=>exact .nilsl
 | nilmap=>exact .nilmap
 | nilfn=>exact .nilfn
 | niliface=>exact .niliface
 | iface _ ih=>exact .iface ih
 | listnil p z=>exact .listnil p z
 | list h1 h2 h3 h4 h5 _ ih=>exact .list (hS _ _ h1) (hr _ _ h1 _ _ _ _ h2) h3 h4 h5 ih
 | elem h1 h2 h3 _ ih=>exact .elem (hS _ _ h1) (hr _ _ h1 _ _ _ _ h2) h3 ih
 | fn h1 _ ih=>exact .fn h1 ih
 | agg h1 _ ih=>exact .agg h1 ih
 | tuple h1 _ ih=>exact .tuple h1 ih
structure Mo (c c':Cx)(h h':TH):Prop where
 S:∀p b,c.S p b->c'.S p b
 ρ:∀id x,c.ρ id=some x->c'.ρ id=some x
 L:∀id,c.L id->c'.L id
 rd:∀p b,c.S p b->∀g o n cs,zbs h b g o n=some cs->zbs h' b g o n=some cs
theorem Mo.refl (c:Cx)(h:TH):Mo c c h h:=⟨fun _ _ h=>h,fun _ _ h=>h,fun _ h=>h,fun _ _ _ _ _ _ _ h=>h⟩
theorem Mo.trans {c c' c'':Cx}{h h' h'':TH}(a:Mo c c' h h')(b:Mo c' c'' h' h''):Mo c c'' h h'' :=
 ⟨fun p x hx=>b.S _ _ (a.S _ _ hx),fun id x hx=>b.ρ _ _ (a.ρ _ _ hx),fun id hx=>b.L _ (a.L _ hx),fun p x hx g o n cs hc=>b.rd _ _ (a.S _ _ hx) _ _ _ _ (a.rd _ _ hx _ _ _ _ hc)⟩
theorem VR.mono {c c':Cx}{h h':TH}(m:Mo c c' h h'){v:PV}{u:TV}(k:VR c h v u):VR c' h' v u:=by
 induction k with
 | pure k=>exact .pure (k.mono m.S m.rd)
 | sl h=>exact .sl (m.ρ _ _ h)
 | slnil z h=>exact .slnil z (m.L _ h)
 | ptr h=>exact .ptr (m.ρ _ _ h)
 | map h=>exact .map (m.ρ _ _ h)
 | yield h=>exact .yield (m.ρ _ _ h)
 | iface _ ih=>exact .iface ih
 | fn h1 _ ih=>exact .fn h1 ih
 | agg h1 _ ih=>exact .agg h1 ih
 | tuple h1 _ ih=>exact .tuple h1 ih
theorem PR.aggL {S:zdT}{h:TH}{l:List PV}{cs:List TV}(k:LR (PR S h) l cs):PR S h (.agg l) (.agg cs):=.agg k.1 k.2
theorem VR.aggL {c:Cx}{h:TH}{l:List PV}{cs:List TV}(k:LR (VR c h) l cs):VR c h (.agg l) (.agg cs):=.agg k.1 k.2
theorem VR.tupL {c:Cx}{h:TH}{l:List PV}{cs:List TV}(k:LR (VR c h) l cs):VR c h (.tuple l) (.tuple cs):=.tuple k.1 k.2
theorem VR.fnL {c:Cx}{h:TH}{f:Nat}{l:List PV}{cs:List TV}(k:LR (VR c h) l cs):VR c h (.fn f l) (.fn f cs):=.fn k.1 k.2
theorem LR.pure {c:Cx}{h:TH}{l:List PV}{cs:List TV}(k:LR (PR c.S h) l cs):LR (VR c h) l cs:=k.mono fun _ _=>.pure
theorem VR.agg_inv {c:Cx}{h:TH}{l:List PV}{u:TV}(k:VR c h (.agg l) u):∃cs,u=.agg cs/\LR (VR c h) l cs:=by
 cases k with
 | pure k=>cases k with|agg h1 h2=>exact⟨_,rfl,LR.pure ⟨h1,h2⟩⟩
 | agg h1 h2=>exact⟨_,rfl,h1,h2⟩
theorem VR.tuple_inv {c:Cx}{h:TH}{l:List PV}{u:TV}(k:VR c h (.tuple l) u):∃cs,u=.tuple cs/\LR (VR c h) l cs:=by
 cases k with
 | pure k=>cases k with|tuple h1 h2=>exact⟨_,rfl,LR.pure ⟨h1,h2⟩⟩
 | tuple h1 h2=>exact⟨_,rfl,h1,h2⟩
theorem VR.fn_inv {c:Cx}{h:TH}{f:Nat}{l:List PV}{u:TV}(k:VR c h (.fn f l) u):∃cs,u=.fn f cs/\LR (VR c h) l cs:=by
 cases k with
 | pure k=>cases k with|fn h1 h2=>exact⟨_,rfl,LR.pure ⟨h1,h2⟩⟩
 | fn h1 h2=>exact⟨_,rfl,h1,h2⟩
theorem VR.iface_inv {c:Cx}{h:TH}{t:Nat}{v:PV}{u:TV}(k:VR c h (.iface t v) u):∃u',u=.iface t u'/\VR c h v u':=by
 cases k with
 | pure k=>cases k with|iface h1=>exact⟨_,rfl,.pure h1⟩
 | iface h1=>exact⟨_,rfl,h1⟩
theorem VR.int_inv {c:Cx}{h:TH}{k:IntKind}{n:Int}{u:TV}(x:VR c h (.int k n) u):u=.int k n:=by
 cases x with|pure x=>cases x;rfl
theorem VR.bool_inv {c:Cx}{h:TH}{b:Bool}{u:TV}(x:VR c h (.bool b) u):u=.bool b:=by
 cases x with|pure x=>cases x;rfl
theorem VR.str_inv {c:Cx}{h:TH}{s:List Nat}{u:TV}(x:VR c h (.str s) u):u=.str s:=by
 cases x with|pure x=>cases x;rfl
theorem VR.bad_inv {c:Cx}{h:TH}{u:TV}(x:VR c h .bad u):False:=by
 cases x with|pure x=>cases x
theorem VR.cells {c:Cx}{h:TH}{v:PV}{u:TV}(k:VR c h v u):LR (VR c h) v.cells u.cells:=by
 cases k with
 | pure k =>
  cases k with
  | bool b=>exact LR.cons (.pure (.bool b)) LR.nil
  | int kk n=>exact LR.cons (.pure (.int kk n)) LR.nil
  | str s=>exact LR.cons (.pure (.str s)) LR.nil
  | nilptr=>exact LR.cons (.pure .nilptr) LR.nil
  | nilsl=>exact LR.cons (.pure .nilsl) LR.nil
  | nilmap=>exact LR.cons (.pure .nilmap) LR.nil
  | nilfn=>exact LR.cons (.pure .nilfn) LR.nil
  | niliface=>exact LR.cons (.pure .niliface) LR.nil
  | iface h1=>exact LR.cons (.pure (.iface h1)) LR.nil
  | listnil p z=>exact LR.cons (.pure (.listnil p z)) LR.nil
  | list h1 h2 h3 h4 h5 h6=>exact LR.cons (.pure (.list h1 h2 h3 h4 h5 h6)) LR.nil
  | elem h1 h2 h3 h4=>exact LR.cons (.pure (.elem h1 h2 h3 h4)) LR.nil
  | fn h1 h2=>exact LR.cons (.pure (.fn h1 h2)) LR.nil
  | agg h1 h2=>exact LR.pure ⟨h1,h2⟩
  | tuple h1 h2=>exact LR.nil
 | sl h1=>exact LR.cons (.sl h1) LR.nil
 | slnil z h1=>exact LR.cons (.slnil z h1) LR.nil
 | ptr h1=>exact LR.cons (.ptr h1) LR.nil
 | map h1=>exact LR.cons (.map h1) LR.nil
 | yield h1=>exact LR.cons (.yield h1) LR.nil
 | iface h1=>exact LR.cons (.iface h1) LR.nil
 | fn h1 h2=>exact LR.cons (.fn h1 h2) LR.nil
 | agg h1 h2=>exact⟨h1,h2⟩
 | tuple h1 h2=>exact LR.nil
def lk (x:Int):List zcf->Option TV
 | []=>none
 | e::l=>match e.k with
  | .int _ n=>if n=x then some e.v else lk x l
  | _=>lk x l
structure MR (R:PV->TV->Prop)(k:IntKind)(m:Int->Option PV)(es:List zcf):Prop where
 keys:∀e∈es,∃n,e.k=.int k n
 some:∀x v,m x=some v->∃u,lk x es=some u/\R v u
 none:∀x,m x=none->lk x es=none
def tmR (c:Cx)(h:TH)(tm:Nat->PV)(t:Tr TV):Prop:=∀i,tm i=.bad\/∃u,t.get i=some u/\VR c h (tm i) u
inductive XR (c:Cx)(h:TH):FX->TX->Prop
 | norm:XR c h .norm .norm
 | exit (id:Nat):XR c h (.exit id) (.exit id)
 | goto (l:Nat):XR c h (.goto l) (.goto l)
 | ret:XR c h .ret .ret
 | panic {v:PV} {u:TV}:VR c h v u->XR c h (.panic v) (.panic u)
def OR (c:Cx)(h:TH)(id:Nat):zn->Prop
 | .row e z G M l=>(l=[]/\G=0/\c.ρ id=none/\c.L id)\/∃b d G' M' cells cs,c.ρ id=some (b,d,z)/\h.get b=some (.row e G' M' (l.length*z) cells)/\G=G'+d/\M'<=M-d/\cells.getL 0 (l.length*z)=some cs/\ER (VR c h) z l cs
 | .map0=>∃b d z clock,c.ρ id=some (b,d,z)/\h.get b=some (.map [] clock)
 | .mapI k m=>∃b d z es clock,c.ρ id=some (b,d,z)/\h.get b=some (.map es clock)/\MR (VR c h) k m es
 | .dfr shut=>∃b d z,c.ρ id=some (b,d,z)/\h.get b=some (.dfr shut)
 | .loop st pe tm ps aS bo m=>∃b d z bm dm zm t pe',c.ρ id=some (b,d,z)/\c.ρ m=some (bm,dm,zm)/\h.get b=some (.loop st pe' t ps aS bo bm)/\tmR c h tm t/\XR c h pe pe'
 | .void=>True
structure Ba where
 β:Nat
 h0:TH
 S:zdT
structure HR (B:Ba)(c:Cx)(H:List zn)(h:TH):Prop where
 le:B.β<=h.next
 keep:∀b,b<B.β->h.get b=B.h0.get b
 old:∀p b,c.S p b->B.S p b\/(p=0/\B.β<=b)
 S:∀p b,c.S p b->b<h.next/\∀id x,c.ρ id=some x->x.1=b->H[id]?=some .void
 own:∀id x,c.ρ id=some x->B.β<=x.1/\x.1<h.next/\id<H.length
 lz:∀id,c.L id->id<H.length/\∀x,c.ρ id=some x->x.2.1=1
 inj:∀id id' x x',c.ρ id=some x->c.ρ id'=some x'->x.1=x'.1->id=id'
 obj:∀id o,H[id]?=some o->OR c h id o
def PV.toT:PV->Option TV
 | .bool b=>some (.bool b)
 | .int k n=>some (.int k n)
 | .str s=>some (.str s)
 | _=>none
def ofT:TV->Option PV
 | .bool b=>some (.bool b)
 | .int k n=>some (.int k n)
 | .str s=>some (.str s)
 | _=>none
theorem zmo {c:Cx}{h:TH}{v:PV}{u u':TV}(k:VR c h v u)(ht:v.toT=some u'):u=u':=by
 cases v<;>simp[PV.toT]at ht<;>subst ht
 ·exact k.bool_inv
 ·exact k.int_inv
 ·exact k.str_inv
theorem zpn {c:Cx}{h:TH}{v:PV}{u:TV}(ht:ofT u=some v):VR c h v u:=by
 cases u<;>simp[ofT]at ht<;>subst ht
 ·exact .pure (.bool _)
 ·exact .pure (.int _ _)
 ·exact .pure (.str _)
def sc1 (f:TV->Option TV):List PV->Option PV
 | [x]=>match x.toT with
  | some u=>(match f u with|some w=>ofT w|none=>none)
  | none=>none
 | _=>none
def sc2 (f:TV->TV->Option TV):List PV->Option PV
 | [x,y]=>match x.toT with
  | some u=>(match y.toT with
   | some t=>(match f u t with|some w=>ofT w|none=>none)
   | none=>none)
  | none=>none
 | _=>none
def zba:List PV->Option (List TV)
 | []=>some []
 | x::l=>match x.toT with
  | some u=>(match zba l with|some us=>some (u::us)|none=>none)
  | none=>none
def scL (f:List TV->Option TV)(l:List PV):Option PV:=match zba l with
 | some us=>(match f us with|some w=>ofT w|none=>none)
 | none=>none
section plain
variable {c:Cx}{h:TH}
theorem zlp {f:TV->Option TV}{vs:List PV}{us:List TV}{v:PV}(hv:LR (VR c h) vs us)(hp:sc1 f vs=some v):∃u,zb9 us f=some u/\VR c h v u:=by
 unfold sc1 at hp
 split at hp
 ·rename_i x;obtain⟨y,cs,rfl,h1,h2⟩:=hv.of_cons;obtain rfl:=h2.of_nil
  split at hp
  ·rename_i u hu;obtain rfl:=zmo h1 hu
   split at hp
   ·rename_i w hw;exact⟨w,hw,zpn hp⟩
   ·cases hp
  ·cases hp
 ·cases hp
theorem zjn {f:TV->TV->Option TV}{vs:List PV}{us:List TV}{v:PV}(hv:LR (VR c h) vs us)(hp:sc2 f vs=some v):∃u,zb2 us f=some u/\VR c h v u:=by
 unfold sc2 at hp
 split at hp
 ·rename_i x x';obtain⟨y,cs,rfl,h1,h2⟩:=hv.of_cons;obtain⟨y',cs',rfl,h3,h4⟩:=h2.of_cons;obtain rfl:=h4.of_nil
  split at hp
  ·rename_i u hu;obtain rfl:=zmo h1 hu
   split at hp
   ·rename_i u' hu';obtain rfl:=zmo h3 hu'
    split at hp
    ·rename_i w hw;exact⟨w,hw,zpn hp⟩
    ·cases hp
   ·cases hp
  ·cases hp
 ·cases hp
theorem zkj:∀{vs:List PV} {us us':List TV},LR (VR c h) vs us->zba vs=some us'->us=us'
 | [],us,us',hv,hp=>by simp[zba]at hp;subst hp;exact hv.of_nil
 | x::l,us,us',hv,hp=>by
  obtain⟨y,cs,rfl,h1,h2⟩:=hv.of_cons;unfold zba at hp
  split at hp
  ·rename_i u hu;obtain rfl:=zmo h1 hu
   split at hp
   ·rename_i ws hws;injection hp with hp;subst hp;rw[zkj h2 hws]
   ·cases hp
  ·cases hp
theorem zya {f:List TV->Option TV}{vs:List PV}{us:List TV}{v:PV}(hv:LR (VR c h) vs us)(hp:scL f vs=some v):∃u,f us=some u/\VR c h v u:=by
 unfold scL at hp
 split at hp
 ·rename_i ws hws;obtain rfl:=zkj hv hws
  split at hp
  ·rename_i w hw;exact⟨w,hw,zpn hp⟩
  ·cases hp
 ·cases hp
end plain
def za6 (f:TV->Option PV):List TV->Option (List PV)
 | []=>some []
 | x::l=>match f x with
  | some v=>(match za6 f l with|some vs=>some (v::vs)|none=>none)
  | none=>none
def ofC:Nat->TV->Option PV
 | 0,_=>none
 | n+1,u=>match u with
  | .bool b=>some (.bool b)
  | .int k m=>some (.int k m)
  | .str s=>some (.str s)
  | .nilptr=>some .nilptr
  | .nilsl=>some .nilsl
  | .nilmap=>some .nilmap
  | .nilfn=>some .nilfn
  | .niliface=>some .niliface
  | .fn f []=>some (.fn f [])
  | .iface t v=>(match ofC n v with|some v=>some (.iface t v)|none=>none)
  | .agg l=>(match za6 (ofC n) l with|some l=>some (.agg l)|none=>none)
  | .tuple l=>(match za6 (ofC n) l with|some l=>some (.tuple l)|none=>none)
  | _=>none
theorem zf3 {f:TV->Option PV}{S:zdT}{h:TH}(hf:∀u v,f u=some v->PR S h v u):∀{us:List TV} {vs:List PV},za6 f us=some vs->LR (PR S h) vs us
 | [],vs,hp=>by simp[za6]at hp;subst hp;exact LR.nil
 | u::us,vs,hp=>by
  unfold za6 at hp
  split at hp
  ·rename_i v hv
   split at hp
   ·rename_i ws hws;injection hp with hp;subst hp;exact LR.cons (hf _ _ hv) (zf3 hf hws)
   ·cases hp
  ·cases hp
theorem zgj {S:zdT}{h:TH}:∀{n:Nat} {u:TV} {v:PV},ofC n u=some v->PR S h v u
 | 0,u,v,hp=>by cases hp
 | n+1,u,v,hp=>by
  unfold ofC at hp
  split at hp<;>first|(injection hp with hp;subst hp;constructor;done)|skip
  ·injection hp with hp;subst hp;exact .fn rfl (fun i x y hx=>by simp at hx)
  ·split at hp
   ·rename_i w hw;injection hp with hp;subst hp;exact .iface (zgj hw)
   ·cases hp
  ·split at hp
   ·rename_i w hw;injection hp with hp;subst hp;have:=zf3 (fun u v=>zgj (S:=S) (h:=h)) hw;exact .agg this.1 this.2
   ·cases hp
  ·split at hp
   ·rename_i w hw;injection hp with hp;subst hp;have:=zf3 (fun u v=>zgj (S:=S) (h:=h)) hw;exact .tuple this.1 this.2
   ·cases hp
  ·cases hp
def zao:PV->Bool
 | .agg _=>false
 | .tuple _=>false
 | .bad=>false
 | _=>true
theorem ztl {v:PV}(h:zao v=true):v.cells=[v]:=by cases v<;>first|rfl|cases h
def zaJ (agg:Bool)(l:List PV):Option PV:=if agg then some (.agg l)else match l with
 | [x]=>some x
 | _=>none
def zaC (H:List zn)(id g i:Nat):Option PV:=match H[id]? with
 | some (.row _ _ G M l)=>if M<=g/\g<=G then l[i]? else none
 | _=>none
def zae (H:List zn)(agg:Bool)(n:Nat):List PV->Option PV
 | [.elem cs]=>if n<=cs.length then zaJ agg (cs.take n)else none
 | [.ptr id g i o m]=>if n<=m then(match zaC H id g i with
  | some v=>if o+n<=v.cells.length then zaJ agg ((v.cells.drop o).take n)else none
  | none=>none)else none
 | _=>none
def zal (off size:Nat):List PV->Option PV
 | [.elem cs]=>if off+size<=cs.length then some (.elem ((cs.drop off).take size))else none
 | [.ptr id g i o m]=>if off+size<=m then some (.ptr id g i (o+off) size)else none
 | _=>none
def zak (esz:Nat):List PV->Option PV
 | [.list _ z l,.int _ j]=>if esz=z/\0<=j then(match l[j.toNat]? with
  | some v=>some (.elem v.cells)
  | none=>none)else none
 | [.sl id g o n _ z,.int _ j]=>if esz=z/\0<=j/\j.toNat<n then some (.ptr id g (o+j.toNat) 0 z)else none
 | _=>none
def znn (len esz:Nat):List PV->Option PV
 | [.elem cs,.int _ j]=>if 0<=j/\j.toNat<len/\len*esz<=cs.length then some (.elem ((cs.drop (j.toNat*esz)).take esz))else none
 | [.ptr id g i o m,.int _ j]=>if 0<=j/\j.toNat<len/\len*esz<=m then some (.ptr id g i (o+j.toNat*esz) esz)else none
 | _=>none
def bnd (m:Nat):PV->Option Nat
 | .int _ j=>if 0<=j/\j.toNat<=m then some j.toNat else none
 | _=>none
def zam (lo hi mx:Bool)(p z:Nat)(l:List PV):List PV->Option PV
 | []=>if lo=false/\hi=false/\mx=false then some (.list p z l)else none
 | [x]=>if mx=true\/lo=hi then none else(match bnd l.length x with
  | some a=>some (.list p z (if lo then l.drop a else l.take a))
  | none=>none)
 | [x,y]=>if lo=true/\hi=true/\mx=false/\0<l.length then(match bnd l.length y with
  | some b=>(match bnd b x with
   | some a=>some (.list p z ((l.take b).drop a))
   | none=>none)
  | none=>none)else none
 | [x,y,w]=>if lo=true/\hi=true/\mx=true/\0<l.length then(match bnd l.length w with
  | some m=>(match bnd m y with
   | some b=>(match bnd b x with
    | some a=>some (.list p z ((l.take b).drop a))
    | none=>none)
   | none=>none)
  | none=>none)else none
 | _=>none
def zan (lo hi mx:Bool)(id g o n q z:Nat):List PV->Option PV
 | []=>if lo=false/\hi=false/\mx=false then some (.sl id g o n q z)else none
 | [x]=>if mx=true\/lo=hi\/q=0 then none else if lo then(match bnd n x with
   | some a=>some (.sl id g (o+a) (n-a) (q-2*a) z)
   | none=>none)else(match bnd (q/2) x with
   | some a=>some (.sl id g o a q z)
   | none=>none)
 | [x,y]=>if lo=true/\hi=true/\mx=false/\0<q then(match bnd (q/2) y with
  | some b=>(match bnd b x with
   | some a=>some (.sl id g (o+a) (b-a) (q-2*a) z)
   | none=>none)
  | none=>none)else none
 | [x,y,m]=>if lo=true/\hi=true/\mx=true/\0<q then(match bnd (q/2) m with
  | some m=>(match bnd m y with
   | some b=>(match bnd b x with
    | some a=>some (.sl id g (o+a) (b-a) (2*m+1-2*a) z)
    | none=>none)
   | none=>none)
  | none=>none)else none
 | _=>none
def zai (esz:Nat)(lo hi mx:Bool):List PV->Option PV
 | .list p z l::bs=>if esz=z then zam lo hi mx p z l bs else none
 | .sl id g o n q z::bs=>if esz=z then zan lo hi mx id g o n q z bs else none
 | _=>none
def zbg (f:Nat)(vs:List PV):Option PV:=match f with
 | 1=>(match vs with
  | [.nilsl]=>some (.int .i64 0)
  | [.list _ _ l]=>some (.int .i64 l.length)
  | [.sl _ _ _ n _ _]=>some (.int .i64 n)
  | _=>none)
 | 3=>sc1 zsZ vs
 | _=>none
def okF (ok:Bool)(v:PV)(b:Bool):PV:=if ok then .tuple [v,.bool b]else v
def zaB (H:List zn)(kf:Nat)(zero:TV)(ok:Bool):List PV->Option PV
 | [.map id,.int k x]=>if kf=1 then(match H[id]? with
  | some .map0=>(match ofC 3 zero with|some z=>some (okF ok z false)|none=>none)
  | some (.mapI k' m)=>if k=k' then(match m x with
   | some v=>some (okF ok v true)
   | none=>(match ofC 3 zero with|some z=>some (okF ok z false)|none=>none))else none
  | _=>none)else none
 | [.nilmap,.int _ _]=>if kf=1 then(match ofC 3 zero with|some z=>some (okF ok z false)|none=>none)else none
 | _=>none
def za3 (f:Nat)(v:PV):Option Bool:=match f,v with
 | 1,.nilptr=>some true
 | 1,.ptr ..=>some false
 | 1,.elem _=>some false
 | 2,.nilsl=>some true
 | 2,.list _ _ (_::_)=>some false
 | 3,.nilmap=>some true
 | 3,.map _=>some false
 | 4,.nilfn=>some true
 | 4,.fn ..=>some false
 | 5,.niliface=>some true
 | 5,.iface ..=>some false
 | _,_=>none
def zbb (neg:Bool):Option Bool->Option PV
 | some b=>some (.bool (if neg then !b else b))
 | none=>none
def zah (neg:Bool)(ks:List Nat):List PV->Option PV
 | [.agg l,.agg m]=>(match zba l with
  | some l=>(match zba m with
   | some m=>zbb neg (zfd ks l m)
   | none=>none)
  | none=>none)
 | _=>none
def zau (cells:List PV):List (Nat×Nat)->List PV->Option (List PV)
 | [],[]=>some cells
 | (off,size)::ps,v::vs=>if v.cells.length=size/\off+size<=cells.length then zau (cells.take off++v.cells++cells.drop (off+size)) ps vs else none
 | _,_=>none
def zaH (agg:Bool)(off size:Nat)(l:List PV):Option PV :=
 if agg then(if off+size<=l.length then some (.agg ((l.drop off).take size))else none)else l[off]?
def za5 (H:List zn)(k:zT)(vs:List PV):Option PV :=
 match k with
 | .mov=>(match vs with | [v]=>some v|_=>none)
 | .pick=>(match vs with | [.bool c,a,b]=>some (if c then a else b)|_=>none)
 | .load agg n=>zae H agg n vs
 | .nilchk=>(match vs with
  | [.elem cs]=>some (.elem cs)
  | [.ptr id g i o n]=>some (.ptr id g i o n)
  | [.fn f c]=>some (.fn f c)
  | _=>none)
 | .bin op=>sc2 (zcR op) vs
 | .eqnil neg f=>(match vs with
  | [x,y]=>zbb neg (zU (za3 f x) (za3 f y))
  | _=>none)
 | .eqB neg=>sc2 (znb neg) vs
 | .cstr=>sc1 zr8 vs
 | .eqagg neg ks=>zah neg ks vs
 | .un op=>sc1 (pUn op) vs
 | .conv k=>sc1 (zkb k) vs
 | .mkif t=>(match vs with | [v]=>some (.iface t v)|_=>none)
 | .mkfn f=>some (.fn f vs)
 | .slice esz lo hi mx=>zai esz lo hi mx vs
 | .slstr lo hi=>scL (zjf lo hi) vs
 | .faddr off size=>zal off size vs
 | .fld agg off size=>(match vs with | [.agg l]=>zaH agg off size l|_=>none)
 | .iaddr esz=>zak esz vs
 | .iaddrA len esz=>znn len esz vs
 | .idxstr=>sc2 zkl vs
 | .look kf zero ok=>zaB H kf zero ok vs
 | .tassert t zero ok=>(match vs with
  | [.iface t' v]=>if t=t' then some (okF ok v true)else if ok then(match ofC 3 zero with|some z=>some (.tuple [z,.bool false])|none=>none)else none
  | [.niliface]=>if ok then(match ofC 3 zero with|some z=>some (.tuple [z,.bool false])|none=>none)else none
  | _=>none)
 | .extr i=>(match vs with | [.tuple l]=>l[i]? | _=>none)
 | .len f=>zbg f vs
 | .maxI=>sc2 (zhO true) vs
 | .minI=>sc2 (zhO false) vs
 | .build zero places=>(match za6 (ofC 3) zero with
  | some z=>(match zau z places vs with
   | some l=>some (.agg l)
   | none=>none)
  | none=>none)
 | _=>none
end Fv
end Go.Proofs.YtfomlmhnmheenaaGreat
namespace Go.Proofs.YtfomlmhnmheenaaGreat
namespace Fv
open Tw
variable {B:Ba}{h:TH}{c:Cx}{H:List zn}{vs:List PV}{us:List TV}{v:PV}
theorem zmw {agg:Bool}{l:List PV}{cs:List TV}(hl:LR (VR c h) l cs)(hp:zaJ agg l=some v):∃u,one agg cs=some u/\VR c h v u:=by
 unfold zaJ at hp;unfold one
 cases agg
 ·simp only[zCW9,if_false]at hp
  split at hp
  ·rename_i x;injection hp with hp;subst hp;obtain⟨y,cs',rfl,h1,h2⟩:=hl.of_cons;obtain rfl:=h2.of_nil;exact⟨y,rfl,h1⟩
  ·cases hp
 ·simp only[if_true]at hp;injection hp with hp;subst hp;exact⟨_,rfl,VR.aggL hl⟩
theorem zlI {i n z:Nat}(h:i<n):i*z+z<=n*z:=by
 have:=zBU9 z (Nat.succ_le_of_lt h)
 rwa [zDA9]at this
theorem zoy {α:Type}(cs:List α){a o n z:Nat}(hz:o+n<=z):((((cs.drop a).take z).drop o).take n)=(cs.drop (a+o)).take n:=by
 rw[zFF9,zFH9,zEH9,zDI9 (by omega)]
theorem zqv (k:HR B c H h){id g i b d z:Nat}(hr:zaC H id (g+d) i=some v)(hρ:c.ρ id=some (b,d,z)):v.cells.length=z/\∀o n,o+n<=z->∃ds,zbs h b g (i*z+o) n=some ds/\LR (VR c h) ((v.cells.drop o).take n) ds:=by
 unfold zaC at hr
 split at hr
 ·rename_i e z' G M l hH
  split at hr
  ·rename_i hg;rcases k.obj _ _ hH with⟨rfl,_⟩|⟨b',d',G',M',cells,cs,h1,h2,h3,h4,h5,h6⟩
   ·simp at hr
   ·rw[hρ]at h1;injection h1 with h1;injection h1 with h1 h7;injection h7 with h7 h8;subst h1;subst h7;subst h8;subst h3;have hi:i<l.length:=(zAD9.1 hr).1;have hm:=zlI (z:=z) hi;have hvl:=h6.one v (zAK9 hr);refine⟨hvl,fun o n hon=>?_⟩;refine⟨(cs.drop (i*z+o)).take n,zhQ h2 (by omega) (by omega) ?_,?_⟩
    ·have:=zg7 h5 (k:=i*z+o) (m:=n) (by omega)
     rwa [zAN9]at this
    ·rw[<- zoy cs hon];exact((h6.at hr).drop o).take n
  ·cases hr
 ·cases hr
theorem zed {id g i o n:Nat}{u:TV}(x:VR c h (.ptr id g i o n) u):∃b d z g',c.ρ id=some (b,d,z)/\g=g'+d/\u=.ptr b g' (i*z+o) n:=by
 cases x with
 | pure x=>cases x
 | ptr hρ=>exact⟨_,_,_,_,hρ,rfl,rfl⟩
theorem ze0 {cs:List PV}{u:TV}(x:VR c h (.elem cs) u):∃p b g o ds,c.S p b/\u=.ptr b g o cs.length/\zbs h b g o cs.length=some ds/\LR (PR c.S h) cs ds:=by
 cases x with
 | pure x=>cases x with|elem h1 h2 h3 h4=>exact⟨_,_,_,_,_,h1,rfl,h2,h3,h4⟩
theorem zqm {cs:List PV}{p b g o:Nat}{ds:List TV}(hS:c.S p b)(hr:zbs h b g o cs.length=some ds)(hl:LR (PR c.S h) cs ds){a n:Nat}(ha:a+n<=cs.length):VR c h (.elem ((cs.drop a).take n)) (.ptr b g (o+a) n):=by
 have hn:((cs.drop a).take n).length=n:=by simp;omega
 have h1:=zeb hr ha;have h2:=(hl.drop a).take n;have:=PR.elem (S:=c.S) (h:=h) hS (by rw[hn];exact h1) h2.1 h2.2;rw[hn]at this;exact .pure this
theorem zrp (k:HR B c H h){agg:Bool}{n:Nat}(hv:LR (VR c h) vs us)(hp:zae H agg n vs=some v):∃u,zb9 us (zfD agg n h)=some u/\VR c h v u:=by
 unfold zae at hp
 split at hp
 ·rename_i cs;obtain⟨y,cs',rfl,h1,h2⟩:=hv.of_cons;obtain rfl:=h2.of_nil
  split at hp
  ·rename_i hn;obtain⟨p,b,g,o,ds,s1,rfl,s2,s3⟩:=ze0 h1;have s4:=zeb s2 (k:=0) (m:=n) (by omega);rw[zDH9]at s4;obtain⟨u,u1,u2⟩:=zmw (LR.pure (s3.take n)) hp;refine⟨u,?_,u2⟩;simp only[zb9,zfD];rw[zch hn,s4];exact u1
  ·cases hp
 ·rename_i id g i o m;obtain⟨y,cs',rfl,h1,h2⟩:=hv.of_cons;obtain rfl:=h2.of_nil
  split at hp
  ·rename_i hn
   split at hp
   ·rename_i w hw
    split at hp
    ·rename_i ho;obtain⟨b,d,z,g',s1,rfl,rfl⟩:=zed h1;obtain⟨s2,s3⟩:=zqv k hw s1;obtain⟨ds,s4,s5⟩:=s3 o n (by rw[<- s2];exact ho);obtain⟨u,u1,u2⟩:=zmw s5 hp;refine⟨u,?_,u2⟩;simp only[zb9,zfD];rw[zch hn,s4];exact u1
    ·cases hp
   ·cases hp
  ·cases hp
 ·cases hp
theorem zvK {off size:Nat}(hv:LR (VR c h) vs us)(hp:zal off size vs=some v):∃u,zb9 us (zh3 off size)=some u/\VR c h v u:=by
 unfold zal at hp
 split at hp
 ·rename_i cs;obtain⟨y,cs',rfl,h1,h2⟩:=hv.of_cons;obtain rfl:=h2.of_nil
  split at hp
  ·rename_i hn;injection hp with hp;subst hp;obtain⟨p,b,g,o,ds,s1,rfl,s2,s3⟩:=ze0 h1;refine⟨.ptr b g (o+off) size,?_,zqm s1 s2 s3 hn⟩;simp only[zb9,zh3];rw[zch hn];rfl
  ·cases hp
 ·rename_i id g i o m;obtain⟨y,cs',rfl,h1,h2⟩:=hv.of_cons;obtain rfl:=h2.of_nil
  split at hp
  ·rename_i hn;injection hp with hp;subst hp;obtain⟨b,d,z,g',s1,rfl,rfl⟩:=zed h1;refine⟨.ptr b g' (i*z+o+off) size,?_,?_⟩
   ·simp only[zb9,zh3];rw[zch hn];rfl
   ·rw[zDF9];exact .ptr s1
  ·cases hp
 ·cases hp
theorem zfQ {j:Int}(h:0<=j):zsq j=some j.toNat:=by
 obtain⟨n,rfl⟩:=Int.eq_ofNat_of_zero_le h;rfl
theorem zd4 {p z:Nat}{l:List PV}{u:TV}(x:VR c h (.list p z l) u):(l=[]/\u=.nilsl)\/∃b g o q ds,u=.sl b g o l.length q z/\c.S p b/\zbs h b g o (l.length*z)=some ds/\2*l.length<=q/\ER (PR c.S h) z l ds:=by
 cases x with
 | pure x=>cases x with
  | listnil=>exact .inl ⟨rfl,rfl⟩
  | list h1 h2 h3 h4 h5 h6=>exact .inr ⟨_,_,_,_,_,rfl,h1,h2,h3,h4,h5,h6⟩
theorem sl_inv {id g o n q z:Nat}{u:TV}(x:VR c h (.sl id g o n q z) u):(g=0/\o=0/\n=0/\q=0/\u=.nilsl/\c.L id)\/∃b d g',c.ρ id=some (b,d,z)/\g=g'+d/\u=.sl b g' (o*z) n q z:=by
 cases x with
 | pure x=>cases x
 | sl hρ=>exact .inr ⟨_,_,_,hρ,rfl,rfl⟩
 | slnil _ hL=>exact .inl ⟨rfl,rfl,rfl,rfl,rfl,hL⟩
theorem zv0 {esz:Nat}(hv:LR (VR c h) vs us)(hp:zak esz vs=some v):∃u,zb2 us (zhX esz)=some u/\VR c h v u:=by
 unfold zak at hp
 split at hp
 ·rename_i p z l k j;obtain⟨y,cs',rfl,h1,h2⟩:=hv.of_cons;obtain⟨y',cs'',rfl,h3,h4⟩:=h2.of_cons;obtain rfl:=h4.of_nil;obtain rfl:=h3.int_inv
  split at hp
  ·rename_i hc;obtain⟨rfl,hj⟩:=hc
   split at hp
   ·rename_i w hw;injection hp with hp;subst hp;have hi:j.toNat<l.length:=(zAD9.1 hw).1;rcases zd4 h1 with⟨rfl,_⟩|⟨b,g,o,q,ds,rfl,s1,s2,s3,s4⟩
    ·simp at hi
    ·have hm:=zlI (z:=esz) hi;have hwl:=s4.one w (zAK9 hw);refine⟨.ptr b g (o+j.toNat*esz) esz,?_,?_⟩
     ·simp only[zb2,zhX,zdX,zfQ hj];rw[zby rfl,zhD hi];rfl
     ·have s5:=zeb s2 (k:=j.toNat*esz) (m:=esz) hm;have s6:=s4.at hw;have:=PR.elem (S:=c.S) (h:=h) s1 (by rw[hwl];exact s5) s6.1 s6.2;rw[hwl]at this;exact .pure this
   ·cases hp
  ·cases hp
 ·rename_i id g o n q z k j;obtain⟨y,cs',rfl,h1,h2⟩:=hv.of_cons;obtain⟨y',cs'',rfl,h3,h4⟩:=h2.of_cons;obtain rfl:=h4.of_nil;obtain rfl:=h3.int_inv
  split at hp
  ·rename_i hc;obtain⟨rfl,hj,hi⟩:=hc;injection hp with hp;subst hp;rcases sl_inv h1 with⟨_,_,rfl,_⟩|⟨b,d,g',s1,rfl,rfl⟩
   ·omega
   ·refine⟨.ptr b g' (o*esz+j.toNat*esz) esz,?_,?_⟩
    ·simp only[zb2,zhX,zdX,zfQ hj];rw[zby rfl,zhD hi];rfl
    ·have:=VR.ptr (h:=h) (g:=g') (i:=o+j.toNat) (o:=0) (n:=esz) s1
     rwa [zCN9,zDH9]at this
  ·cases hp
 ·cases hp
theorem ztH {len esz:Nat}(hv:LR (VR c h) vs us)(hp:znn len esz vs=some v):∃u,zb2 us (zgM len esz)=some u/\VR c h v u:=by
 unfold znn at hp
 split at hp
 ·rename_i cs k j;obtain⟨y,cs',rfl,h1,h2⟩:=hv.of_cons;obtain⟨y',cs'',rfl,h3,h4⟩:=h2.of_cons;obtain rfl:=h4.of_nil;obtain rfl:=h3.int_inv
  split at hp
  ·rename_i hc;obtain⟨hj,hi,hn⟩:=hc;injection hp with hp;subst hp;obtain⟨p,b,g,o,ds,s1,rfl,s2,s3⟩:=ze0 h1;have hm:=zlI (z:=esz) hi;refine⟨.ptr b g (o+j.toNat*esz) esz,?_,zqm s1 s2 s3 (by omega)⟩;simp only[zb2,zgM,zdX,zfQ hj];rw[zhD hi,zch hn];rfl
  ·cases hp
 ·rename_i id g i o m k j;obtain⟨y,cs',rfl,h1,h2⟩:=hv.of_cons;obtain⟨y',cs'',rfl,h3,h4⟩:=h2.of_cons;obtain rfl:=h4.of_nil;obtain rfl:=h3.int_inv
  split at hp
  ·rename_i hc;obtain⟨hj,hi,hn⟩:=hc;injection hp with hp;subst hp;obtain⟨b,d,z,g',s1,rfl,rfl⟩:=zed h1;refine⟨.ptr b g' (i*z+o+j.toNat*esz) esz,?_,?_⟩
   ·simp only[zb2,zgM,zdX,zfQ hj];rw[zhD hi,zch hn];rfl
   ·rw[zDF9];exact .ptr s1
  ·cases hp
 ·cases hp
theorem zdK {m a:Nat}{x:PV}{u:TV}(hx:VR c h x u)(hb:bnd m x=some a):zcX u m=some a/\a<=m:=by
 unfold bnd at hb
 split at hb
 ·rename_i k j;obtain rfl:=hx.int_inv
  split at hb
  ·rename_i hc;injection hb with hb;subst hb;refine⟨?_,hc.2⟩;unfold zcX;simp only[zdX,zfQ hc.1];rw[zch hc.2];rfl
  ·cases hb
 ·cases hb
theorem zhu {p z:Nat}{l:List PV}{b g o q:Nat}{ds:List TV}(s1:c.S p b)(s2:zbs h b g o (l.length*z)=some ds)(s4:ER (PR c.S h) z l ds){a e:Nat}(ha:a<=e)(he:e<=l.length)(hq:2*(e-a)<=q):VR c h (.list p z ((l.take e).drop a)) (.sl b g (o+a*z) (e-a) q z):=by
 have hl:((l.take e).drop a).length=e-a:=by simp;omega
 have hm:a*z+(e-a)*z<=l.length*z:=by
  rw[<- zCN9,Nat.add_sub_cancel' ha];exact zBU9 z he
 have s5:=zeb s2 (k:=a*z) (m:=(e-a)*z) hm;have s6:=(s4.take e).drop a;have s7:(ds.take (e*z)).drop (a*z)=(ds.drop (a*z)).take ((e-a)*z):=by
  rw[zFF9,Nat.sub_mul]
 rw[s7]at s6;have:=PR.list (S:=c.S) (h:=h) (q:=q) s1 (by rw[hl];exact s5) (by rw[hl];exact hq) s6.one s6.all.1 s6.all.2;rw[hl]at this;exact .pure this
theorem zv7 {esz:Nat}{lo hi mx:Bool}(hv:LR (VR c h) vs us)(hp:zai esz lo hi mx vs=some v):∃u,zgZ esz lo hi mx us=some u/\VR c h v u:=by
 unfold zai at hp
 split at hp
 ·rename_i p z l bs;obtain⟨y,cs',rfl,h1,h2⟩:=hv.of_cons
  split at hp
  ·rename_i he;subst he;simp only[zgZ];unfold zam at hp
   split at hp
   ·obtain rfl:=h2.of_nil
    split at hp
    ·rename_i hc;obtain⟨rfl,rfl,rfl⟩:=hc;injection hp with hp;subst hp;rcases zd4 h1 with⟨rfl,rfl⟩|⟨b,g,o,q,ds,rfl,_⟩
     ·exact⟨_,rfl,.pure (.listnil _ _)⟩
     ·refine⟨_,?_,h1⟩;simp only[zdH];rw[zby rfl];rfl
    ·cases hp
   ·rename_i x;obtain⟨y',cs'',rfl,h3,h4⟩:=h2.of_cons;obtain rfl:=h4.of_nil
    split at hp
    ·cases hp
    ·rename_i hc;simp only[not_or,zEJ9]at hc;obtain⟨rfl,hlh⟩:=hc
     split at hp
     ·rename_i a hb;injection hp with hp;subst hp;obtain⟨b1,b2⟩:=zdK h3 hb;rcases zd4 h1 with⟨rfl,rfl⟩|⟨b,g,o,q,ds,rfl,s1,s2,s3,s4⟩
      ·simp at b2;subst b2;simp only[zdH,zjv];simp only[zAH9]at b1;rw[b1]
       cases lo<;>cases hi<;>first|exact absurd rfl hlh|exact⟨_,rfl,by simpa using VR.pure (.listnil _ _)⟩
      ·simp only[zdH];rw[zby rfl];simp only[cond_true,zfb,cond_false]
       cases lo<;>cases hi<;>first|exact absurd rfl hlh|skip
       ·simp only[cond_true,cond_false,zsJ];have b3:zcX y' (q/2)=some a:=by
         revert b1;unfold zcX;cases zdX y'<;>intro b1<;>first|(cases b1;done)|skip
         rename_i w;dsimp only at b1⊢
         cases hw:Nat.ble w l.length
         ·rw[hw]at b1;cases b1
         ·rw[hw]at b1;injection b1 with b1;subst b1;rw[zch (by omega)];rfl
        rw[b3];refine⟨_,rfl,?_⟩;have:=zhu (a:=0) (e:=a) (q:=q) s1 s2 s4 (zAS9 _) b2 (by omega);simpa using this
       ·simp only[cond_true,cond_false,zgv];rw[b1];refine⟨_,rfl,?_⟩;have:=zhu (a:=a) (e:=l.length) (q:=q-2*a) s1 s2 s4 b2 (zAM9 _) (by omega);simpa using this
     ·cases hp
   ·rename_i x y0;obtain⟨y',cs'',rfl,h3,h4⟩:=h2.of_cons;obtain⟨y2,cs3,rfl,h5,h6⟩:=h4.of_cons;obtain rfl:=h6.of_nil
    split at hp
    ·rename_i hc;obtain⟨rfl,rfl,rfl,hpos⟩:=hc
     split at hp
     ·rename_i e hb;obtain⟨b1,b2⟩:=zdK h5 hb
      split at hp
      ·rename_i a hb';obtain⟨b3,b4⟩:=zdK h3 hb';injection hp with hp;subst hp;rcases zd4 h1 with⟨rfl,rfl⟩|⟨b,g,o,q,ds,rfl,s1,s2,s3,s4⟩
       ·simp at hpos
       ·simp only[zdH];rw[zby rfl];simp only[cond_true,zfb,cond_false,zlC,zgv];have b5:zcX y2 (q/2)=some e:=by
         revert b1;unfold zcX;cases zdX y2<;>intro b1<;>first|(cases b1;done)|skip
         rename_i w;dsimp only at b1⊢
         cases hw:Nat.ble w l.length
         ·rw[hw]at b1;cases b1
         ·rw[hw]at b1;injection b1 with b1;subst b1;rw[zch (by omega)];rfl
        rw[b5];dsimp only;rw[b3];exact⟨_,rfl,zhu s1 s2 s4 b4 b2 (by omega)⟩
      ·cases hp
     ·cases hp
    ·cases hp
   ·rename_i x y0 w0;obtain⟨y',cs'',rfl,h3,h4⟩:=h2.of_cons;obtain⟨y2,cs3,rfl,h5,h6⟩:=h4.of_cons;obtain⟨y3,cs4,rfl,h7,h8⟩:=h6.of_cons;obtain rfl:=h8.of_nil
    split at hp
    ·rename_i hc;obtain⟨rfl,rfl,rfl,hpos⟩:=hc
     split at hp
     ·rename_i m hbm;obtain⟨m1,m2⟩:=zdK h7 hbm
      split at hp
      ·rename_i e hb;obtain⟨b1,b2⟩:=zdK h5 hb
       split at hp
       ·rename_i a hb';obtain⟨b3,b4⟩:=zdK h3 hb';injection hp with hp;subst hp;rcases zd4 h1 with⟨rfl,rfl⟩|⟨b,g,o,q,ds,rfl,s1,s2,s3,s4⟩
        ·simp at hpos
        ·simp only[zdH];rw[zby rfl];simp only[cond_true,zfb,zoK];have b5:zcX y3 (q/2)=some m:=by
          revert m1;unfold zcX;cases zdX y3<;>intro m1<;>first|(cases m1;done)|skip
          rename_i w;dsimp only at m1⊢
          cases hw:Nat.ble w l.length
          ·rw[hw]at m1;cases m1
          ·rw[hw]at m1;injection m1 with m1;subst m1;rw[zch (by omega)];rfl
         rw[b5];dsimp only;rw[b1];simp only[zgv];rw[b3];exact⟨_,rfl,zhu s1 s2 s4 b4 (by omega) (by omega)⟩
       ·cases hp
      ·cases hp
     ·cases hp
    ·cases hp
   ·cases hp
  ·cases hp
 ·rename_i id g o n q z bs;obtain⟨y,cs',rfl,h1,h2⟩:=hv.of_cons
  split at hp
  ·rename_i he;subst he;simp only[zgZ];unfold zan at hp
   split at hp
   ·obtain rfl:=h2.of_nil
    split at hp
    ·rename_i hc;obtain⟨rfl,rfl,rfl⟩:=hc;injection hp with hp;subst hp;rcases sl_inv h1 with⟨rfl,rfl,rfl,rfl,rfl,hL⟩|⟨b,d,g',s1,rfl,rfl⟩
     ·exact⟨_,rfl,.slnil _ hL⟩
     ·refine⟨_,?_,h1⟩;simp only[zdH];rw[zby rfl];rfl
    ·cases hp
   ·rename_i x;obtain⟨y',cs'',rfl,h3,h4⟩:=h2.of_cons;obtain rfl:=h4.of_nil
    split at hp
    ·cases hp
    ·rename_i hc;simp only[not_or,zEJ9]at hc;obtain⟨rfl,hlh,hq⟩:=hc;rcases sl_inv h1 with⟨rfl,rfl,rfl,rfl,rfl,hL⟩|⟨b,d,g',s1,rfl,rfl⟩
     ·exact absurd rfl hq
     ·simp only[zdH];rw[zby rfl];simp only[cond_true,zfb,cond_false]
      cases lo<;>cases hi<;>first|exact absurd rfl hlh|skip
      ·simp only[zCW9,if_false]at hp
       split at hp
       ·rename_i a hb;injection hp with hp;subst hp;obtain⟨b1,b2⟩:=zdK h3 hb;simp only[cond_true,cond_false,zsJ];rw[b1];exact⟨_,rfl,.sl s1⟩
       ·cases hp
      ·simp only[if_true]at hp
       split at hp
       ·rename_i a hb;injection hp with hp;subst hp;obtain⟨b1,b2⟩:=zdK h3 hb;simp only[cond_true,cond_false,zgv];rw[b1];refine⟨_,rfl,?_⟩;have:=VR.sl (h:=h) (g:=g') (o:=o+a) (n:=n-a) (q:=q-2*a) s1
        rwa [zCN9]at this
       ·cases hp
   ·rename_i x y0;obtain⟨y',cs'',rfl,h3,h4⟩:=h2.of_cons;obtain⟨y2,cs3,rfl,h5,h6⟩:=h4.of_cons;obtain rfl:=h6.of_nil
    split at hp
    ·rename_i hc;obtain⟨rfl,rfl,rfl,hq⟩:=hc;rcases sl_inv h1 with⟨rfl,rfl,rfl,rfl,rfl,hL⟩|⟨b,d,g',s1,rfl,rfl⟩
     ·exact absurd hq (Nat.lt_irrefl _)
     ·split at hp
      ·rename_i e hb;obtain⟨b1,b2⟩:=zdK h5 hb
       split at hp
       ·rename_i a hb';obtain⟨b3,b4⟩:=zdK h3 hb';injection hp with hp;subst hp;simp only[zdH];rw[zby rfl];simp only[cond_true,zfb,cond_false,zlC,zgv];rw[b1];dsimp only;rw[b3];refine⟨_,rfl,?_⟩;have:=VR.sl (h:=h) (g:=g') (o:=o+a) (n:=e-a) (q:=q-2*a) s1
        rwa [zCN9]at this
       ·cases hp
      ·cases hp
    ·cases hp
   ·rename_i x y0 m0;obtain⟨y',cs'',rfl,h3,h4⟩:=h2.of_cons;obtain⟨y2,cs3,rfl,h5,h6⟩:=h4.of_cons;obtain⟨y3,cs4,rfl,h7,h8⟩:=h6.of_cons;obtain rfl:=h8.of_nil
    split at hp
    ·rename_i hc;obtain⟨rfl,rfl,rfl,hq⟩:=hc;rcases sl_inv h1 with⟨rfl,rfl,rfl,rfl,rfl,hL⟩|⟨b,d,g',s1,rfl,rfl⟩
     ·exact absurd hq (Nat.lt_irrefl _)
     ·split at hp
      ·rename_i m hbm;obtain⟨b6,b7⟩:=zdK h7 hbm
       split at hp
       ·rename_i e hb;obtain⟨b1,b2⟩:=zdK h5 hb
        split at hp
        ·rename_i a hb';obtain⟨b3,b4⟩:=zdK h3 hb';injection hp with hp;subst hp;simp only[zdH];rw[zby rfl];simp only[cond_true,zfb,cond_false,zoK,zgv];rw[b6];dsimp only;rw[b1];dsimp only;rw[b3];refine⟨_,rfl,?_⟩;have:=VR.sl (h:=h) (g:=g') (o:=o+a) (n:=e-a) (q:=2*m+1-2*a) s1
         rwa [zCN9]at this
        ·cases hp
       ·cases hp
      ·cases hp
    ·cases hp
   ·cases hp
  ·cases hp
 ·cases hp
theorem zgT {n:Nat}{u:TV}{w:PV}(hp:ofC n u=some w):VR c h w u:=.pure (zgj hp)
theorem zjZ {k:IntKind}{x:Int}:∀{es:List zcf} {i:Nat},(∀e∈es,∃n,e.k=.int k n)->(zcE (.int k x) es i=some none/\lk x es=none)\/∃j e,zcE (.int k x) es i=some (some (j,e))/\lk x es=some e.v
 | [],i,_=>.inl ⟨rfl,rfl⟩
 | e::l,i,hk=>by
  obtain⟨n,hn⟩:=hk e (by simp);have hl:=fun e' he'=>hk e' (zAT9 _ he');unfold zcE lk;rw[hn];simp only[zhw];rw[zby rfl];simp only[cond_true,zcD]
  by_cases hx:x=n
  ·subst hx;exact .inr ⟨i,e,by simp,by simp⟩
  ·have hb:(x==n)=false:=by simpa using hx
   rw[hb];simp only[if_neg (Ne.symm hx)];exact zjZ hl
theorem zjk {ok:Bool}{b:Bool}{w:PV}{u:TV}(k:VR c h w u):VR c h (okF ok w b) (okT ok u b):=by
 unfold okF okT
 cases ok
 ·exact k
 ·exact VR.tupL (LR.cons k (LR.cons (.pure (.bool b)) LR.nil))
theorem zh5 {id:Nat}{u:TV}(x:VR c h (.map id) u):∃b d z,c.ρ id=some (b,d,z)/\u=.map b:=by
 cases x with
 | pure x=>cases x
 | map h=>exact⟨_,_,_,h,rfl⟩
theorem zwK (k:HR B c H h){kf:Nat}{zero:TV}{ok:Bool}(hv:LR (VR c h) vs us)(hp:zaB H kf zero ok vs=some v):∃u,zb2 us (zgA kf zero ok h)=some u/\VR c h v u:=by
 unfold zaB at hp
 split at hp
 ·rename_i id kk x;obtain⟨y,cs',rfl,h1,h2⟩:=hv.of_cons;obtain⟨y',cs'',rfl,h3,h4⟩:=h2.of_cons;obtain rfl:=h4.of_nil;obtain rfl:=h3.int_inv;obtain⟨b,d,z,s1,rfl⟩:=zh5 h1
  split at hp
  ·rename_i hkf;subst hkf
   split at hp
   ·rename_i hH;obtain⟨b',d',z',clock,s2,s3⟩:=k.obj _ _ hH;rw[s1]at s2;injection s2 with s2;injection s2 with s2 _;subst s2
    split at hp
    ·rename_i w hw;injection hp with hp;subst hp;refine⟨okT ok zero false,?_,zjk (zgT hw)⟩;simp only[zb2,zgA,zeM,zhg,cond_true];rw[s3];rfl
    ·cases hp
   ·rename_i k' m hH;obtain⟨b',d',z',es,clock,s2,s3,s4⟩:=k.obj _ _ hH;rw[s1]at s2;injection s2 with s2;injection s2 with s2 _;subst s2
    split at hp
    ·rename_i hk;subst hk
     split at hp
     ·rename_i w hw;injection hp with hp;subst hp;obtain⟨u,u1,u2⟩:=s4.some _ _ hw;rcases zjZ (x:=x) (i:=0) s4.keys with⟨f1,f2⟩|⟨j,e,f1,f2⟩
      ·rw[f2]at u1;cases u1
      ·rw[f2]at u1;injection u1 with u1;subst u1;refine⟨okT ok e.v true,?_,zjk u2⟩;simp only[zb2,zgA,zeM,zhg,cond_true];rw[s3];simp only[zoJ];rw[f1]
     ·rename_i hw
      split at hp
      ·rename_i w hw';injection hp with hp;subst hp;have u1:=s4.none _ hw;rcases zjZ (x:=x) (i:=0) s4.keys with⟨f1,f2⟩|⟨j,e,f1,f2⟩
       ·refine⟨okT ok zero false,?_,zjk (zgT hw')⟩;simp only[zb2,zgA,zeM,zhg,cond_true];rw[s3];simp only[zoJ];rw[f1]
       ·rw[f2]at u1;cases u1
      ·cases hp
    ·cases hp
   ·cases hp
  ·cases hp
 ·rename_i kk x;obtain⟨y,cs',rfl,h1,h2⟩:=hv.of_cons;obtain⟨y',cs'',rfl,h3,h4⟩:=h2.of_cons;obtain rfl:=h4.of_nil;obtain rfl:=h3.int_inv;obtain rfl:y=.nilmap:=by cases h1 with|pure h1=>cases h1;rfl
  split at hp
  ·rename_i hkf;subst hkf
   split at hp
   ·rename_i w hw;injection hp with hp;subst hp;exact⟨okT ok zero false,rfl,zjk (zgT hw)⟩
   ·cases hp
  ·cases hp
 ·cases hp
theorem ztB {f:Nat}{x:PV}{u:TV}{b:Bool}(hx:VR c h x u)(hn:za3 f x=some b):zlX f u=some b:=by
 unfold za3 at hn
 split at hn<;>first|(cases hn;done)|(injection hn with hn;subst hn)
 ·cases hx with|pure hx=>cases hx;rfl
 ·obtain⟨_,_,_,_,_,_,rfl⟩:=zed hx;rfl
 ·obtain⟨_,_,_,_,_,_,rfl,_⟩:=ze0 hx;rfl
 ·cases hx with|pure hx=>cases hx;rfl
 ·rcases zd4 hx with⟨h1,_⟩|⟨_,_,_,_,_,rfl,_⟩
  ·cases h1
  ·rfl
 ·cases hx with|pure hx=>cases hx;rfl
 ·obtain⟨_,_,_,_,rfl⟩:=zh5 hx;rfl
 ·cases hx with|pure hx=>cases hx;rfl
 ·obtain⟨_,rfl,_⟩:=hx.fn_inv;rfl
 ·cases hx with|pure hx=>cases hx;rfl
 ·obtain⟨_,rfl,_⟩:=hx.iface_inv;rfl
theorem zux {neg:Bool}{x:Option Bool}(hp:zbb neg x=some v):∃u,zlB neg x=some u/\VR c h v u:=by
 unfold zbb at hp
 split at hp
 ·injection hp with hp;subst hp;refine⟨_,rfl,?_⟩
  cases neg<;>exact .pure (.bool _)
 ·cases hp
theorem zvN {neg:Bool}{ks:List Nat}(hv:LR (VR c h) vs us)(hp:zah neg ks vs=some v):∃u,zb2 us (zlm neg ks)=some u/\VR c h v u:=by
 unfold zah at hp
 split at hp
 ·obtain⟨y,cs',rfl,h1,h2⟩:=hv.of_cons;obtain⟨y',cs'',rfl,h3,h4⟩:=h2.of_cons;obtain rfl:=h4.of_nil;obtain⟨a,rfl,a1⟩:=h1.agg_inv;obtain⟨a',rfl,a2⟩:=h3.agg_inv
  split at hp
  ·rename_i l' hl';obtain rfl:=zkj a1 hl'
   split at hp
   ·rename_i m' hm';obtain rfl:=zkj a2 hm';exact zux hp
   ·cases hp
  ·cases hp
 ·cases hp
theorem znv:∀{places:List (Nat×Nat)} {vs:List PV} {us:List TV} {l m:List PV} {cs:List TV},LR (VR c h) l cs->LR (VR c h) vs us->zau l places vs=some m->∃ds,zht cs places us=some ds/\LR (VR c h) m ds
 | [],[],us,l,m,cs,hl,hv,hp=>by
  obtain rfl:=hv.of_nil;simp only[zau]at hp;injection hp with hp;subst hp;exact⟨cs,rfl,hl⟩
 | [],_::_,us,l,m,cs,hl,hv,hp=>by simp[zau]at hp
 | _::_,[],us,l,m,cs,hl,hv,hp=>by simp[zau]at hp
 | (off,size)::ps,v::vs,us,l,m,cs,hl,hv,hp=>by
  obtain⟨y,us',rfl,h1,h2⟩:=hv.of_cons;unfold zau at hp
  split at hp
  ·rename_i hc;have h3:=h1.cells;obtain⟨ds,d1,d2⟩:=znv (((hl.take off).app h3).app (hl.drop (off+size))) h2 hp;refine⟨ds,?_,d2⟩;unfold zht;dsimp only;rw[zby (by rw[<- h3.1];exact hc.1),zch (by rw[<- hl.1];exact hc.2)];exact d1
  ·cases hp
theorem zhe:∀(l:List TV) (n:Nat),nth l n=l[n]?
 | [],n=>by simp[nth]
 | x::l,0=>rfl
 | x::l,n+1=>by simp only[nth,zAY9];exact zhe l n
theorem zw3 {agg:Bool}{off size:Nat}{l:List PV}{cs:List TV}(hl:LR (VR c h) l cs)(hp:zaH agg off size l=some v):∃u,zj4 agg off size cs=some u/\VR c h v u:=by
 unfold zaH at hp;unfold zj4
 cases agg
 ·simp only[zCW9,if_false]at hp;obtain⟨y,y1,y2⟩:=hl.at hp;exact⟨y,by simp only[cond_false];rw[zhe];exact y1,y2⟩
 ·simp only[if_true]at hp
  split at hp
  ·rename_i hc;injection hp with hp;subst hp;refine⟨_,?_,VR.aggL ((hl.drop off).take size)⟩;simp only[cond_true];rw[zch (by rw[<- hl.1];exact hc)];rfl
  ·cases hp
theorem zvY {neg:Bool}{f:Nat}(hv:LR (VR c h) vs us)(hp:za5 H (.eqnil neg f) vs=some v):∃u,pas (.eqnil neg f) us h=some u/\VR c h v u:=by
 simp only[za5]at hp
 split at hp
 ·rename_i x x';obtain⟨y,cs',rfl,h1,h2⟩:=hv.of_cons;obtain⟨y',cs'',rfl,h3,h4⟩:=h2.of_cons;obtain rfl:=h4.of_nil;simp only[pas,zb2,zhq];have e1:zU (zlX f y) (zlX f y')=zU (za3 f x) (za3 f x'):=by
   revert hp
   cases hx:za3 f x with
   | none=>intro hp;simp[zU,zbb]at hp
   | some b =>
    cases hx':za3 f x' with
    | none=>intro hp;simp[zU,zbb]at hp
    | some b'=>intro _;rw[ztB h1 hx,ztB h3 hx']
  rw[e1];exact zux hp
 ·cases hp
theorem zst {t:Nat}{zero:TV}{ok:Bool}(hv:LR (VR c h) vs us)(hp:za5 H (.tassert t zero ok) vs=some v):∃u,pas (.tassert t zero ok) us h=some u/\VR c h v u:=by
 simp only[za5]at hp
 split at hp
 ·rename_i t' w;obtain⟨y,cs',rfl,h1,h2⟩:=hv.of_cons;obtain rfl:=h2.of_nil;obtain⟨u',rfl,h3⟩:=h1.iface_inv;simp only[pas,zb9,ziu]
  split at hp
  ·rename_i ht;subst ht;injection hp with hp;subst hp;rw[zby rfl];exact⟨_,rfl,zjk h3⟩
  ·rename_i ht
   split at hp
   ·rename_i hok;subst hok
    split at hp
    ·rename_i z hz;injection hp with hp;subst hp;rw[zwm ht];exact⟨_,rfl,VR.tupL (LR.cons (zgT hz) (LR.cons (.pure (.bool _)) LR.nil))⟩
    ·cases hp
   ·cases hp
 ·obtain⟨y,cs',rfl,h1,h2⟩:=hv.of_cons;obtain rfl:=h2.of_nil;obtain rfl:y=.niliface:=by cases h1 with|pure h1=>cases h1;rfl
  split at hp
  ·rename_i hok;subst hok
   split at hp
   ·rename_i z hz;injection hp with hp;subst hp;exact⟨_,rfl,VR.tupL (LR.cons (zgT hz) (LR.cons (.pure (.bool _)) LR.nil))⟩
   ·cases hp
  ·cases hp
 ·cases hp
theorem zmd (k:HR B c H h){kind:zT}(hv:LR (VR c h) vs us)(hp:za5 H kind vs=some v):∃u,pas kind us h=some u/\VR c h v u:=by
 unfold za5 at hp
 split at hp
 ·split at hp
  ·obtain⟨y,cs',rfl,h1,h2⟩:=hv.of_cons;obtain rfl:=h2.of_nil;injection hp with hp;subst hp;exact⟨y,rfl,h1⟩
  ·cases hp
 ·split at hp
  ·rename_i b x x';obtain⟨y,cs',rfl,h1,h2⟩:=hv.of_cons;obtain⟨y',cs'',rfl,h3,h4⟩:=h2.of_cons;obtain⟨y2,cs3,rfl,h5,h6⟩:=h4.of_cons;obtain rfl:=h6.of_nil;obtain rfl:=h1.bool_inv;injection hp with hp;subst hp
   cases b
   ·exact⟨y2,rfl,h5⟩
   ·exact⟨y',rfl,h3⟩
  ·cases hp
 ·exact zrp k hv hp
 ·split at hp
  ·obtain⟨y,cs',rfl,h1,h2⟩:=hv.of_cons;obtain rfl:=h2.of_nil;injection hp with hp;subst hp;obtain⟨p,b,g,o,ds,s1,rfl,s2,s3⟩:=ze0 h1;exact⟨_,rfl,h1⟩
  ·obtain⟨y,cs',rfl,h1,h2⟩:=hv.of_cons;obtain rfl:=h2.of_nil;injection hp with hp;subst hp;obtain⟨b,d,z,g',s1,rfl,rfl⟩:=zed h1;exact⟨_,rfl,h1⟩
  ·obtain⟨y,cs',rfl,h1,h2⟩:=hv.of_cons;obtain rfl:=h2.of_nil;injection hp with hp;subst hp;obtain⟨cs,rfl,_⟩:=h1.fn_inv;exact⟨_,rfl,h1⟩
  ·cases hp
 ·exact zjn hv hp
 ·exact zvY (H:=H) hv hp
 ·exact zjn hv hp
 ·exact zlp hv hp
 ·exact zvN hv hp
 ·exact zlp hv hp
 ·exact zlp hv hp
 ·split at hp
  ·obtain⟨y,cs',rfl,h1,h2⟩:=hv.of_cons;obtain rfl:=h2.of_nil;injection hp with hp;subst hp;exact⟨_,rfl,.iface h1⟩
  ·cases hp
 ·injection hp with hp;subst hp;exact⟨_,rfl,VR.fnL hv⟩
 ·exact zv7 hv hp
 ·exact zya hv hp
 ·exact zvK hv hp
 ·split at hp
  ·obtain⟨y,cs',rfl,h1,h2⟩:=hv.of_cons;obtain rfl:=h2.of_nil;obtain⟨cs,rfl,h3⟩:=h1.agg_inv;exact zw3 h3 hp
  ·cases hp
 ·exact zv0 hv hp
 ·exact ztH hv hp
 ·exact zjn hv hp
 ·exact zwK k hv hp
 ·exact zst (H:=H) hv hp
 ·split at hp
  ·obtain⟨y,cs',rfl,h1,h2⟩:=hv.of_cons;obtain rfl:=h2.of_nil;obtain⟨cs,rfl,h3⟩:=h1.tuple_inv;obtain⟨u,u1,u2⟩:=h3.at hp;exact⟨u,by simp only[pas,zb9,zoL,zhe];exact u1,u2⟩
  ·cases hp
 ·unfold zbg at hp
  split at hp
  ·split at hp
   ·obtain⟨y,cs',rfl,h1,h2⟩:=hv.of_cons;obtain rfl:=h2.of_nil;injection hp with hp;subst hp;obtain rfl:y=.nilsl:=by cases h1 with|pure h1=>cases h1;rfl
    exact⟨_,rfl,.pure (.int _ _)⟩
   ·obtain⟨y,cs',rfl,h1,h2⟩:=hv.of_cons;obtain rfl:=h2.of_nil;injection hp with hp;subst hp;rcases zd4 h1 with⟨rfl,rfl⟩|⟨_,_,_,_,_,rfl,_⟩
    ·exact⟨_,rfl,.pure (.int _ _)⟩
    ·exact⟨_,rfl,.pure (.int _ _)⟩
   ·obtain⟨y,cs',rfl,h1,h2⟩:=hv.of_cons;obtain rfl:=h2.of_nil;injection hp with hp;subst hp;rcases sl_inv h1 with⟨rfl,rfl,rfl,rfl,rfl,_⟩|⟨_,_,_,_,_,rfl⟩
    ·exact⟨_,rfl,.pure (.int _ _)⟩
    ·exact⟨_,rfl,.pure (.int _ _)⟩
   ·cases hp
  ·exact zlp hv hp
  ·cases hp
 ·exact zjn hv hp
 ·exact zjn hv hp
 ·split at hp
  ·rename_i z hz
   split at hp
   ·rename_i l hl;injection hp with hp;subst hp;obtain⟨ds,d1,d2⟩:=znv (LR.pure (c:=c) (zf3 (fun u v=>zgj) hz)) hv hl;exact⟨.agg ds,by simp only[pas,zlV];rw[d1],VR.aggL d2⟩
   ·cases hp
  ·cases hp
 ·cases hp
def Cx.add (c:Cx)(id b d z:Nat):Cx:=⟨c.S,fun i=>if i=id then some (b,d,z)else c.ρ i,c.L⟩
theorem zrR {h:TH}{b g o n:Nat}{cs:List TV}(x:TO)(hr:zbs h b g o n=some cs):zbs (h.push x) b g o n=some cs:=by
 obtain⟨y,h1,h2⟩:=zf8 hr;refine zfr (x:=y) ?_ h2;rw[TH.get_push,if_neg (by have:=TH.get_lt h1;omega)];exact h1
theorem MR.mono {R R':PV->TV->Prop}(hR:∀x y,R x y->R' x y){k:IntKind}{m:Int->Option PV}{es:List zcf}(a:MR R k m es):MR R' k m es :=
 ⟨a.keys,fun x v hx=>by obtain⟨u,u1,u2⟩:=a.some x v hx;exact⟨u,u1,hR _ _ u2⟩,a.none⟩
theorem OR.move {c c':Cx}{h h':TH}(m:Mo c c' h h'){id:Nat}{o:zn}(hρ:c'.ρ id=c.ρ id)(hL:c.L id->c'.L id)(hb:∀x,c.ρ id=some x->h'.get x.1=h.get x.1)(k:OR c h id o):OR c' h' id o:=by
 cases o with
 | row e z G M l =>
  rcases k with⟨h1,h2,h3,h4⟩|⟨b,d,G',M',cells,cs,h1,h2,h3,h4,h5,h6⟩
  ·exact .inl ⟨h1,h2,by rw[hρ];exact h3,hL h4⟩
  ·exact .inr ⟨b,d,G',M',cells,cs,by rw[hρ];exact h1,by rw[hb _ h1];exact h2,h3,h4,h5,h6.mono fun _ _=>VR.mono m⟩
 | map0 =>
  obtain⟨b,d,z,clock,h1,h2⟩:=k;exact⟨b,d,z,clock,by rw[hρ];exact h1,by rw[hb _ h1];exact h2⟩
 | mapI k m' =>
  obtain⟨b,d,z,es,clock,h1,h2,h3⟩:=k;exact⟨b,d,z,es,clock,by rw[hρ];exact h1,by rw[hb _ h1];exact h2,h3.mono fun _ _=>VR.mono m⟩
 | dfr shut =>
  obtain⟨b,d,z,h1,h2⟩:=k;exact⟨b,d,z,by rw[hρ];exact h1,by rw[hb _ h1];exact h2⟩
 | loop st pe tm ps aS bo mk =>
  obtain⟨b,d,z,bm,dm,zm,t,pe',h1,h2,h3,h4,h5⟩:=k;refine⟨b,d,z,bm,dm,zm,t,pe',by rw[hρ];exact h1,m.ρ _ _ h2,by rw[hb _ h1];exact h3,fun i=>?_,?_⟩
  ·rcases h4 i with h4|⟨u,u1,u2⟩
   ·exact .inl h4
   ·exact .inr ⟨u,u1,u2.mono m⟩
  ·cases h5 with
   | norm=>exact .norm
   | exit id=>exact .exit id
   | goto l=>exact .goto l
   | ret=>exact .ret
   | panic k=>exact .panic (k.mono m)
 | void=>trivial
theorem HR.push (k:HR B c H h){o:zn}{x:TO}{z:Nat}(ho:Mo c (c.add H.length h.next 0 z) h (h.push x)->OR (c.add H.length h.next 0 z) (h.push x) H.length o) :
  Mo c (c.add H.length h.next 0 z) h (h.push x)/\HR B (c.add H.length h.next 0 z) (H++[o]) (h.push x):=by
 have hnone:c.ρ H.length=none:=by
  cases hc:c.ρ H.length with
  | none=>rfl
  | some y=>have:=(k.own _ _ hc).2.2;omega
 have m:Mo c (c.add H.length h.next 0 z) h (h.push x):=⟨fun _ _ h=>h,fun id y hy=>by
  show (if id=H.length then _ else _)=_;rw[if_neg (fun e=>by subst e;rw[hnone]at hy;cases hy)];exact hy,fun _ h=>h,fun _ _ _ _ _ _ _ hr=>zrR x hr⟩
 have hget:∀b,b<h.next->(h.push x).get b=h.get b:=fun b hb=>by rw[TH.get_push,if_neg (by omega)]
 have hρ:∀id y,(c.add H.length h.next 0 z).ρ id=some y->(id=H.length/\y=(h.next,0,z))\/c.ρ id=some y:=fun id y hy=>by
  have hy:(if id=H.length then some (h.next,0,z)else c.ρ id)=some y:=hy
  split at hy
  ·rename_i e;injection hy with hy;exact .inl ⟨e,hy.symm⟩
  ·exact .inr hy
 refine⟨m,⟨?_,fun b hb=>?_,k.old,fun p b hb=>?_,fun id y hy=>?_,fun id hL=>?_,fun id id' y y' hy hy' e=>?_,fun id o' ho'=>?_⟩⟩
 ·rw[TH.next_push];exact Nat.le_succ_of_le k.le
 ·rw[hget b (zBE9 hb k.le)];exact k.keep b hb
 ·obtain⟨h1,h2⟩:=k.S p b hb;refine⟨by rw[TH.next_push];omega,fun id y hy e=>?_⟩;rcases hρ id y hy with⟨_,rfl⟩|hy
  ·dsimp only at e;omega
  ·have:=h2 id y hy e;rw[zAW9 (zAD9.1 this).1];exact this
 ·rw[TH.next_push,zAC9];rcases hρ id y hy with⟨rfl,rfl⟩|hy
  ·exact⟨k.le,zBT9 _,by simp⟩
  ·obtain⟨h1,h2,h3⟩:=k.own id y hy;exact⟨h1,by omega,by simp;omega⟩
 ·obtain⟨h1,h2⟩:=k.lz id hL;refine⟨by simp;omega,fun y hy=>?_⟩;rcases hρ id y hy with⟨rfl,rfl⟩|hy
  ·omega
  ·exact h2 y hy
 ·rcases hρ id y hy with⟨rfl,rfl⟩|hy<;>rcases hρ id' y' hy' with⟨rfl,rfl⟩|hy'
  ·rfl
  ·have:=(k.own _ _ hy').2.1;dsimp only at e;omega
  ·have:=(k.own _ _ hy).2.1;dsimp only at e;omega
  ·exact k.inj _ _ _ _ hy hy' e
 ·by_cases hi:id<H.length
  ·rw[zAW9 hi]at ho';have h1:=k.obj id o' ho';refine h1.move m (by show (if id=H.length then _ else _)=_;rw[if_neg (by omega)]) (fun h=>h) fun y hy=>hget _ (k.own _ _ hy).2.1
  ·rw[zAO9 (by omega)]at ho';have hi2:id-H.length=0:=by
    cases hd:id-H.length with
    | zero=>rfl
    | succ n=>rw[hd]at ho';simp at ho'
   rw[hi2]at ho';simp at ho';subst ho';obtain rfl:id=H.length:=by omega
   exact ho m
theorem zx6 {h:TH}{b b' g o n:Nat}{cs:List TV}(x:TO)(hb:b'<h.next)(hne:b≠b')(hr:zbs h b g o n=some cs):zbs (h.set b' x) b g o n=some cs:=by
 obtain⟨y,h1,h2⟩:=zf8 hr;refine zfr (x:=y) ?_ h2;rw[TH.get_set _ _ _ _ hb,if_neg hne];exact h1
theorem HR.set (k:HR B c H h){id b d z:Nat}(hρ:c.ρ id=some (b,d,z))(hv:¬H[id]?=some .void){o:zn}{x:TO}(ho:Mo c c h (h.set b x)->OR c (h.set b x) id o) :
    Mo c c h (h.set b x)/\HR B c (H.set id o) (h.set b x):=by
  obtain⟨hb1,hb2,hid⟩:=k.own _ _ hρ;have hget:∀b',b'≠b->(h.set b x).get b'=h.get b':=fun b' hb'=>by rw[TH.get_set _ _ _ _ hb2,if_neg hb']
  have m:Mo c c h (h.set b x):=⟨fun _ _ h=>h,fun _ _ h=>h,fun _ h=>h,fun p b' hb' g o n cs hr=>zx6 x hb2 (fun e=>hv ((k.S p b' hb').2 _ _ hρ e.symm)) hr⟩
  refine⟨m,⟨by rw[TH.next_set];exact k.le,fun b' hb'=>?_,k.old,fun p b' hb'=>?_,fun id' y hy=>?_,fun id' hL=>?_,k.inj,fun id' o' ho'=>?_⟩⟩
  · rw[hget b' (by dsimp only at hb1;omega)];exact k.keep b' hb'
  · rw[TH.next_set]
    refine⟨(k.S p b' hb').1,fun i y hy e=>?_⟩;have:=(k.S p b' hb').2 i y hy e;rw[zAZ9 (fun e=>by subst e;exact hv this)];exact this
  · rw[TH.next_set,zCS9];exact k.own _ _ hy
  · rw[zCS9];exact k.lz id' hL
  · rw[zFK9]at ho'
    split at ho'
    · rename_i e
      subst e
      first
        | (split at ho'
           · injection ho' with ho';subst ho';exact ho m
           · cases ho')
        | (injection ho' with ho';subst ho';exact ho m)
    · rename_i hne
      exact(k.obj id' o' ho').move m rfl (fun h=>h) fun y hy=>hget _ fun e=>hne (k.inj _ _ _ _ hρ hy e.symm)
def zV (l:List PV):PV:=match l with
 | [x]=>x
 | l=>.agg l
theorem zdp {l:List PV}(h:l.all zao=true):(zV l).cells=l:=by
 unfold zV
 split
 ·rename_i x;simp at h;exact ztl h
 ·rfl
def zaj (esz:Nat):Nat->List PV->List PV
 | 0,_=>[]
 | n+1,l=>zV (l.take esz)::zaj esz n (l.drop esz)
theorem znY {R:PV->TV->Prop}{esz:Nat}:∀{n:Nat} {l:List PV} {cs:List TV},l.all zao=true->l.length=n*esz->LR R l cs->ER R esz (zaj esz n l) cs
 | 0,l,cs,ha,hl,hr=>by
  obtain rfl:l=[]:=zDX9.1 (by simpa using hl);obtain rfl:=hr.of_nil;exact ER.nil
 | n+1,l,cs,ha,hl,hr=>by
  have ht:(l.take esz).all zao=true:=by
   rw[zBI9]at ha⊢;exact fun x hx=>ha x (zCE9 hx)
  have hd:(l.drop esz).all zao=true:=by
   rw[zBI9]at ha⊢;exact fun x hx=>ha x (zBY9 hx)
  have hle:esz<=l.length:=by rw[hl,zDA9];omega
  have h1:ER R esz [zV (l.take esz)] (cs.take esz):=ER.one' (by rw[zdp ht];simp;omega) (by rw[zdp ht];exact hr.take esz);have h2:=znY (esz:=esz) (n:=n) hd (by rw[zCI9,hl,zDA9];omega) (hr.drop esz);have:=h1.app h2;rw[zFQ9]at this;exact this
def za8 (l:List PV):Nat->List PV
 | 0=>[]
 | n+1=>l++za8 l n
theorem zmP {R:PV->TV->Prop}{l:List PV}{cs:List TV}(h:LR R l cs):∀n,LR R (za8 l n) (zdI cs n)
 | 0=>LR.nil
 | n+1=>h.app (zmP h n)
theorem zo0 (l:List PV):∀n,(za8 l n).length=n*l.length
 | 0=>by simp[za8]
 | n+1=>by rw[za8,zAC9,zo0 l n,zDA9,zDL9]
theorem znR:∀{places:List (Nat×Nat)} {vs l m:List PV},zau l places vs=some m->m.length=l.length
 | [],[],l,m,hp=>by simp only[zau]at hp;injection hp with hp;rw[hp]
 | [],_::_,l,m,hp=>by simp[zau]at hp
 | _::_,[],l,m,hp=>by simp[zau]at hp
 | (off,size)::ps,v::vs,l,m,hp=>by
  unfold zau at hp
  split at hp
  ·rename_i hc;rw[znR hp];simp only[zAC9,zBB9,zCI9,hc.1];omega
  ·cases hp
def za7 (id:Nat)(k:zT)(vs:List PV):Option (zn×PV) :=
 match k with
 | .box e n=>(match vs with
  | [v]=>if v.cells.length=n then some (.row e n 0 0 [v],.ptr id 0 0 0 n)else none
  | _=>none)
 | .alloc e zero=>(match vs,za6 (ofC 3) zero with
  | [],some zs=>if zs.all zao=true then some (.row e zero.length 0 0 [zV zs],.ptr id 0 0 0 zero.length)else none
  | _,_=>none)
 | .bslice e esz len zero places=>(match za6 (ofC 3) zero with
  | some zs=>if len*esz<=16777216/\zero.length=esz then(match zau (za8 zs len) places vs with
   | some l=>if l.all zao=true then some (.row e esz 0 0 (zaj esz len l),.sl id 0 0 len (2*len) esz)else none
   | none=>none)else none
  | none=>none)
 | .mkslice e esz bytes zero=>(match vs,za6 (ofC 3) zero with
  | [.int _ n,.int _ m],some zs=>if 0<=n/\n<=m/\m<=1000000/\m*bytes<=140737488355328/\zs.all zao=true/\zero.length=esz then some (.row e esz 0 0 (List.replicate n.toNat (zV zs)),.sl id 0 0 n.toNat (2*n.toNat) esz)else none
  | _,_=>none)
 | .mkmap=>(match vs with
  | []=>some (.map0,.map id)
  | [.int _ _]=>some (.map0,.map id)
  | _=>none)
 | _=>none
theorem add_same (c:Cx)(id b d z:Nat):(c.add id b d z).ρ id=some (b,d,z):=by simp[Cx.add]
theorem zjJ {α:Type}(l:List α):(Tr.putL .nil 0 l).getL 0 l.length=some l:=zgP fun j hj=>by
 rw[Tr.get_putL,if_pos (by omega)];simp
theorem zp7 (v:PV):∀n,(List.replicate n v).flatMap PV.cells=za8 v.cells n
 | 0=>rfl
 | n+1=>by rw[zDE9,zBS9,zp7 v n];rfl
theorem zgY (k:HR B c H h){e z:Nat}{l:List PV}{cs:List TV}(hl:ER (VR c h) z l cs) :
  Mo c (c.add H.length h.next 0 z) h (h.push (zb8 e cs))/\HR B (c.add H.length h.next 0 z) (H++[.row e z 0 0 l]) (h.push (zb8 e cs)) :=
 k.push fun m=>.inr ⟨h.next,0,0,0,Tr.putL .nil 0 cs,cs,add_same ..,by rw[TH.get_push,if_pos rfl,zb8,hl.len],rfl,zAS9 _,by rw[<- hl.len];exact zjJ cs,hl.mono fun _ _=>VR.mono m⟩
theorem zlO (k:HR B c H h){kind:zT}{o:zn}(hv:LR (VR c h) vs us)(hp:za7 H.length kind vs=some (o,v)) :
  ∃x c',lay kind us h.next=some x/\Mo c c' h (h.push x.o)/\HR B c' (H++[o]) (h.push x.o)/\VR c' (h.push x.o) v x.v/\(∃z,c'.ρ H.length=some (h.next,0,z))/\zdL x.v=some h.next:=by
 cases kind with
 | box e n =>
  simp only[za7]at hp
  split at hp
  ·rename_i w;obtain⟨y,cs',rfl,h1,h2⟩:=hv.of_cons;obtain rfl:=h2.of_nil
   split at hp
   ·rename_i hn;injection hp with hp;injection hp with hp1 hp2;subst hp1;subst hp2;have hc:=h1.cells;obtain⟨m,k'⟩:=zgY k (e:=e) (ER.one' hn hc);refine⟨⟨zb8 e y.cells,.ptr h.next 0 0 n⟩,_,?_,m,k',?_,⟨_,add_same ..⟩,rfl⟩
    ·simp only[lay,zmQ];rw[zby (by rw[<- hc.1];exact hn)];rfl
    ·have:=VR.ptr (h:=h.push (zb8 e y.cells)) (g:=0) (i:=0) (o:=0) (n:=n) (add_same c H.length h.next 0 n);simpa using this
   ·cases hp
  ·cases hp
 | alloc e zero =>
  simp only[za7]at hp
  split at hp
  ·rename_i zs hz;obtain rfl:=hv.of_nil
   split at hp
   ·rename_i ha;injection hp with hp;injection hp with hp1 hp2;subst hp1;subst hp2;have hc:=zf3 (S:=c.S) (h:=h) (fun u v=>zgj) hz;have hlen:(zV zs).cells.length=zero.length:=by rw[zdp ha];exact hc.1
    obtain⟨m,k'⟩:=zgY k (e:=e) (ER.one' (R:=VR c h) hlen (by rw[zdp ha];exact LR.pure hc));refine⟨⟨zb8 e zero,.ptr h.next 0 0 zero.length⟩,_,rfl,m,k',?_,⟨_,add_same ..⟩,rfl⟩;have:=VR.ptr (h:=h.push (zb8 e zero)) (g:=0) (i:=0) (o:=0) (n:=zero.length) (add_same c H.length h.next 0 zero.length);simpa using this
   ·cases hp
  ·cases hp
 | bslice e esz len zero places =>
  simp only[za7]at hp
  split at hp
  ·rename_i zs hz
   split at hp
   ·rename_i hcond
    split at hp
    ·rename_i l hl
     split at hp
     ·rename_i ha;injection hp with hp;injection hp with hp1 hp2;subst hp1;subst hp2;have hc:=zf3 (S:=c.S) (h:=h) (fun u v=>zgj) hz;obtain⟨ds,d1,d2⟩:=znv (zmP (LR.pure (c:=c) hc) len) hv hl;have hlen:l.length=len*esz:=by rw[znR hl,zo0,hc.1,hcond.2]
      obtain⟨m,k'⟩:=zgY k (e:=e) (znY ha hlen d2);refine⟨⟨zb8 e ds,.sl h.next 0 0 len (2*len) esz⟩,_,?_,m,k',?_,⟨_,add_same ..⟩,rfl⟩
      ·simp only[lay,zgQ];rw[zch hcond.1,d1];rfl
      ·have:=VR.sl (h:=h.push (zb8 e ds)) (g:=0) (o:=0) (n:=len) (q:=2*len) (add_same c H.length h.next 0 esz);simpa using this
     ·cases hp
    ·cases hp
   ·cases hp
  ·cases hp
 | mkslice e esz bytes zero =>
  simp only[za7]at hp
  split at hp
  ·rename_i k1 n k2 mm zs hz;obtain⟨y,cs',rfl,h1,h2⟩:=hv.of_cons;obtain⟨y',cs'',rfl,h3,h4⟩:=h2.of_cons;obtain rfl:=h4.of_nil;obtain rfl:=h1.int_inv;obtain rfl:=h3.int_inv
   split at hp
   ·rename_i hcond;obtain⟨c1,c2,c3,c4,c5,c6⟩:=hcond;injection hp with hp;injection hp with hp1 hp2;subst hp1;subst hp2;have hc:=zf3 (S:=c.S) (h:=h) (fun u v=>zgj) hz;have hel:ER (VR c h) esz (List.replicate n.toNat (zV zs)) (zdI zero n.toNat):=by
     refine⟨fun w hw=>?_,?_⟩
     ·rw[zFD9 hw,zdp c5,hc.1,c6]
     ·rw[zp7,zdp c5];exact zmP (LR.pure hc) _
    obtain⟨m,k'⟩:=zgY k (e:=e) hel;refine⟨⟨zb8 e (zdI zero n.toNat),.sl h.next 0 0 n.toNat (2*n.toNat) esz⟩,_,?_,m,k',?_,⟨_,add_same ..⟩,rfl⟩
    ·simp only[lay,zfZ,zdX,zfQ c1,zfQ (Int.le_trans c1 c2)];have e4:mm.toNat*bytes<=140737488355328:=by
      have:((mm.toNat*bytes:Nat):Int)=mm*bytes:=by rw[Int.natCast_mul,zEX9 (Int.le_trans c1 c2)]
      omega
     rw[zch (show n.toNat<=mm.toNat by omega),zch (show mm.toNat<=1000000 by omega),zch e4];rfl
    ·have:=VR.sl (h:=h.push (zb8 e (zdI zero n.toNat))) (g:=0) (o:=0) (n:=n.toNat) (q:=2*n.toNat) (add_same c H.length h.next 0 esz);simpa using this
   ·cases hp
  ·cases hp
 | mkmap =>
  simp only[za7]at hp;have hmap:∃x,lay .mkmap us h.next=some x/\x.o=.map [] 0/\x.v=.map h.next/\o=.map0/\v=.map H.length:=by
   split at hp
   ·obtain rfl:=hv.of_nil;injection hp with hp;injection hp with hp1 hp2;exact⟨_,rfl,rfl,rfl,hp1.symm,hp2.symm⟩
   ·obtain⟨y,cs',rfl,h1,h2⟩:=hv.of_cons;obtain rfl:=h2.of_nil;obtain rfl:=h1.int_inv;injection hp with hp;injection hp with hp1 hp2;exact⟨_,rfl,rfl,rfl,hp1.symm,hp2.symm⟩
   ·cases hp
  obtain⟨⟨xo,xv⟩,h1,h2,h3,rfl,rfl⟩:=hmap;dsimp only at h2 h3;subst h2;subst h3;obtain⟨m,k'⟩:=k.push (o:=.map0) (x:=.map [] 0) (z:=0) fun m=>⟨h.next,0,0,0,add_same ..,by rw[TH.get_push,if_pos rfl]⟩
  exact⟨_,_,h1,m,k',.map (add_same ..),⟨_,add_same ..⟩,rfl⟩
 | _=>simp only[za7]at hp;cases hp
theorem zo9 {α:Type}{t:Tr α}{cs u:List α}{a:Nat}(h:t.getL 0 cs.length=some cs)(ha:a+u.length<=cs.length):(t.putL a u).getL 0 cs.length=some (cs.take a++u++cs.drop (a+u.length)):=by
 have hlen:(cs.take a++u++cs.drop (a+u.length)).length=cs.length:=by simp;omega
 have:=zgP (t:=t.putL a u) (a:=cs.take a++u++cs.drop (a+u.length)) (i:=0) fun j hj=>by
  rw[hlen]at hj;have h2:=(Tr.getL_some h).2 j hj;rw[zAN9]at h2⊢;rw[Tr.get_putL]
  by_cases h1:j<a
  ·rw[if_neg (by omega),zAF9,zAW9 (by simp;omega),zBD9,if_pos h1,<- h2]
  ·by_cases h3:j<a+u.length
   ·rw[if_pos (by omega),zAF9,zAO9 (by simp;omega),zAW9 (by simp;omega)]
    congr 1
    simp;omega
   ·rw[if_neg (by omega),zAO9 (by simp;omega),zCB9,<- h2]
    congr 1
    simp;omega
 rwa [hlen]at this
theorem zqN {α:Type}{t:Tr α}{cs u:List α}(h:t.getL 0 cs.length=some cs):(t.putL cs.length u).getL 0 (cs.length+u.length)=some (cs++u):=by
 refine zo3 (zsx (fun j h1 h2=>?_) h) ?_
 ·rw[Tr.get_putL,if_neg (by omega)]
 ·rw[zAN9];exact zgP fun j hj=>by
   rw[Tr.get_putL,if_pos (by omega)]
   congr 1
   omega
def spl (old v:PV)(o n z:Nat):PV:=if n=z then v else .agg (old.cells.take o++v.cells++old.cells.drop (o+n))
structure AR where
 v:PV
 H:List zn
 W:List Nat
def zaf (H:List zn)(n:Nat):List PV->Option AR
 | [.ptr id g i o m,v]=>if v.cells.length=n/\n<=m then(match H[id]? with
  | some (.row e z G _ l)=>if g=G/\o+n<=z then(match l[i]? with
   | some old=>some ⟨.tuple [],H.set id (.row e z G G (l.set i (spl old v o n z))),[id]⟩
   | none=>none)else none
  | _=>none)else none
 | _=>none
def zbd (H:List zn)(esz:Nat):PV->Option (List PV)
 | .nilsl=>some []
 | .list _ z l=>if esz=z then some l else none
 | .sl id g o n _ z=>if esz=z then(match H[id]? with
  | some (.row _ _ G M l)=>if M<=g/\g<=G/\o+n<=l.length then some ((l.drop o).take n)else none
  | _=>none)else none
 | _=>none
def zW (H:List zn)(e esz bytes:Nat):List PV->Option AR
 | [s,x]=>(match zbd H esz x with
  | none=>none
  | some news=>match s with
   | .nilsl=>if news.length=0 then some ⟨.nilsl,H,[]⟩else if news.length*(bytes+1)<=140737488355328 then some ⟨.sl H.length 0 0 news.length (2*news.length) esz,H++[.row e esz 0 0 news],[]⟩else none
   | .sl id g o n q z=>if news.length=0 then some ⟨.sl id g o n q z,H,[]⟩else if o=0/\q%2=0/\esz=z then(match H[id]? with
    | some (.row e' z' G M l)=>if e=e'/\z=z'/\g=G/\n=l.length/\(n+news.length)*(bytes+1)<=140737488355328 then some ⟨.sl id (G+1) 0 (n+news.length) (2*(n+news.length)) z,H.set id (.row e z (G+1) M (l++news)),[id]⟩else none
    | _=>none)else none
   | _=>none)
 | _=>none
def lenP:PV->Nat
 | .list _ _ l=>l.length
 | .sl _ _ _ n _ _=>n
 | _=>0
def zs7 (H:List zn)(esz:Nat):List PV->Option AR
 | [.nilsl,x]=>(match zbd H esz x with
  | some _=>some ⟨.int .i64 0,H,[]⟩
  | none=>none)
 | [.sl id g o n _ z,x]=>(match zbd H esz x with
  | none=>none
  | some news=>if min news.length n=0 then some ⟨.int .i64 0,H,[]⟩else if esz=z then(match H[id]? with
   | some (.row e z' G _ l)=>if z=z'/\g=G/\o+min news.length n<=l.length then some ⟨.int .i64 (min news.length n:Nat),H.set id (.row e z G G (l.take o++news.take (min news.length n)++l.drop (o+min news.length n))),[id]⟩else none
   | _=>none)else none)
 | _=>none
def zaF (H:List zn)(kf:Nat):List PV->Option AR
 | [.map id,.int k x,v]=>if kf=1 then(match H[id]? with
  | some .map0=>some ⟨.tuple [],H.set id (.mapI k fun y=>if y=x then some v else none),[id]⟩
  | some (.mapI k' m)=>if k=k' then some ⟨.tuple [],H.set id (.mapI k fun y=>if y=x then some v else m y),[id]⟩else none
  | _=>none)else none
 | _=>none
def za9 (H:List zn)(k:zT)(vs:List PV):Option AR :=
 match k with
 | .store n=>zaf H n vs
 | .append e esz bytes=>zW H e esz bytes vs
 | .copy esz=>zs7 H esz vs
 | .mupd kf=>zaF H kf vs
 | _=>none
structure zkV (B:Ba)(c:Cx)(H:List zn)(h:TH)(a:AR)(u:TV)(h':TH)(c':Cx):Prop where
 mo:Mo c c' h h'
 hr:HR B c' a.H h'
 v:VR c' h' a.v u
 W:∀id,id ∉ a.W->∀x,c.ρ id=some x->h'.get x.1=h.get x.1
theorem zl1 (k:HR B c H h){id b d z:Nat}(hρ:c.ρ id=some (b,d,z))(x:TO):∀id',id' ∉ [id]->∀y,c.ρ id'=some y->(h.set b x).get y.1=h.get y.1:=fun id' hn y hy=>by
 rw[TH.get_set _ _ _ _ (k.own _ _ hρ).2.1,if_neg];intro e;exact hn (by rw[k.inj _ _ _ _ hy hρ e];simp)
theorem zfR (k:HR B c H h){id e z G M:Nat}{l:List PV}(hH:H[id]?=some (.row e z G M l)){b d z':Nat}(hρ:c.ρ id=some (b,d,z')) :
  z'=z/\∃G' M' cells cs,h.get b=some (.row e G' M' (l.length*z) cells)/\G=G'+d/\M'<=M-d/\cells.getL 0 (l.length*z)=some cs/\ER (VR c h) z l cs:=by
 rcases k.obj _ _ hH with⟨_,_,h1,_⟩|⟨b',d',G',M',cells,cs,h1,h2⟩
 ·rw[hρ]at h1;cases h1
 ·rw[hρ]at h1;injection h1 with h1;injection h1 with h1 h7;injection h7 with h7 h8;subst h1;subst h7;subst h8;exact⟨rfl,G',M',cells,cs,h2⟩
theorem zuJ {α:Type}(cs u:List α){a o n z:Nat}(hon:o+n<=z)(hu:u.length=n):cs.take a++(((cs.drop a).take z).take o++u++((cs.drop a).take z).drop (o+n))++cs.drop (a+z)=cs.take (a+o)++u++cs.drop (a+o+u.length):=by
 have h1:cs.take (a+o)=cs.take a++(cs.drop a).take o:=List.take_add;have h2:cs.drop (a+o+u.length)=((cs.drop a).take z).drop (o+n)++cs.drop (a+z):=by
  rw[hu,zDF9,<- zEH9,<- zEH9 (i:=z) (j:=a)]
  by_cases hz:z<=(cs.drop a).length
  ·conv=>lhs;rw[<- zFQ9 z (cs.drop a)]
   rw[zFU9 (by rw[zBB9,zDI9 hz];exact hon)]
  ·rw[zDD9 (by omega),zEO9 (l:=cs.drop a) (i:=z) (by omega),zEB9]
 rw[h1,h2,zFH9,zDI9 (by omega)];simp only[zAF9]
theorem zpf (k:HR B c H h){n:Nat}{a:AR}(hv:LR (VR c h) vs us)(hp:zaf H n vs=some a):∃u h' c',zgm n h us=some (.ok u h')/\zkV B c H h a u h' c':=by
 unfold zaf at hp
 split at hp
 ·rename_i id g i o m w;obtain⟨y,cs',rfl,h1,h2⟩:=hv.of_cons;obtain⟨y',cs'',rfl,h3,h4⟩:=h2.of_cons;obtain rfl:=h4.of_nil;obtain⟨b,d,z',g',s1,rfl,rfl⟩:=zed h1
  split at hp
  ·rename_i hc;obtain⟨hc1,hc2⟩:=hc
   split at hp
   ·rename_i e z G M l hH
    split at hp
    ·rename_i hc;obtain⟨hg,ho⟩:=hc
     split at hp
     ·rename_i old hold;injection hp with hp;subst hp;obtain⟨rfl,G',M',cells,cs,r1,r2,r3,r4,r5⟩:=zfR k hH s1;have hgG:g'=G':=by omega
      subst hgG;have hi:i<l.length:=(zAD9.1 hold).1;have hm:=zlI (z:=z') hi;have hcells:=h3.cells;have hol:=r5.one old (zAK9 hold);have hcl:=r5.len;have hsc:(spl old w o n z').cells=old.cells.take o++w.cells++old.cells.drop (o+n):=by
       unfold spl
       split
       ·rename_i e;subst e;obtain rfl:o=0:=by omega
        rw[zAN9,zEO9 (by omega)];simp
       ·rfl
      have hn':y'.cells.length=n:=by rw[<- hcells.1];exact hc1
      have hold2:=r5.at hold;have hnew:ER (VR c h) z' (l.set i (spl old w o n z')) (cs.take (i*z'+o)++y'.cells++cs.drop (i*z'+o+y'.cells.length)):=by
       have hsl:(spl old w o n z').cells.length=z':=by rw[hsc];simp;omega
       have hds:LR (VR c h) (spl old w o n z').cells (((cs.drop (i*z')).take z').take o++y'.cells++((cs.drop (i*z')).take z').drop (o+n)):=by
        rw[hsc];exact((hold2.take o).app hcells).app (hold2.drop (o+n))
       have hset:=r5.set hi hsl hds;have e1:cs.take (i*z')++(((cs.drop (i*z')).take z').take o++y'.cells++((cs.drop (i*z')).take z').drop (o+n))++cs.drop ((i+1)*z')=cs.take (i*z'+o)++y'.cells++cs.drop (i*z'+o+y'.cells.length):=by
        rw[zDA9];exact zuJ cs y'.cells ho hn'
       rw[e1]at hset;exact hset
      obtain⟨m1,k1⟩:=k.set (o:=.row e z' G G (l.set i (spl old w o n z'))) (x:=.row e g' g' (l.length*z') (cells.putL (i*z'+o) y'.cells)) s1 (fun e=>by rw[hH]at e;cases e) fun mm =>
       .inr ⟨b,d,g',g',cells.putL (i*z'+o) y'.cells,cs.take (i*z'+o)++y'.cells++cs.drop (i*z'+o+y'.cells.length),s1,by rw[TH.get_set _ _ _ _ (k.own _ _ s1).2.1,if_pos rfl,zCS9],r2,by omega,by
        rw[zCS9,<- hcl];exact zo9 (by rw[hcl];exact r4) (by rw[hcl];omega),hnew.mono fun _ _=>VR.mono mm⟩
      refine⟨.tuple [],_,c,?_,m1,k1,VR.tupL LR.nil,zl1 k s1 _⟩;simp only[zgm,zdo];rw[zby hn',zch hc2,r1];simp only[cond_true,zl4];rw[zby rfl,zch (by omega)];rfl
     ·cases hp
    ·cases hp
   ·cases hp
  ·cases hp
 ·cases hp
theorem zpl (k:HR B c H h){esz:Nat}{x:PV}{u:TV}{l:List PV}(hx:VR c h x u)(hp:zbd H esz x=some l):l.length=lenP x/\lenV u=l.length/\∀m,m<=l.length->∃cs,zep h esz u m=some cs/\ER (VR c h) esz (l.take m) cs:=by
 unfold zbd at hp
 split at hp
 ·injection hp with hp;subst hp;obtain rfl:u=.nilsl:=by cases hx with|pure hx=>cases hx;rfl
  exact⟨rfl,rfl,fun m hm=>⟨[],rfl,by simpa using ER.nil⟩⟩
 ·split at hp
  ·rename_i he;injection hp with hp;subst hp;subst he;rcases zd4 hx with⟨rfl,rfl⟩|⟨b,g,o,q,ds,rfl,s1,s2,s3,s4⟩
   ·exact⟨rfl,rfl,fun m hm=>⟨[],rfl,by simpa using ER.nil⟩⟩
   ·refine⟨rfl,rfl,fun m hm=>⟨ds.take (m*esz),?_,(s4.take m).mono fun _ _=>.pure⟩⟩;unfold zep;dsimp only;rw[zby rfl];have:=zeb s2 (k:=0) (m:=m*esz) (by rw[zAN9];exact zBU9 esz hm);simpa using this
  ·cases hp
 ·rename_i id g o n q z
  split at hp
  ·rename_i he;subst he
   split at hp
   ·rename_i e z' G M l' hH
    split at hp
    ·rename_i hc;obtain⟨c1,c2,c3⟩:=hc;injection hp with hp;subst hp;have hln:((l'.drop o).take n).length=n:=by simp;omega
     rcases sl_inv hx with⟨rfl,rfl,rfl,rfl,rfl,hL⟩|⟨b,d,g',s1,rfl,rfl⟩
     ·exact⟨by simp[lenP],by simp[lenV],fun m hm=>⟨[],rfl,by simpa using ER.nil⟩⟩
     ·obtain⟨rfl,G',M',cells,cs,r1,r2,r3,r4,r5⟩:=zfR k hH s1;refine⟨hln,by rw[hln];rfl,fun m hm=>⟨((cs.drop (o*esz)).take (n*esz)).take (m*esz),?_,((r5.drop o).take n).take m⟩⟩;rw[hln]at hm;unfold zep;dsimp only;rw[zby rfl,zFH9,zDI9 (zBU9 esz hm)];refine zhQ r1 (by omega) (by omega) ?_;have h9:o*esz+m*esz<=l'.length*esz:=by rw[<- zCN9];exact zBU9 _ (by omega)
      have:=zg7 r4 h9
      rwa [zAN9]at this
    ·cases hp
   ·cases hp
  ·cases hp
 ·cases hp
theorem HR.first (k:HR B c H h){id e e' z G M:Nat}{l:List PV}(hH:H[id]?=some (.row e' z G M l))(hρ:c.ρ id=none)(hL:c.L id){news:List PV}{cs:List TV}(hn:ER (VR c h) z news cs) :
  Mo c (c.add id h.next 1 z) h (h.push (zb8 e cs))/\HR B (c.add id h.next 1 z) (H.set id (.row e z 1 M news)) (h.push (zb8 e cs)):=by
 have hid:id<H.length:=(zAD9.1 hH).1;have m:Mo c (c.add id h.next 1 z) h (h.push (zb8 e cs)):=⟨fun _ _ h=>h,fun i y hy=>by
  show (if i=id then _ else _)=_;rw[if_neg (fun e=>by subst e;rw[hρ]at hy;cases hy)];exact hy,fun _ h=>h,fun _ _ _ _ _ _ _ hr=>zrR _ hr⟩
 have hget:∀b,b<h.next->(h.push (zb8 e cs)).get b=h.get b:=fun b hb=>by rw[TH.get_push,if_neg (by omega)]
 have hr:∀i y,(c.add id h.next 1 z).ρ i=some y->(i=id/\y=(h.next,1,z))\/c.ρ i=some y:=fun i y hy=>by
  have hy:(if i=id then some (h.next,1,z)else c.ρ i)=some y:=hy
  split at hy
  ·rename_i e;injection hy with hy;exact .inl ⟨e,hy.symm⟩
  ·exact .inr hy
 refine⟨m,⟨?_,fun b hb=>?_,k.old,fun p b hb=>?_,fun i y hy=>?_,fun i hi=>?_,fun i i' y y' hy hy' e=>?_,fun i o' ho'=>?_⟩⟩
 ·rw[TH.next_push];exact Nat.le_succ_of_le k.le
 ·rw[hget b (zBE9 hb k.le)];exact k.keep b hb
 ·obtain⟨h1,h2⟩:=k.S p b hb;refine⟨by rw[TH.next_push];omega,fun i y hy e=>?_⟩;rcases hr i y hy with⟨_,rfl⟩|hy
  ·dsimp only at e;omega
  ·have:=h2 i y hy e;rw[zAZ9 (fun e=>by subst e;rw[hH]at this;cases this)];exact this
 ·rw[TH.next_push,zCS9];rcases hr i y hy with⟨rfl,rfl⟩|hy
  ·exact⟨k.le,zBT9 _,hid⟩
  ·obtain⟨h1,h2,h3⟩:=k.own i y hy;exact⟨h1,by omega,h3⟩
 ·rw[zCS9];obtain⟨h1,h2⟩:=k.lz i hi;refine⟨h1,fun y hy=>?_⟩;rcases hr i y hy with⟨rfl,rfl⟩|hy
  ·rfl
  ·exact h2 y hy
 ·rcases hr i y hy with⟨a1,a2⟩|h5<;>rcases hr i' y' hy' with⟨b1,b2⟩|h6
  ·rw[a1,b1]
  ·have:=(k.own _ _ h6).2.1;rw[a2]at e;dsimp only at e;omega
  ·have:=(k.own _ _ h5).2.1;rw[b2]at e;dsimp only at e;omega
  ·exact k.inj _ _ _ _ h5 h6 e
 ·by_cases hii:id=i
  ·subst hii;rw[zBH9 hid]at ho';injection ho' with ho';subst ho';exact .inr ⟨h.next,1,0,0,Tr.putL .nil 0 cs,cs,add_same ..,by rw[TH.get_push,if_pos rfl,zb8,hn.len],rfl,zAS9 _,by rw[<- hn.len];exact zjJ cs,hn.mono fun _ _=>VR.mono m⟩
  ·rw[zAZ9 hii]at ho';exact(k.obj i o' ho').move m (by show (if i=id then _ else _)=_;rw[if_neg (Ne.symm hii)]) (fun h=>h) fun y hy=>hget _ (k.own _ _ hy).2.1
theorem zut (k:HR B c H h){e esz bytes:Nat}{a:AR}(hv:LR (VR c h) vs us)(hp:zW H e esz bytes vs=some a):∃u h' c',ze9 e esz bytes h us=some (.ok u h')/\zkV B c H h a u h' c':=by
 unfold zW at hp
 split at hp
 ·rename_i s x;obtain⟨y,cs',rfl,h1,h2⟩:=hv.of_cons;obtain⟨y',cs'',rfl,h3,h4⟩:=h2.of_cons;obtain rfl:=h4.of_nil
  split at hp
  ·cases hp
  ·rename_i news hs;obtain⟨_,t2,t3⟩:=zpl k h3 hs;obtain⟨cs,t4,t5⟩:=t3 _ (zAM9 _);rw[zBK9]at t5;simp only[ze9,zs8];rw[t2,t4];dsimp only;have hpush:∀b,b<h.next->(h.push (zb8 e cs)).get b=h.get b:=fun b hb=>by rw[TH.get_push,if_neg (by omega)]
   split at hp
   ·obtain rfl:y=.nilsl:=by cases h1 with|pure h1=>cases h1;rfl
    dsimp only
    split at hp
    ·rename_i hz;injection hp with hp;subst hp;rw[hz];exact⟨_,h,c,rfl,Mo.refl _ _,k,h1,fun _ _ _ _=>rfl⟩
    ·rename_i hz
     split at hp
     ·rename_i hb;injection hp with hp;subst hp;obtain⟨m1,k1⟩:=zgY k (e:=e) t5;refine⟨.sl h.next 0 0 news.length (2*news.length) esz,_,_,?_,m1,k1,?_,fun id _ y hy=>hpush _ (k.own _ _ hy).2.1⟩
      ·have:Nat.beq news.length 0=false:=by
        cases hb:Nat.beq news.length 0
        ·rfl
        ·exact absurd (zoD hb) hz
       rw[this];simp only[cond_false,zjb];rw[zch hb];rfl
      ·have:=VR.sl (h:=h.push (zb8 e cs)) (g:=0) (o:=0) (n:=news.length) (q:=2*news.length) (add_same c H.length h.next 0 esz);simpa using this
     ·cases hp
   ·rename_i id g o n q z
    split at hp
    ·rename_i hz;injection hp with hp;subst hp;refine⟨y,h,c,?_,Mo.refl _ _,k,h1,fun _ _ _ _=>rfl⟩;rcases sl_inv h1 with⟨rfl,rfl,rfl,rfl,rfl,hL⟩|⟨b,d,g',s1,rfl,rfl⟩<;>(dsimp only;rw[hz];rfl)
    ·rename_i hz;have hbz:Nat.beq news.length 0=false:=by
      cases hb:Nat.beq news.length 0
      ·rfl
      ·exact absurd (zoD hb) hz
     split at hp
     ·rename_i hc;obtain⟨rfl,hq,rfl⟩:=hc
      split at hp
      ·rename_i e' z' G M l hH
       split at hp
       ·rename_i hc;obtain⟨rfl,rfl,rfl,rfl,hbnd⟩:=hc;injection hp with hp;subst hp;rcases sl_inv h1 with⟨rfl,_,hl0,rfl,rfl,hL⟩|⟨b,d,g',s1,hgd,rfl⟩
        ·have hl:l=[]:=zDX9.1 hl0;subst hl;have hn:c.ρ id=none:=by
          rcases k.obj _ _ hH with⟨_,_,hn,_⟩|⟨b,d,G',M',cells,cs,p1,p2,p3,_⟩
          ·exact hn
          ·have:=(k.lz id hL).2 _ p1;dsimp only at this;omega
         obtain⟨m1,k1⟩:=k.first (e:=e) hH hn hL t5;refine⟨.sl h.next 0 0 news.length (2*news.length) esz,h.push (zb8 e cs),_,?_,m1,by simpa using k1,?_,fun i hi y hy=>hpush _ (k.own _ _ hy).2.1⟩
         ·dsimp only;rw[hbz];simp only[cond_false,zjb];rw[zch (by simpa using hbnd)];rfl
         ·have:=VR.sl (h:=h.push (zb8 e cs)) (g:=0) (o:=0) (n:=news.length) (q:=2*news.length) (add_same c id h.next 1 esz);simpa using this
        ·obtain⟨_,G',M',cells,ds,r1,r2,r3,r4,r5⟩:=zfR k hH s1;have hgG:g'=G':=by omega
         subst hgG;have hdl:=r5.len;obtain⟨m1,k1⟩:=k.set (o:=.row e esz (g+1) M (l++news)) (x:=.row e (g'+1) M' (l.length*esz+cs.length) (cells.putL (l.length*esz) cs)) s1 (fun e=>by rw[hH]at e;cases e) fun mm =>
          .inr ⟨b,d,g'+1,M',cells.putL (l.length*esz) cs,ds++cs,s1,by rw[TH.get_set _ _ _ _ (k.own _ _ s1).2.1,if_pos rfl,zAC9,zCN9,t5.len],by omega,by omega,by
           rw[zAC9,zCN9,<- t5.len,<- hdl];exact zqN (by rw[hdl];exact r4),(r5.app t5).mono fun _ _=>VR.mono mm⟩
         refine⟨.sl b (g'+1) 0 (l.length+news.length) (2*(l.length+news.length)) esz,_,c,?_,m1,k1,?_,zl1 k s1 _⟩
         ·dsimp only;rw[hbz];simp only[cond_false];rw[zby (show 0*esz=0 by simp),zby hq,zby (rfl:esz=esz),r1];simp only[cond_true,zmi];rw[zby rfl,zby rfl,zby rfl,zch hbnd];rfl
         ·have:=VR.sl (h:=h.set b (.row e (g'+1) M' (l.length*esz+cs.length) (cells.putL (l.length*esz) cs))) (g:=g'+1) (o:=0) (n:=l.length+news.length) (q:=2*(l.length+news.length)) s1;rw[show g'+1+d=g+1 by omega]at this;simpa using this
       ·cases hp
      ·cases hp
     ·cases hp
   ·cases hp
 ·cases hp
theorem zxw {a b:Nat}(h:¬min a b=0):Nat.beq (min a b) 0=false:=by
 cases hb:Nat.beq (min a b) 0
 ·rfl
 ·exact absurd (zoD hb) h
theorem zxd (k:HR B c H h){esz:Nat}{a:AR}(hv:LR (VR c h) vs us)(hp:zs7 H esz vs=some a):∃u h' c',zfB esz h us=some (.ok u h')/\zkV B c H h a u h' c':=by
 unfold zs7 at hp
 split at hp
 ·rename_i x;obtain⟨y,cs',rfl,h1,h2⟩:=hv.of_cons;obtain⟨y',cs'',rfl,h3,h4⟩:=h2.of_cons;obtain rfl:=h4.of_nil;obtain rfl:y=.nilsl:=by cases h1 with|pure h1=>cases h1;rfl
  split at hp
  ·rename_i news hs;injection hp with hp;subst hp;obtain⟨_,t2,t3⟩:=zpl k h3 hs;obtain⟨cs,t4,t5⟩:=t3 0 (zAS9 _);refine⟨_,h,c,?_,Mo.refl _ _,k,.pure (.int _ _),fun _ _ _ _=>rfl⟩;simp only[zfB,lenV,Nat.min_zero];rw[t4];rfl
  ·cases hp
 ·rename_i id g o n q z x;obtain⟨y,cs',rfl,h1,h2⟩:=hv.of_cons;obtain⟨y',cs'',rfl,h3,h4⟩:=h2.of_cons;obtain rfl:=h4.of_nil
  split at hp
  ·cases hp
  ·rename_i news hs;obtain⟨_,t2,t3⟩:=zpl k h3 hs;obtain⟨cs,t4,t5⟩:=t3 (min news.length n) (Nat.min_le_left _ _)
   split at hp
   ·rename_i hz;injection hp with hp;subst hp;refine⟨.int .i64 (.ofNat 0),h,c,?_,Mo.refl _ _,k,.pure (.int _ _),fun _ _ _ _=>rfl⟩;rcases sl_inv h1 with⟨rfl,rfl,rfl,rfl,rfl,hL⟩|⟨b,d,g',s1,rfl,rfl⟩
    ·simp only[zfB,lenV,Nat.min_zero];simp only[Nat.min_zero]at t4;rw[t4]
    ·simp only[zfB];rw[t2,show lenV (.sl b g' (o*z) n q z)=n from rfl,t4,hz];rfl
   ·rename_i hz
    split at hp
    ·rename_i he;subst he
     split at hp
     ·rename_i e z' G M l hH
      split at hp
      ·rename_i hc;obtain⟨rfl,rfl,hle⟩:=hc;injection hp with hp;subst hp;rcases sl_inv h1 with⟨_,_,rfl,_⟩|⟨b,d,g',s1,hgd,rfl⟩
       ·simp at hz
       ·obtain⟨_,G',M',cells,ds,r1,r2,r3,r4,r5⟩:=zfR k hH s1;have hgG:g'=G':=by omega
        subst hgG;have hdl:=r5.len;have htl:(news.take (min news.length n)).length=min news.length n:=by simp
        have hcl:cs.length=min news.length n*esz:=by rw[t5.len,htl]
        have hlen:o*esz+cs.length<=l.length*esz:=by rw[hcl,<- zCN9];exact zBU9 _ hle
        have hnew:=((r5.take o).app t5).app (r5.drop (o+min news.length n));have hll:(l.take o++news.take (min news.length n)++l.drop (o+min news.length n)).length=l.length:=by simp;omega
        obtain⟨m1,k1⟩:=k.set (o:=.row e esz g g (l.take o++news.take (min news.length n)++l.drop (o+min news.length n))) (x:=.row e g' g' (l.length*esz) (cells.putL (o*esz) cs)) s1 (fun e=>by rw[hH]at e;cases e) fun mm =>
         .inr ⟨b,d,g',g',cells.putL (o*esz) cs,ds.take (o*esz)++cs++ds.drop (o*esz+cs.length),s1,by rw[TH.get_set _ _ _ _ (k.own _ _ s1).2.1,if_pos rfl,hll],r2,by omega,by
          rw[hll,<- hdl];exact zo9 (by rw[hdl];exact r4) (by rw[hdl];exact hlen),by
          rw[hcl,<- zCN9];exact hnew.mono fun _ _=>VR.mono mm⟩
        refine⟨.int .i64 (.ofNat (min news.length n)),_,c,?_,m1,k1,.pure (.int _ _),zl1 k s1 _⟩;simp only[zfB];rw[t2,show lenV (.sl b g' (o*esz) n q esz)=n from rfl,t4];dsimp only;rw[zxw hz,zby (rfl:esz=esz)];simp only[cond_false,cond_true,zdo];rw[r1];simp only[zl4];rw[zby rfl,zch hlen];rfl
      ·cases hp
     ·cases hp
    ·cases hp
 ·cases hp
theorem zkc (x:Int)(e:zcf)(l:List zcf):lk x (e::l)=match e.k with
  | .int _ n=>if n=x then some e.v else lk x l
  | _=>lk x l:=rfl
theorem zpi {x:Int}:∀{es:List zcf} {fs:List zcf},lk x es=none->lk x (es++fs)=lk x fs
  | [],fs,_=>rfl
  | e::l,fs,h=>by
    have ih:=zpi (x:=x) (es:=l) (fs:=fs);rw[zAI9,zkc];rw[zkc]at h
    revert h
    generalize e.k=kk
    cases kk<;>intro h<;>first
      | exact ih h
      | (dsimp only at h⊢
         split at h
         · cases h
         · rename_i hne
           rw[if_neg hne];exact ih h)
theorem zkw {x:Int}{u:TV}:∀{es:List zcf} {fs:List zcf},lk x es=some u->lk x (es++fs)=some u
  | [],fs,h=>by cases h
  | e::l,fs,h=>by
    have ih:=zkw (x:=x) (u:=u) (es:=l) (fs:=fs);rw[zAI9,zkc];rw[zkc]at h
    revert h
    generalize e.k=kk
    cases kk<;>intro h<;>first
      | exact ih h
      | (dsimp only at h⊢
         split at h
         · rename_i he
           rw[if_pos he];exact h
         · rename_i hne
           rw[if_neg hne];exact ih h)
theorem zrE {k:IntKind}{x:Int}:∀{es:List zcf} {i j:Nat} {e:zcf},(∀e∈es,∃n,e.k=.int k n)->zcE (.int k x) es i=some (some (j,e))->∃t,j=i+t/\(∀u,(∀e∈setE t (.int k x) u es,∃n,e.k=.int k n)/\lk x (setE t (.int k x) u es)=some u/\∀y,y≠x->lk y (setE t (.int k x) u es)=lk y es)
 | [],i,j,e,hk,h=>by simp[zcE]at h
 | e0::l,i,j,e,hk,h=>by
  obtain⟨n,hn⟩:=hk e0 (by simp);have hl:=fun e' he'=>hk e' (zAT9 _ he');unfold zcE at h;rw[hn]at h;simp only[zhw]at h;rw[zby rfl]at h;simp only[cond_true,zcD]at h
  by_cases hx:x=n
  ·subst hx;simp at h;refine⟨0,h.1.symm,fun u=>⟨fun e' he'=>?_,?_,fun y hy=>?_⟩⟩
   ·simp only[setE,zAX9]at he';rcases he' with rfl|he'
    ·exact⟨x,rfl⟩
    ·exact hl e' he'
   ·simp[setE,lk]
   ·simp only[setE,lk,hn,if_neg (Ne.symm hy)]
  ·have hb:(x==n)=false:=by simpa using hx
   rw[hb]at h;dsimp only at h;obtain⟨t,rfl,ht⟩:=zrE hl h;refine⟨t+1,by omega,fun u=>?_⟩;obtain⟨t1,t2,t3⟩:=ht u;refine⟨fun e' he'=>?_,?_,fun y hy=>?_⟩
   ·simp only[setE,zAX9]at he';rcases he' with rfl|he'
    ·exact⟨n,hn⟩
    ·exact t1 e' he'
   ·simp only[setE,lk,hn,if_neg (Ne.symm hx)];exact t2
   ·simp only[setE,lk,hn]
    split
    ·rfl
    ·exact t3 y hy
theorem zw4 (k:HR B c H h){kf:Nat}{a:AR}(hv:LR (VR c h) vs us)(hp:zaF H kf vs=some a):∃u h' c',ziT kf h us=some (.ok u h')/\zkV B c H h a u h' c':=by
 unfold zaF at hp
 split at hp
 ·rename_i id kk x w;obtain⟨y,cs',rfl,h1,h2⟩:=hv.of_cons;obtain⟨y',cs'',rfl,h3,h4⟩:=h2.of_cons;obtain⟨y2,cs3,rfl,h5,h6⟩:=h4.of_cons;obtain rfl:=h6.of_nil;obtain rfl:=h3.int_inv;obtain⟨b,d,z,s1,rfl⟩:=zh5 h1
  split at hp
  ·rename_i hkf;subst hkf;have main:∀(m:Int->Option PV) (es:List zcf) (clock:Nat),¬H[id]?=some .void->h.get b=some (.map es clock)->MR (VR c h) kk m es->∃u h' c',ziT 1 h [.map b,.int kk x,y2]=some (.ok u h')/\zkV B c H h ⟨.tuple [],H.set id (.mapI kk fun y=>if y=x then some w else m y),[id]⟩ u h' c':=fun m es clock hnv hg hm=>by
    simp only[ziT,zeM,zhg,cond_true];rw[hg];simp only[zsQ];rcases zjZ (x:=x) (i:=0) hm.keys with⟨f1,f2⟩|⟨j,e,f1,f2⟩
    ·rw[f1];dsimp only;obtain⟨m1,k1⟩:=k.set (o:=.mapI kk fun y=>if y=x then some w else m y) (x:=.map (es++[⟨.int kk x,y2,clock⟩]) (clock+1)) s1 hnv fun mm =>
      ⟨b,d,z,es++[⟨.int kk x,y2,clock⟩],clock+1,s1,by rw[TH.get_set _ _ _ _ (k.own _ _ s1).2.1,if_pos rfl],⟨fun e he=>by
       rcases zBF9.1 he with he|he
       ·exact hm.keys e he
       ·simp at he;subst he;exact⟨x,rfl⟩,fun x' v' hx'=>by
       try dsimp only at hx'
       split at hx'
       ·rename_i e;subst e;injection hx' with hx';subst hx';exact⟨y2,by rw[zpi f2];simp[lk],h5.mono mm⟩
       ·obtain⟨u,u1,u2⟩:=hm.some _ _ hx';exact⟨u,zkw u1,u2.mono mm⟩,fun x' hx'=>by
       try dsimp only at hx'
       split at hx'
       ·cases hx'
       ·rename_i hne;rw[zpi (hm.none _ hx')];simp only[lk,if_neg (Ne.symm hne)]⟩⟩
     exact⟨_,_,c,rfl,m1,k1,VR.tupL LR.nil,zl1 k s1 _⟩
    ·rw[f1];dsimp only;obtain⟨t,rfl,ht⟩:=zrE hm.keys f1;obtain⟨t1,t2,t3⟩:=ht y2;rw[zAN9];obtain⟨m1,k1⟩:=k.set (o:=.mapI kk fun y=>if y=x then some w else m y) (x:=.map (setE t (.int kk x) y2 es) clock) s1 hnv fun mm =>
      ⟨b,d,z,setE t (.int kk x) y2 es,clock,s1,by rw[TH.get_set _ _ _ _ (k.own _ _ s1).2.1,if_pos rfl],⟨t1,fun x' v' hx'=>by
       try dsimp only at hx'
       split at hx'
       ·rename_i e;subst e;injection hx' with hx';subst hx';exact⟨y2,t2,h5.mono mm⟩
       ·rename_i hne;obtain⟨u,u1,u2⟩:=hm.some _ _ hx';exact⟨u,by rw[t3 _ hne];exact u1,u2.mono mm⟩,fun x' hx'=>by
       try dsimp only at hx'
       split at hx'
       ·cases hx'
       ·rename_i hne;rw[t3 _ hne];exact hm.none _ hx'⟩⟩
     exact⟨_,_,c,rfl,m1,k1,VR.tupL LR.nil,zl1 k s1 _⟩
   split at hp
   ·rename_i hH;injection hp with hp;subst hp;obtain⟨b',d',z',clock,s2,s3⟩:=k.obj _ _ hH;rw[s1]at s2;injection s2 with s2;injection s2 with s2 _;subst s2;exact main (fun _=>none) [] clock (fun e=>by rw[hH]at e;cases e) s3 ⟨fun e he=>by simp at he,fun x v h=>(by cases h),fun x _=>rfl⟩
   ·rename_i k' m hH;obtain⟨b',d',z',es,clock,s2,s3,s4⟩:=k.obj _ _ hH;rw[s1]at s2;injection s2 with s2;injection s2 with s2 _;subst s2
    split at hp
    ·rename_i hk;subst hk;injection hp with hp;subst hp;exact main m es clock (fun e=>by rw[hH]at e;cases e) s3 s4
    ·cases hp
   ·cases hp
  ·cases hp
 ·cases hp
theorem zlj (k:HR B c H h){C:zbt}{caught:Tr Unit}{kind:zT}{a:AR}(hv:LR (VR c h) vs us)(hp:za9 H kind vs=some a):∃u h' c',act C caught kind us h=some (.ok u h')/\zkV B c H h a u h' c':=by
 unfold za9 at hp
 split at hp
 ·exact zpf k hv hp
 ·exact zut k hv hp
 ·exact zxd k hv hp
 ·exact zw4 k hv hp
 ·cases hp
end Fv
end Go.Proofs.YtfomlmhnmheenaaGreat
namespace Go.Proofs.YtfomlmhnmheenaaGreat
namespace Fv
open Tw
def EN (E:Env)(N:Nat):Env:={ E with N:=N }
def Ev (E:Env)(φ:zbt->Nat->Prop):Prop:=∃K,∀N,K<=N->∀d,K<=d->φ (zcK (EN E N) d) N
section ev
variable {E:Env}{φ ψ χ:zbt->Nat->Prop}
theorem Ev.all (h:∀C N,φ C N):Ev E φ:=⟨0,fun _ _ _ _=>h _ _⟩
theorem Ev.mono (hh:∀C N,φ C N->ψ C N)(h:Ev E φ):Ev E ψ:=by
 obtain⟨K,hK⟩:=h;exact⟨K,fun N hN d hd=>hh _ _ (hK N hN d hd)⟩
theorem Ev.and2 (hh:∀C N,φ C N->ψ C N->χ C N)(h:Ev E φ)(k:Ev E ψ):Ev E χ:=by
 obtain⟨K,hK⟩:=h;obtain⟨L,hL⟩:=k;exact⟨max K L,fun N hN d hd=>hh _ _ (hK N (by omega) d (by omega)) (hL N (by omega) d (by omega))⟩
end ev
inductive FD where
 | caught (p clear:PV)
 | mark (id:Nat)
structure FSt where
 tm:Nat->PV
 df:List FD
 H:List zn
def upd (tm:Nat->PV)(d:Nat)(v:PV):Nat->PV:=fun t=>if t=d then v else tm t
def FSt.put (s:FSt)(d:Option Nat)(v:PV):FSt:=match d with
 | none=>s
 | some d=>⟨upd s.tm d v,s.df,s.H⟩
def DR (c:Cx)(h:TH):FD->TD->Prop
 | .caught p l,.caught p' l'=>VR c h p p'/\VR c h l l'
 | .mark id,.mark b=>∃d z,c.ρ id=some (b,d,z)
 | _,_=>False
def dfR (c:Cx)(h:TH):List FD->List TD->Prop
 | [],[]=>True
 | x::l,y::m=>DR c h x y/\dfR c h l m
 | _,_=>False
structure SR (B:Ba)(c:Cx)(s:FSt)(t:St):Prop where
 hr:HR B c s.H t.h
 tm:tmR c t.h s.tm t.tm
 df:dfR c t.h s.df t.df
section mono
variable {c c':Cx}{h h':TH}
theorem tmR.mono (m:Mo c c' h h'){tm:Nat->PV}{t:Tr TV}(k:tmR c h tm t):tmR c' h' tm t:=fun i=>by
 rcases k i with k|⟨u,u1,u2⟩
 ·exact .inl k
 ·exact .inr ⟨u,u1,u2.mono m⟩
theorem DR.mono (m:Mo c c' h h'){x:FD}{y:TD}(k:DR c h x y):DR c' h' x y:=by
 cases x<;>cases y<;>first|exact k.elim|skip
 ·exact⟨k.1.mono m,k.2.mono m⟩
 ·obtain⟨d,z,k⟩:=k;exact⟨d,z,m.ρ _ _ k⟩
theorem dfR.mono (m:Mo c c' h h'):∀{l:List FD} {l':List TD},dfR c h l l'->dfR c' h' l l'
 | [],[],_=>trivial
 | _::_,_::_,k=>⟨k.1.mono m,k.2.mono m⟩
 | [],_::_,k=>k.elim
 | _::_,[],k=>k.elim
theorem tmR.put {tm:Nat->PV}{t:Tr TV}(k:tmR c h tm t){d:Nat}{v:PV}{u:TV}(hv:VR c h v u):tmR c h (upd tm d v) (t.set d (some u)):=fun i=>by
 unfold upd;rw[Tr.get_set]
 by_cases e:i=d
 ·rw[if_pos e,if_pos e];exact .inr ⟨u,rfl,hv⟩
 ·rw[if_neg e,if_neg e];exact k i
theorem XR.mono (m:Mo c c' h h'){x:FX}{y:TX}(k:XR c h x y):XR c' h' x y:=by
 cases k with
 | norm=>exact .norm
 | exit id=>exact .exit id
 | goto l=>exact .goto l
 | ret=>exact .ret
 | panic k=>exact .panic (k.mono m)
end mono
theorem SR.put {B:Ba}{c c':Cx}{s:FSt}{t:St}(k:SR B c s t){H':List zn}{h':TH}(m:Mo c c' t.h h')(hr:HR B c' H' h'){v:PV}{u:TV}(hv:VR c' h' v u)(d:Option Nat) :
  SR B c' (FSt.put ⟨s.tm,s.df,H'⟩ d v) (St.put ⟨t.tm,t.df,h'⟩ d u):=by
 cases d with
 | none=>exact⟨hr,k.tm.mono m,k.df.mono m⟩
 | some d=>exact⟨hr,(k.tm.mono m).put hv,k.df.mono m⟩
theorem put_h (t:St)(d:Option Nat)(u:TV):(t.put d u).h=t.h:=by cases d<;>rfl
def okv:PV->Option PV
 | .bad=>none
 | v=>some v
def ev (tm:Nat->PV):TOp->Option PV
 | .tmp t=>okv (tm t)
 | .new _=>none
 | .const u=>ofC 4 u
 | .fn f=>some (.fn f [])
def evs (tm:Nat->PV):List TOp->Option (List PV)
 | []=>some []
 | x::l=>match ev tm x with
  | none=>none
  | some v=>match evs tm l with
   | none=>none
   | some vs=>some (v::vs)
def zap (b:Bool):Option PV->Option Bool
 | some (.bool c)=>some (if b then c else !c)
 | some (.tuple _)=>some false
 | _=>none
def zab (tm:Nat->PV):Option (TOp×Bool)->Option Bool
 | none=>some true
 | some (x,b)=>zap b (ev tm x)
theorem zkU {v w:PV}(h:okv v=some w):v=w/\v ≠ .bad:=by
 cases v<;>first|(cases h;done)|(injection h with h;subst h;exact⟨rfl,fun e=>by cases e⟩)
section operands
variable {c:Cx}{h:TH}{tm:Nat->PV}{t:Tr TV}
theorem zio (k:tmR c h tm t){x:TOp}{v:PV}(hx:ev tm x=some v):∃u,zeE t x=some u/\VR c h v u:=by
 cases x with
 | tmp i =>
  obtain⟨h1,h2⟩:=zkU hx;rcases k i with h3|⟨u,u1,u2⟩
  ·exact absurd h3 h2
  ·exact⟨u,u1,by rw[<- h1];exact u2⟩
 | new i=>cases hx
 | const u=>exact⟨u,rfl,zgT hx⟩
 | fn f=>injection hx with hx;subst hx;exact⟨_,rfl,VR.fnL LR.nil⟩
theorem zjP (k:tmR c h tm t):∀{l:List TOp} {vs:List PV},evs tm l=some vs->∃us,zdw t l=some us/\LR (VR c h) vs us
 | [],vs,hv=>by injection hv with hv;subst hv;exact⟨[],rfl,LR.nil⟩
 | x::l,vs,hv=>by
  unfold evs at hv
  split at hv
  ·cases hv
  ·rename_i v hx
   split at hv
   ·cases hv
   ·rename_i ws hw;injection hv with hv;subst hv;obtain⟨u,u1,u2⟩:=zio k hx;obtain⟨us,w1,w2⟩:=zjP k hw;refine⟨u::us,?_,LR.cons u2 w2⟩;unfold zdw;rw[u1,w1]
theorem zeA (k:tmR c h tm t){g:Option (TOp×Bool)}{b:Bool}(hg:zab tm g=some b):zkS t g=some b:=by
 cases g with
 | none=>exact hg
 | some x =>
  obtain⟨x,b'⟩:=x;change zap b' (ev tm x)=some b at hg;unfold zap at hg
  split at hg
  ·rename_i cc hx;obtain⟨u,u1,u2⟩:=zio k hx;obtain rfl:=u2.bool_inv;show zgc b' (zeE t x)=some b;unfold zgc;rw[u1];injection hg with hg;subst hg
   cases b'<;>rfl
  ·rename_i hx;obtain⟨u,u1,u2⟩:=zio k hx;obtain⟨cs,rfl,_⟩:=u2.tuple_inv;show zgc b' (zeE t x)=some b;rw[u1];exact hg
  ·cases hg
end operands
def zbj (o:zY)(s:FSt)(vs:List PV):Option FSt :=
 match o.kind.cls with
 | 0=>(match za5 s.H o.kind vs with
  | some v=>some (s.put o.dst v)
  | none=>none)
 | 1=>(match za7 s.H.length o.kind vs with
  | some (ob,v)=>some (FSt.put ⟨s.tm,s.df,s.H++[ob]⟩ o.dst v)
  | none=>none)
 | _=>(match za9 s.H o.kind vs with
  | some a=>some (FSt.put ⟨s.tm,s.df,a.H⟩ o.dst a.v)
  | none=>none)
def zaz (o:zY)(s:FSt):Option FSt :=
 match zab s.tm o.guard with
 | none=>none
 | some false=>some (s.put o.dst (.tuple []))
 | some true=>match evs s.tm o.args with
  | none=>none
  | some vs=>zbj o s vs
theorem zxC {B:Ba}{c:Cx}{s s':FSt}{t:St}(k:SR B c s t){o:zY}(hs:zaz o s=some s')(C:zbt)(caught:Tr Unit):∃c' t',(∀C,zfk C caught o t=some (.go t'))/\Mo c c' t.h t'.h/\SR B c' s' t':=by
 unfold zaz at hs
 split at hs
 ·cases hs
 ·rename_i hw;injection hs with hs;subst hs;have hw':=zeA k.tm hw;refine⟨c,t.put o.dst (.tuple []),fun C=>?_,by rw[put_h];exact Mo.refl _ _,k.put (Mo.refl _ _) k.hr (VR.tupL LR.nil) _⟩;unfold zfk;rw[hw']
 ·rename_i hw;have hw':=zeA k.tm hw
  split at hs
  ·cases hs
  ·rename_i vs hvs;obtain⟨us,u1,u2⟩:=zjP k.tm hvs;have e1:∀C,zfk C caught o t=zit C caught o t us:=fun C=>by unfold zfk;rw[hw',u1]
   unfold zbj at hs
   split at hs
   ·rename_i hcls
    split at hs
    ·rename_i v hp;injection hs with hs;subst hs;obtain⟨u,p1,p2⟩:=zmd k.hr u2 hp;refine⟨c,t.put o.dst u,fun C=>?_,by rw[put_h];exact Mo.refl _ _,k.put (Mo.refl _ _) k.hr p2 _⟩;rw[e1];unfold zit;rw[hcls];(try dsimp only);rw[p1];rfl
    ·cases hs
   ·rename_i hcls
    split at hs
    ·rename_i ob v hp;injection hs with hs;subst hs;obtain⟨x,c',p1,p2,p3,p4,_⟩:=zlO k.hr u2 hp;refine⟨c',(⟨t.tm,t.df,t.h.push x.o⟩:St).put o.dst x.v,fun C=>?_,by rw[put_h];exact p2,k.put p2 p3 p4 _⟩;rw[e1];unfold zit;rw[hcls];(try dsimp only);rw[p1];rfl
    ·cases hs
   ·rename_i _ n0 n1
    split at hs
    ·rename_i a hp;injection hs with hs;subst hs;have hact:∀C,∃u h' c',act C caught o.kind us t.h=some (.ok u h')/\zkV B c s.H t.h a u h' c':=fun C=>zlj k.hr u2 hp;have hsame:∀C C',act C caught o.kind us t.h=act C' caught o.kind us t.h:=fun C C'=>by
      unfold za9 at hp
      split at hp
      ·rename_i e;rw[e];rfl
      ·rename_i e;rw[e];rfl
      ·rename_i e;rw[e];rfl
      ·rename_i e;rw[e];rfl
      ·cases hp
     obtain⟨u,h',c',p1,p2⟩:=hact C;refine⟨c',(⟨t.tm,t.df,h'⟩:St).put o.dst u,fun C'=>?_,by rw[put_h];exact p2.mo,k.put p2.mo p2.hr p2.v _⟩;rw[e1];unfold zit
     split
     ·rename_i h0;exact absurd h0 n0
     ·rename_i h0;exact absurd h0 n1
     ·rw[hsame C' C,p1];rfl
    ·cases hs
inductive FE where
 | ret (v:PV)
 | panic (v:PV)
def RE (R:PV->TV->Prop):FE->TE->Prop
 | .ret v,.ret u=>R v u
 | .panic v,.panic u=>R v u
 | _,_=>False
def S0 (S:zdT)(a b:Nat):zdT:=fun p x=>p=0/\(S 0 x\/(a<=x/\x<b))
def S1 (S:zdT)(a b:Nat):zdT:=fun p x=>S p x\/(p=0/\a<=x/\x<b)
def FN (E:Env)(f:Nat)(args:List PV)(e:FE):Prop :=
 ∀S h us,(∀p b,S p b->b<h.next)->LR (PR S h) args us->∃r h',Ev E (fun C _=>C.fn f us h=some (r,h'))/\h.next<=h'.next/\(∀b,b<h.next->h'.get b=h.get b)/\RE (PR (S0 S h.next h'.next) h') e r
def FP (E:Env)(f:Nat)(args:List PV)(e:FE):Prop :=
 ∀S h us,(∀p b,S p b->b<h.next)->LR (PR S h) args us->∃r h',Ev E (fun C _=>C.fn f us h=some (r,h'))/\h.next<=h'.next/\(∀b,b<h.next->h'.get b=h.get b)/\RE (PR (S1 S h.next h'.next) h') e r
def FO (E:Env)(f:Nat)(args:List PV)(H:List zn)(same:Bool)(Q:FE->List zn->Prop):Prop :=
 ∀B c h us,HR B c H h->LR (VR c h) args us->∃r h' e H' c',Ev E (fun C _=>C.fn f us h=some (r,h'))/\Q e H'/\Mo c c' h h'/\HR B c' H' h'/\RE (VR c' h') e r/\(same=true->∀id x,c.ρ id=some x->h'.get x.1=h.get x.1)
theorem zrB {h h':TH}(hk:∀b,b<h.next->h'.get b=h.get b){b g o n:Nat}{cs:List TV}(hr:zbs h b g o n=some cs):zbs h' b g o n=some cs:=by
 obtain⟨y,h1,h2⟩:=zf8 hr;exact zfr (by rw[hk _ (TH.get_lt h1)];exact h1) h2
theorem zu5 {H:List zn}{id g i:Nat}{w:PV}(h:zaC H id g i=some w):∃e z G M l,H[id]?=some (.row e z G M l):=by
 unfold zaC at h
 split at h
 ·rename_i e z G M l h1;exact⟨e,z,G,M,l,h1⟩
 ·cases h
inductive Frz (H:List zn)(lab:Nat):PV->PV->Prop
 | bool (b:Bool):Frz H lab (.bool b) (.bool b)
 | int (k:IntKind) (n:Int):Frz H lab (.int k n) (.int k n)
 | str (s:List Nat):Frz H lab (.str s) (.str s)
 | nilptr:Frz H lab .nilptr .nilptr
 | nilsl:Frz H lab .nilsl .nilsl
 | nilmap:Frz H lab .nilmap .nilmap
 | nilfn:Frz H lab .nilfn .nilfn
 | niliface:Frz H lab .niliface .niliface
 | nil (p z:Nat):Frz H lab .nilsl (.list p z [])
 | list (p z:Nat) (l:List PV):Frz H lab (.list p z l) (.list p z l)
 | elem (vs:List PV):Frz H lab (.elem vs) (.elem vs)
 | iface {t:Nat} {v w:PV}:Frz H lab v w->Frz H lab (.iface t v) (.iface t w)
 | fn {f:Nat} {vs ws:List PV}:vs.length=ws.length->(∀(i:Nat) (x y:PV),vs[i]?=some x->ws[i]?=some y->Frz H lab x y)->Frz H lab (.fn f vs) (.fn f ws)
 | agg {vs ws:List PV}:vs.length=ws.length->(∀(i:Nat) (x y:PV),vs[i]?=some x->ws[i]?=some y->Frz H lab x y)->Frz H lab (.agg vs) (.agg ws)
 | tuple {vs ws:List PV}:vs.length=ws.length->(∀(i:Nat) (x y:PV),vs[i]?=some x->ws[i]?=some y->Frz H lab x y)->Frz H lab (.tuple vs) (.tuple ws)
 | sl {id g o n q z e z' G M:Nat} {l m:List PV}:H[id]?=some (.row e z' G M l)->M<=g->g<=G->o+n<=l.length->2*n<=q->m.length=n->(∀v∈m,v.cells.length=z)->(((l.drop o).take n).flatMap PV.cells).length=(m.flatMap PV.cells).length ->
   (∀(i:Nat) (x y:PV),(((l.drop o).take n).flatMap PV.cells)[i]?=some x->(m.flatMap PV.cells)[i]?=some y->Frz H lab x y)->Frz H lab (.sl id g o n q z) (.list lab z m)
 | ptr {id g i o n:Nat} {w:PV} {cs:List PV}:zaC H id g i=some w->o+n<=w.cells.length->n=cs.length->(∀(j:Nat) (x y:PV),((w.cells.drop o).take n)[j]?=some x->cs[j]?=some y->Frz H lab x y)->Frz H lab (.ptr id g i o n) (.elem cs)
theorem Frz.ok' {B:Ba}{c:Cx}{H:List zn}{h:TH}(k:HR B c H h){lab:Nat}{S:zdT}(hS:∀p b,c.S p b->S p b)(hown:∀id x e z G M l,H[id]?=some (.row e z G M l)->c.ρ id=some x->S lab x.1){v w:PV}(f:Frz H lab v w):∀{u:TV},VR c h v u->PR S h w u:=by
 have hmono:∀{v:PV} {u:TV},PR c.S h v u->PR S h v u:=fun hv=>hv.mono hS fun _ _ _ _ _ _ _ hr=>hr
 induction f with
 | bool b=>intro u hv;obtain rfl:=hv.bool_inv;exact .bool b
 | int kk n=>intro u hv;obtain rfl:=hv.int_inv;exact .int kk n
 | str s=>intro u hv;obtain rfl:=hv.str_inv;exact .str s
 | nilptr=>intro u hv;cases hv with|pure hv=>exact hmono hv
 | nilsl=>intro u hv;cases hv with|pure hv=>exact hmono hv
 | nilmap=>intro u hv;cases hv with|pure hv=>exact hmono hv
 | nilfn=>intro u hv;cases hv with|pure hv=>exact hmono hv
 | niliface=>intro u hv;cases hv with|pure hv=>exact hmono hv
 | nil p z=>intro u hv;cases hv with|pure hv=>cases hv;exact .listnil p z
 | list p z l=>intro u hv;cases hv with|pure hv=>exact hmono hv
 | elem vs=>intro u hv;cases hv with|pure hv=>exact hmono hv
 | iface _ ih=>intro u hv;obtain⟨u',rfl,h1⟩:=hv.iface_inv;exact .iface (ih h1)
 | fn hl _ ih =>
  intro u hv;obtain⟨cs,rfl,h1⟩:=hv.fn_inv;exact .fn (by rw[<- hl];exact h1.1) fun i x y hx hy=>by
   obtain⟨x',hx'⟩:∃x',(_:List PV)[i]?=some x':=⟨_,zAB9 (by rw[hl];exact(zAD9.1 hx).1)⟩
   exact ih i _ _ hx' hx (h1.2 i _ _ hx' hy)
 | agg hl _ ih =>
  intro u hv;obtain⟨cs,rfl,h1⟩:=hv.agg_inv;exact .agg (by rw[<- hl];exact h1.1) fun i x y hx hy=>by
   obtain⟨x',hx'⟩:∃x',(_:List PV)[i]?=some x':=⟨_,zAB9 (by rw[hl];exact(zAD9.1 hx).1)⟩
   exact ih i _ _ hx' hx (h1.2 i _ _ hx' hy)
 | tuple hl _ ih =>
  intro u hv;obtain⟨cs,rfl,h1⟩:=hv.tuple_inv;exact .tuple (by rw[<- hl];exact h1.1) fun i x y hx hy=>by
   obtain⟨x',hx'⟩:∃x',(_:List PV)[i]?=some x':=⟨_,zAB9 (by rw[hl];exact(zAD9.1 hx).1)⟩
   exact ih i _ _ hx' hx (h1.2 i _ _ hx' hy)
 | @sl id g o n q z e z' G M l m hH hM hG hn hq hm hz hlen _ ih =>
  intro u hv;rcases sl_inv hv with⟨rfl,rfl,rfl,rfl,rfl,hL⟩|⟨b,d,g',s1,rfl,rfl⟩
  ·obtain rfl:=zDX9.1 hm;exact .listnil _ _
  ·obtain⟨rfl,G',M',cells,cs,r1,r2,r3,r4,r5⟩:=zfR k hH s1;have h9:o*z+n*z<=l.length*z:=by rw[<- zCN9];exact zBU9 _ hn
   have h8:=zg7 r4 h9;rw[zAN9]at h8;have h7:=(r5.drop o).take n;subst hm;refine .list (hown _ _ _ _ _ _ _ hH s1) (zhQ r1 (by omega) (by omega) h8) hq hz (by rw[<- hlen];exact h7.all.1) fun i x y hx hy=>?_;obtain⟨x',hx'⟩:∃x',(((l.drop o).take m.length).flatMap PV.cells)[i]?=some x':=⟨_,zAB9 (by rw[hlen];exact(zAD9.1 hx).1)⟩
   exact ih i _ _ hx' hx (h7.all.2 i _ _ hx' hy)
 | @ptr id g i o n w cs hw hn hcs _ ih =>
  intro u hv;obtain⟨b,d,z,g',s1,rfl,rfl⟩:=zed hv;obtain⟨s2,s3⟩:=zqv k hw s1;obtain⟨ds,s4,s5⟩:=s3 o n (by rw[<- s2];exact hn);have hll:((w.cells.drop o).take n).length=n:=by simp;omega
  subst hcs;obtain⟨e0,z0,G0,M0,l0,hH⟩:=zu5 hw;refine .elem (hown _ _ _ _ _ _ _ hH s1) s4 (by rw[<- s5.1,hll]) fun j x y hx hy=>?_;obtain⟨x',hx'⟩:∃x',((w.cells.drop o).take cs.length)[j]?=some x':=⟨_,zAB9 (by rw[hll];exact(zAD9.1 hx).1)⟩
  exact ih j _ _ hx' hx (s5.2 j _ _ hx' hy)
theorem Frz.ok {B:Ba}{c:Cx}{H:List zn}{h:TH}(k:HR B c H h){lab:Nat}{S:zdT}(hS:∀p b,c.S p b->S p b)(hown:∀id x,c.ρ id=some x->S lab x.1){v w:PV}(f:Frz H lab v w):∀{u:TV},VR c h v u->PR S h w u:=f.ok' k hS fun id x _ _ _ _ _ _ h=>hown id x h
def LF (H:List zn)(lab:Nat):List PV->List PV->Prop
 | [],[]=>True
 | x::l,y::m=>Frz H lab x y/\LF H lab l m
 | _,_=>False
theorem LF.ok {B:Ba}{c:Cx}{H:List zn}{h:TH}(k:HR B c H h){lab:Nat}{S:zdT}(hS:∀p b,c.S p b->S p b)(hown:∀id x,c.ρ id=some x->S lab x.1):∀{l m:List PV} {us:List TV},LF H lab l m->LR (VR c h) l us->LR (PR S h) m us
 | [],[],us,_,hl=>by obtain rfl:=hl.of_nil;exact LR.nil
 | x::l,y::m,us,f,hl=>by
  obtain⟨u,us',rfl,h1,h2⟩:=hl.of_cons;exact LR.cons (f.1.ok k hS hown h1) (LF.ok k hS hown f.2 h2)
 | [],_::_,us,f,_=>f.elim
 | _::_,[],us,f,_=>f.elim
theorem LF.len {H:List zn}{lab:Nat}:∀{l m:List PV},LF H lab l m->l.length=m.length
 | [],[],_=>rfl
 | x::l,y::m,f=>by rw[zAE9,zAE9,LF.len f.2]
 | [],_::_,f=>f.elim
 | _::_,[],f=>f.elim
theorem LF.at {H:List zn}{lab:Nat}:∀{l m:List PV},LF H lab l m->∀(i:Nat) (x y:PV),l[i]?=some x->m[i]?=some y->Frz H lab x y
 | [],[],_,i,x,y,hx,_=>by simp at hx
 | x::l,y::m,f,0,a,b,hx,hy=>by simp at hx hy;subst hx;subst hy;exact f.1
 | x::l,y::m,f,i+1,a,b,hx,hy=>LF.at f.2 i a b (by simpa using hx) (by simpa using hy)
 | [],_::_,f,_,_,_,_,_=>f.elim
 | _::_,[],f,_,_,_,_,_=>f.elim
theorem Frz.aggL {H:List zn}{lab:Nat}{vs ws:List PV}(f:LF H lab vs ws):Frz H lab (.agg vs) (.agg ws):=.agg f.len f.at
theorem Frz.tupL {H:List zn}{lab:Nat}{vs ws:List PV}(f:LF H lab vs ws):Frz H lab (.tuple vs) (.tuple ws):=.tuple f.len f.at
theorem Frz.fnL {H:List zn}{lab:Nat}{f:Nat}{vs ws:List PV}(k:LF H lab vs ws):Frz H lab (.fn f vs) (.fn f ws):=.fn k.len k.at
inductive Lb:PV->Prop
 | bool (b:Bool):Lb (.bool b)
 | int (k:IntKind) (n:Int):Lb (.int k n)
 | str (s:List Nat):Lb (.str s)
 | nilptr:Lb .nilptr
 | nilsl:Lb .nilsl
 | nilmap:Lb .nilmap
 | nilfn:Lb .nilfn
 | niliface:Lb .niliface
 | list {z:Nat} {l:List PV}:(∀x∈l.flatMap PV.cells,Lb x)->Lb (.list 0 z l)
 | iface {t:Nat} {v:PV}:Lb v->Lb (.iface t v)
 | fn {f:Nat} {l:List PV}:(∀x∈l,Lb x)->Lb (.fn f l)
 | agg {l:List PV}:(∀x∈l,Lb x)->Lb (.agg l)
 | tuple {l:List PV}:(∀x∈l,Lb x)->Lb (.tuple l)
theorem Lb.ok {S S':zdT}{h:TH}(hS:∀b,S 0 b->S' 0 b){v:PV}{u:TV}(k:PR S h v u):Lb v->PR S' h v u:=by
 induction k with
 | bool b=>intro _;exact .bool b
 | int k n=>intro _;exact .int k n
 | str s=>intro _;exact .str s
 | nilptr=>intro _;exact .nilptr
 | nilsl=>intro _;exact .nilsl
 | nilmap=>intro _;exact .nilmap
 | nilfn=>intro _;exact .nilfn
 | niliface=>intro _;exact .niliface
 | iface _ ih=>intro hl;cases hl with|iface hl=>exact .iface (ih hl)
 | listnil p z=>intro _;exact .listnil p z
 | list h1 h2 h3 h4 h5 _ ih=>intro hl;cases hl with|list hl=>exact .list (hS _ h1) h2 h3 h4 h5 fun i x y hx hy=>ih i x y hx hy (hl x (zAK9 hx))
 | elem h1 h2 h3 _ ih=>intro hl;cases hl
 | fn h1 _ ih=>intro hl;cases hl with|fn hl=>exact .fn h1 fun i x y hx hy=>ih i x y hx hy (hl x (zAK9 hx))
 | agg h1 _ ih=>intro hl;cases hl with|agg hl=>exact .agg h1 fun i x y hx hy=>ih i x y hx hy (hl x (zAK9 hx))
 | tuple h1 _ ih=>intro hl;cases hl with|tuple hl=>exact .tuple h1 fun i x y hx hy=>ih i x y hx hy (hl x (zAK9 hx))
end Fv
end Go.Proofs.YtfomlmhnmheenaaGreat
namespace Go.Proofs.YtfomlmhnmheenaaGreat
namespace Fv
open Tw
variable {E:Env}{caught:Tr Unit}
def WO (E:Env)(caught:Tr Unit)(ops:List zY)(s:FSt)(Q:FX->FSt->Prop):Prop :=
 ∀B c t,SR B c s t->∃r x s' c' t',Ev E (fun C _=>zbx C caught ops t=some r)/\Q x s'/\Mo c c' t.h t'.h/\SR B c' s' t'/\((x=.norm/\r=.go t')\/∃v u,x=.panic v/\r=.panic u t'/\VR c' t'.h v u)
theorem zgi {s:FSt}{Q:FX->FSt->Prop}(h:Q .norm s):WO E caught [] s Q:=fun B c t hs=>⟨.go t,.norm,s,c,t,Ev.all fun _ _=>rfl,h,Mo.refl _ _,hs,.inl ⟨rfl,rfl⟩⟩
theorem zw0 {o:zY}{ops:List zY}{s s':FSt}{Q:FX->FSt->Prop}(h:zaz o s=some s')(k:WO E caught ops s' Q):WO E caught (o::ops) s Q:=fun B c t hs=>by
 obtain⟨c1,t1,h1,m1,k1⟩:=zxC hs h ⟨fun _ _ _=>none,fun _ _ _=>none⟩ caught;obtain⟨r,x,s2,c2,t2,e2,q2,m2,k2,h2⟩:=k B c1 t1 k1;exact⟨r,x,s2,c2,t2,e2.mono fun C N e=>by unfold zbx;rw[h1];exact e,q2,m1.trans m2,k2,h2⟩
def zvR (E:Env)(caught:Tr Unit)(ops:List zY)(s:FSt)(d:Option Nat)(Q:FX->FSt->Prop):FE->List zn->Prop
 | .ret v,H'=>WO E caught ops (FSt.put ⟨s.tm,s.df,H'⟩ d v) Q
 | .panic v,H'=>Q (.panic v) ⟨s.tm,s.df,H'⟩
theorem zhf {d:Option Nat}{args:List TOp}{g:Option (TOp×Bool)}{ops:List zY}{s:FSt}{Q:FX->FSt->Prop}{f:Nat}{caps vs:List PV}{b:Bool}
  (hg:zab s.tm g=some true) (ha:evs s.tm args=some (.fn f caps::vs)) (k:FO E f (vs++caps) s.H b (zvR E caught ops s d Q)):WO E caught (⟨d,.call,args,g⟩::ops) s Q:=fun B c t hs=>by
 have hw:=zeA hs.tm hg;obtain⟨us,u1,u2⟩:=zjP hs.tm ha;obtain⟨u,us',rfl,u3,u4⟩:=u2.of_cons;obtain⟨cs,rfl,u5⟩:=u3.fn_inv;obtain⟨r,h',e,H',c',e1,q1,m1,k1,re,_⟩:=k B c t.h _ hs.hr (u4.app u5);have hstep:∀C,C.fn f (us'++cs) t.h=some (r,h')->zfk C caught ⟨d,.call,args,g⟩ t=zmU d t (ziD (some (r,h'))):=fun C hC=>by
  unfold zfk;rw[hw,u1];simp only[zit,zT.cls,act,zlk];rw[hC]
 cases e with
 | ret v =>
  cases r with
  | panic u=>exact re.elim
  | ret u =>
   have re:VR c' h' v u:=re;obtain⟨r2,x,s2,c2,t2,e2,q2,m2,k2,h2⟩:=q1 B c' ((⟨t.tm,t.df,h'⟩:St).put d u) (hs.put m1 k1 re d);rw[put_h]at m2;exact⟨r2,x,s2,c2,t2,Ev.and2 (fun C N a b=>by unfold zbx;rw[hstep C a];exact b) e1 e2,q2,m1.trans m2,k2,h2⟩
 | panic v =>
  cases r with
  | ret u=>exact re.elim
  | panic u =>
   have re:VR c' h' v u:=re;exact⟨.panic u ⟨t.tm,t.df,h'⟩,.panic v,_,c',⟨t.tm,t.df,h'⟩,e1.mono fun C N a=>by unfold zbx;rw[hstep C a];rfl,q1,m1,⟨k1,hs.tm.mono m1,hs.df.mono m1⟩,.inr ⟨v,u,rfl,rfl,re⟩⟩
theorem RE.mono {R R':PV->TV->Prop}(hR:∀v u,R v u->R' v u){e:FE}{r:TE}(h:RE R e r):RE R' e r:=by
 cases e<;>cases r<;>first|exact hR _ _ h|exact h.elim
def Cx.lay (c:Cx)(a b:Nat):Cx:=⟨S1 c.S a b,c.ρ,c.L⟩
theorem HR.grown {B:Ba}{c:Cx}{H:List zn}{h h':TH}(k:HR B c H h)(hn:h.next<=h'.next)(hk:∀b,b<h.next->h'.get b=h.get b):Mo c (c.lay h.next h'.next) h h'/\HR B (c.lay h.next h'.next) H h':=by
 have m:Mo c (c.lay h.next h'.next) h h':=⟨fun p b hb=>.inl hb,fun _ _ h=>h,fun _ h=>h,fun _ _ _ _ _ _ _ hr=>zrB hk hr⟩
 refine⟨m,⟨zBN9 k.le hn,fun b hb=>by rw[hk b (zBE9 hb k.le)];exact k.keep b hb,fun p b hb=>?_,fun p b hb=>?_,fun id x hx=>?_,k.lz,k.inj,fun id o ho=>(k.obj id o ho).move m rfl (fun h=>h) fun y hy=>hk _ (k.own _ _ hy).2.1⟩⟩
 ·rcases hb with hb|⟨h1,h2,_⟩
  ·exact k.old p b hb
  ·exact .inr ⟨h1,zBN9 k.le h2⟩
 ·rcases hb with hb|⟨h1,h2,h3⟩
  ·obtain⟨a1,a2⟩:=k.S p b hb;exact⟨zBE9 a1 hn,a2⟩
  ·exact⟨h3,fun id x hx e=>by have:=(k.own _ _ hx).2.1;omega⟩
 ·obtain⟨a1,a2,a3⟩:=k.own id x hx;exact⟨a1,zBE9 a2 hn,a3⟩
def zs4 (c:Cx):zdT:=fun p b=>c.S p b\/(p=1/\∃id x,c.ρ id=some x/\x.1=b)
theorem FN.FO {f:Nat}{args aS:List PV}{e:FE}{H:List zn}(k:FN E f aS e)(hl:LF H 1 args aS):FO E f args H true (fun e' H'=>e'=e/\H'=H):=fun B c h us hr ha=>by
 have h1:=LF.ok hr (S:=zs4 c) (fun p b hb=>.inl hb) (fun id x hx=>.inr ⟨rfl,id,x,hx,rfl⟩) hl ha;obtain⟨r,h',e1,hn,hk,re⟩:=k (zs4 c) h us (fun p b hb=>by
  rcases hb with hb|⟨_,id,x,hx,rfl⟩
  ·exact(hr.S p b hb).1
  ·exact(hr.own _ _ hx).2.1) h1
 obtain⟨m,hr'⟩:=hr.grown hn hk;refine⟨r,h',e,H,c.lay h.next h'.next,e1,⟨rfl,rfl⟩,m,hr',re.mono fun v u hv=>.pure (hv.mono (fun p b hb=>?_) fun _ _ _ _ _ _ _ hr=>hr),fun _ id x hx=>hk _ (hr.own _ _ hx).2.1⟩;obtain⟨rfl,hb|hb⟩:=hb
 ·rcases hb with hb|⟨h0,_⟩
  ·exact .inl hb
  ·cases h0
 ·exact .inr ⟨rfl,hb⟩
inductive Id0:PV->Prop
 | bool (b:Bool):Id0 (.bool b)
 | int (k:IntKind) (n:Int):Id0 (.int k n)
 | str (s:List Nat):Id0 (.str s)
 | nilptr:Id0 .nilptr
 | nilsl:Id0 .nilsl
 | nilmap:Id0 .nilmap
 | nilfn:Id0 .nilfn
 | niliface:Id0 .niliface
 | list (p z:Nat) (l:List PV):Id0 (.list p z l)
 | elem (l:List PV):Id0 (.elem l)
 | iface {t:Nat} {v:PV}:Id0 v->Id0 (.iface t v)
 | fn {f:Nat} {l:List PV}:(∀x∈l,Id0 x)->Id0 (.fn f l)
 | agg {l:List PV}:(∀x∈l,Id0 x)->Id0 (.agg l)
 | tuple {l:List PV}:(∀x∈l,Id0 x)->Id0 (.tuple l)
theorem Id0.ok {c:Cx}{h:TH}{v:PV}(k:Id0 v):∀{u:TV},VR c h v u->PR c.S h v u:=by
 induction k with
 | bool b=>intro u hv;obtain rfl:=hv.bool_inv;exact .bool b
 | int kk n=>intro u hv;obtain rfl:=hv.int_inv;exact .int kk n
 | str s=>intro u hv;obtain rfl:=hv.str_inv;exact .str s
 | nilptr=>intro u hv;cases hv with|pure hv=>exact hv
 | nilsl=>intro u hv;cases hv with|pure hv=>exact hv
 | nilmap=>intro u hv;cases hv with|pure hv=>exact hv
 | nilfn=>intro u hv;cases hv with|pure hv=>exact hv
 | niliface=>intro u hv;cases hv with|pure hv=>exact hv
 | list p z l=>intro u hv;cases hv with|pure hv=>exact hv
 | elem vs=>intro u hv;cases hv with|pure hv=>exact hv
 | iface _ ih=>intro u hv;obtain⟨u',rfl,h1⟩:=hv.iface_inv;exact .iface (ih h1)
 | fn _ ih=>intro u hv;obtain⟨cs,rfl,h1⟩:=hv.fn_inv;exact .fn h1.1 fun i x y hx hy=>ih x (zAK9 hx) (h1.2 i x y hx hy)
 | agg _ ih=>intro u hv;obtain⟨cs,rfl,h1⟩:=hv.agg_inv;exact .agg h1.1 fun i x y hx hy=>ih x (zAK9 hx) (h1.2 i x y hx hy)
 | tuple _ ih=>intro u hv;obtain⟨cs,rfl,h1⟩:=hv.tuple_inv;exact .tuple h1.1 fun i x y hx hy=>ih x (zAK9 hx) (h1.2 i x y hx hy)
theorem FP.FO {f:Nat}{args:List PV}{e:FE}{H:List zn}(k:FP E f args e)(hl:∀x∈args,Id0 x):FO E f args H true (fun e' H'=>e'=e/\H'=H):=fun B c h us hr ha=>by
 obtain⟨r,h',e1,hn,hk,re⟩:=k c.S h us (fun p b hb=>(hr.S p b hb).1) ⟨ha.1,fun i x y hx hy=>(hl x (zAK9 hx)).ok (ha.2 i x y hx hy)⟩;obtain⟨m,hr'⟩:=hr.grown hn hk;exact⟨r,h',e,H,c.lay h.next h'.next,e1,⟨rfl,rfl⟩,m,hr',re.mono fun v u hv=>.pure hv,fun _ id x hx=>hk _ (hr.own _ _ hx).2.1⟩
theorem FO.mono {f:Nat}{args:List PV}{H:List zn}{b:Bool}{Q Q':FE->List zn->Prop}(hQ:∀e H,Q e H->Q' e H)(k:FO E f args H b Q):FO E f args H b Q':=fun B c h us hr ha=>by
 obtain⟨r,h',e,H',c',e1,q1,h2⟩:=k B c h us hr ha;exact⟨r,h',e,H',c',e1,hQ _ _ q1,h2⟩
theorem zfe {d:Option Nat}{args:List TOp}{g:Option (TOp×Bool)}{ops:List zY}{s:FSt}{Q:FX->FSt->Prop}{f:Nat}{caps vs aS:List PV}{v:PV}
  (hg:zab s.tm g=some true) (ha:evs s.tm args=some (.fn f caps::vs)) (k:FN E f aS (.ret v)) (hl:LF s.H 1 (vs++caps) aS) (hQ:WO E caught ops (s.put d v) Q):WO E caught (⟨d,.call,args,g⟩::ops) s Q :=
 zhf hg ha ((FN.FO k hl).mono fun e H' he=>by obtain⟨rfl,rfl⟩:=he;exact hQ)
theorem zvw {d:Option Nat}{args:List TOp}{g:Option (TOp×Bool)}{ops:List zY}{s:FSt}{Q:FX->FSt->Prop}{f:Nat}{caps vs aS:List PV}{v:PV}
  (hg:zab s.tm g=some true) (ha:evs s.tm args=some (.fn f caps::vs)) (k:FN E f aS (.panic v)) (hl:LF s.H 1 (vs++caps) aS) (hQ:Q (.panic v) s):WO E caught (⟨d,.call,args,g⟩::ops) s Q :=
 zhf hg ha ((FN.FO k hl).mono fun e H' he=>by obtain⟨rfl,rfl⟩:=he;exact hQ)
theorem zpJ {d:Option Nat}{args:List TOp}{g:Option (TOp×Bool)}{ops:List zY}{s:FSt}{Q:FX->FSt->Prop}{ty:Nat}{v:PV}
  (hg:zab s.tm g=some true) (ha:evs s.tm args=some [.iface ty v]) (hQ:Q (.panic (.iface ty v)) s):WO E caught (⟨d,.panic,args,g⟩::ops) s Q:=fun B c t hs=>by
 have hw:=zeA hs.tm hg;obtain⟨us,u1,u2⟩:=zjP hs.tm ha;obtain⟨u,us',rfl,u3,u4⟩:=u2.of_cons;obtain rfl:=u4.of_nil;obtain⟨u',rfl,u5⟩:=u3.iface_inv;refine⟨.panic (.iface ty u') t,.panic (.iface ty v),s,c,t,Ev.all fun C N=>?_,hQ,Mo.refl _ _,hs,.inr ⟨_,_,rfl,rfl,u3⟩⟩;unfold zbx zfk;rw[hw,u1];rfl
theorem zfT {d:Option Nat}{args:List TOp}{g:Option (TOp×Bool)}{ops:List zY}{s:FSt}{Q:FX->FSt->Prop}{f:Nat}{p cl:PV}
  (hg:zab s.tm g=some true) (ha:evs s.tm args=some [.fn f [],p,cl]) (hc:caught.get f=some ()) (k:WO E caught ops (FSt.put ⟨s.tm,.caught p cl::s.df,s.H⟩ d (.tuple [])) Q):WO E caught (⟨d,.defer,args,g⟩::ops) s Q:=fun B c t hs=>by
 have hw:=zeA hs.tm hg;obtain⟨us,u1,u2⟩:=zjP hs.tm ha;obtain⟨u,us',rfl,u3,u4⟩:=u2.of_cons;obtain⟨up,us',rfl,u5,u6⟩:=u4.of_cons;obtain⟨ul,us',rfl,u7,u8⟩:=u6.of_cons;obtain rfl:=u8.of_nil;obtain⟨cs,rfl,u9⟩:=u3.fn_inv;obtain rfl:=u9.of_nil;have hs1:SR B c ⟨s.tm,.caught p cl::s.df,s.H⟩ ⟨t.tm,.caught up ul::t.df,t.h⟩:=⟨hs.hr,hs.tm,⟨u5,u7⟩,hs.df⟩
 obtain⟨r2,x,s2,c2,t2,e2,q2,m2,k2,h2⟩:=k B c ((⟨t.tm,.caught up ul::t.df,t.h⟩:St).put d (.tuple [])) (hs1.put (Mo.refl _ _) hs.hr (VR.tupL LR.nil) d);rw[put_h]at m2;refine⟨r2,x,s2,c2,t2,e2.mono fun C N e=>?_,q2,m2,k2,h2⟩;unfold zbx zfk;rw[hw,u1];simp only[zit,zT.cls,act,zpg];rw[hc];exact e
def RN (c:Cx):Option Nat->Option Nat->Prop
 | none,none=>True
 | some id,some b=>∃d z,c.ρ id=some (b,d,z)
 | _,_=>False
theorem RN.mono {c c':Cx}{h h':TH}(m:Mo c c' h h'){a b:Option Nat}(k:RN c a b):RN c' a b:=by
 cases a<;>cases b<;>first|exact k|(obtain⟨d,z,k⟩:=k;exact⟨d,z,m.ρ _ _ k⟩)
def W (E:Env)(caught:Tr Unit)(rnd:Option Nat)(code:zbl)(s:FSt)(Q:FX->FSt->Prop):Prop :=
 ∀B c t rnd',SR B c s t->RN c rnd rnd'->∃x' t' x s' c',Ev E (fun C N=>zbc C caught N rnd' code t=some (x',t'))/\Q x s'/\XR c' t'.h x x'/\Mo c c' t.h t'.h/\SR B c' s' t'
variable {rnd:Option Nat}{s:FSt}{Q Q':FX->FSt->Prop}
theorem zbA {code:zbl}(k:W E caught rnd code s Q)(hQ:∀x s,Q x s->Q' x s):W E caught rnd code s Q':=fun B c t rnd' hs hn=>by
 obtain⟨x',t',x,s',c',h1,h2,h3⟩:=k B c t rnd' hs hn;exact⟨x',t',x,s',c',h1,hQ _ _ h2,h3⟩
theorem zF (h:Q .norm s):W E caught rnd .skip s Q:=fun B c t rnd' hs hn=>⟨.norm,t,.norm,s,c,Ev.all fun _ _=>rfl,h,.norm,Mo.refl _ _,hs⟩
theorem zgh {id:Nat}(h:Q (.exit id) s):W E caught rnd (.exit id) s Q:=fun B c t rnd' hs hn=>⟨.exit id,t,.exit id,s,c,Ev.all fun _ _=>rfl,h,.exit id,Mo.refl _ _,hs⟩
theorem zph {l:Nat}(h:Q (.goto l) s):W E caught rnd (.goto l) s Q:=fun B c t rnd' hs hn=>⟨.goto l,t,.goto l,s,c,Ev.all fun _ _=>rfl,h,.goto l,Mo.refl _ _,hs⟩
theorem zq (h:Q .ret s):W E caught rnd .ret s Q:=fun B c t rnd' hs hn=>⟨.ret,t,.ret,s,c,Ev.all fun _ _=>rfl,h,.ret,Mo.refl _ _,hs⟩
def zke:List zY->(Nat->PV)->(Nat->PV)
 | [],tm=>tm
 | o::l,tm=>zke l (match o.dst with|some d=>upd tm d .bad|none=>tm)
theorem znK {c:Cx}{h:TH}:∀{ops:List zY} {tm:Nat->PV} {t:Tr TV},tmR c h tm t->tmR c h (zke ops tm) (zdv ops t)
 | [],_,_,k=>k
 | o::l,tm,t,k=>by
  unfold zke zdv;refine znK ?_
  cases o.dst with
  | none=>exact k
  | some d =>
   intro i
   ·dsimp only;unfold upd;rw[Tr.get_set]
    by_cases e:i=d
    ·rw[if_pos e];exact .inl rfl
    ·rw[if_neg e,if_neg e];exact k i
def zd (ops:List zY)(Q:FX->FSt->Prop):FX->FSt->Prop
 | .norm,s=>Q .norm s
 | x,s=>Q x ⟨zke ops s.tm,s.df,s.H⟩
theorem zr {ops:List zY}(k:WO E caught ops s (zd ops Q)):W E caught rnd (.region ops) s Q:=fun B c t rnd' hs hn=>by
 obtain⟨r,x,s',c',t',e1,q1,m1,k1,h2⟩:=k B c t hs;rcases h2 with⟨rfl,rfl⟩|⟨v,u,rfl,rfl,hv⟩
 ·exact⟨.norm,t',.norm,s',c',e1.mono fun C N e=>by unfold zbc;rw[e];rfl,q1,.norm,m1,k1⟩
 ·exact⟨.panic u,{ t' with tm:=zdv ops t'.tm },.panic v,_,c',e1.mono fun C N e=>by unfold zbc;rw[e];rfl,q1,.panic hv,m1,⟨k1.hr,znK k1.tm,k1.df⟩⟩
def zb (K:FSt->Prop)(Q:FX->FSt->Prop):FX->FSt->Prop
 | .norm,s=>K s
 | x,s=>Q x s
theorem za {a b:zbl}(k:W E caught rnd a s (zb (fun s'=>W E caught rnd b s' Q) Q)):W E caught rnd (.seq a b) s Q:=fun B c t rnd' hs hn=>by
 obtain⟨x',t',x,s',c',e1,q1,hx,m1,k1⟩:=k B c t rnd' hs hn
 cases hx with
 | norm =>
  obtain⟨x2',t2,x2,s2,c2,e2,q2,hx2,m2,k2⟩:=q1 B c' t' rnd' k1 (hn.mono m1);exact⟨x2',t2,x2,s2,c2,Ev.and2 (fun C N a b=>by unfold zbc;rw[a];exact b) e1 e2,q2,hx2,m1.trans m2,k2⟩
 | exit id=>exact⟨_,t',_,s',c',e1.mono fun C N e=>by unfold zbc;rw[e],q1,.exit id,m1,k1⟩
 | goto l=>exact⟨_,t',_,s',c',e1.mono fun C N e=>by unfold zbc;rw[e],q1,.goto l,m1,k1⟩
 | ret=>exact⟨_,t',_,s',c',e1.mono fun C N e=>by unfold zbc;rw[e],q1,.ret,m1,k1⟩
 | panic hv=>exact⟨_,t',_,s',c',e1.mono fun C N e=>by unfold zbc;rw[e],q1,.panic hv,m1,k1⟩
theorem ztq {x:TOp}{b:Bool}{p q:zbl}(hx:ev s.tm x=some (.bool b))(h1:b=true->W E caught rnd p s Q)(h2:b=false->W E caught rnd q s Q):W E caught rnd (.cond x p q) s Q:=fun B c t rnd' hs hn=>by
 obtain⟨u,u1,u2⟩:=zio hs.tm hx;obtain rfl:=u2.bool_inv
 cases b with
 | true =>
  obtain⟨x',t',x,s',c',e1,h⟩:=h1 rfl B c t rnd' hs hn;exact⟨x',t',x,s',c',e1.mono fun C N e=>by unfold zbc;rw[u1];exact e,h⟩
 | false =>
  obtain⟨x',t',x,s',c',e1,h⟩:=h2 rfl B c t rnd' hs hn;exact⟨x',t',x,s',c',e1.mono fun C N e=>by unfold zbc;rw[u1];exact e,h⟩
def ze (id:Nat)(Q:FX->FSt->Prop):FX->FSt->Prop
 | .exit j,s=>if j=id then Q .norm s else Q (.exit j) s
 | x,s=>Q x s
theorem zD {id:Nat}{b:zbl}(k:W E caught rnd b s (ze id Q)):W E caught rnd (.block id b) s Q:=fun B c t rnd' hs hn=>by
 obtain⟨x',t',x,s',c',e1,q1,hx,m1,k1⟩:=k B c t rnd' hs hn
 cases hx with
 | exit j =>
  have q1:if j=id then Q .norm s' else Q (.exit j) s':=q1
  by_cases hj:j=id
  ·rw[if_pos hj]at q1;exact⟨.norm,t',.norm,s',c',e1.mono fun C N e=>by unfold zbc;rw[e];dsimp only;rw[zby hj];rfl,q1,.norm,m1,k1⟩
  ·rw[if_neg hj]at q1;exact⟨.exit j,t',.exit j,s',c',e1.mono fun C N e=>by unfold zbc;rw[e];dsimp only;rw[zwm hj];rfl,q1,.exit j,m1,k1⟩
 | norm=>exact⟨_,t',_,s',c',e1.mono fun C N e=>by unfold zbc;rw[e],q1,.norm,m1,k1⟩
 | goto l=>exact⟨_,t',_,s',c',e1.mono fun C N e=>by unfold zbc;rw[e],q1,.goto l,m1,k1⟩
 | ret=>exact⟨_,t',_,s',c',e1.mono fun C N e=>by unfold zbc;rw[e],q1,.ret,m1,k1⟩
 | panic hv=>exact⟨_,t',_,s',c',e1.mono fun C N e=>by unfold zbc;rw[e],q1,.panic hv,m1,k1⟩
def zf (Inv:Nat->FSt->Prop)(n:Nat)(Q:FX->FSt->Prop):FX->FSt->Prop
 | .norm,s=>∃m,m<n/\Inv m s
 | x,s=>Q x s
theorem zas {body:zbl}(Inv:Nat->FSt->Prop){n:Nat}(h0:Inv n s)(step:∀n s,Inv n s->W E caught rnd body s (zf Inv n Q)):W E caught rnd (.loop body) s Q:=fun B c t rnd' hs hn=>by
 have main:∀n s c t,Inv n s->SR B c s t->RN c rnd rnd'->∃x' t' x s' c',(∃K,∀N,K<=N->∀d,K<=d->∀j,K<=j->zhz (zbc (zcK (EN E N) d) caught N rnd' body) j t=some (x',t'))/\Q x s'/\XR c' t'.h x x'/\Mo c c' t.h t'.h/\SR B c' s' t':=by
  intro n
  induction n using Nat.strongRecOn with
  | _ n ih =>
   intro s c t hi hs hn;obtain⟨x',t',x,s',c',⟨K,e1⟩,q1,hx,m1,k1⟩:=step n s hi B c t rnd' hs hn;have one:x' ≠ .norm->∃K,∀N,K<=N->∀d,K<=d->∀j,K<=j->zhz (zbc (zcK (EN E N) d) caught N rnd' body) j t=some (x',t'):=fun hne=>⟨K+1,fun N hN d hd j hj=>by
    obtain⟨j,rfl⟩:∃i,j=i+1:=⟨j-1,by omega⟩
    unfold zhz;rw[e1 N (by omega) d (by omega)]
    cases x'<;>first|exact absurd rfl hne|rfl⟩
   cases hx with
   | norm =>
    obtain⟨m,hm,hi2⟩:=q1;obtain⟨x2',t2,x2,s2,c2,⟨L,e2⟩,q2,hx2,m2,k2⟩:=ih m hm s' c' t' hi2 k1 (hn.mono m1);refine⟨x2',t2,x2,s2,c2,⟨max K L+1,fun N hN d hd j hj=>?_⟩,q2,hx2,m1.trans m2,k2⟩;obtain⟨j,rfl⟩:∃i,j=i+1:=⟨j-1,by omega⟩
    unfold zhz;rw[e1 N (by omega) d (by omega)];exact e2 N (by omega) d (by omega) j (by omega)
   | exit id=>exact⟨_,t',_,s',c',one (fun e=>by cases e),q1,.exit id,m1,k1⟩
   | goto l=>exact⟨_,t',_,s',c',one (fun e=>by cases e),q1,.goto l,m1,k1⟩
   | ret=>exact⟨_,t',_,s',c',one (fun e=>by cases e),q1,.ret,m1,k1⟩
   | panic hv=>exact⟨_,t',_,s',c',one (fun e=>by cases e),q1,.panic hv,m1,k1⟩
 obtain⟨x',t',x,s',c',⟨K,e1⟩,h⟩:=main n s c t h0 hs hn;exact⟨x',t',x,s',c',⟨K,fun N hN d hd=>by unfold zbc;exact e1 N hN d hd N hN⟩,h⟩
def zg (E:Env)(caught:Tr Unit)(rnd:Option Nat)(l:Nat)(rest:zbl)(Q:FX->FSt->Prop):FX->FSt->Prop
 | .goto j,s=>j=l/\W E caught rnd rest s fun x s'=>(∀l,x ≠ .goto l)/\Q x s'
 | x,s=>Q x s
theorem zr2 {l:Nat}{b rest:zbl}(k:W E caught rnd b s (zg E caught rnd l rest Q)):W E caught rnd (.scope b l rest) s Q:=fun B c t rnd' hs hn=>by
 obtain⟨x',t',x,s',c',e1,q1,hx,m1,k1⟩:=k B c t rnd' hs hn
 cases hx with
 | goto j =>
  obtain⟨rfl,q1⟩:=q1;obtain⟨x2',t2,x2,s2,c2,e2,⟨hne,q2⟩,hx2,m2,k2⟩:=q1 B c' t' rnd' k1 (hn.mono m1);refine⟨x2',t2,x2,s2,c2,Ev.and2 (fun C N a b=>?_) e1 e2,q2,hx2,m1.trans m2,k2⟩;unfold zbc;rw[a];dsimp only;rw[zby rfl];dsimp only[cond_true];rw[b]
  cases hx2<;>first|rfl|exact absurd rfl (hne _)
 | exit j=>exact⟨_,t',_,s',c',e1.mono fun C N e=>by unfold zbc;rw[e],q1,.exit j,m1,k1⟩
 | norm=>exact⟨_,t',_,s',c',e1.mono fun C N e=>by unfold zbc;rw[e],q1,.norm,m1,k1⟩
 | ret=>exact⟨_,t',_,s',c',e1.mono fun C N e=>by unfold zbc;rw[e],q1,.ret,m1,k1⟩
 | panic hv=>exact⟨_,t',_,s',c',e1.mono fun C N e=>by unfold zbc;rw[e],q1,.panic hv,m1,k1⟩
end Fv
end Go.Proofs.YtfomlmhnmheenaaGreat
namespace Go.Proofs.YtfomlmhnmheenaaGreat
namespace Fv
open Tw
variable {E:Env}
inductive FM where
 | returning
 | panicking (v:PV)
def zta (c:Cx)(h:TH):FM->TM->Prop
 | .returning,.returning=>True
 | .panicking v,.panicking u=>VR c h v u
 | _,_=>False
def LV (E:Env):List FD->FM->List zn->(FM->List zn->Prop)->Prop
 | [],m,H,Q=>Q m H
 | .mark id::l,m,H,Q=>H[id]?=some (.dfr false)/\LV E l m (H.set id (.dfr true)) Q
 | .caught p cl::l,m,H,Q=>match m with
  | .returning=>LV E l .returning H Q
  | .panicking v=>∃n g caps b id gg mm,v=.iface E.errno (.int .i64 n)/\cl=.fn g caps/\p=.ptr id gg 0 0 mm/\FO E g caps H b fun e H1=>e=.ret (.tuple [])/\∃a,zaf H1 1 [p,.int .i64 n]=some a/\LV E l .returning a.H Q
theorem zk6 (N:Nat)(C:zbt):∀(l:List TD) (m:TM) (h:TH),zcw (EN E N) C l m h=zcw E C l m h
 | [],m,h=>rfl
 | .mark b::l,m,h=>by
  unfold zcw;simp only[zk6 N C l]
 | .caught p c::l,m,h=>by
  unfold zcw;simp only[zk6 N C l];rfl
theorem zju {h h2:TH}{b g o e:Nat}{k:IntKind}{n:Int}{u:TV}(hs:zgm 1 h [.ptr b g o e,.int k n]=some (.ok u h2)):zdo h b g o [.int k n]=some h2:=by
 unfold zgm at hs;dsimp only[TV.cells,zAE9,zAH9]at hs
 cases h1:Nat.ble 1 e
 ·rw[h1]at hs;cases hs
 ·rw[h1]at hs
  cases hw:zdo h b g o [.int k n]with
  | none=>rw[hw]at hs;cases hs
  | some h3=>rw[hw]at hs;injection hs with hs;injection hs with _ hs;rw[hs]
theorem zoH:∀{l:List FD} {l':List TD} {m:FM} {m':TM} {H:List zn} {h:TH} {B:Ba} {c:Cx} {Q:FM->List zn->Prop},LV E l m H Q->HR B c H h->dfR c h l l'->zta c h m m' ->
  ∃m2' h' m2 H2 c',Ev E (fun C _=>zcw E C l' m' h=some (m2',h'))/\Q m2 H2/\zta c' h' m2 m2'/\Mo c c' h h'/\HR B c' H2 h'
 | [],[],m,m',H,h,B,c,Q,k,hr,_,hm=>⟨m',h,m,H,c,Ev.all fun _ _=>rfl,k,hm,Mo.refl _ _,hr⟩
 | .mark id::l,.mark b::l',m,m',H,h,B,c,Q,k,hr,hd,hm=>by
  obtain⟨⟨d,z,hρ⟩,hd⟩:=hd;obtain⟨k1,k2⟩:=k;obtain⟨b',d',z',e1,e2⟩:=hr.obj _ _ k1;rw[hρ]at e1;injection e1 with e1;injection e1 with e1 e3;subst e1;obtain⟨m1,hr1⟩:=hr.set (o:=.dfr true) (x:=.dfr true) hρ (fun e=>by rw[k1]at e;cases e) fun _=>⟨b,d,z,hρ,by rw[TH.get_set _ _ _ _ (hr.own _ _ hρ).2.1,if_pos rfl]⟩
  have hm1:zta c (h.set b (.dfr true)) m m':=by
   cases m<;>cases m'<;>first|exact hm|exact VR.mono m1 hm
  obtain⟨m2',h',m2,H2,c',f1,f2,f3,f4,f5⟩:=zoH k2 hr1 (hd.mono m1) hm1;refine⟨m2',h',m2,H2,c',f1.mono fun C N e=>?_,f2,f3,m1.trans f4,f5⟩;unfold zcw;rw[e2];exact e
 | .caught p cl::l,.caught p' cl'::l',m,m',H,h,B,c,Q,k,hr,hd,hm=>by
  obtain⟨⟨hp,hcl⟩,hd⟩:=hd
  cases m with
  | returning =>
   cases m' with
   | panicking u=>exact hm.elim
   | returning =>
    have k:LV E l .returning H Q:=k;obtain⟨m2',h',m2,H2,c',f1,f2⟩:=zoH k hr hd (m':=.returning) trivial;exact⟨m2',h',m2,H2,c',f1.mono fun C N e=>by unfold zcw;exact e,f2⟩
  | panicking v =>
   cases m' with
   | returning=>exact hm.elim
   | panicking u =>
    obtain⟨n,g,caps,bb,id,gg,mm,rfl,rfl,rfl,k⟩:=k;have hm:VR c h (.iface E.errno (.int .i64 n)) u:=hm;obtain⟨u',rfl,hu⟩:=hm.iface_inv;obtain rfl:=hu.int_inv;obtain⟨cs,rfl,hcs⟩:=hcl.fn_inv;obtain⟨r,h1,e,H1,c1,e1,⟨rfl,a,ha,k2⟩,m1,hr1,re,_⟩:=k B c h cs hr hcs
    cases r with
    | panic u=>exact re.elim
    | ret u =>
     have re:VR c1 h1 (.tuple []) u:=re;obtain⟨ts,rfl,hts⟩:=re.tuple_inv;obtain rfl:=hts.of_nil;obtain⟨bp,dp,zp,gp,q1,rfl,rfl⟩:=zed (hp.mono m1);have h00:0*zp+0=0:=by simp
     rw[h00]at hp⊢;obtain⟨u2,h2,c2,s1,s2⟩:=zpf hr1 (LR.cons (hp.mono m1) (LR.cons (.pure (.int .i64 n)) LR.nil)) ha;obtain⟨m2',h',m2,H2,c',f1,f2,f3,f4,f5⟩:=zoH k2 s2.hr (hd.mono (m1.trans s2.mo)) (m':=.returning) trivial;refine⟨m2',h',m2,H2,c',Ev.and2 (fun C N a1 a2=>?_) e1 f1,f2,f3,(m1.trans s2.mo).trans f4,f5⟩;unfold zcw;dsimp only;rw[zby rfl];dsimp only[cond_true];rw[a1];show (match zdo h1 bp gp 0 [.int .i64 n]with
      | some h=>zcw E C l' .returning h
      | none=>none)=_
     rw[zju s1];exact a2
 | [],_::_,_,_,_,_,_,_,_,_,_,hd,_=>hd.elim
 | _::_,[],_,_,_,_,_,_,_,_,_,hd,_=>hd.elim
 | .mark _::_,.caught _ _::_,_,_,_,_,_,_,_,_,_,hd,_=>hd.1.elim
 | .caught _ _::_,.mark _::_,_,_,_,_,_,_,_,_,_,hd,_=>hd.1.elim
def zE (tm:Nat->PV)(H:List zn):List zkZ->Option (List PV)
 | []=>some []
 | r::l=>match(match r with
   | .tmp t=>okv (tm t)
   | .cell t agg n=>match okv (tm t)with
    | some p=>zae H agg n [p]
    | none=>none)with
  | none=>none
  | some v=>match zE tm H l with
   | none=>none
   | some vs=>some (v::vs)
theorem ztE {B:Ba}{c:Cx}{H:List zn}{h:TH}(k:HR B c H h){tm:Nat->PV}{t:Tr TV}(kt:tmR c h tm t):∀{l:List zkZ} {vs:List PV},zE tm H l=some vs->∃us,zgW t h l=some us/\LR (VR c h) vs us
 | [],vs,hv=>by injection hv with hv;subst hv;exact⟨[],rfl,LR.nil⟩
 | r::l,vs,hv=>by
  unfold zE at hv
  split at hv
  ·cases hv
  ·rename_i v hx
   split at hv
   ·cases hv
   ·rename_i ws hw;injection hv with hv;subst hv;obtain⟨us,w1,w2⟩:=ztE k kt hw;have key:∃u,zgW t h (r::l)=some (u::us)/\VR c h v u:=by
     cases r with
     | tmp i =>
      obtain⟨u,u1,u2⟩:=zio kt (x:=.tmp i) hx;have u1:t.get i=some u:=u1;refine⟨u,?_,u2⟩;show (match t.get i with
       | none=>none
       | some v=>match zgW t h l with
        | none=>none
        | some vs=>some (v::vs))=_
      rw[u1];dsimp only;rw[w1]
     | cell i agg n =>
      dsimp only at hx
      split at hx
      ·rename_i p hp;obtain⟨u,u1,u2⟩:=zio kt (x:=.tmp i) hp;obtain⟨w,w3,w4⟩:=zrp k (LR.cons u2 LR.nil) hx;have u1:t.get i=some u:=u1;have w3:pas (.load agg n) [u] h=some w:=w3;refine⟨w,?_,w4⟩;show (match(match t.get i with
        | some p=>pas (.load agg n) [p] h
        | none=>none)with
        | none=>none
        | some v=>match zgW t h l with
         | none=>none
         | some vs=>some (v::vs))=_
       rw[u1];dsimp only;rw[w3];dsimp only;rw[w1]
      ·cases hx
    obtain⟨u,u1,u2⟩:=key;exact⟨u::us,u1,LR.cons u2 w2⟩
def zG:List PV->PV
 | [v]=>v
 | l=>.tuple l
theorem zyd {c:Cx}{h:TH}{vs:List PV}{us:List TV}(k:LR (VR c h) vs us):VR c h (zG vs) (tup us):=by
 match vs,us,k with
 | [],us,k=>obtain rfl:=k.of_nil;exact VR.tupL LR.nil
 | [v],us,k=>obtain⟨u,us',rfl,h1,h2⟩:=k.of_cons;obtain rfl:=h2.of_nil;exact h1
 | v::w::l,us,k =>
  obtain⟨u,us',rfl,h1,h2⟩:=k.of_cons;obtain⟨u',us'',rfl,h3,h4⟩:=h2.of_cons;exact VR.tupL k
def zsw (F:zC)(tm:Nat->PV)(R:FE->List zn->Prop):FM->List zn->Prop
 | .returning,H=>∃vs,zE tm H F.res=some vs/\R (.ret (zG vs)) H
 | .panicking v,H=>R (.panic v) H
def zcT (E:Env)(F:zC)(R:FE->List zn->Prop):FX->FSt->Prop
 | .norm,s=>LV E s.df .returning s.H (zsw F s.tm R)
 | .ret,s=>LV E s.df .returning s.H (zsw F s.tm R)
 | .panic v,s=>LV E s.df (.panicking v) s.H (zsw F s.tm R)
 | _,_=>False
def zo (l:List PV):Nat->PV:=fun i=>(l[i]?).getD .bad
theorem zxo {c:Cx}{h:TH}{vs:List PV}{us:List TV}(k:LR (VR c h) vs us):tmR c h (zo vs) (Tr.putL .nil 0 us):=fun i=>by
 unfold zo;rw[Tr.get_putL]
 by_cases hi:i<vs.length
 ·obtain⟨u,u1,u2⟩:=k.at (zAB9 hi);refine .inr ⟨u,?_,?_⟩
  ·rw[if_pos (by rw[<- k.1];omega),zFR9];exact u1
  ·rw[zAB9 hi];exact u2
 ·left;rw[zBQ9 (by omega)];rfl
theorem zqc {f:Nat}{F:zC}(hF:E.funcs.get f=some F){args:List PV}(hn:args.length<=F.N){H:List zn}{R:FE->List zn->Prop}(hW:W E E.caught none F.body ⟨zo args,[],H⟩ (zcT E F R)):FO E f args H false R:=fun B c h us hr ha=>by
 obtain⟨x',t',x,s',c',e1,q1,hx,m1,k1⟩:=hW B c ⟨Tr.putL .nil 0 us,[],h⟩ none ⟨hr,zxo ha,trivial⟩ trivial;have main:∀(m:FM) (m':TM),LV E s'.df m s'.H (zsw F s'.tm R)->zta c' t'.h m m'->(∀N C,zu2 (EN E N) C F (some (x',t'))=zhr (EN E N) F t'.tm (zcw (EN E N) C t'.df m' t'.h)) ->
   ∃r h' e H' c'',Ev E (fun C _=>C.fn f us h=some (r,h'))/\R e H'/\Mo c c'' h h'/\HR B c'' H' h'/\RE (VR c'' h') e r/\(false=true->∀id x,c.ρ id=some x->h'.get x.1=h.get x.1):=fun m m' hl hm hend=>by
  obtain⟨m2',h2,m2,H2,c2,f1,f2,f3,f4,f5⟩:=zoH hl k1.hr k1.df hm;have fin:∀r,(∀N,zhr (EN E N) F t'.tm (some (m2',h2))=some (r,h2))->Ev E (fun C _=>C.fn f us h=some (r,h2)):=fun r hr2=>by
   obtain⟨K,hK⟩:=e1;obtain⟨L,hL⟩:=f1;refine⟨max K L+1,fun N hN d hd=>?_⟩;obtain⟨d,rfl⟩:∃i,d=i+1:=⟨d-1,by omega⟩
   show zaZ (EN E N) (zcK (EN E N) d) f us h=_;unfold zaZ;rw[show (EN E N).funcs.get f=some F from hF];dsimp only;rw[zch (by rw[<- ha.1];exact hn)];dsimp only[cond_true];rw[show zbc (zcK (EN E N) d) (EN E N).caught (EN E N).N none F.body ⟨Tr.putL .nil 0 us,[],h⟩=some (x',t')from hK N (by omega) d (by omega),hend,zk6,hL N (by omega) d (by omega),hr2]
  cases m2 with
  | returning =>
   cases m2' with
   | panicking u=>exact f3.elim
   | returning =>
    obtain⟨vs,v1,v2⟩:=f2;obtain⟨us2,w1,w2⟩:=ztE f5 (k1.tm.mono f4) v1;refine⟨.ret (tup us2),h2,.ret (zG vs),H2,c2,fin _ fun N=>?_,v2,m1.trans f4,f5,zyd w2,fun h=>by cases h⟩;show (match zgW t'.tm h2 F.res with
     | some vs=>some (TE.ret (tup vs),h2)
     | none=>none)=_
    rw[w1]
  | panicking v =>
   cases m2' with
   | returning=>exact f3.elim
   | panicking u=>exact⟨.panic u,h2,.panic v,H2,c2,fin _ fun N=>rfl,f2,m1.trans f4,f5,f3,fun h=>by cases h⟩
 cases hx with
 | norm=>exact main .returning .returning q1 trivial fun N C=>rfl
 | ret=>exact main .returning .returning q1 trivial fun N C=>rfl
 | panic hv=>exact main (.panicking _) (.panicking _) q1 hv fun N C=>rfl
 | exit id=>exact q1.elim
 | goto l=>exact q1.elim
def zay (H:List zn)(lab:Nat):FE->FE->Prop
 | .ret v,.ret w=>Frz H lab v w
 | .panic v,.panic w=>Frz H lab v w
 | _,_=>False
def LbE:FE->Prop
 | .ret v=>Lb v
 | .panic v=>Lb v
theorem zxp {f:Nat}{args:List PV}{e:FE}{b:Bool}(k:FO E f args [] b fun e' H=>zay H 0 e' e):FP E f args e:=fun S h us hS ha=>by
 have hr:HR ⟨h.next,h,S⟩ ⟨S,fun _=>none,fun _=>False⟩ [] h:=⟨zAM9 _,fun _ _=>rfl,fun p b hb=>.inl hb,fun p b hb=>⟨hS p b hb,fun id x hx=>(by cases hx)⟩,fun id x hx=>(by cases hx),fun id hx=>hx.elim,fun id id' x x' hx=>(by cases hx),fun id o ho=>(by simp at ho)⟩
 obtain⟨r,h',e',H',c',e1,q1,m1,hr1,re,_⟩:=k _ _ h us hr (LR.pure (c:=⟨S,fun _=>none,fun _=>False⟩) ha);have hkeep:∀b,b<h.next->h'.get b=h.get b:=fun b hb=>hr1.keep b hb;refine⟨r,h',e1,hr1.le,hkeep,?_⟩;have hS1:∀p b,c'.S p b->S1 S h.next h'.next p b:=fun p b hb=>by
  rcases hr1.old p b hb with h1|⟨h1,h2⟩
  ·exact .inl h1
  ·exact .inr ⟨h1,h2,(hr1.S p b hb).1⟩
 have hown:∀id x,c'.ρ id=some x->S1 S h.next h'.next 0 x.1:=fun id x hx=>by
  obtain⟨h1,h2,_⟩:=hr1.own id x hx;exact .inr ⟨rfl,h1,h2⟩
 cases e'<;>cases r<;>first|exact re.elim|skip
 ·cases e with
  | panic v=>exact q1.elim
  | ret w=>exact Frz.ok hr1 hS1 hown q1 re
 ·cases e with
  | ret v=>exact q1.elim
  | panic w=>exact Frz.ok hr1 hS1 hown q1 re
theorem FP.stays {f:Nat}{args:List PV}{e:FE}(k:FP E f args e)(hl:LbE e):FN E f args e:=fun S h us hS ha=>by
 obtain⟨r,h',e1,h1,h2,re⟩:=k S h us hS ha;refine⟨r,h',e1,h1,h2,?_⟩;have hS0:∀b,S1 S h.next h'.next 0 b->S0 S h.next h'.next 0 b:=fun b hb=>by
  rcases hb with hb|⟨_,hb⟩
  ·exact⟨rfl,.inl hb⟩
  ·exact⟨rfl,.inr hb⟩
 cases e<;>cases r<;>first|exact re.elim|exact Lb.ok hS0 re hl
theorem FN.FP {f:Nat}{args:List PV}{e:FE}(k:FN E f args e):FP E f args e:=fun S h us hS ha=>by
 obtain⟨r,h',e1,h1,h2,re⟩:=k S h us hS ha;refine⟨r,h',e1,h1,h2,re.mono fun v u hv=>hv.mono (fun p b hb=>?_) fun _ _ _ _ _ _ _ hr=>hr⟩;obtain⟨rfl,hb|hb⟩:=hb
 ·exact .inl hb
 ·exact .inr ⟨rfl,hb⟩
theorem zwu {f:Nat}{F:zC}(hF:E.funcs.get f=some F){args:List PV}(hn:args.length<=F.N){e:FE}(hW:W E E.caught none F.body ⟨zo args,[],[]⟩ (zcT E F fun e' H=>zay H 0 e' e)):FP E f args e:=zxp (zqc hF hn hW)
theorem zyf {f:Nat}{F:zC}(hF:E.funcs.get f=some F){args:List PV}(hn:args.length<=F.N){e:FE}(hl:LbE e)(hW:W E E.caught none F.body ⟨zo args,[],[]⟩ (zcT E F fun e' H=>zay H 0 e' e)):FN E f args e:=(zwu hF hn hW).stays hl
end Fv
end Go.Proofs.YtfomlmhnmheenaaGreat
namespace Go.Proofs.YtfomlmhnmheenaaGreat
namespace Fv
open Tw
variable {E:Env}{caught:Tr Unit}
def dpF:Nat->PV->Bool
 | 0,_=>false
 | n+1,v=>match v with
  | .bad=>false
  | .iface _ v=>dpF n v
  | .fn _ l=>l.all (dpF n)
  | .agg l=>l.all (dpF n)
  | .tuple l=>l.all (dpF n)
  | _=>true
theorem zmv:∀l:List Nat,zeK l l=true
 | []=>rfl
 | a::l=>by unfold zeK;rw[zby rfl];exact zmv l
theorem zty (n:Int):zgy n n=true:=by rw[zcD];simp
theorem zhv {f:TV->TV->Bool}:∀{l:List TV},(∀x∈l,f x x=true)->zjQ f l l=true
 | [],_=>rfl
 | a::l,h=>by unfold zjQ;rw[h a (by simp)];exact zhv fun x hx=>h x (zAT9 _ hx)
theorem zj9 {R:PV->TV->Prop}{f:TV->TV->Bool}{p:PV->Bool}(hR:∀v u,R v u->p v=true->f u u=true){l:List PV}{cs:List TV}(k:LR R l cs)(hp:l.all p=true):∀x∈cs,f x x=true:=fun x hx=>by
 obtain⟨i,hi,rfl⟩:=zBJ9.1 hx;have hi2:i<l.length:=by rw[k.1];exact hi
 exact hR _ _ (k.2 i _ _ (zAB9 hi2) (zAB9 hi)) (zBI9.1 hp _ (zBP9 hi2))
theorem ziV {c:Cx}{h:TH}:∀{n:Nat} {v:PV} {u:TV},VR c h v u->dpF n v=true->TV.beq n u u=true
 | 0,v,u,k,hd=>by cases hd
 | n+1,v,u,k,hd=>by
  cases v with
  | bad=>exact k.bad_inv.elim
  | bool b=>obtain rfl:=k.bool_inv;cases b<;>rfl
  | int kk m=>obtain rfl:=k.int_inv;simp only[TV.beq,zqt];rw[zby rfl];exact zty m
  | str s=>obtain rfl:=k.str_inv;exact zmv s
  | nilptr=>cases k with|pure k=>cases k;rfl
  | nilsl=>cases k with|pure k=>cases k;rfl
  | nilmap=>cases k with|pure k=>cases k;rfl
  | nilfn=>cases k with|pure k=>cases k;rfl
  | niliface=>cases k with|pure k=>cases k;rfl
  | list p z l =>
   rcases zd4 k with⟨_,rfl⟩|⟨b,g,o,q,ds,rfl,_⟩
   ·rfl
   ·simp only[TV.beq,zoM];simp only[zby rfl,cond_true]
  | elem l =>
   obtain⟨p,b,g,o,ds,_,rfl,_⟩:=ze0 k;simp only[TV.beq,zlA];simp only[zby rfl,cond_true]
  | sl id g o m q z =>
   rcases sl_inv k with⟨_,_,_,_,rfl,_⟩|⟨b,d,g',_,_,rfl⟩
   ·rfl
   ·simp only[TV.beq,zoM];simp only[zby rfl,cond_true]
  | ptr id g i o m =>
   obtain⟨b,d,z,g',_,_,rfl⟩:=zed k;simp only[TV.beq,zlA];simp only[zby rfl,cond_true]
  | map id=>obtain⟨b,d,z,_,rfl⟩:=zh5 k;exact zby rfl
  | yield id=>cases k with|pure k=>cases k|yield _=>exact zby rfl
  | iface t w =>
   obtain⟨u',rfl,h1⟩:=k.iface_inv;simp only[TV.beq,zk1];rw[zby rfl];exact ziV h1 hd
  | fn f l =>
   obtain⟨cs,rfl,h1⟩:=k.fn_inv;simp only[TV.beq,zsf];rw[zby rfl];exact zhv (zj9 (R:=VR c h) (f:=TV.beq n) (p:=dpF n) (fun v u k hp=>ziV k hp) h1 hd)
  | agg l =>
   obtain⟨cs,rfl,h1⟩:=k.agg_inv;exact zhv (zj9 (R:=VR c h) (f:=TV.beq n) (p:=dpF n) (fun v u k hp=>ziV k hp) h1 hd)
  | tuple l =>
   obtain⟨cs,rfl,h1⟩:=k.tuple_inv;exact zhv (zj9 (R:=VR c h) (f:=TV.beq n) (p:=dpF n) (fun v u k hp=>ziV k hp) h1 hd)
def evN (tm nm:Nat->PV):TOp->Option PV
 | .tmp t=>okv (tm t)
 | .new t=>okv (nm t)
 | .const u=>ofC 4 u
 | .fn f=>some (.fn f [])
def za4 (tm nm:Nat->PV):List TOp->Option (List PV)
 | []=>some []
 | x::l=>match evN tm nm x with
  | none=>none
  | some v=>match za4 tm nm l with
   | none=>none
   | some vs=>some (v::vs)
def zX (tm nm:Nat->PV):Option (TOp×Bool)->Option Bool
 | none=>some true
 | some (x,b)=>zap b (evN tm nm x)
def nmR (c:Cx)(h:TH)(nm:Nat->PV)(t:Tr TV):Prop:=∀i,(nm i=.bad/\t.get i=none)\/∃u,t.get i=some u/\VR c h (nm i) u
theorem nmR.mono {c c':Cx}{h h':TH}(m:Mo c c' h h'){nm:Nat->PV}{t:Tr TV}(k:nmR c h nm t):nmR c' h' nm t:=fun i=>by
 rcases k i with k|⟨u,u1,u2⟩
 ·exact .inl k
 ·exact .inr ⟨u,u1,u2.mono m⟩
def zcZ (a b:Tr TV):Prop:=∀i u,a.get i=some u->b.get i=some u
section operands
variable {c:Cx}{h:TH}{tm nm:Nat->PV}{t n:Tr TV}
theorem zpQ (k:tmR c h tm t)(kn:nmR c h nm n){x:TOp}{v:PV}(hx:evN tm nm x=some v):∃u,(∀n',zcZ n n'->zfA t n' x=some u)/\VR c h v u:=by
 cases x with
 | tmp i =>
  obtain⟨h1,h2⟩:=zkU hx;rcases k i with h3|⟨u,u1,u2⟩
  ·exact absurd h3 h2
  ·exact⟨u,fun _ _=>u1,by rw[<- h1];exact u2⟩
 | new i =>
  obtain⟨h1,h2⟩:=zkU hx;rcases kn i with⟨h3,_⟩|⟨u,u1,u2⟩
  ·exact absurd h3 h2
  ·exact⟨u,fun n' hn=>hn _ _ u1,by rw[<- h1];exact u2⟩
 | const u=>exact⟨u,fun _ _=>rfl,zgT hx⟩
 | fn f=>injection hx with hx;subst hx;exact⟨_,fun _ _=>rfl,VR.fnL LR.nil⟩
theorem zie (k:tmR c h tm t)(kn:nmR c h nm n):∀{l:List TOp} {vs:List PV},za4 tm nm l=some vs->∃us,(∀n',zcZ n n'->zc1 t n' l=some us)/\LR (VR c h) vs us
 | [],vs,hv=>by injection hv with hv;subst hv;exact⟨[],fun _ _=>rfl,LR.nil⟩
 | x::l,vs,hv=>by
  unfold za4 at hv
  split at hv
  ·cases hv
  ·rename_i v hx
   split at hv
   ·cases hv
   ·rename_i ws hw;injection hv with hv;subst hv;obtain⟨u,u1,u2⟩:=zpQ k kn hx;obtain⟨us,w1,w2⟩:=zie k kn hw;refine⟨u::us,fun n' hn=>?_,LR.cons u2 w2⟩;unfold zc1;rw[u1 n' hn];dsimp only;rw[w1 n' hn]
theorem zfN (k:tmR c h tm t)(kn:nmR c h nm n){g:Option (TOp×Bool)}{b:Bool}(hg:zX tm nm g=some b):∀n',zcZ n n'->zd3 t n' g=some b:=fun n' hn=>by
 cases g with
 | none=>exact hg
 | some x =>
  obtain⟨x,b'⟩:=x;change zap b' (evN tm nm x)=some b at hg;unfold zap at hg
  split at hg
  ·rename_i cc hx;obtain⟨u,u1,u2⟩:=zpQ k kn hx;obtain rfl:=u2.bool_inv;show zgc b' (zfA t n' x)=some b;unfold zgc;rw[u1 n' hn];injection hg with hg;subst hg
   cases b'<;>rfl
  ·rename_i hx;obtain⟨u,u1,u2⟩:=zpQ k kn hx;obtain⟨cs,rfl,_⟩:=u2.tuple_inv;show zgc b' (zfA t n' x)=some b;rw[u1 n' hn];exact hg
  ·cases hg
end operands
structure DF where
 nm:Nat->PV
 df:List FD
 H:List zn
 K:List (zY×List Nat)
def Ent (c:Cx)(h:TH)(t n:Tr TV)(e:zY×List Nat):Prop :=
 ∀c' h' n' df',Mo c c' h h'->(∀id∈e.2,∀x,c.ρ id=some x->h'.get x.1=h.get x.1)->zcZ n n'->zge t ⟨n',df',h'⟩ e.1=true
structure DSR (B:Ba)(c:Cx)(tm:Nat->PV)(t:Tr TV)(s:DF)(d:DS):Prop where
 hr:HR B c s.H d.h
 tm:tmR c d.h tm t
 nm:nmR c d.h s.nm d.nm
 df:dfR c d.h s.df d.df
 K:∀e∈s.K,Ent c d.h t d.nm e
theorem zcZ.refl (a:Tr TV):zcZ a a:=fun _ _ h=>h
theorem Ent.move {c c':Cx}{h h':TH}{t n n':Tr TV}{e:zY×List Nat}(k:Ent c h t n e)(m:Mo c c' h h')(hd:∀id∈e.2,∀x,c.ρ id=some x->h'.get x.1=h.get x.1)(hn:zcZ n n'):Ent c' h' t n' e :=
 fun c2 h2 n2 df2 m2 hd2 hn2=>k c2 h2 n2 df2 (m.trans m2) (fun id hi x hx=>by rw[hd2 id hi x (m.ρ _ _ hx),hd id hi x hx]) fun i u hu=>hn2 _ _ (hn _ _ hu)
def zbf (k:zT)(vs:List PV):List Nat:=match k,vs with
 | .load ..,[.ptr id _ _ _ _]=>[id]
 | .look ..,[.map id,_]=>[id]
 | .len _,[.map id]=>[id]
 | _,_=>[]
theorem zvO {B:Ba}{c:Cx}{H:List zn}{h:TH}{kind:zT}{vs:List PV}{us:List TV}{v:PV}{u:TV}(k:HR B c H h)(hv:LR (VR c h) vs us)(hf:za5 H kind vs=some v)(hp:pas kind us h=some u)
  {c':Cx} {h':TH} (m:Mo c c' h h') (hd:∀id∈zbf kind vs,∀x,c.ρ id=some x->h'.get x.1=h.get x.1):pas kind us h'=some u:=by
 cases kind<;>first|exact hp|skip
 case load agg n =>
  simp only[za5,zae]at hf
  split at hf
  ·rename_i cs;obtain⟨y,cs',rfl,h1,h2⟩:=hv.of_cons;obtain rfl:=h2.of_nil;obtain⟨p,b,g,o,ds,s1,rfl,s2,s3⟩:=ze0 h1;simp only[pas,zb9,zfD]at hp⊢
   split at hf
   ·rename_i hn;have s4:=zeb s2 (k:=0) (m:=n) (by omega);rw[zDH9]at s4;rw[s4]at hp;rw[m.rd _ _ s1 _ _ _ _ s4];exact hp
   ·cases hf
  ·rename_i id g i o mm;obtain⟨y,cs',rfl,h1,h2⟩:=hv.of_cons;obtain rfl:=h2.of_nil;obtain⟨b,d,z,g',s1,rfl,rfl⟩:=zed h1;have hb:=hd id (by simp[zbf]) _ s1;dsimp only at hb;simp only[pas,zb9,zfD,zbs]at hp⊢;rw[hb];exact hp
  ·cases hf
 case look kf zero ok =>
  simp only[za5,zaB]at hf
  split at hf
  ·rename_i id kk x;obtain⟨y,cs',rfl,h1,h2⟩:=hv.of_cons;obtain⟨y',cs'',rfl,h3,h4⟩:=h2.of_cons;obtain rfl:=h4.of_nil;obtain⟨b,d,z,s1,rfl⟩:=zh5 h1;have hb:=hd id (by simp[zbf]) _ s1;dsimp only at hb;simp only[pas,zb2,zgA]at hp⊢;rw[hb];exact hp
  ·obtain⟨y,cs',rfl,h1,h2⟩:=hv.of_cons;obtain⟨y',cs'',rfl,h3,h4⟩:=h2.of_cons;obtain rfl:=h4.of_nil;obtain rfl:y=.nilmap:=by cases h1 with|pure h1=>cases h1;rfl
   exact hp
  ·cases hf
 case len f =>
  simp only[za5,zbg]at hf
  split at hf
  ·exact hp
  ·exact hp
  ·cases hf
def za0 (nm:Nat->PV)(d:Option Nat)(v:PV):Option (Nat->PV):=match d with
 | none=>some nm
 | some d=>match nm d with
  | .bad=>some (upd nm d v)
  | _=>none
theorem zjX {c:Cx}{h:TH}{nm nm':Nat->PV}{n:Tr TV}(k:nmR c h nm n){d:Option Nat}{v:PV}{u:TV}(hv:VR c h v u)(hs:za0 nm d v=some nm'):∃n',zft n d u=some n'/\zcZ n n'/\nmR c h nm' n'/\(∀e,d=some e->n'.get e=some u):=by
 cases d with
 | none=>simp only[za0]at hs;injection hs with hs;subst hs;exact⟨n,rfl,zcZ.refl _,k,fun e he=>by cases he⟩
 | some d =>
  simp only[za0]at hs
  split at hs
  ·rename_i hb;injection hs with hs;subst hs;have hn:n.get d=none:=by
    rcases k d with⟨_,h1⟩|⟨u',_,u2⟩
    ·exact h1
    ·rw[hb]at u2;exact u2.bad_inv.elim
   refine⟨n.set d (some u),by unfold zft;dsimp only;rw[hn],fun i w hw=>?_,fun i=>?_,fun e he=>?_⟩
   ·rw[Tr.get_set,if_neg (fun e=>by subst e;rw[hn]at hw;cases hw)];exact hw
   ·unfold upd;rw[Tr.get_set]
    by_cases e:i=d
    ·rw[if_pos e,if_pos e];exact .inr ⟨u,rfl,hv⟩
    ·rw[if_neg e,if_neg e];exact k i
   ·injection he with he;subst he;rw[Tr.get_set,if_pos rfl]
  ·cases hs
def zaI:zn->Bool
 | .row _ _ _ _ l=>l.all fun v=>v.cells.all (dpF 4)
 | .map0=>true
 | _=>false
def zaD (tm:Nat->PV)(o:zY)(s:DF):Option DF :=
 match zX tm s.nm o.guard with
 | none=>none
 | some false=>(match za0 s.nm o.dst (.tuple [])with
  | some nm=>some ⟨nm,s.df,s.H,(o,[])::s.K⟩
  | none=>none)
 | some true=>match za4 tm s.nm o.args with
  | none=>none
  | some vs=>match o.kind.cls with
   | 0=>(match za5 s.H o.kind vs with
    | some v=>if o.dst.isSome=true/\dpF 4 v=true then(match za0 s.nm o.dst v with
     | some nm=>some ⟨nm,s.df,s.H,(o,zbf o.kind vs)::s.K⟩
     | none=>none)else none
    | none=>none)
   | 1=>(match za7 s.H.length o.kind vs with
    | some (ob,v)=>if o.dst.isSome=true/\zaI ob=true/\dpF 4 v=true then(match za0 s.nm o.dst v with
     | some nm=>some ⟨nm,s.df,s.H++[ob],(o,[s.H.length])::s.K⟩
     | none=>none)else none
    | none=>none)
   | _=>none
def zaq (tm:Nat->PV):List zY->DF->Option DF
 | [],s=>some s
 | o::l,s=>match zaD tm o s with
  | some s=>zaq tm l s
  | none=>none
theorem zlu {t:Tr TV}:∀{n i:Nat},(∀j,i<=j->j<i+n->∃y,t.get j=some y/\TV.beq 4 y y=true)->zkh i n t t=true
 | 0,_,_=>rfl
 | n+1,i,h=>by
  obtain⟨y,y1,y2⟩:=h i (zAM9 _) (by omega);unfold zkh;rw[y1];dsimp only;rw[y2];exact zlu fun j h1 h2=>h j (by omega) (by omega)
theorem zwN {B:Ba}{c:Cx}{H:List zn}{h:TH}(k:HR B c H h){id b d z:Nat}{ob:zn}(hH:H[id]?=some ob)(hd:zaI ob=true)(hρ:c.ρ id=some (b,d,z)){x:TO}(hx:h.get b=some x):zno x x=true:=by
 cases ob with
 | row e z' G M l =>
  obtain⟨rfl,G',M',cells,cs,r1,r2,r3,r4,r5⟩:=zfR k hH hρ;rw[hx]at r1;injection r1 with r1;subst r1;simp only[zno,zby rfl,cond_true];refine zlu fun j _ hj=>?_;rw[zAN9]at hj;obtain⟨t1,t2⟩:=Tr.getL_some r4;have hj2:j<cs.length:=by rw[t1];exact hj
  have t3:=t2 j hj;rw[zAN9,zAB9 hj2]at t3;refine⟨cs[j],t3.symm,?_⟩;have hall:(l.flatMap PV.cells).all (dpF 4)=true:=by
   rw[zBI9];intro y hy;obtain⟨w,w1,w2⟩:=zBC9.1 hy;exact zBI9.1 (zBI9.1 hd w w1) y w2
  exact zj9 (R:=VR c h) (f:=TV.beq 4) (p:=dpF 4) (fun v u k hp=>ziV k hp) r5.all hall _ (zBP9 hj2)
 | map0 =>
  obtain⟨b',d',z',clock,s1,s2⟩:=k.obj _ _ hH;rw[hρ]at s1;injection s1 with s1;injection s1 with s1 _;subst s1;rw[hx]at s2;injection s2 with s2;subst s2;exact zby rfl
 | _=>cases hd
theorem zvm {t n:Tr TV}{h:TH}{df:List TD}{o:zY}{d:Nat}{us:List TV}{u:TV}(hw:zd3 t n o.guard=some true)(hd:o.dst=some d)(ha:zc1 t n o.args=some us)(hn:n.get d=some u)(hc:o.kind.cls=0)(hp:pas o.kind us h=some u)(hb:TV.beq 4 u u=true):zge t ⟨n,df,h⟩ o=true:=by
 unfold zge;dsimp only;rw[hw];dsimp only;unfold zoN;rw[hd];dsimp only;rw[ha];dsimp only;rw[hn];unfold zoP;dsimp only;rw[hc]
 try dsimp only
 unfold zoQ;rw[hp];exact hb
theorem zuW {t n:Tr TV}{h:TH}{df:List TD}{o:zY}{d b:Nat}{us:List TV}{x:zde}(hw:zd3 t n o.guard=some true)(hd:o.dst=some d)(ha:zc1 t n o.args=some us)(hn:n.get d=some x.v)(hc:o.kind.cls=1)(hbl:zdL x.v=some b)(hp:lay o.kind us b=some x)(hg:h.get b=some x.o)(hb:TV.beq 4 x.v x.v=true)(ho:zno x.o x.o=true):zge t ⟨n,df,h⟩ o=true:=by
 unfold zge;dsimp only;rw[hw];dsimp only;unfold zoN;rw[hd];dsimp only;rw[ha];dsimp only;rw[hn];unfold zoP;dsimp only;rw[hc]
 try dsimp only
 unfold zoS;rw[hbl];dsimp only;rw[hp];dsimp only;rw[hg];dsimp only;rw[hb,ho];rfl
theorem zni {B:Ba}{c:Cx}{tm:Nat->PV}{t:Tr TV}{s s':DF}{d:DS}{o:zY}(k:DSR B c tm t s d)(hs:zaD tm o s=some s'):∃c' d',zja t o d=some d'/\Mo c c' d.h d'.h/\DSR B c' tm t s' d':=by
 unfold zaD at hs
 split at hs
 ·cases hs
 ·rename_i hw;have hw':=zfN k.tm k.nm hw
  split at hs
  ·rename_i nm' hn;injection hs with hs;subst hs;obtain⟨n',n1,n2,n3,n4⟩:=zjX k.nm (VR.tupL LR.nil) hn;refine⟨c,⟨n',d.df,d.h⟩,?_,Mo.refl _ _,k.hr,k.tm,n3,k.df,fun e he=>?_⟩
   ·unfold zja;rw[hw' _ (zcZ.refl _)];dsimp only;rw[n1];rfl
   ·rcases zAX9.1 he with rfl|he
    ·intro c2 h2 nn df2 m2 hd2 hn2;unfold zge;dsimp only;rw[hw' nn fun i u hu=>hn2 _ _ (n2 _ _ hu)]
    ·exact(k.K e he).move (Mo.refl _ _) (fun _ _ _ _=>rfl) n2
  ·cases hs
 ·rename_i hw;have hw':=zfN k.tm k.nm hw
  split at hs
  ·cases hs
  ·rename_i vs hvs;obtain⟨us,u1,u2⟩:=zie k.tm k.nm hvs;have e0:zja t o d=zpI t o d:=by unfold zja;rw[hw' _ (zcZ.refl _)]
   split at hs
   ·rename_i hcls
    split at hs
    ·rename_i v hp
     split at hs
     ·rename_i hc;obtain⟨hc1,hc2⟩:=hc;obtain⟨dd,hdd⟩:=Option.isSome_iff_exists.1 hc1
      split at hs
      ·rename_i nm' hn;injection hs with hs;subst hs;obtain⟨u,p1,p2⟩:=zmd k.hr u2 hp;obtain⟨n',n1,n2,n3,n4⟩:=zjX k.nm p2 hn;refine⟨c,⟨n',d.df,d.h⟩,?_,Mo.refl _ _,k.hr,k.tm,n3,k.df,fun e he=>?_⟩
       ·rw[e0];simp only[zpI,u1 _ (zcZ.refl _),hcls,p1,zvB,n1];rfl
       ·rcases zAX9.1 he with rfl|he
        ·intro c2 h2 nn df2 m2 hd2 hn2;exact zvm (hw' nn fun i u hu=>hn2 _ _ (n2 _ _ hu)) hdd (u1 nn fun i u hu=>hn2 _ _ (n2 _ _ hu)) (hn2 _ _ (n4 _ hdd)) hcls (zvO k.hr u2 hp p1 m2 hd2) (ziV p2 hc2)
        ·exact(k.K e he).move (Mo.refl _ _) (fun _ _ _ _=>rfl) n2
      ·cases hs
     ·cases hs
    ·cases hs
   ·rename_i hcls
    split at hs
    ·rename_i ob v hp
     split at hs
     ·rename_i hc;obtain⟨hc1,hc2,hc3⟩:=hc;obtain⟨dd,hdd⟩:=Option.isSome_iff_exists.1 hc1
      split at hs
      ·rename_i nm' hn;injection hs with hs;subst hs;obtain⟨x,c',p1,p2,p3,p4,⟨z,p5⟩,p6⟩:=zlO k.hr u2 hp;obtain⟨n',n1,n2,n3,n4⟩:=zjX (k.nm.mono p2) p4 hn;have hkeep:∀b,b<d.h.next->(d.h.push x.o).get b=d.h.get b:=fun b hb=>by rw[TH.get_push,if_neg (by omega)]
       have hnew:(d.h.push x.o).get d.h.next=some x.o:=by rw[TH.get_push,if_pos rfl]
       refine⟨c',⟨n',d.df,d.h.push x.o⟩,?_,p2,p3,k.tm.mono p2,n3,k.df.mono p2,fun e he=>?_⟩
       ·rw[e0];unfold zpI;rw[u1 _ (zcZ.refl _)];dsimp only;rw[hcls];(try dsimp only);rw[p1];unfold zvT;dsimp only;rw[n1];rfl
       ·rcases zAX9.1 he with rfl|he
        ·intro c2 h2 nn df2 m2 hd2 hn2;have hg2:=hd2 s.H.length (by simp) _ p5;dsimp only at hg2;rw[hnew]at hg2;exact zuW (hw' nn fun i u hu=>hn2 _ _ (n2 _ _ hu)) hdd (u1 nn fun i u hu=>hn2 _ _ (n2 _ _ hu)) (hn2 _ _ (n4 _ hdd)) hcls p6 p1 hg2 (ziV p4 hc3) (zwN p3 (List.getElem?_concat_length ..) hc2 p5 hnew)
        ·exact(k.K e he).move p2 (fun id _ y hy=>hkeep _ (k.hr.own _ _ hy).2.1) n2
      ·cases hs
     ·cases hs
    ·cases hs
   ·cases hs
theorem zeJ {B:Ba}{tm:Nat->PV}{t:Tr TV}:∀{ops:List zY} {c:Cx} {s s':DF} {d:DS},DSR B c tm t s d->zaq tm ops s=some s'->∃c' d',zhR t ops d=some d'/\Mo c c' d.h d'.h/\DSR B c' tm t s' d'
 | [],c,s,s',d,k,hs=>by injection hs with hs;subst hs;exact⟨c,d,rfl,Mo.refl _ _,k⟩
 | o::l,c,s,s',d,k,hs=>by
  unfold zaq at hs
  split at hs
  ·rename_i s1 h1;obtain⟨c1,d1,e1,m1,k1⟩:=zni k h1;obtain⟨c2,d2,e2,m2,k2⟩:=zeJ k1 hs;exact⟨c2,d2,by unfold zhR;rw[e1];exact e2,m1.trans m2,k2⟩
  ·cases hs
def zbe:List (zY×List Nat)->zY->Prop
 | [],_=>False
 | e::K,o=>if e.1.dst=o.dst then e.1=o else zbe K o
def za1 (K:List (zY×List Nat)):List zY->Prop
 | []=>True
 | o::l=>zbe K o/\za1 K l
theorem zpE:∀{K:List (zY×List Nat)} {o:zY},zbe K o->∃e∈K,e.1=o
 | [],_,h=>h.elim
 | e::K,o,h=>by
  unfold zbe at h
  split at h
  ·exact⟨e,by simp,h⟩
  ·obtain⟨e',h1,h2⟩:=zpE h;exact⟨e',zAT9 _ h1,h2⟩
theorem zia {B:Ba}{c:Cx}{tm:Nat->PV}{t:Tr TV}{s:DF}{d:DS}(k:DSR B c tm t s d):∀{l:List zY},za1 s.K l->zfM t d l=true
 | [],_=>rfl
 | o::l,h=>by
  obtain⟨e,he,rfl⟩:=zpE h.1;unfold zfM;rw[k.K e he c d.h d.nm d.df (Mo.refl _ _) (fun _ _ _ _=>rfl) (zcZ.refl _)];exact zia k h.2
def zaE (W:List Nat)(K:List (zY×List Nat)):List (zY×List Nat):=K.filter fun e=>e.2.all fun id=>!W.contains id
def WD (E:Env)(caught:Tr Unit)(tm:Nat->PV)(gs:List zb7)(s:DF)(Q:FX->DF->Prop):Prop :=
 ∀B c t d,DSR B c tm t s d->∃r x s' c' d',Ev E (fun C _=>zcy C caught t gs d=some r)/\Q x s'/\Mo c c' d.h d'.h/\DSR B c' tm t s' d'/\((x=.norm/\r=.go d')\/∃v u,x=.panic v/\r=.panic u d'.df d'.h/\VR c' d'.h v u)
variable {tm:Nat->PV}{s:DF}{Q:FX->DF->Prop}
theorem zM (h:Q .norm s):WD E caught tm [] s Q:=fun B c t d k=>⟨.go d,.norm,s,c,d,Ev.all fun _ _=>rfl,h,Mo.refl _ _,k,.inl ⟨rfl,rfl⟩⟩
theorem DSR.dput {B:Ba}{c c':Cx}{t:Tr TV}{d:DS}(k:DSR B c tm t s d){H':List zn}{h':TH}{K':List (zY×List Nat)}(m:Mo c c' d.h h')(hr:HR B c' H' h'){v:PV}{u:TV}(hv:VR c' h' v u){dst:Option Nat}{nm':Nat->PV}(hn:za0 s.nm dst v=some nm')
  (hK:∀n',zcZ d.nm n'->∀e∈K',Ent c' h' t n' e):∃n',zft d.nm dst u=some n'/\DSR B c' tm t ⟨nm',s.df,H',K'⟩ ⟨n',d.df,h'⟩:=by
 obtain⟨n',n1,n2,n3,n4⟩:=zjX (k.nm.mono m) hv hn;exact⟨n',n1,hr,k.tm.mono m,n3,k.df.mono m,hK n' n2⟩
theorem zxy {g:zb7}{l:List zb7}{s1:DF}(hc:za1 s.K g.chk)(hx:zaq tm g.exe s=some s1)(ha:g.act=none)(k:WD E caught tm l s1 Q):WD E caught tm (g::l) s Q:=fun B c t d hd=>by
 obtain⟨c1,d1,e1,m1,k1⟩:=zeJ hd hx;obtain⟨r,x,s',c',d',e2,q2,m2,k2,h2⟩:=k B c1 t d1 k1;refine⟨r,x,s',c',d',e2.mono fun C N e=>?_,q2,m1.trans m2,k2,h2⟩;unfold zcy;rw[zia hd hc,e1];dsimp only[cond_true];rw[ha];exact e
theorem zx5 {g:zb7}{l:List zb7}{s1:DF}{o:zY}{vs:List PV}{a:AR}{nm':Nat->PV}(hc:za1 s.K g.chk)(hx:zaq tm g.exe s=some s1)(ha:g.act=some o)(hw:zX tm s1.nm o.guard=some true)(hv:za4 tm s1.nm o.args=some vs)
  (hf:za9 s1.H o.kind vs=some a) (hn:za0 s1.nm o.dst a.v=some nm') (k:WD E caught tm l ⟨nm',s1.df,a.H,zaE a.W s1.K⟩ Q):WD E caught tm (g::l) s Q:=fun B c t d hd=>by
 obtain⟨c1,d1,e1,m1,k1⟩:=zeJ hd hx;obtain⟨us,u1,u2⟩:=zie k1.tm k1.nm hv;have hw':=zfN k1.tm k1.nm hw _ (zcZ.refl _);obtain⟨u,h',c2,p1,p2⟩:=zlj (C:=⟨fun _ _ _=>none,fun _ _ _=>none⟩) (caught:=caught) k1.hr u2 hf;have hsame:∀C,act C caught o.kind us d1.h=some (.ok u h'):=fun C=>by
  rw[<- p1];unfold za9 at hf
  split at hf
  ·rename_i e;rw[e];rfl
  ·rename_i e;rw[e];rfl
  ·rename_i e;rw[e];rfl
  ·rename_i e;rw[e];rfl
  ·cases hf
 obtain⟨n',n1,k2⟩:=k1.dput (K':=zaE a.W s1.K) p2.mo p2.hr p2.v hn fun n' hm e he=>by
  obtain⟨he1,he2⟩:=zCY9.1 he;refine(k1.K e he1).move p2.mo (fun id hi y hy=>p2.W id (fun hW=>?_) y hy) hm;have:=zBI9.1 he2 id hi;rw[zDB9.2 hW]at this
  cases this
 obtain⟨r,x,s',c',d',e2,q2,m2,k3,h2⟩:=k B c2 t _ k2;refine⟨r,x,s',c',d',e2.mono fun C N e=>?_,q2,(m1.trans p2.mo).trans m2,k3,h2⟩;unfold zcy;rw[zia hd hc,e1];dsimp only[cond_true];rw[ha];dsimp only;unfold zi3;rw[hw'];dsimp only;rw[u1 _ (zcZ.refl _)];dsimp only;rw[hsame C];simp only[ziU,Tw.dput,n1,dgo];exact e
theorem zez {g:zb7}{l:List zb7}{s1:DF}{o:zY}{nm':Nat->PV}(hc:za1 s.K g.chk)(hx:zaq tm g.exe s=some s1)(ha:g.act=some o)(hw:zX tm s1.nm o.guard=some false)(hn:za0 s1.nm o.dst (.tuple [])=some nm')(k:WD E caught tm l ⟨nm',s1.df,s1.H,s1.K⟩ Q):WD E caught tm (g::l) s Q:=fun B c t d hd=>by
 obtain⟨c1,d1,e1,m1,k1⟩:=zeJ hd hx;have hw':=zfN k1.tm k1.nm hw _ (zcZ.refl _);obtain⟨n',n1,k2⟩:=k1.dput (K':=s1.K) (Mo.refl _ _) k1.hr (VR.tupL LR.nil) hn fun n' hm e he=>(k1.K e he).move (Mo.refl _ _) (fun _ _ _ _=>rfl) hm;obtain⟨r,x,s',c',d',e2,q2,m2,k3,h2⟩:=k B c1 t _ k2;refine⟨r,x,s',c',d',e2.mono fun C N e=>?_,q2,m1.trans m2,k3,h2⟩;unfold zcy;rw[zia hd hc,e1];dsimp only[cond_true];rw[ha];dsimp only;unfold zi3;rw[hw'];simp only[Tw.dput,n1,dgo];exact e
def zaw (same:Bool)(K:List (zY×List Nat)):List (zY×List Nat):=if same then K else K.filter fun e=>e.2.isEmpty
def zxM (E:Env)(caught:Tr Unit)(tm:Nat->PV)(l:List zb7)(s:DF)(dst:Option Nat)(same:Bool)(Q:FX->DF->Prop):FE->List zn->Prop
 | .ret v,H'=>∃nm',za0 s.nm dst v=some nm'/\WD E caught tm l ⟨nm',s.df,H',zaw same s.K⟩ Q
 | .panic v,H'=>Q (.panic v) ⟨s.nm,s.df,H',zaw same s.K⟩
theorem zj1 {g:zb7}{l:List zb7}{s1:DF}{o:zY}{f:Nat}{caps vs:List PV}{same:Bool}(hc:za1 s.K g.chk)(hx:zaq tm g.exe s=some s1)(ha:g.act=some o)(hk:o.kind=.call)(hw:zX tm s1.nm o.guard=some true)(hv:za4 tm s1.nm o.args=some (.fn f caps::vs))
  (k:FO E f (vs++caps) s1.H same (zxM E caught tm l s1 o.dst same Q)):WD E caught tm (g::l) s Q:=fun B c t d hd=>by
 obtain⟨c1,d1,e1,m1,k1⟩:=zeJ hd hx;obtain⟨us,u1,u2⟩:=zie k1.tm k1.nm hv;obtain⟨u,us',rfl,u3,u4⟩:=u2.of_cons;obtain⟨cs,rfl,u5⟩:=u3.fn_inv;have hw':=zfN k1.tm k1.nm hw _ (zcZ.refl _);obtain⟨r,h',e,H',c2,f1,q1,m2,hr2,re,hsm⟩:=k B c1 d1.h _ k1.hr (u4.app u5);have hK:∀n',zcZ d1.nm n'->∀e∈zaw same s1.K,Ent c2 h' t n' e:=fun n' hm e he=>by
  unfold zaw at he
  split at he
  ·rename_i hs;exact(k1.K e he).move m2 (fun id _ y hy=>hsm hs id y hy) hm
  ·obtain⟨he1,he2⟩:=zCY9.1 he;refine(k1.K e he1).move m2 (fun id hi=>?_) hm;rw[List.isEmpty_iff]at he2;rw[he2]at hi;cases hi
 have hst:∀C,C.fn f (us'++cs) d1.h=some (r,h')->zcy C caught t (g::l) d=(match ziU o.dst d1 (ziD (some (r,h')))with
   | some (.go s)=>zcy C caught t l s
   | r=>r):=fun C hC=>by
  conv=>lhs;unfold zcy
  rw[zia hd hc,e1];dsimp only[cond_true];rw[ha];dsimp only;unfold zi3;rw[hw'];dsimp only;rw[u1 _ (zcZ.refl _)];dsimp only;rw[hk];simp only[act,zlk];rw[hC];generalize ziU o.dst d1 (ziD (some (r,h')))=zz
  cases zz with
  | none=>rfl
  | some zz=>cases zz<;>rfl
 cases e with
 | ret v =>
  cases r with
  | panic u=>exact re.elim
  | ret u =>
   obtain⟨nm',hn,q1⟩:=q1;obtain⟨n',n1,k2⟩:=k1.dput (K':=zaw same s1.K) m2 hr2 (v:=v) (u:=u) re hn hK;obtain⟨r2,x,s',c',d',e2,q2,m3,k3,h2⟩:=q1 B c2 t _ k2;refine⟨r2,x,s',c',d',Ev.and2 (fun C N a b=>?_) f1 e2,q2,(m1.trans m2).trans m3,k3,h2⟩;rw[hst C a];simp only[ziD,ziU,Tw.dput,n1,dgo];exact b
 | panic v =>
  cases r with
  | ret u=>exact re.elim
  | panic u =>
   refine⟨.panic u d1.df h',.panic v,⟨s1.nm,s1.df,H',zaw same s1.K⟩,c2,⟨d1.nm,d1.df,h'⟩,f1.mono fun C N a=>?_,q1,m1.trans m2,⟨hr2,k1.tm.mono m2,k1.nm.mono m2,k1.df.mono m2,hK _ (zcZ.refl _)⟩,.inr ⟨v,u,rfl,rfl,re⟩⟩;rw[hst C a];rfl
def zS (nm:Nat->PV):List Nat->(Nat->PV)->(Nat->PV)
 | [],tm=>tm
 | d::l,tm=>zS nm l (upd tm d (nm d))
def zj7:List Nat->(Nat->PV)->(Nat->PV)
 | [],tm=>tm
 | d::l,tm=>zj7 l (upd tm d .bad)
theorem zrx {c:Cx}{h:TH}{nm:Nat->PV}{n:Tr TV}(kn:nmR c h nm n):∀{ds:List Nat} {tm:Nat->PV} {t:Tr TV},tmR c h tm t->tmR c h (zS nm ds tm) (zir n ds t)
 | [],_,_,k=>k
 | d::l,tm,t,k=>by
  unfold zS zir;refine zrx kn fun i=>?_;unfold upd;rw[Tr.get_set]
  by_cases e:i=d
  ·rw[if_pos e,if_pos e];rcases kn d with⟨h1,_⟩|h1
   ·exact .inl h1
   ·exact .inr h1
  ·rw[if_neg e,if_neg e];exact k i
theorem zlq {c:Cx}{h:TH}:∀{ds:List Nat} {tm:Nat->PV} {t:Tr TV},tmR c h tm t->tmR c h (zj7 ds tm) (zfS ds t)
 | [],_,_,k=>k
 | d::l,tm,t,k=>by
  unfold zj7 zfS;refine zlq fun i=>?_;unfold upd;rw[Tr.get_set]
  by_cases e:i=d
  ·rw[if_pos e];exact .inl rfl
  ·rw[if_neg e,if_neg e];exact k i
def zi (ds:List Nat)(tm:Nat->PV)(Q:FX->FSt->Prop):FX->DF->Prop
 | .norm,s=>Q .norm ⟨zS s.nm ds tm,s.df,s.H⟩
 | x,s=>Q x ⟨zj7 ds tm,s.df,s.H⟩
theorem zag {rnd:Option Nat}{gs:List zb7}{ds:List Nat}{s:FSt}{Q:FX->FSt->Prop}(k:WD E caught s.tm gs ⟨fun _=>.bad,s.df,s.H,[]⟩ (zi ds s.tm Q)):W E caught rnd (.drawn gs ds) s Q:=fun B c t rnd' hs hn=>by
 obtain⟨r,x,s',c',d',e1,q1,m1,k1,h2⟩:=k B c t.tm ⟨.nil,t.df,t.h⟩ ⟨hs.hr,hs.tm,fun i=>.inl ⟨rfl,Tr.get_nil i⟩,hs.df,fun e he=>by cases he⟩;rcases h2 with⟨rfl,rfl⟩|⟨v,u,rfl,rfl,hv⟩
 ·exact⟨.norm,⟨zir d'.nm ds t.tm,d'.df,d'.h⟩,.norm,_,c',e1.mono fun C N e=>by unfold zbc;rw[e];rfl,q1,.norm,m1,⟨k1.hr,zrx k1.nm k1.tm,k1.df⟩⟩
 ·exact⟨.panic u,⟨zfS ds t.tm,d'.df,d'.h⟩,.panic v,_,c',e1.mono fun C N e=>by unfold zbc;rw[e];rfl,q1,.panic hv,m1,⟨k1.hr,zlq k1.tm,k1.df⟩⟩
end Fv
end Go.Proofs.YtfomlmhnmheenaaGreat
