/- part 7 of the proof of dir_holds. -/
import Derived.Test.YtkeknmgnoceogaaGreatDH6
import Derived.WalkKit
import Derived.WalkSpells
import Derived.WalkLawsBesides
import Derived.Lib.Hide
import Derived.Recover
import Derived.RecoverIn
import Derived.Shelf.Abstract
import Derived.Test.YtkeknmgnoceogaaGreatProg
set_option linter.unusedSimpArgs false
set_option linter.unusedVariables false
set_option linter.defProp false
set_option maxRecDepth 100000
set_option maxHeartbeats 4000000
namespace Go.Proofs.YtkeknmgnoceogaaGreat
open Tryz
namespace Fv
open Tw


def xG(H H':LQ):Prop:=∀(id:Nat) (o:za),H[id]?=some o->H'[id]?=some o
variable {H Hc:LQ}{a:Nat}{α:Type}{l:List α}
theorem xG.refl(H:LQ):xG H H:=fun _ _ h=>h
theorem xG.app(h:xG H Hc)(X:LQ):xG H (Hc++X):=fun id o a=>by
 have:=h id o a
 grind
theorem xG.set(h:xG H Hc)(ha:H.length<=a)(o':za):xG H (Hc.set a o'):=fun id o b=>by
 have c:=(Yl.1 b).1;rw[YD zo];exact h id o b
theorem vM{X:List α}{i:Nat}{x:α}(h:l[i]?=some x):(l++X)[i]?=some x:=by grind
theorem wR.other{vs ps:LJ}{nodes:LC}(h:wR H vs ps nodes){o o':za}(ha:H[a]?=some o)(ho:¬fm o)(X:LQ):wR ((H++X).set a o') vs ps nodes :=
 h.keep fun id q b c=>by grind
theorem Es(h:l ≠ []):∃f x,l=f++[x]:=⟨l.dropLast,l.getLast h,(Z1 h).symm⟩
theorem Bc{n:Nat}(h:l.length=n+1):∃f x,l=f++[x]/\f.length=n:=by
 obtain⟨f,x,rfl⟩:=Es (l:=l) (by grind)
 grind
theorem NT{lv:Nat}{ks:LP}{n:zi}(h:n∈xb lv ks):n.pairs.length<=18:=by
 unfold xb at h;obtain⟨i,_,rfl⟩:=Yx.1 h;show (((ks.drop (19*i)).take 19).drop 1).length<=18
 grind
theorem NP(H:LQ)(i8 g8 M8 i13 g13:Nat)(vs8 ps8:LJ)(l:LC)(bs:LN)(lv:Nat)(hr8:H[i8]?=some (.row 143 6 g8 M8 vs8))(hM8:M8<=g8)(hlv:wR H vs8 ps8 l)(hr13:H[i13]?=some (.row 3 1 g13 0 (wo bs)))(hlen:bs.length=l.length)(hl:l.length<=1000)(hl0:∀n∈l,n.level=lv)(hlv12:lv<=12)(hb:∀b∈bs,b<2048) :
  FO ET 76 [.sl i8 g8 0 l.length (2*l.length) 6,.sl i13 g13 0 l.length (2*l.length) 1] H false (fun e H'=>xG H H'/\∃idL g M vs ps,e=.ret (.sl idL g 0 vs.length (2*vs.length) 6)/\M<=g/\H.length<=idL/\H'[idL]?=some (.row 143 6 g M vs)/\wR H' vs ps (xb (lv+1) ((l.map zi.low).zip bs))/\∀p∈ps,∀a,xJ p=some a->H.length<=a):=by
 refine wF (eG T76 func76) ?_;have a4:((l.map zi.low).zip bs).length=l.length:=by simp[hlen]
 generalize a5:(l.map zi.low).zip bs=ks at *
 refine zG ?_;refine kp 143 6 (i:=5) rfl ?_;simp only[ya];refine vo (vG (fun m s=>∃(i:Nat) (Hc:LQ) (idL g M:Nat) (vs ps:LJ),m=l.length-i/\i<=l.length/\xG H Hc/\M<=g/\Hc[idL]?=some (.row 143 6 g M vs)/\H.length<=idL/\wR Hc vs ps (xb (lv+1) (ks.take i))/\(∀p∈ps,∀a,xJ p=some a->H.length<=a)/\s.tm 0=.sl i8 g8 0 l.length (2*l.length) 6/\s.tm 1=.sl i13 g13 0 l.length (2*l.length) 1/\s.tm 5=.sl idL g 0 vs.length (2*vs.length) 6/\s.tm 6=iv i/\s.df=[]/\s.H=Hc) (n:=l.length) ?_ ?_)
 .exact⟨0,_,H.length,0,0,[],[],rfl,Yv _,(xG.refl H).app _,Ym _,by simp,Ym _,(by rw[zCH9];exact wR.nil _),fun p d=>by simp at d,zt,zt,zt,zt,rfl,rfl⟩
 .rintro m ⟨tm,df,Hc⟩ ⟨i,Hc',idL,g,M,vs,ps,rfl,r,hst,hM,hL,hidL,hlvl,hids,h0,h1,h5,h6,rfl,rfl⟩;dsimp only at *
  refine vJ (jX h0 h6) ?_ ?_;rotate_left
  .intro j;have j:¬i<l.length:=vZ j;obtain rfl:i=l.length:=zo;refine uf h5 ?_;rw[<- a4,YR]at hlvl;exact⟨hst,idL,g,M,vs,ps,rfl,hM,hidL,hL,hlvl,hids⟩
  intro j;have j:i<l.length:=wa j;obtain⟨x,hx⟩:=uM (l:=l) j;obtain⟨b,C⟩:∃b,bs[i]?=some b:=⟨_,Yk zo⟩
  obtain⟨P,a6⟩:∃P,ps8[i]?=some P:=⟨_,Yk (by rw[hlv.lenP];exact j)⟩
  have D:=(hlv.val i x P hx a6).1;have J:(wo bs)[i]?=some (iv b):=by rw[YH,C];rfl
  have b7:=hb b (Yt C);have ca:=hl0 x (Yt hx);have a7:ks.getD i (0,0)=(x.low,b):=by
   have:ks[i]?=some (x.low,b):=by rw[<- a5,zAI9];exact⟨by grind,C⟩
   exact getD_some this
  have q:=NW (lv+1) ks i zo;rw[a7]at q;have Q:=hst i8 _ hr8;have K:=hst i13 _ hr13;have bx:(wo bs).length=l.length:=by rw[Yw,hlen]
  have r1:(i:Int).tmod 19=((i%19:Nat):Int):=rfl;have T:(xb (lv+1) (ks.take i)).length<=1000:=by rw[cS,YF];omega
  have N:=hlvl.lenV;refine vP ?_
  by_cases hm:i%19=0
  .have R:((i%19:Nat):Int)=0:=zo;have a8:IntKind.i64.wrap ((x.level:Int)+1)=((lv+1:Nat):Int):=yw;have z:(vs.length+1)*65<=140737488355328:=zo;have t:∀X,(Hc++X)[idL]?=some (.row 143 6 g M vs):=fun X=>vM hL;unfold rV at q;rw[if_pos hm]at q;refine zB ?_;refine zB ?_;refine vF (vn h6 r1 R) ?_;refine uF ?_;refine wH ?_;refine vS (xB h0 h1 h5 h6 Q K hL t D J j (vn hM8 a8 z)) ?_;refine vq h0 ?_;refine eE ?_;refine vu h6 ?_;refine⟨_,?m,i+1,_,idL,g+1,M,vs++[uU ⟨lv+1,0,x.low,b,0,[]⟩ .nilsl],ps++[.nilsl],rfl,j,(hst.app _).set hidL _,by omega,Yz (by grind),hidL,?L,?I,zu h0,zu h1,zt,zu h6,rfl,rfl⟩
   case m=>omega
   case L=>rw[q];exact(hlvl.snoc _ rfl).other hL (fun h=>absurd (show (143:Nat)=92 from h) zy) _
   case I =>
    intro p d a k;rcases YM.1 d with d|d
    .grind
    .obtain rfl:=YQ.1 d;cases k
  .have R:¬((i%19:Nat):Int)=0:=zo;have u:(xb (lv+1) (ks.take i)).length≠0:=by rw[cS,YF];omega
   obtain⟨front,nd,U⟩:=Es (l:=xb (lv+1) (ks.take i)) (fun e=>u (by grind));rw[U]at hlvl q T;have N:=hlvl.lenV;have V:=hlvl.lenP;rw[Yn]at N V;obtain⟨f,v,rfl,O⟩:=Bc N;obtain⟨pf,p,rfl,Z⟩:=Bc V;have ab:=hlvl.val front.length nd p (by simp) (by simp_all);have hv:v=uU nd p:=by
    have h:=ab.1;rw[<- O,YN (Ym _),zAG9]at h;injection h
   subst hv;have a9:=ab.2;have a0:=hids p (Z3 _ (YQ.2 rfl));unfold rV at q;rw[if_neg hm]at q;simp only[Z8,Z7]at q;have b0:f.length<=1000:=by rw[Yn]at T;omega
   have a1:IntKind.i64.wrap (((f.length+1:Nat):Int)-1)=(f.length:Int):=yw;have bb:(f++[uU nd p]).length=f.length+1:=by simp
   have A:f.length<f.length+1:=Zr _;have B:(f++[uU nd p])[f.length]?=some (uU nd p):=by simp
   have ad:∀y,(f++[uU nd p]).set f.length y=f++[y]:=fun y=>by simp
   have t:∀X,(Hc++X)[idL]?=some (.row 143 6 g M (f++[uU nd p])):=fun X=>vM hL;rw[bb]at h5;refine zB ?_;refine zB ?_;refine vF (vn h6 r1 R) ?_;refine yO ?_;refine uL ?_;refine zB ?_;refine zB ?_;refine vF (jX h5 a1) ?_;refine wH ?_;rcases a9 with⟨rfl,ah⟩|⟨c,w,rfl,av⟩
   .have z:1*17<=140737488355328:=zo;have a2:∀X Y,(Hc++X++Y)[idL]?=some (.row 143 6 g M (f++[uU nd .nilsl])):=fun X Y=>vM (vM hL);refine vS (xB h0 h1 h5 h6 Q K hL t hM D J (wd j hM8 B A)) ?_;refine vS (nH h0 h1 h5 h6 hL t a2 hM B A ad) ?_;refine vq h0 ?_;refine vu h6 ?_;have bm:idL<Hc.length:=(Yl.1 hL).1;refine⟨_,?m,i+1,_,idL,g,g,f++[uU (xf nd (nd.pairs++[(x.low,b)])) (.sl (Hc.length+1) 0 0 1 2 2)],pf++[.sl (Hc.length+1) 0 0 1 2 2],rfl,j,((hst.app _).app _).set hidL _,Ym _,?G,hidL,?L,?I,zu h0,zu h1,zu h5,zu h6,rfl,rfl⟩
    case m=>omega
    case G =>
     rw[Yz (by simp only[Yn,Yq,YK];omega)];simp[xf]
    case L =>
     rw[q];refine hlvl.last O Z ?_ (fun a k=>?_) (fun id o S r=>?_)
     .refine .inr ⟨Hc.length+1,0,by simp[xf,ah],?_⟩;rw[YD zo];simp[xf,ah]
     .right
      have:Hc.length+1=a:=by simpa[xJ]using k
      grind
     .left
      have u:idL≠id:=fun e=>by subst e;rw[hL]at r;cases r;exact absurd (show (143:Nat)=92 from S) zy
      rw[YD u];exact vM (vM r)
    case I =>
     intro p d a k;rcases YM.1 d with d|d
     .exact hids p (ZO _ d) a k
     .obtain rfl:=YQ.1 d;have:Hc.length+1=a:=by simpa[xJ]using k
      omega
   .have b5:nd.pairs.length<=18:=NT (n:=nd) (by rw[U];simp);have z:(nd.pairs.length+1)*17<=140737488355328:=zo;have bo:∀X,(Hc++X)[c]?=some (.row 92 2 w 0 (nd.pairs.map pv)):=fun X=>vM av;have b6:c<Hc.length:=(Yl.1 av).1;have a3:H.length<=c:=a0 c rfl;have d1:idL≠c:=fun e=>by grind
    have d2:i8≠c:=by have:=(Yl.1 hr8).1;omega
    have d3:i13≠c:=by have:=(Yl.1 hr13).1;omega
    have d4:Hc.length≠c:=zo;have b1:(idL==c)=false:=by simpa using d1
    have b2:(i8==c)=false:=by simpa using d2
    have b3:(i13==c)=false:=by simpa using d3
    have b4:(Hc.length==c)=false:=by simpa using d4
    have cb:(c==idL)=false:=by simpa using d1.symm
    have cc:(c==i8)=false:=by simpa using d2.symm
    have ch:(c==i13)=false:=by simpa using d3.symm
    have bp:(c==Hc.length)=false:=by simpa using d4.symm
    have bw:∀X y,((Hc++X).set c y)[idL]?=some (.row 143 6 g M (f++[uU nd (.sl c w 0 nd.pairs.length (2*nd.pairs.length) 2)])):=fun X y=>by rw[YD (fun e=>d1 e.symm)];exact vM hL
    refine vS (xB h0 h1 h5 h6 Q K hL t hM D J (uN j hM8 B A bo z)) ?_;refine ki (bq bw B A ad b1 b2 b3 b4 bp) ?_;refine vq h0 ?_;refine vu h6 ?_;have bm:idL<Hc.length:=(Yl.1 hL).1;refine⟨_,?m,i+1,_,idL,g,g,f++[uU (xf nd (nd.pairs++[(x.low,b)])) (.sl c (w+1) 0 (nd.pairs.length+1) (2*(nd.pairs.length+1)) 2)],pf++[.sl c (w+1) 0 (nd.pairs.length+1) (2*(nd.pairs.length+1)) 2],rfl,j,((hst.app _).set a3 _).set hidL _,Ym _,?G,hidL,?L,?I,zu h0,zu h1,zu h5,zu h6,rfl,rfl⟩
    case m=>omega
    case G =>
     rw[Yz (by simp only[Y1,Yn,Yq,YK];omega)];simp[xf]
    case L =>
     rw[q];refine hlvl.last O Z ?_ (fun a k=>?_) (fun id o S r=>?_)
     .refine .inr ⟨c,w+1,by simp[xf],?_⟩;rw[YD d1,Yz (by simp only[Yn,Yq,YK];omega)];simp[xf]
     .left
      exact k
     .by_cases he:c=id
      .right;rw[<- he];rfl
      .left
       have u:idL≠id:=fun e=>by subst e;rw[hL]at r;cases r;exact absurd (show (143:Nat)=92 from S) zy
       rw[YD u,YD he];exact vM r
    case I =>
     intro p d a k;rcases YM.1 d with d|d
     .exact hids p (ZO _ d) a k
     .obtain rfl:=YQ.1 d;have:c=a:=by simpa[xJ]using k
      omega


def xh(a:Nat)(H H':LQ):Prop:=∀(id:Nat) (o:za),id≠a->H[id]?=some o->H'[id]?=some o
variable {H':LQ}{Q:FX->vd->Prop}{n:zi}{o o':za}{p:PV}{ps vs:LJ}(bs:LN)
theorem xh.refl(a:Nat)(H:LQ):xh a H H:=fun _ _ _ h=>h
theorem xh.app(h:xh a H Hc)(X:LQ):xh a H (Hc++X):=fun id o b c=>vM (h id o b c)
theorem xh.set(h:xh a H Hc)(o':za):xh a H (Hc.set a o'):=fun id o b c=>by
 rw[YD (fun e=>b e.symm)];exact h id o b c
theorem xh.trans{H'':LQ}(h:xh a H H')(k:xh a H' H''):xh a H H'':=fun id o b c=>k id o b (h id o b c)
theorem la{X:LQ}(h:H[a]?=some o):((H++X).set a o')[a]?=some o':=by grind
theorem O7(q:Nat)(free:LN)(used n:Nat)(hfl:free.length<1000000)(hul:used+n<=free.length)(tm:Nat->PV)(H:LQ)(idL g:Nat)(z8:Nat)(idA:Nat)(hA:H[idA]?=some (.row 3 1 0 0 []))(h1:tm 1=.list q 1 (wo free))(h8:tm 8=.sl idL g 0 n z8 6)(h12:tm 12=iv used)(h13:tm 13=.sl idA 0 0 0 0 1)(h14:tm 14=iv 0)(hQ:∀(tm':Nat->PV) (H':LQ),xh idA H H'->H'[idA]?=some (.row 3 1 n 0 (wo ((free.drop used).take n)))->(∀k,k≠13->k≠14->(k<74\/88<k)->tm' k=tm k)->tm' 13=.sl idA n 0 n (2*n) 1->Q .norm ⟨tm',[],H'⟩):
  W ET ET.caught none c36_4 ⟨tm,[],H⟩ Q:=by
 unfold c36_4 xC;have f:∀i,i<n->((free.drop used).take n)[i]?=some (free.getD (used+i) 0):=fun i p=>by
  grind
 have y:((free.drop used).take n).length=n:=by rw[YF,Y0];omega
 generalize z:(free.drop used).take n=bs at *
 refine vo (vG (fun m s=>∃(i:Nat) (Hc:LQ),m=n-i/\i<=n/\xh idA H Hc/\Hc[idA]?=some (.row 3 1 i 0 (wo (bs.take i)))/\(∀k,k≠13->k≠14->(k<74\/88<k)->s.tm k=tm k)/\s.tm 13=.sl idA i 0 i (2*i) 1/\s.tm 14=iv i/\s.df=[]/\s.H=Hc) (n:=n) ?_ ?_)
 .exact⟨0,H,rfl,Yv _,.refl _ _,hA,fun k _ _ _=>rfl,h13,h14,rfl,rfl⟩
 .rintro m ⟨tn,df,Hc⟩ ⟨i,Hc',rfl,p,hst,hr,hf,h13',h14',rfl,rfl⟩;dsimp only at hf h13' h14';have h:=(hf 1 zy zy zy).trans h1;have j:=(hf 8 zy zy zy).trans h8;have d:=(hf 12 zy zy zy).trans h12;refine vJ (jX j h14') ?_ ?_
  .intro a;have a:i<n:=wa a;have c:used+i<free.length:=zo;have l:(wo free)[used+i]?=some (iv (free.getD (used+i) 0:Nat)):=by rw[YH,Yk c,Yu,Yk c];rfl
   have r:((used:Int)+(i:Int))=((used+i:Nat):Int):=zo;have o:(i+1)*9<=140737488355328:=zo;have e:(wo (bs.take i)).length=i:=by rw[Yw,YF];omega
   have t:∀X,(Hc++X)[idA]?=some (.row 3 1 i 0 (wo (bs.take i))):=fun X=>vM hr;have x:wo (bs.take (i+1))=wo (bs.take i)++[iv (free.getD (used+i) 0:Nat)]:=by
    rw[YO,f i a];simp
   generalize free.getD (used+i) 0=b at *
   refine vP ?_;refine zB ?_;refine vu (mG h d h13' h14' r c l o e t) ?_;refine vu h14' ?_;refine⟨_,?m,i+1,_,rfl,a,(hst.app _).set _,?G,fun k u v w=>?_,zt,zu h14',rfl,rfl⟩
   case m=>omega
   case G=>grind
   .simp(disch:=omega)only[yD];grind
  .intro a;have a:¬i<n:=vZ a;obtain rfl:i=n:=zo;refine hQ _ Hc hst (by grind) (fun k u v w=>?_) (by simp[zb,h13']);simp(disch:=omega)only[yD]
   grind
theorem O9(ws:LN)(i b:Nat)(hb:bs[i]?=some b)(hbm:b<2048)(hws:ws.length=64)(hbs:bs.length<1000000)(tm:Nat->PV)(H:LQ)(idO:Nat)(V0:LJ)(hV0:V0.length<1000000)(idA gA:Nat)(hne:idA≠idO)(hO:H[idO]?=some (.row 120 2 V0.length 0 V0))(hA:H[idA]?=some (.row 3 1 gA 0 (wo bs)))(h11:tm 11=.sl idO V0.length 0 V0.length (2*V0.length) 2)(h13:tm 13=.sl idA gA 0 bs.length (2*bs.length) 1)(h15:tm 15=iv i)(h16:tm 16=wv 0 ws)(h17:tm 17=iv 0)(hQ:∀(tm':Nat->PV) (H':LQ) (V:LJ),V=V0++(py b ws).map vm->xh idO H H'->H'[idO]?=some (.row 120 2 V.length 0 V)->(∀k,k≠11->k≠17->(k<114\/132<k)->tm' k=tm k)->tm' 11=.sl idO V.length 0 V.length (2*V.length) 2->Q .norm ⟨tm',[],H'⟩):
  W ET ET.caught none c36_8 ⟨tm,[],H⟩ Q:=by
 unfold c36_8 xC;refine vo (vG (fun m s=>∃(j:Nat) (V:LJ) (Hc:LQ),m=64-j/\j<=64/\V=V0++((List.range j).map fun k=>(64*b+k,ws.getD k 0)).map vm/\xh idO H Hc/\Hc[idO]?=some (.row 120 2 V.length 0 V)/\(∀k,k≠11->k≠17->(k<114\/132<k)->s.tm k=tm k)/\s.tm 11=.sl idO V.length 0 V.length (2*V.length) 2/\s.tm 17=iv j/\s.df=[]/\s.H=Hc) (n:=64) ?_ ?_)
 .exact⟨0,V0,H,rfl,Yv _,by simp,.refl _ _,hO,fun k _ _ _=>rfl,h11,h17,rfl,rfl⟩
 .rintro m ⟨tn,df,Hc⟩ ⟨j,V,Hc',rfl,hj,hV,hst,hr,hf,h11',h17',rfl,rfl⟩;dsimp only at hf h11' h17';have e:=(hf 13 zy zy zy).trans h13;have d:=(hf 15 zy zy zy).trans h15;have f:=(hf 16 zy zy zy).trans h16;have y:V.length=V0.length+j:=by rw[hV];simp
  refine vJ h17' ?_ ?_
  .intro a;have a:j<64:=wa a;have g:=hst idA _ hne hA;have h:(wo bs)[i]?=some (iv b):=by rw[YH,hb];rfl
   have l:i<bs.length:=(Yl.1 hb).1;have c:j<ws.length:=zo;have o:(ws.map uv)[j]?=some (uv (ws.getD j 0)):=by rw[YH,Yk c,Yu,Yk c];rfl
   have p:(V.length+1)*17<=140737488355328:=zo;have q:V++[vm (64*b+j,ws.getD j 0)]=V0++((List.range (j+1)).map fun k=>(64*b+k,ws.getD k 0)).map vm:=by rw[Zw,hV];simp
   have r:IntKind.i64.wrap (64*(b:Int))=((64*b:Nat):Int):=yw;have t:IntKind.i64.wrap (((64*b:Nat):Int)+(j:Int))=((64*b+j:Nat):Int):=yw;have u:∀X,(Hc++X)[idO]?=some (.row 120 2 V.length 0 V):=fun X=>vM hr;refine vP ?_;refine wH ?_;refine vS (xB h11' e d f h17' g h l c o r (vn t p u)) ?_;refine vq d ?_;refine vu h17' ?_;refine⟨_,?m,j+1,V++[vm (64*b+j,ws.getD j 0)],_,rfl,a,q,(hst.app _).set _,?G,fun k v w x=>?_,zt,zu h17',rfl,rfl⟩
   case m=>omega
   case G=>rw[la hr,Yn];rfl
   .simp(disch:=omega)only[yD];grind
  .intro a;have a:¬j<64:=vZ a;obtain rfl:j=64:=zo;refine hQ _ Hc V (by rw[hV,py,hws]) hst hr (fun k v w x=>?_) (by simp[zb,h11']);simp(disch:=omega)only[yD]
   grind


theorem Iq{l:LP}(h:n∈yH l):n.pairs.length<=18:=by
 rw[om]at h;obtain⟨i,_,rfl⟩:=Yx.1 h;show ((l.drop (18*i)).take 18).length<=18
 grind
theorem O6(p:Nat)(l:LP)(hl:l.length<=500)(tm:Nat->PV)(H:LQ)(idL g0 M0:Nat)(vs0 ps0:LJ)(hM0:M0<=g0)(hL0:H[idL]?=some (.row 143 6 g0 M0 vs0))(hlv0:wR H vs0 ps0 (yH []))(h0:tm 0=vO p l)(h8:tm 8=.sl idL g0 0 vs0.length (2*vs0.length) 6)(h9:tm 9=iv 0)(hQ:∀(tm':Nat->PV) (H':LQ) (g M:Nat) (vs ps:LJ),M<=g->H'[idL]?=some (.row 143 6 g M vs)->wR H' vs ps (yH l)->(∀k,k≠8->k≠9->k≠10->(k<34\/73<k)->tm' k=tm k)->tm' 8=.sl idL g 0 vs.length (2*vs.length) 6->Q .norm ⟨tm',[],H'⟩):
  W ET ET.caught none c36_0 ⟨tm,[],H⟩ Q:=by
 unfold c36_0 xC;refine vo (vG (fun m s=>∃(i:Nat) (Hc:LQ) (g M:Nat) (vs ps:LJ),m=l.length-i/\i<=l.length/\M<=g/\Hc[idL]?=some (.row 143 6 g M vs)/\wR Hc vs ps (yH (l.take i))/\(∀k,k≠8->k≠9->k≠10->(k<34\/73<k)->s.tm k=tm k)/\s.tm 8=.sl idL g 0 vs.length (2*vs.length) 6/\s.tm 9=iv i/\s.df=[]/\s.H=Hc) (n:=l.length) ?_ ?_)
 .exact⟨0,H,g0,M0,vs0,ps0,rfl,Yv _,hM0,hL0,by rw[zCH9];exact hlv0,fun k _ _ _ _=>rfl,h8,h9,rfl,rfl⟩
 .rintro m ⟨tn,df,Hc⟩ ⟨i,Hc',g,M,vs,ps,rfl,B,t,c,j,hf,f,b,rfl,rfl⟩;dsimp only at hf f b;have V:=(hf 0 zy zy zy zy).trans h0;refine vJ (jX V b) ?_ ?_;rotate_left
  .intro r;have r:¬i<l.length:=vZ r;obtain rfl:i=l.length:=zo;rw[YR]at j;refine hQ _ Hc g M vs ps t c j (fun k u w z A=>?_) (by simp[zb,f]);simp(disch:=omega)only[yD]
   grind
  intro r;have r:i<l.length:=wa r;obtain⟨x,hx⟩:=uM (l:=l) r;have Z:(l.map pv)[i]?=some (pv x):=wB hx;have I:=Tc l i r;rw[getD_some hx]at I;have r1:(i:Int).tmod 18=((i%18:Nat):Int):=rfl;have b5:(yH (l.take i)).length<=28:=by rw[dt,YF];omega
  have P:=j.lenV;have av:∀n∈nb i x (yH (l.take i)),n.pairs.length<=18:=by
   intro n D;unfold nb at D
   split at D
   .rcases YM.1 D with D|D
    .exact Iq D
    grind
   .exact Iq D
  have a0:nb i x (yH (l.take i)) ≠ []:=by
   unfold nb
   split
   .simp
   .intro e;have:=congrArg List.length e;rw[dt]at this;grind
  have a1:(nb i x (yH (l.take i))).length<=29:=by
   unfold nb
   split
   .grind
   .omega
  generalize C:nb i x (yH (l.take i))=nodes at I av a0 a1;refine vP ?_;refine vj (xH (Q:=fun y J=>y=.norm/\∃(g M:Nat) (vs ps:LJ),M<=g/\J.H[idL]?=some (.row 143 6 g M vs)/\wR J.H vs ps nodes/\(∀k,k≠8->k≠9->k≠10->(k<34\/73<k)->J.tm k=tn k)/\J.tm 8=.sl idL g 0 vs.length (2*vs.length) 6/\J.tm 9=iv i/\J.df=[]) ?_ ?_)
  .by_cases hm:0<i/\i%18=0
   .have g1:((i%18:Nat):Int)=0:=zo;have g0:(0:Int)<(i:Int):=zo;have U:(vs.length+1)*65<=140737488355328:=zo;have K:∀X,(Hc++X)[idL]?=some (.row 143 6 g M vs):=fun X=>vM c;unfold nb at C;rw[if_pos hm]at C;refine zB ?_;refine zB ?_;refine vF (wd b r1 g1 g0) ?_;refine uF ?_;refine vX ?_;refine w9 (uc V f b Z r U K) ?_;refine⟨rfl,g+1,M,vs++[uU ⟨0,0,x.1,9223372036854775808,0,[]⟩ .nilsl],ps++[.nilsl],by omega,la c,?_,fun k u w z A=>?_,zt,zu b,rfl⟩
    .rw[<- C];exact(j.snoc _ rfl).other c (fun h=>absurd (show (143:Nat)=92 from h) zy) _
    .simp(disch:=omega)only[yD]
   .unfold nb at C;rw[if_neg hm]at C
    by_cases g0:0<i
    .have a9:(0:Int)<(i:Int):=zo;have g1:¬((i%18:Nat):Int)=0:=zo;refine zB ?_;refine zB ?_;refine vF (wd b r1 g1 a9) ?_;refine yO ?_;refine wY ⟨rfl,g,M,vs,ps,t,c,by rw[<- C];exact j,fun k u w z A=>?_,zu f,zu b,rfl⟩;simp(disch:=omega)only[yD]
    .obtain rfl:i=0:=zo;refine zB ?_;refine zB ?_;refine vF b ?_;refine yO ?_;refine wY ⟨rfl,g,M,vs,ps,t,c,by rw[<- C];exact j,fun k u w z A=>?_,zu f,zu b,rfl⟩;simp(disch:=omega)only[yD]
  clear t c j P f b;rintro y ⟨tq,df,Hc⟩ ⟨rfl,g,M,vs,ps,t,c,j,R,f,b,rfl⟩;dsimp only at t c j R f b;have N:=(R 0 zy zy zy zy).trans V;obtain⟨front,nd,bb⟩:=Es (l:=nodes) a0;subst bb;have P:=j.lenV;have a2:=j.lenP;rw[Yn]at P a2;obtain⟨d,v,rfl,ab⟩:=Bc P;obtain⟨pf,p',rfl,ad⟩:=Bc a2;have a3:=j.val front.length nd p' (by simp) (by rw[<- ad];simp);have hv:v=uU nd p':=by
   have h:=a3.1;rw[<- ab,YN (Ym _),zAG9]at h;injection h
  subst hv;have bm:=a3.2;have b0:nd.pairs.length<=18:=av nd (Z3 _ (YQ.2 rfl));unfold tv at I;simp only[Z8,Z7]at I;have b2:d.length<=1000:=by rw[Yn]at a1;omega
  have a7:IntKind.i64.wrap (((d.length+1:Nat):Int)-1)=(d.length:Int):=yw;have bo:(d++[uU nd p']).length=d.length+1:=by simp
  have S:d.length<d.length+1:=Zr _;have T:(d++[uU nd p'])[d.length]?=some (uU nd p'):=by simp
  have a4:∀y,(d++[uU nd p']).set d.length y=d++[y]:=fun y=>by simp
  have K:∀X,(Hc++X)[idL]?=some (.row 143 6 g M (d++[uU nd p'])):=fun X=>vM c;rw[bo]at f;refine zB ?_;refine zB ?_;refine vF (jX f a7) ?_;refine wH ?_;rcases bm with⟨rfl,a5⟩|⟨q,O,rfl,a6⟩
  .have a8:∀X Y,(Hc++X++Y)[idL]?=some (.row 143 6 g M (d++[uU nd .nilsl])):=fun X Y=>vM (vM c);refine vS (mG N f b c K t Z r T S) ?_;refine vS (mG N f b c K a8 t T S a4) ?_;refine vq N ?_;refine vu b ?_;have bp:idL<Hc.length:=(Yl.1 c).1;refine⟨_,?m,i+1,_,g,g,d++[uU (xf nd (nd.pairs++[x])) (.sl (Hc.length+1) 0 0 1 2 2)],pf++[.sl (Hc.length+1) 0 0 1 2 2],rfl,r,Ym _,?G,?L,fun k u w z A=>?_,zu f,zu b,rfl,rfl⟩
   case m=>omega
   case G =>
    rw[Yz (by simp only[Yn,Yq,YK];omega)];simp[xf]
   case L =>
    rw[I];refine j.last ab ad ?_ (fun a ha=>?_) (fun id o ho B=>?_)
    .refine .inr ⟨Hc.length+1,0,by simp[xf,a5],?_⟩;rw[YD zo];simp[xf,a5]
    .right
     have:Hc.length+1=a:=by simpa[xJ]using ha
     omega
    .left
     have ah:idL≠id:=fun e=>by subst e;rw[c]at B;cases B;exact absurd (show (143:Nat)=92 from ho) zy
     rw[YD ah];exact vM (vM B)
   .simp(disch:=omega)only[yD];exact(R k u w z A).trans (hf k u w z A)
  .have U:(nd.pairs.length+1)*17<=140737488355328:=zo;have bs:∀X,(Hc++X)[q]?=some (.row 92 2 O 0 (nd.pairs.map pv)):=fun X=>vM a6;have b3:q<Hc.length:=(Yl.1 a6).1;have d1:idL≠q:=fun e=>by grind
   have d4:Hc.length≠q:=zo;have b1:(idL==q)=false:=by simpa using d1
   have b4:(Hc.length==q)=false:=by simpa using d4
   have b6:(q==idL)=false:=by simpa using d1.symm
   have bw:(q==Hc.length)=false:=by simpa using d4.symm
   have bx:∀X y,((Hc++X).set q y)[idL]?=some (.row 143 6 g M (d++[uU nd (.sl q O 0 nd.pairs.length (2*nd.pairs.length) 2)])):=fun X y=>by rw[YD (fun e=>d1 e.symm)];exact vM c
   refine vS (xB N f b c K t Z r T S bs U) ?_;refine ki (uc bx T S a4 b1 b4 bw) ?_;refine vq N ?_;refine vu b ?_;have bp:idL<Hc.length:=(Yl.1 c).1;refine⟨_,?m,i+1,_,g,g,d++[uU (xf nd (nd.pairs++[x])) (.sl q (O+1) 0 (nd.pairs.length+1) (2*(nd.pairs.length+1)) 2)],pf++[.sl q (O+1) 0 (nd.pairs.length+1) (2*(nd.pairs.length+1)) 2],rfl,r,Ym _,?G,?L,fun k u w z A=>?_,zu f,zu b,rfl,rfl⟩
   case m=>omega
   case G =>
    rw[Yz (by simp only[Y1,Yn,Yq,YK];omega)];simp[xf]
   case L =>
    rw[I];refine j.last ab ad ?_ (fun a ha=>?_) (fun id o ho B=>?_)
    .refine .inr ⟨q,O+1,by simp[xf],?_⟩;rw[YD d1,Yz (by simp only[Yn,Yq,YK];omega)];simp[xf]
    .left
     exact ha
    .by_cases he:q=id
     .right;rw[<- he];rfl
     .left
      have ah:idL≠id:=fun e=>by subst e;rw[c]at B;cases B;exact absurd (show (143:Nat)=92 from ho) zy
      rw[YD ah,YD he];exact vM B
   .simp(disch:=omega)only[yD];exact(R k u w z A).trans (hf k u w z A)


theorem wR.setNode{nodes:LC}(h:wR H vs ps nodes){q:Nat}{n':zi}(hn:nodes[q]?=some n)(hp:ps[q]?=some p)(he:n'.pairs=n.pairs):wR H (vs.set q (uU n' p)) ps (nodes.set q n'):=by
 have c:q<nodes.length:=(Yl.1 hn).1;refine⟨by simp[h.lenV],by simp[h.lenP],fun r m x a b=>?_,h.dist⟩
 by_cases d:r=q
 .subst d;rw[Yz c]at a;rw[Yz (by rw[h.lenV];exact c)]
  cases a
  rw[hp]at b;cases b
  exact⟨rfl,by rw[he];exact(h.val r n p hn hp).2⟩
 .rw[YD (fun e=>d e.symm)]at a⊢;exact h.val r m x a b
theorem wR.but{nodes:LC}(h:wR H vs ps nodes)(ha:H[a]?=some o)(ho:¬fm o)(k:xh a H H'):wR H' vs ps nodes :=
 h.keep fun id q c b=>k id q (fun e=>by grind) b
theorem wR.set0{nodes:LC}(h:wR H vs ps nodes)(ha:H[a]?=some o)(ho:¬fm o):wR (H.set a o') vs ps nodes :=
 h.but ha ho ((xh.refl a H).set o')
theorem cM.frz{ps:LP}(h:cM H p ps):zf H 1 p (vO 1 ps):=by
 rcases h with⟨rfl,rfl⟩|⟨id,g,rfl,h2⟩
 .exact .nil _ _
 .exact zf.wh h2 rfl (by simp) (by simp) uo fh
def gR(bs:LN)(q:Nat)(n:zi):zi:={ n with sib:=bs.getD (q+1) 0 }
theorem O8(nl:LC)(hbl:bs.length=nl.length)(hnl:nl.length<=100)(hbm:∀b∈bs,b<2048)(hg:∀n∈nl,uO n/\n.sib=0)(tm:Nat->PV)(H:LQ)(idL idA idO g M0 gA:Nat)(vs0 ps V0:LJ)(hV0:V0.length<900000)(hM0:M0<=g)(hL0:H[idL]?=some (.row 143 6 g M0 vs0))(hlv0:wR H vs0 ps nl)(hA0:H[idA]?=some (.row 3 1 gA 0 (wo bs)))(hO0:H[idO]?=some (.row 120 2 V0.length 0 V0))(h8:tm 8=.sl idL g 0 nl.length (2*nl.length) 6)(h11:tm 11=.sl idO V0.length 0 V0.length (2*V0.length) 2)(h13:tm 13=.sl idA gA 0 bs.length (2*bs.length) 1)(h15:tm 15=iv 0)(hQ:∀(tm':Nat->PV) (H':LQ) (M:Nat) (vs V:LJ),M<=g->H'[idL]?=some (.row 143 6 g M vs)->wR H' vs ps (wz bs nl)->H'[idA]?=some (.row 3 1 gA 0 (wo bs))->H'[idO]?=some (.row 120 2 V.length 0 V)->V=V0++(mw bs (wz bs nl)).map vm->(∀k,k<11\/(11<k/\k<15)\/132<k->tm' k=tm k)->tm' 11=.sl idO V.length 0 V.length (2*V.length) 2->Q .norm ⟨tm',[],H'⟩):
  W ET ET.caught none c36_6 ⟨tm,[],H⟩ Q:=by
 unfold c36_6 xC;have cb:=aR bs nl hbl;have bx:∀i,(((bs.zip (wz bs nl)).take i).flatMap fun x=>py x.1 (uR x.2)).length<=64*i:=fun i=>by
  rw[DP,YF];omega
 refine vo (vG (fun m s=>∃(i:Nat) (Hc:LQ) (M:Nat) (vs V:LJ) (nodes:LC),m=nl.length-i/\i<=nl.length/\M<=g/\Hc[idL]?=some (.row 143 6 g M vs)/\wR Hc vs ps nodes/\nodes.length=nl.length/\(∀(q:Nat) (n:zi),nl[q]?=some n->nodes[q]?=some (if q<i then gR bs q n else n))/\Hc[idA]?=some (.row 3 1 gA 0 (wo bs))/\Hc[idO]?=some (.row 120 2 V.length 0 V)/\V=V0++(((bs.zip (wz bs nl)).take i).flatMap fun x=>py x.1 (uR x.2)).map vm/\(∀k,k<11\/(11<k/\k<15)\/132<k->s.tm k=tm k)/\s.tm 11=.sl idO V.length 0 V.length (2*V.length) 2/\s.tm 15=iv i/\s.df=[]/\s.H=Hc) (n:=nl.length) ?_ ?_)
 .exact⟨0,H,M0,vs0,V0,nl,rfl,Yv _,hM0,hL0,hlv0,rfl,fun q n j=>by grind,hA0,hO0,by simp,fun k _=>rfl,h11,h15,rfl,rfl⟩
 .rintro m ⟨tn,df,Hc⟩ ⟨i,Hc',M,vs,V,nodes,rfl,hi,t,d,c,z,r,o,u,hV,hf,h11',a,rfl,rfl⟩;dsimp only at hf h11' a;have B:=(hf 8 zy).trans h8;have Z:=(hf 13 zy).trans h13;have ca:=bx i;have b7:V.length<=V0.length+64*i:=by rw[hV,Yn,Yw];omega
  refine vJ (jX B a) ?_ ?_;rotate_left
  .intro f;have f:¬i<nl.length:=vZ f;obtain rfl:i=nl.length:=zo;have a7:nodes=wz bs nl:=by
    apply Zn
    intro q;rcases ZW q nl.length with v|v
    .have j:=Yk v;rw[r q _ j,if_pos v,fC bs nl q _ hbl j];rfl
    .grind
   rw[a7]at c;refine hQ _ Hc M vs V t d c o u ?_ (fun k J=>?_) (by simp[zb,h11'])
   .rw[hV,YV (by simp;omega)];rfl
   .simp(disch:=omega)only[yD];exact hf k J
  intro f;have f:i<nl.length:=wa f;obtain⟨x,K⟩:=uM (l:=nl) f;obtain⟨b,T⟩:∃b,bs[i]?=some b:=⟨_,Yk zo⟩
  obtain⟨p,U⟩:∃p,ps[i]?=some p:=⟨_,Yk (by rw[c.lenP];omega)⟩
  have C:nodes[i]?=some x:=by have:=r i x K;rwa [if_neg (Nat.lt_irrefl _)]at this
  have D:=(c.val i x p C U).1;have ab:=hg x (Yt K);have ad:=fC bs nl i x hbl K;change (wz bs nl)[i]?=some (gR bs i x)at ad;have a8:=hbm b (Yt T);have a9:bs.getD (i+1) 0<2048:=by
   rcases ZW (i+1) bs.length with h|h
   .rw[Yu,Yk h];exact hbm _ (YX _)
   .rw[Yu,Za zo];decide
  have P:uO (gR bs i x):=ab.1.setSib a9;have ah:idO≠idL:=fun e=>by grind
  have b0:idA≠idL:=fun e=>by grind
  have av:idA≠idO:=fun e=>by grind
  have X:((i:Int)+1)=((i+1:Nat):Int):=zo;have bb:i<vs.length:=by rw[c.lenV];omega
  refine vP ?_;refine vj (xH (Q:=fun y w=>y=.norm/\∃(M:Nat) (vs:LJ) (nodes:LC),M<=g/\w.H[idL]?=some (.row 143 6 g M vs)/\wR w.H vs ps nodes/\nodes.length=nl.length/\(∀(q:Nat) (n:zi),nl[q]?=some n->nodes[q]?=some (if q<i+1 then gR bs q n else n))/\w.H[idA]?=some (.row 3 1 gA 0 (wo bs))/\w.H[idO]?=some (.row 120 2 V.length 0 V)/\(∀k,k<15\/132<k->w.tm k=tn k)/\w.tm 15=iv i/\w.df=[]) ?_ ?_)
  .by_cases cc:i+1<nl.length
   .have Y:((i+1:Nat):Int)<(nl.length:Nat):=zo;have R:i+1<bs.length:=zo;have b1:(wo bs)[i+1]?=some (iv (bs.getD (i+1) 0:Nat)):=by rw[YH,Yk R,Yu,Yk R];rfl
    refine zB ?_;refine zB ?_;refine vF (wd B a X Y) ?_;refine uF ?_;refine vX ?_;refine w9 (nH B Z a X R b1 o d t D f) ?_;refine⟨rfl,g,vs.set i (uU (gR bs i x) p),nodes.set i (gR bs i x),Ym _,?G,?L,by simp[z],?N,?A,?O,fun k J=>?_,zu a,rfl⟩
    case G=>rw[Yz (Yl.1 d).1];rfl
    case L=>exact(c.setNode (n':=gR bs i x) C U rfl).set0 d (fun h=>absurd (show (143:Nat)=92 from h) zy)
    case N =>
     intro q n j
     by_cases v:q=i
     .subst v;rw[Yz zo,if_pos (Zr _)]
      grind
     .rw[YD (fun e=>v e.symm),r q n j]
      by_cases h1:q<i
      .grind
      .rw[if_neg h1,if_neg zo]
    case A=>rw[YD (fun e=>b0 e.symm)];exact o
    case O=>rw[YD (fun e=>ah e.symm)];exact u
    .simp(disch:=omega)only[yD]
   .have Y:¬((i+1:Nat):Int)<(nl.length:Nat):=zo;refine zB ?_;refine zB ?_;refine vF (wd B a X Y) ?_;refine yO ?_;refine wY ⟨rfl,M,vs,nodes,t,d,c,z,?_,o,u,fun k J=>?_,zu a,rfl⟩
    .intro q n j;rw[r q n j]
     by_cases h1:q<i
     .grind
     .by_cases v:q=i
      .subst v;rw[if_neg h1,if_pos (Zr _)];rw[K]at j;cases j
       have h0:=ab.2;unfold gR;rw[Yu,Za (show bs.length<=q+1 by omega)];obtain⟨a1,a2,a3,a4,a5,a6⟩:=x;dsimp only at h0;rw[h0];rfl
      .rw[if_neg h1,if_neg zo]
    .simp(disch:=omega)only[yD]
  clear t d c o u z r C D a bb;rintro y ⟨tq,df,Hc⟩ ⟨rfl,M,vs,nodes,t,d,c,z,r,o,u,I,a,rfl⟩;dsimp only at t d c o u I a;have C:nodes[i]?=some (gR bs i x):=by have:=r i x K;rwa [if_pos (Zr _)]at this
  have D:=c.val i _ p C U;have b2:=(I 8 zy).trans B;have bm:=(I 11 zy).trans h11';have bo:=(I 13 zy).trans Z;have hw:=Yc 1 (gR bs i x) P.level P.sib P.way P.few;have b3:zf Hc 1 (uU (gR bs i x) p) (wb 1 (gR bs i x)):=zf.aggL ⟨.int _ _,.int _ _,.int _ _,.int _ _,.int _ _,D.2.frz,trivial⟩;have b4:=D.1;generalize ch:gR bs i x=x' at *
  refine pC ?_;refine vU (uN b2 a d t b4 f) ?_;refine pc (caps:=?_) (vs:=?_) ?_ ?_ hw ?_ ?_;rotate_left 2;(first|rfl|(simp only[zX,qi,go_sem]<;>rfl));(simp only[go_sem]<;>rfl)
  .exact⟨b3,trivial⟩
  refine zN ?_;refine zB ?_;refine zI ?_;refine ug ?_;refine O9 bs (uR x') i b T a8 (ol _) zo _ Hc idO V zo idA gA av u o (by simp[zb,bm]) (by simp[zb,bo]) (by simp[zb,a]) (by simp[zb]) (by simp[zb]) (fun yN H2 V2 b5 S b6 a0 bp=>?_);have bw:yN 15=iv i:=(a0 15 zy zy zy).trans (by simp[zb,a]);refine vu bw ?_;refine⟨_,?m,i+1,H2,M,vs,V2,nodes,rfl,f,t,S idL _ ah.symm d,c.but u (fun h=>absurd (show (120:Nat)=92 from h) zy) S,z,r,S idA _ av o,b6,?_,fun k J=>?_,by simp[zb,bp],by simp[zb],rfl,rfl⟩
  case m=>omega
  .rw[b5,hV,Yj T ad];simp
  .simp(disch:=omega)only[yD];rw[a0 k zo zo zo];simp(disch:=omega)only[yD];exact(I k zo).trans (hf k J)


theorem Cu(n:Nat):zf H 0 (.tuple [iv 0,.nilsl,iv 0,iv n]) (.tuple [iv 0,.list 0 2 (([]:LP).map vm),iv 0,iv n]):=zf.tL ⟨.int _ _,.nil _ _,.int _ _,.int _ _,trivial⟩
theorem Vu(p q:Nat)(l:LP)(fr:LH)(hl:l.length<=500)(hfr:fr.length<=2000):FN ET 36 [vO p l,.list q 1 (fr.map iv)] (mT l fr):=by
 refine qv (eG T36 func36) (SW l fr) ?_;refine zG ?_;refine pC ?_;have G:=Wa p l zo;have P:=Ox q fr zo
 by_cases A:okP l=true
 rotate_left
 .have A:okP l=false:=by simpa using A
  have he:mT l fr=lI 2:=by unfold mT;rw[A];rfl
  rw[A]at G;refine wg ?_;refine wj G ?_;refine zU ?_;rw[he];exact Cu 2
 rw[A]at G
 by_cases B:xp [] fr=true
 rotate_left
 .have B:xp [] fr=false:=by simpa using B
  have he:mT l fr=lI 2:=by unfold mT;rw[B,Bool.and_false];rfl
  rw[B]at P;refine wg ?_;refine vi G ?_;refine wg ?_;refine wj P ?_;refine zU ?_;rw[he];exact Cu 2
 rw[B]at P;refine wg ?_;refine vi G ?_;refine wg ?_;refine wj P ?_;refine yO ?_;refine uL ?_;obtain⟨free,rfl,ab⟩:=JF B;have eK:=(dF free).1 ab;have cl:(free.map fun(b:Nat)=>(b:Int)).map Int.toNat=free:=by rw[zBD9];exact List.map_id free
 have c6:mT l (free.map fun(b:Nat)=>(b:Int))=match mU l free with
   | none=>lI 221
   | some T=>Fw T:=by unfold mT;rw[A,B,cl];rfl
 have c7:(free.map fun(b:Nat)=>(b:Int)).map iv=wo free:=by rw[zBD9];rfl
 have eP:free.length<=2000:=by simpa using hfr
 rw[c6,c7];have ey:(wo free).length=free.length:=by rw[Yw]
 refine pC ?_;refine wg ?_;refine vi (Ur l.length hl) ?_
 by_cases a9:free.length<cj l.length
 .have g:((free.length:Nat):Int)<(cj l.length:Nat):=zo;have C:=(F7 (free:=free) hl).2 a9;refine uy g ?_;refine zU ?_;rw[C];exact Cu 221
 have g:¬((free.length:Nat):Int)<(cj l.length:Nat):=zo;refine uy g ?_;refine yO ?_;refine uL ?_;obtain⟨X,bb⟩:∃X,mU l free=some X:=by
  cases h:mU l free with
  | none=>exact absurd ((F7 (free:=free) hl).1 h) a9
  | some X=>grind
 rw[bb];refine zG ?_;refine O6 p l hl _ _ 0 0 0 [uU ⟨0,0,0,9223372036854775808,0,[]⟩ .nilsl] [.nilsl] (Ym _) rfl ((wR.nil _).snoc ⟨0,0,0,9223372036854775808,0,[]⟩ rfl) (by simp[zb,zr]) (by simp[zb]) (by simp[zb]) (fun nC L D M1 ad bm bo bp a0 bw bx=>?_);have k1:nC 1=.list q 1 (wo free):=(bw 1 zy zy zy zy).trans (by simp[zb,zr]);clear bw;refine zG ?_;refine kp 120 2 (i:=11) (by simp[zb]) ?_;simp only[ya];have b1:(L++[za.row 120 2 0 0 []])[L.length]?=some (.row 120 2 0 0 []):=by simp
 have a6:(L++[za.row 120 2 0 0 []])[0]?=some (.row 143 6 D M1 ad):=vM bp;have av:wR (L++[za.row 120 2 0 0 []]) ad bm (yH l):=a0.keep fun id o _ h=>vM h;refine vo (vG (fun m s=>∃(k:Nat) (a:LC) (c:Nat) (T:List vh) (Hc:LQ) (d g M f:Nat) (vs ps V:LJ),m=k/\1<=k/\3<=k+T.length/\bt l free a c T/\pI free k a c T=some X/\c=(T.reverse.flatMap Prod.fst).length/\V=(kg T.reverse).map vm/\V.length=64*c/\M<=g/\Hc[d]?=some (.row 143 6 g M vs)/\wR Hc vs ps a/\Hc[f]?=some (.row 120 2 V.length 0 V)/\s.tm 1=.list q 1 (wo free)/\s.tm 8=.sl d g 0 vs.length (2*vs.length) 6/\s.tm 11=.sl f V.length 0 V.length (2*V.length) 2/\s.tm 12=iv c/\s.df=[]/\s.H=Hc) (n:=4) ?_ ?_)
 .exact⟨4,yH l,0,[],_,0,D,M1,L.length,ad,bm,[],rfl,by decide,by decide,Fu free A hl,bb,rfl,rfl,rfl,bo,a6,av,b1,by simp[zb,k1],zu bx,zt,zt,rfl,rfl⟩
 .clear bo bp a0 a6 av b1 k1 bx;rintro m ⟨tm,df,Hc⟩ ⟨k,a,c,T,eU,d,g,M,f,vs,ps,V,rfl,eV,e0,r,w,c8,hV,e1,hM,hL,a7,hO,h1,Y,I,ah,rfl,rfl⟩;dsimp only at *
  obtain⟨k,rfl⟩:∃k,m=k+1:=⟨m-1,by omega⟩
  have cx:0<a.length:=Zq.2 r.ok.ne;have eA:a.length<=28:=by
   have:=r.bndL;have N:∀t,bndL t<=28:=fun t=>by match t with|0=>decide|1=>decide|t+2=>exact(show 1<=28 by decide)
   exact YY this (N _)
  rw[pI]at w;have e2:=r.used
  by_cases Q:free.length<c+a.length
  .rw[if_pos Q]at w;cases w
  rw[if_neg Q]at w;have dd:=a7.lenV;rw[dd]at Y;refine vP ?_;refine zG ?_;refine kp 3 1 (i:=13) (by simp[zb]) ?_;simp only[ya];have e3:d<Hc.length:=(Yl.1 hL).1;have e4:f<Hc.length:=(Yl.1 hO).1;refine O7 q free c a.length zo zo _ _ d g _ Hc.length (by simp) (by simp[zb,h1]) (by simp[zb,Y];rfl) (by simp[zb,ah]) (by simp[zb]) (by simp[zb]) (fun yN Z R dm J b2=>?_);obtain⟨u,v2,v3,v4,v5,v6,v7,v8⟩:=r.level ab Q;have S:=r.next ab Q;have ex:=r.lvl;have dp:Z[d]?=some (.row 143 6 g M vs):=R d _ zo (vM hL);have ds:Z[f]?=some (.row 120 2 V.length 0 V):=R f _ zo (vM hO);have c0:wR Z vs ps a:=a7.keep fun id o _ h=>R id o (by grind) (vM h);have x1:yN 1=.list q 1 (wo free):=(J 1 zy zy zy).trans (by simp[zb,h1]);have x8:yN 8=.sl d g 0 a.length (2*a.length) 6:=(J 8 zy zy zy).trans (by simp[zb,Y]);have b3:yN 11=.sl f V.length 0 V.length (2*V.length) 2:=(J 11 zy zy zy).trans (by simp[zb,I]);have b4:yN 12=iv c:=(J 12 zy zy zy).trans (by simp[zb,ah]);clear J R h1 Y I ah;generalize e5:(free.drop c).take a.length=bs at *
  refine zG ?_;refine O8 bs a u zo (fun b N=>(v4 b N).2) (fun n C=>⟨(r.ok.each n C).1,(r.ok.each n C).2.2⟩) _ Z d Hc.length f g M a.length vs ps V zo hM dp c0 dm ds (by simp[zb,x8]) (by simp[zb,b3]) (by simp[zb,b2,u]) (by simp[zb]) (fun mE H3 M3 dx V3 dT ea c1 b5 b6 b7 K I=>?_);have y1:mE 1=.list q 1 (wo free):=(K 1 zy).trans (by simp[zb,x1]);have O:mE 8=.sl d g 0 a.length (2*a.length) 6:=(K 8 zy).trans (by simp[zb,x8]);have ca:mE 12=iv c:=(K 12 zy).trans (by simp[zb,b4]);have cb:mE 13=.sl Hc.length a.length 0 a.length (2*a.length) 1:=(K 13 zy).trans (by simp[zb,b2]);clear K x1 x8 b3 b4;have eb:(mw bs (wz bs a)).length=64*a.length:=by
   unfold mw;rw[DP];simp[u,aR bs a u]
  have U:V3=(kg ((bs,wz bs a)::T).reverse).map vm:=by
   rw[b7,hV,ZT,kg,kg,Zj];simp
  have c2:V3.length=64*(c+a.length):=by rw[b7,Yn,Yw,eb];omega
  have a8:c+a.length=(((bs,wz bs a)::T).reverse.flatMap Prod.fst).length:=by
   rw[ZT,Zj,Yn,<- c8];simp[u]
  have hw:IntKind.i64.wrap ((c:Int)+(a.length:Int))=((c+a.length:Nat):Int):=yw
  by_cases ho:a.length=1
  .rw[if_pos ho]at w
   cases w
   have D:((a.length:Nat):Int)=1:=zo;obtain⟨b0,cc⟩:=zAS9.1 (u.trans ho);have ed:(wo bs)[0]?=some (iv b0):=by rw[cc];rfl
   have ef:0<=a.length:=Yv _;refine zB ?_;refine zB ?_;refine vF (vn O ca hw) ?_;refine zB ?_;refine zB ?_;refine vF (jX O D) ?_;refine uF ?_;refine zB ?_;refine zB ?_;refine vF (uN cb I b5 ed cx ef) ?_;refine vt (we ?_);have cs:dN ((bs,wz bs a)::T)=b0:=by rw[cc];rfl
   refine zf.tL ⟨?_,?_,?_,.int _ _,trivial⟩
   .rw[cs];exact .int _ _
   .rw[<- U];refine zf.wh b6 rfl rfl (Ym _) (fun v z=>?_) (fun v z=>?_)
    .rw[U]at z;obtain⟨x,_,rfl⟩:=Yx.1 z;rfl
    .rw[U]at z;obtain⟨x,hx,z⟩:=YG.1 z;obtain⟨y,_,rfl⟩:=Yx.1 hx;simp[PV.cells]at z;rcases z with rfl|rfl<;>exact .int _ _
   .rw[<- a8];exact .int _ _
  .rw[if_neg ho]at w;have D:¬((a.length:Nat):Int)=1:=zo;have S:=S ho;have e6:T.length<=1:=by
    have:=S.lvl;simp at this;omega
   obtain⟨w1,w2,w3⟩:=ot bs a u;have ch:=aR bs a u;have cu:∀n∈wz bs a,n.level=T.length:=by
    intro n C;obtain⟨j,hj⟩:=ZI.1 C;have ej:j<a.length:=by rw[<- ch];exact(Yl.1 hj).1
    have e:=fC bs a j _ u (Yk ej);rw[hj]at e;cases e
    exact(r.ok.each _ (YX _)).2.1
   have ck:=NP H3 d g M3 Hc.length a.length dx ps (wz bs a) bs T.length ea dT c1 b5 (by omega) zo cu zo (fun b N=>(v4 b N).2);rw[ch,w2]at ck;refine zB ?_;refine zB ?_;refine vF (vn O ca hw) ?_;refine zB ?_;refine zB ?_;refine vF (jX O D) ?_;refine yO ?_;refine uL ?_;refine pC ?_;refine vU (jX O cb) ?_;refine Bv (caps:=?caps) (vs:=?vs) ?a1 ?a2 ck ?a3 ?a4 ?a5
   case a1=>first|rfl|(simp only[zX,qi,go_sem]<;>rfl)
   case a2=>simp only[go_sem]<;>rfl
   case a3=>rfl
   case a4=>rfl
   rintro e H4 ⟨c3,c4,g4,M4,en,er,rfl,es,_,et,c5,_⟩;refine zK ?_;refine⟨k,Zr _,k,_,c+a.length,(bs,wz bs a)::T,H4,c4,g4,M4,f,en,er,V3,rfl,by omega,?_,S,w,a8,U,c2,es,et,c5,c3 f _ b6,by simp[zb,y1],zt,zu I,zt,rfl,rfl⟩;simp;omega


theorem Mi:∀X:List vh,(∀M∈X,M.1.length=M.2.length)->(kg X).length=64*(X.flatMap Prod.fst).length
 | [],_=>rfl
 | M::X,h=>by
  have h1:=Mi X fun K a=>h K (Ys _ a);have h2:=h M (Yp ..);unfold kg at h1⊢;rw[YT,Yn,h1,YT,Yn];unfold mw;rw[DP,List.length_zip];omega


theorem f219:ET.funcs.get 219=some T219:=mX func219
theorem f217:ET.funcs.get 217=some T217:=mX func217
theorem XX{w:LN}{i:Nat}(h:i<w.length):(w.map uv)[i]?=some (uv (w.getD i 0)):=by grind
def nT(l:LP)(x:Nat):Bool:=(l.map Prod.snd).contains x
theorem KL:∀(l:LN) (j prev:Nat),2*(xS j prev l).length<=l.length
 | [],_,_=>by simp[xS]
 | [_],_,_=>by simp[xS]
 | _::p::l,j,prev=>by
  have:=KL l (j+1) p;rw[xS]
  grind


def wQ(l:LP)(key:Nat):Nat:=(l.takeWhile fun x=>decide (x.1<key)).length
def yc(l:LP)(key:Nat):Bool:=match l[wQ l key]? with
 | some x=>decide (x.1=key)
 | none=>false
theorem Ar(l:LP)(key:Nat):wQ l key<=l.length:=by
 unfold wQ;exact(List.takeWhile_sublist _).length_le


def xP(left:Nat)(w:LN)(x:Pr):Nat :=
 if(uj left w.length && !decide (x.2=0) && !decide (x.2=left))=true then(if(decide (w7 left w=0)&&nT (vg left w) x.2)=true then 2 else w7 left w)else 2
variable {left:Nat}{w:LN}
theorem m6{l:LP}:∀v∈(l.map vm).flatMap PV.cells,vL v:=fun v a=>by
 obtain⟨x,b,a⟩:=YG.1 a;obtain⟨n,_,rfl⟩:=Yx.1 b;simp[PV.cells]at a;rcases a with rfl|rfl<;>exact .int _ _
def xy(l:LP)(i:Nat):Nat->LP
 | 0=>[]
 | m+1=>if i<=m then(2*m+3,(l.getD m (0,0)).2)::(2*m+2,(l.getD m (0,0)).1)::xy l i m else[]
def ai(left:Nat)(w:LN)(l:LP)(i:Nat)(x:Pr):LP:=(2*l.length+3,0)::(xy l i l.length++[(2*i+1,yU left w i),(2*i,x.1),(2*i+1,x.2)])
def yd(left:Nat)(w:LN)(x:Pr):LP×Nat :=
 if xP left w x=0 then(if yc (vg left w) x.1=true then([],191)else if w.length/2<=(vg left w).length+1 then([],3)else(ai left w (vg left w) (wQ (vg left w) x.1) x,0))else([],xP left w x)
theorem JV{x:Pr}(h:xP left w x=0):uj left w.length=true/\w7 left w=0:=by
 unfold xP at h
 grind
theorem KP(h:uj left w.length=true):(vg left w).length<=28:=by
 have:=dQ left w;unfold wy at this;grind
def xZ(w:LN)(d k:Nat):LP:=(List.range k).flatMap fun q=>[(2*(d+q),w.getD (2*(d+q)+2) 0),(2*(d+q)+1,w.getD (2*(d+q)+3) 0)]
def xx(w:LN)(d m:Nat):LP:=xZ w d (m-1-d)++[(2*m-1,0)]
theorem so(w:LN)(d k:Nat):xZ w d (k+1)=xZ w d k++[(2*(d+k),w.getD (2*(d+k)+2) 0),(2*(d+k)+1,w.getD (2*(d+k)+3) 0)]:=by
 unfold xZ;rw[Zw,Zj];simp
theorem sn(w:LN)(d k:Nat):(xZ w d k).length=2*k:=by
 induction k with
 | zero=>rfl
 | succ k a=>rw[so,Yn,a];grind
def yu(left:Nat)(w:LN)(key:Nat):LP×Nat :=
 if w7 left w=0 then(if yc (vg left w) key=true then((2*wQ (vg left w) key+1,yU left w (wQ (vg left w) key))::xx w (wQ (vg left w) key) (vg left w).length,0)else([],5))else([],w7 left w)
theorem Ei{left:Nat}{w:LN}(h:w7 left w=0):uj left w.length=true:=by
 unfold w7 at h
 grind
theorem As{l:LP}{key:Nat}(h:yc l key=true):wQ l key<l.length:=by
 unfold yc at h
 grind
theorem Wt(left:Nat)(w:LN):2*(vg left w).length<=w.length:=by
 have:=KL w 0 left;have h2:=congrArg List.length (Au w 0 left)
 grind


def gu(w:LN)(x:Pr):Nat:=if wi w=0 then(if uT (headN w) x=true then 0 else 2)else wi w
variable {key:Nat}
def kh(w:LN)(v:Nat):LP:=if w.getD 4 0=v then[]else[(4,v)]
def uJ(l:LP):LP:=l.map fun x=>(x.1+8,x.2)


theorem WF(h:(yu left w key).2=0):0<(yu left w key).1.length/\(yu left w key).1.length<=1000/\∀y∈(yu left w key).1,y.1<1000:=by
 unfold yu at h⊢
 by_cases b:w7 left w=0
 rotate_left
 .grind
 rw[if_pos b]at h⊢;have d:=KP (Ei b)
 by_cases c:yc (vg left w) key=true
 rotate_left
 .grind
 rw[if_pos c];have e:=As c;generalize vg left w=L at *
 generalize wQ L key=i at *
 refine⟨by simp,?_,fun y a=>?_⟩
 .simp[xx,sn];omega
 rcases YA.1 a with rfl|a
 .omega
 unfold xx at a;rcases YM.1 a with a|a
 .unfold xZ at a
  grind
 grind
def yF(w:LN)(v:Nat)(no:Nat)(r:LP×Nat):LP×Nat:=if no=0 then(if r.2=0 then(kh w v++uJ r.1,0)else([],r.2))else([],no)
def uD(w:LN)(x:Pr):LP×Nat:=yF w 1 (gu w x) (yd (w.getD 3 0) (w.drop 8) x)
def yR(w:LN)(key:Nat):LP×Nat:=yF w 2 (wi w) (yu (w.getD 3 0) (w.drop 8) key)
theorem PJ{x:Pr}(h:gu w x=0):wi w=0:=by
 unfold gu at h
 split at h
 .assumption
 .rename_i h2;exact absurd h h2
theorem Jd(h:wi w=0):w.length=64:=by
 have:=tH h;unfold headB at this
 grind
def kQ(left:Nat)(l:LP)(key:Nat):Nat:=l.foldl (fun a q=>if q.1<=key then q.2 else a) left
def yL(w:LN)(key:Nat):Nat×Nat:=if wi w=0 then(if(headN w).level=0 then(0,2)else(kQ (headN w).left (headN w).pairs key,0))else(0,wi w)
theorem If(l:LP)(key:Nat):∀left,kQ left l key=left\/∃q∈l,kQ left l key=q.2:=by
 induction l with
 | nil=>exact fun left=>.inl rfl
 | cons a l b =>
  intro left;have h:=b (if a.1<=key then a.2 else left);have e:kQ left (a::l) key=kQ (if a.1<=key then a.2 else left) l key:=rfl
  grind
theorem Sw{l:LP}(h:∀x∈(0,left)::l,x.2<2048):kQ left l key<2048:=by
 rcases If l key left with e|⟨q,a,e⟩
 .simp_all
 grind


theorem Lb.three{a b c:PV}(ha:Lb a)(hb:Lb b)(hc:Lb c):Lb (.tuple [a,b,c]):=.tuple fun v d=>by grind
def Xk(n:zi):zi:=⟨n.level,n.sib,(n.pairs.getD (n.pairs.length/2) (0,0)).1,(if 0<n.level then(n.pairs.getD (n.pairs.length/2) (0,0)).2 else 9223372036854775808),0,(if 0<n.level then n.pairs.drop (n.pairs.length/2+1)else n.pairs.drop (n.pairs.length/2))⟩
def Gw(m:Nat):Nat->LP
 | 0=>[]
 | k+1=>if m<=k then(9+2*k,0)::Gw m k else[]
def Xj(n:zi)(a:Nat):LP:=(1,a)::Gw (n.pairs.length/2) n.pairs.length


section mid
variable {α:Type}
theorem sN(G l:List α)(a:α):(G++a::l)[G.length]?=some a:=by simp
theorem QY(G l:List α)(a b:α):(G++a::b::l)[G.length+1]?=some b:=by simp
theorem QZ(G l:List α)(a b c:α):(G++a::b::c::l)[G.length+1+1]?=some c:=by grind
theorem Ej(G l:List α)(a x:α):(G++a::l).set G.length x=G++x::l:=by grind
theorem WI(G l:List α)(a b x:α):(G++a::b::l).set (G.length+1) x=G++a::x::l:=by simp_all
theorem WJ(G l:List α)(a b c x:α):(G++a::b::c::l).set (G.length+1+1) x=G++a::b::x::l:=by
 rw[zBQ9 _ _ zo,show G.length+1+1-G.length=2 by omega];rfl
end mid
variable (l:LN)
def zyA:=And.intro (@sN za) (And.intro (@QY za) (And.intro (@QZ za) (And.intro (@Ej za) (And.intro (@WI za) (@WJ za)))))
structure Wk where
 p:Nat
 q:Nat
 W:LN
 L:LP
 fr:PV
 used:Nat
def Wk.one(x:Wk)(c:Pr):Wk:=⟨0,0,x.W.set c.1 c.2,x.L++[c],x.fr,x.used⟩
def Wk.does(x:Wk)(l:LP):Wk:=l.foldl Wk.one x
def vY(a:Nat)(l:LP):LP:=l.map fun c=>(a+c.1,c.2)


theorem Gt(b:Nat):(l.map fun(x:Nat)=>(x:Int)).contains (b:Int)=l.contains b:=by grind
theorem T2:(l.map fun(x:Nat)=>(x:Int)).map iv=l.map fun(b:Nat)=>iv (b:Int):=by simp_all
theorem CB(p:Nat)(l:LN)(n:Nat)(hl:l.length<4611686018427387904):FR 123 [.list p 1 (l.map fun(b:Nat)=>iv (b:Int)),iv (n:Nat)] (.bool (l.contains n)):=by
 have:=HE p (l.map fun(x:Nat)=>(x:Int)) n (by grind);rw[T2,Gt]at this;exact this


theorem kJ{E:vC}{caught:LE}{rnd:LB}{code:vw}{s:vd}{Q:FX->vd->Prop}(F:(Nat->PV)->Prop)(hF:F s.tm)(k:∀tm,F tm->W E caught rnd code ⟨tm,s.df,s.H⟩ Q):W E caught rnd code s Q:=k s.tm hF


def fA(w:LN):Nat->LN->List vh->Nat->Int->List vh×Bool
 | 0,_,_,_,_=>([],false)
 | d+1,seen,acc,b,lv=>match wW w lv (w.length/64) seen [] [] b with
  | none=>([],false)
  | some (_,_,[])=>([],false)
  | some (seen',bs,n::ns)=>if n.level=0 then(acc++[(bs,n::ns)],vz (vQ (n::ns)))else fA w d seen' (acc++[(bs,n::ns)]) n.left ((n.level:Int)-1)
def ec(w:LN)(a:Nat):List vh×Bool:=fA w 14 [] [] (w.getD a 0) (-1)
theorem Iz:∀(d:Nat) (seen:LN) (acc:List vh) (b:Nat) (lv:Int),(fA w d seen acc b lv).2=(wZ w d seen acc b lv).2/\((fA w d seen acc b lv).2=true->(fA w d seen acc b lv).1=(wZ w d seen acc b lv).1)
 | 0,seen,acc,b,lv=>⟨rfl,fun h=>by cases h⟩
 | d+1,seen,acc,b,lv=>by
  rw[fA,wZ]
  cases e:wW w lv (w.length/64) seen [] [] b with
  | none=>grind
  | some r =>
   obtain⟨f,bs,a⟩:=r
   cases a with
   | nil=>grind
   | cons n a =>
    simp only
    by_cases c:n.level=0
    .grind
    .rw[if_neg c,if_neg c];exact Iz d _ _ _ _
theorem Mf(w:LN)(a:Nat):(ec w a).2=(vK w a).2/\((vK w a).2=true->(ec w a).1=(vK w a).1):=by
 have:=Iz (w:=w) 14 [] [] (w.getD a 0) (-1);exact⟨this.1,fun h=>this.2 (by rw[this.1];exact h)⟩
theorem D4{lv:Int}:∀(k:Nat) (seen bs:LN) (ns:LC) (b:Nat) (r:LN×LN×LC),wW w lv k seen bs ns b=some r->∃X,r.2.1=bs++X/\r.1=X.reverse++seen/\X.Nodup/\∀x∈X,x ∉ seen/\x≠0
 | 0,seen,bs,ns,b,r,h=>by
  rw[wW]at h
  split at h
  .cases h;simp_all
  grind
 | k+1,seen,bs,ns,b,r,h=>by
  rw[wW]at h
  split at h
  .cases h;simp_all
  rename_i e
  split at h
  .cases h
  rename_i d
  split at h
  rotate_left
  .cases h
  obtain⟨X,h1,h2,h3,h4⟩:=D4 k _ _ _ _ r h;have f:b ∉ seen:=fun a=>d (by simp[a]);refine⟨b::X,by rw[h1];simp,by rw[h2];simp,ZF.2 ⟨fun a=>(h4 b a).1 (Yp ..),h3⟩,fun x c=>?_⟩;rcases YA.1 c with rfl|c
  all_goals grind


def cp(n:Nat)(fr:LH)(i:Nat)(f:Int):Bool:=decide (1<=f)&&decide (f<n) && !(fr.take i).contains f
def tV(n:Nat)(fr:LH)(k:Nat):Bool:=(List.range k).all fun i=>cp n fr i (fr.getD i 0)
def Dq(L:vh)(fr:LH):Bool:=fr.all fun f=>!(L.1.map fun(b:Nat)=>(b:Int)).contains f
def tP(T:List vh)(fr:LH):Bool:=T.all fun L=>Dq L fr
def aN(w:LN)(a:Nat)(fr:LH):Bool:=tV (w.length/64) fr fr.length&&(!(ec w a).2||tP (ec w a).1 fr)


def sb(w:LN)(a:Int)(fr:LH):Nat:=if uK w.length a=true then if aN w a.toNat fr=true then B3 w a else 2 else 2
variable {fr:LH}{n:Nat}{x:Pr}
structure eB(w:LN)(b0 key:Nat)(ws:LN):Prop where
 first:ws[0]?=some b0
 inn:∀b∈ws,64*b+64<=w.length
 next:∀(i:Nat) (b c:Nat),ws[i]?=some b->ws[i+1]?=some c->yL (jW w b) key=(c,0)
 last:∀b,ws.getLast?=some b->¬(yL (jW w b) key).2=0
 few:ws.length<=20


def Jy(w:LN):zi:=if headB w=true then headN w else kF
theorem sf(w:LN)(b:Nat)(h:64*b+64<=w.length):(jW w b).length=64:=by unfold jW;grind
def GJ(w:LN):LP:=(List.range w.length).map fun i=>(i,w.getD i 0)


def Wk.up(x:Wk):Wk:=⟨x.p,x.q,x.W,x.L,x.fr,x.used+1⟩
@[reducible] def Wi (n:zi) (b to low:Nat):zi:=⟨n.level + 1,0,0,b,0,[(low,to)]⟩
def Wk.root(x:Wk)(fr:LN)(at' b to low:Nat):Wk×Nat×Nat×Nat :=
 if fr.length<=x.used then(x,0,0,221)else
 if 12<=(Jy (jW x.W b)).level then(x.up,0,0,3)else
 ((x.up.does (vY (64*fr.getD x.used 0) (GJ (uR (Wi (Jy (jW x.W b)) b to low))))).does (vY 0 [(at',fr.getD x.used 0)]),to,low,0)


theorem Mp(l:LP)(i:Nat):∀m,(xy l i m).length<=2*m/\∀y∈xy l i m,y.1<=2*m+1
 | 0=>⟨Ym _,fun y a=>by simp[xy]at a⟩
 | m+1=>by
  have b:=Mp l i m;rw[xy]
  grind
theorem KQ(hw:w.length=56)(h:(yd left w x).2=0):(yd left w x).1.length<=70/\∀y∈(yd left w x).1,y.1<56:=by
 unfold yd at h⊢
 by_cases b:xP left w x=0
 rotate_left
 .grind
 rw[if_pos b]at h⊢
 by_cases c:yc (vg left w) x.1=true
 .grind
 rw[if_neg c]at h⊢
 split at h
 .cases h
 rename_i a;rw[if_neg a];have d:=Ar (vg left w) x.1;generalize vg left w=L at *
 generalize wQ L x.1=i at *
 have e:=Mp L i L.length;unfold ai
 grind
theorem WC(hw:w.length=56)(h:(yu left w key).2=0):(yu left w key).1.length<=70/\∀y∈(yu left w key).1,y.1<56:=by
 unfold yu at h⊢
 by_cases b:w7 left w=0
 rotate_left
 .grind
 rw[if_pos b]at h⊢;have d:=Ei b;have e:=Wt left w
 by_cases c:yc (vg left w) key=true
 rotate_left
 .grind
 rw[if_pos c];have f:=As c;generalize vg left w=L at *
 generalize wQ L key=i at *
 refine⟨by simp[xx,sn];omega,fun y a=>?_⟩;rcases YA.1 a with rfl|a
 .omega
 unfold xx at a;rcases YM.1 a with a|a
 .unfold xZ at a
  grind
 grind
theorem Gg{v no:Nat}{r:LP×Nat}(h:r.2=0->r.1.length<=70/\∀y∈r.1,y.1<56):(yF w v no r).1.length<=71/\∀c∈(yF w v no r).1,c.1<64:=by
 unfold yF
 split
 .split
  .rename_i h2;obtain⟨d,e⟩:=h h2;have b:(kh w v).length<=1:=by unfold kh;grind
   refine⟨by simp[uJ];omega,fun c a=>?_⟩;rcases YM.1 a with a|a
   .unfold kh at a
    grind
   .unfold uJ at a
    grind
  grind
 grind
theorem Jf(hw:w.length=64):(uD w x).1.length<=71/\∀c∈(uD w x).1,c.1<64:=Gg fun h=>KQ (by simp[hw]) h
theorem Ji(hw:w.length=64):(yR w key).1.length<=71/\∀c∈(yR w key).1,c.1<64:=Gg fun h=>WC (by simp[hw]) h
theorem BR(c:Nat):∀(l:LP) (w:LN),(∀s∈l,s.1<64*c\/64*c+64<=s.1)->jW (jZ w l) c=jW w c
 | [],_,_=>rfl
 | s::l,w,h=>by
  have h1:=h s (Yp ..);have a:=BR c l (w.set s.1 s.2) fun t b=>h t (Ys _ b);have e:jZ w (s::l)=jZ (w.set s.1 s.2) l:=rfl;rw[e,a];unfold jW
  apply Zn
  intro j;rw[Zo,Zo,Y4,Y4]
  grind
theorem Ow{b c:Nat}(hbc:b≠c)(l:LP)(w:LN)(h:∀s∈l,s.1<64):jW (jZ w (vY (64*b) l)) c=jW w c :=
 BR c _ w fun s a=>by
  unfold vY at a
  grind
theorem Jz(a:Nat)(l:LP):(vY a l).length=l.length:=by unfold vY;simp
def Wk.cut(x:Wk)(b to:Nat):Wk:=(x.up.does (vY (64*to) (GJ (uR (Xk (headN (jW x.W b))))))).does (vY (64*b) (Xj (headN (jW x.W b)) to))
def Wk.fin(y:Wk)(ab to low:Nat):Wk×Nat×Nat×Nat:=(y.does (vY (64*ab) (uD (jW y.W ab) (low,to)).1),to,low,0)


theorem VO{lv:Int}:∀(k:Nat) (seen:LN) (b:Nat) (r:LN×LN×LC),wW w lv k seen [] [] b=some r->r.2.2 ≠ []->r.2.1.head?=some b
 | 0,seen,b,r,h,a=>by
  rw[wW]at h
  grind
 | k+1,seen,b,r,h,a=>by
  rw[wW]at h
  split at h
  .grind
  split at h
  .cases h
  split at h
  rotate_left
  .cases h
  obtain⟨X,h1,_⟩:=D4 _ _ _ _ _ _ h
  grind
structure NA(b:Nat)(X:List vh):Prop where
 first:∃M,X.head?=some M/\M.1.head?=some b
 apart:X.Pairwise fun L M=>∀c∈L.1,c ∉ M.1
 leaf:∀L,X.getLast?=some L->∀n∈L.2,n.level=0
 pos:∀L∈X,∀c∈L.1,c≠0
theorem Kn(hw:w.length<=131072):∀(d:Nat) (seen:LN) (acc:List vh) (b:Nat) (lv:Int),(wZ w d seen acc b lv).2=true->∃X,(wZ w d seen acc b lv).1=acc++X/\NA b X/\∀L∈X,∀c∈L.1,c ∉ seen
 | 0,_,_,_,_,h=>by cases h
 | d+1,seen,acc,b,lv,h=>by
  rw[wZ]at h⊢
  cases g:wW w lv (w.length/64) seen [] [] b with
  | none=>rw[g]at h;cases h
  | some r =>
   obtain⟨v,bs,i⟩:=r;rw[g]at h
   cases i with
   | nil=>cases h
   | cons n i =>
    have k:=VO _ _ _ _ g (by simp);obtain⟨X,l,o,G,j⟩:=D4 _ _ _ _ _ _ g;obtain⟨s,_,_⟩:=Aj (N:=2048) _ _ _ _ _ _ g (gY.nil w) (fun n x=>by simp at x) (by simp;omega);dsimp only at k l o s h⊢;rw[YC]at l;subst l
    by_cases p:n.level=0
    .rw[if_pos p]at h⊢;refine⟨[(bs,n::i)],rfl,⟨⟨_,rfl,k⟩,zBG9 _ _,fun L e m y=>?_,fun L e c f=>?_⟩,fun L e c f=>?_⟩
     .simp at e;subst e;exact(s.same m y n rfl).trans p
     .simp at e;subst e;exact(j c f).2
     .simp at e;subst e;exact(j c f).1
    .rw[if_neg p]at h⊢;obtain⟨Y,z,⟨A,B,C,D⟩,t⟩:=Kn hw d v _ _ _ h;refine⟨(bs,n::i)::Y,by rw[z];simp,⟨⟨_,rfl,k⟩,Zu.2 ⟨fun M q c f u=>t M q c u ?_,B⟩,fun L e=>?_,fun L e c f=>?_⟩,fun L e c f=>?_⟩
     .rw[o];exact ZO _ (zAE9.2 f)
     .obtain⟨M,q,_⟩:=A
      cases Y with
      | nil=>cases q
      | cons a Y=>exact C L (by rw[ZB]at e;exact e)
     .rcases YA.1 e with rfl|e
      .exact(j c f).2
      .exact D L e c f
     .rcases YA.1 e with rfl|e
      .exact(j c f).1
      .intro hs;exact t L e c f (by rw[o];exact Z3 _ hs)
theorem tO:∀{bs:LN} {ns:LC},bs.length=ns.length->kb w bs ns=true->∀b∈bs,wi (jW w b)=0
 | [],_,_,_,b,a=>by grind
 | b'::bs,[],h,_,_,_=>by simp at h
 | b'::bs,n::ns,h,c,b,a=>by
  rw[kb,Yr,Yr]at c;rcases YA.1 a with rfl|a
  .grind
  .exact tO (by grind) c.2 b a
def au(w:LN)(key:Nat):List vh->Nat->LN
 | [],_=>[]
 | [_],b=>[b]
 | _::M::T,b=>b::au w key (M::T) (yL (jW w b) key).1
structure NJ(w:LN)(key:Nat)(T:List vh)(b:Nat)(ws:LN):Prop where
 first:ws[0]?=some b
 next:∀(i:Nat) (b c:Nat),ws[i]?=some b->ws[i+1]?=some c->yL (jW w b) key=(c,0)
 last:∀b,ws.getLast?=some b->¬(yL (jW w b) key).2=0
 len:ws.length=T.length
 mem:∀(i c:Nat),ws[i]?=some c->∃L,T[i]?=some L/\c∈L.1
theorem Mt{key:Nat}:∀(T:List vh) (b:Nat),(∀L∈T,aC w L)->ka w T=true->(∀L∈T.dropLast,cL L)->(∀L,T.getLast?=some L->∀n∈L.2,n.level=0)->(∃L,T.head?=some L/\b∈L.1)->NJ w key T b (au w key T b)
 | [],b,_,_,_,_,h=>by obtain⟨L,h,_⟩:=h;cases h
 | [L],b,f,g,_,o,h=>by
  obtain⟨I,h,d⟩:=h;simp at h;subst h;have e:=f L (Yp ..);rw[ka]at g;have r:=tO e.lv.len g b d;have l:headN (jW w b)∈L.2:=by rw[e.lv.is];exact Yx.2 ⟨b,d,rfl⟩
  have v:=o L rfl _ l;refine⟨rfl,fun i J c h1 h2=>by simp[au]at h2,fun c k=>?_,rfl,fun i c m=>?_⟩
  .simp[au]at k;subst k;unfold yL;rw[if_pos r,if_pos v]
   decide
  .cases i with
   | zero=>simp[au]at m;subst m;exact⟨L,rfl,d⟩
   | succ i=>simp[au]at m
 | L::M::T,b,f,g,x,o,h=>by
  obtain⟨I,h,d⟩:=h;simp at h;subst h;have e:=f L (Yp ..);have P:=f M (Ys _ (Yp ..));rw[ka,Yr,Yr]at g;obtain⟨⟨B,p⟩,C⟩:=g;have p:=of_decide_eq_true p;have r:=tO e.lv.len B b d;have l:headN (jW w b)∈L.2:=by rw[e.lv.is];exact Yx.2 ⟨b,d,rfl⟩
  have v:0<(headN (jW w b)).level:=x L (by simp[List.dropLast]) _ l;have D:yL (jW w b) key=(kQ (headN (jW w b)).left (headN (jW w b)).pairs key,0):=by
   unfold yL;rw[if_pos r,if_neg zo]
  have s:∃q∈uH (headN (jW w b)),kQ (headN (jW w b)).left (headN (jW w b)).pairs key=q.2:=by
   rcases If (headN (jW w b)).pairs key (headN (jW w b)).left with h|⟨q,t,h⟩
   .exact⟨_,Yp ..,h⟩
   .exact⟨q,Ys _ t,h⟩
  obtain⟨q,t,s⟩:=s;have u:q∈yB M:=by rw[<- p];exact YG.2 ⟨_,l,t⟩
  have G:(yL (jW w b) key).1∈M.1:=by
   rw[D];dsimp only;rw[s];unfold yB at u;exact(zAR9 (show (q.1,q.2)∈_ from u)).2
  have y:=Mt (key:=key) (M::T) (yL (jW w b) key).1 (fun K j=>f K (Ys _ j)) C (fun K j=>x K (by rw[List.dropLast_cons_cons];exact Ys _ j)) (fun K j=>o K (by rw[ZB];exact j)) ⟨M,rfl,G⟩;have N:au w key (L::M::T) b=b::au w key (M::T) (yL (jW w b) key).1:=rfl;rw[N];generalize au w key (M::T) (yL (jW w b) key).1=z at y;obtain⟨Q,R,S,A,O⟩:=y;refine⟨rfl,fun i J c h1 h2=>?_,fun c k=>?_,by simp at A⊢;exact A,fun i c m=>?_⟩
  .cases i with
   | zero =>
    grind
   | succ i=>grind
  .cases z with
   | nil=>grind
   | cons a z=>rw[ZB]at k;grind
  .cases i with
   | zero=>grind
   | succ i=>exact O i c (by grind)


theorem IA:∀{T:List vh},ka w T=true->∀L∈T,kb w L.1 L.2=true
 | [],_,L,h=>by simp at h
 | [L],a,K,h=>by simp at h;subst h;exact a
 | L::M::T,a,K,h=>by
  rw[ka,Yr,Yr]at a;rcases YA.1 h with rfl|h
  .grind
  .exact IA a.2 K h
structure EY(w:LN)(n key:Nat)(fr:LN)(ws:LN):Prop where
 way:eB w (w.getD n 0) key ws
 chk:∀b∈ws,wi (jW w b)=0
 inn:∀b∈ws,b<w.length/64
 nd:ws.Nodup
 few:ws.length<=14
 ne:ws ≠ []
 frN:∀f∈fr,1<=f/\f<w.length/64
 out:∀f∈fr,f ∉ ws
 pos:∀b∈ws,b≠0
theorem WZ(key:Nat){fr:LN}(hw:w.length<=131072)(ht:(vK w n).2=true)(hs:pz w (vK w n).1=true)(hf1:∀f∈fr,1<=f/\f<w.length/64)(hf2:tP (vK w n).1 (fr.map fun(b:Nat)=>(b:Int))=true):∃ws,EY w n key fr ws:=by
 obtain⟨f1,f2,f3,f4,f5⟩:=li (w:=w) (T:=(vK w n).1) hw n (by grind);obtain⟨X,x,⟨y,z,A,U⟩,_⟩:=Kn hw 14 [] [] (w.getD n 0) (-1) ht;have B:(vK w n).1=X:=by rw[show (vK w n).1=[]++X from x,YC]
 rw[B]at hs f1 f2 f3 f5 hf2;unfold pz at hs;rw[Yr]at hs;obtain⟨M,C,P⟩:=y;have q:∃L,X.head?=some L/\w.getD n 0∈L.1:=⟨M,C,by cases h:M.1 with|nil=>grind|cons a l=>grind⟩
 have p:=Mt (w:=w) (key:=key) X (w.getD n 0) f1 hs.2 f2 A q;generalize au w key X (w.getD n 0)=ws at p;obtain⟨D,G,I,V,m⟩:=p;have k:∀b∈ws,∃L∈X,b∈L.1:=fun b g=>by
  obtain⟨i,o⟩:=ZI.1 g;obtain⟨L,c,d⟩:=m i b o;exact⟨L,Yt c,d⟩
 have r:∀b∈ws,b<w.length/64:=fun b g=>by
  obtain⟨L,c,d⟩:=k b g;exact((f1 L c).lv.each b d).1
 refine⟨ws,⟨D,fun b g=>by grind,G,I,by omega⟩,fun b g=>?_,r,?_,by omega,fun e=>by grind,hf1,fun f J s=>?_,fun b g=>?_⟩
 .obtain⟨L,c,d⟩:=k b g;exact tO (f1 L c).lv.len (IA hs.2 L c) b d
 .refine zBA9.2 fun i j o N t e=>?_;obtain⟨L,c,d⟩:=m i _ (Yk o);obtain⟨K,O,Q⟩:=m j _ (Yk N);rw[e]at d;obtain⟨u,R⟩:=Yl.1 c;obtain⟨v,S⟩:=Yl.1 O;have:=(zBA9.1 z) i j u v t
  grind
 .obtain⟨L,c,d⟩:=k f s;unfold tP at hf2;have h1:=YZ.1 hf2 L c;unfold Dq at h1;have h2:=YZ.1 h1 (f:Int) (Yx.2 ⟨f,J,rfl⟩);rw[Gt]at h2
  grind
 .obtain⟨L,c,d⟩:=k b g
  grind
theorem UF(h:tV n fr fr.length=true):∀f∈fr,1<=f/\f<n:=fun f c=>by
 obtain⟨i,a⟩:=ZI.1 c;have b:=(Yl.1 a).1;unfold tV at h;have:=YZ.1 h i (Zm.2 b);rw[Yu,a]at this;unfold cp at this
 grind
theorem Od{a:Int}(key:Nat)(h:sb w a fr=0):∃(n:Nat) (frN ws:LN),a=n/\n<w.length/\64<=w.length/\w.length<=131072/\fr=frN.map (fun(b:Nat)=>(b:Int))/\(vK w n).2=true/\pz w (vK w n).1=true/\EY w n key frN ws:=by
 unfold sb at h
 split at h
 rotate_left
 .cases h
 rename_i e;have j:=(iY _ _).1 e;obtain⟨n,rfl⟩:∃n:Nat,a=n:=⟨a.toNat,by omega⟩
 rw[Zz]at h
 split at h
 rotate_left
 .cases h
 rename_i c;unfold B3 at h;rw[if_pos e,Zz]at h
 split at h
 rotate_left
 .cases h
 rename_i d
 split at h
 rotate_left
 .cases h
 rename_i k;unfold aN at c;obtain⟨l,m⟩:=Mf w n;rw[l,d,m d,Yr,Bool.not_true,Bool.false_or]at c;have p:=UF c.1;have o:fr=(fr.map Int.toNat).map (fun(b:Nat)=>(b:Int)):=by
  rw[zBD9]
  conv=>lhs;rw[<- List.map_id fr]
  exact Zh fun f c=>by grind
 have i:∀f∈fr.map Int.toNat,1<=f/\f<w.length/64:=fun f c=>by
  obtain⟨g,q,rfl⟩:=Yx.1 c
  grind
 obtain⟨ws,r⟩:=WZ key j.2.2.1 d k i (by grind)
 grind
theorem Wx(h:(yd left w x).2=3):w.length/2<=(vg left w).length+1/\uj left w.length=true:=by
 unfold yd at h
 by_cases a:xP left w x=0
 .rw[if_pos a]at h;have:=(JV a).1
  grind
 .rw[if_neg a]at h;dsimp only at h;unfold xP at h
  split at h
  .split at h
   .cases h
   .unfold w7 at h
    grind
  omega
theorem Un(h:(uD w x).2=3):27<=(headN w).pairs.length:=by
 unfold uD yF at h
 by_cases a:gu w x=0
 .rw[if_pos a]at h;have b:=Jd (PJ a);have h3:(yd (w.getD 3 0) (w.drop 8) x).2=3:=by
   split at h
   .cases h
   .exact h
  obtain⟨h1,h2⟩:=Wx h3;have c:(headN w).pairs=vg (w.getD 3 0) (w.drop 8):=by unfold headN wy;dsimp only;rw[if_pos h2]
  grind
 .rw[if_neg a]at h;dsimp only at h;unfold gu at h
  split at h
  .split at h<;>cases h
  .unfold wi at h
   split at h
   .split at h<;>cases h
   .cases h


@[reducible] def pU (R:LP × Nat × Nat):PV:=.tuple [.list 0 2 (R.1.map vm),iv (R.2.1:Nat),iv (R.2.2:Nat)]
theorem C0(R:LP×Nat×Nat):Lb (pU R):=Lb.three (nW _) (.int _ _) (.int _ _)
def Wk.put(y:Wk)(lf:Nat)(pr:Pr):LP×Nat×Nat:=((y.does (vY (64*lf) (uD (jW y.W lf) pr).1)).L,y.used,0)
@[reducible] def uk (x:Nat):Prop:=x < 18446744073709551616
def WB(w:LN):Prop:=∀x∈w,uk x
def PB(l:LP):Prop:=∀c∈l,uk c.1/\uk c.2
def BB(l:LP):Prop:=∀c∈l,uk c.2
variable {l:LP}
theorem WB.get(h:WB w)(i:Nat):uk (w.getD i 0):=by
 rw[Yu]
 cases a:w[i]? with
 | none=>exact Zt _
 | some x=>exact h x (Yt a)
theorem PB.get(h:PB l)(i:Nat):uk (l.getD i (0,0)).1/\uk (l.getD i (0,0)).2:=by
 rw[Yu]
 cases a:l[i]? with
 | none=>grind
 | some x=>exact h x (Yt a)
theorem WB.set(h:WB w){v:Nat}(hv:uk v)(i:Nat):WB (w.set i v):=fun x a=>by
 rcases List.mem_or_eq_of_mem_set a with h1|rfl
 .exact h x h1
 .exact hv
theorem WB.drop(h:WB w)(n:Nat):WB (w.drop n):=fun x a=>h x (Y5 a)
theorem WB.block(h:WB w)(b:Nat):WB (jW w b):=fun x a=>h x (YW (Y5 a))
theorem PB.nil:PB []:=fun c a=>by grind
theorem PB.snoc(h:PB l){a b:Nat}(ha:uk a)(hb:uk b):PB (l++[(a,b)]):=fun c d=>by
 rcases YM.1 d with d|d
 .exact h c d
 grind
theorem BB.nil:BB []:=fun c a=>by simp at a
theorem BB.cons{c:Pr}(h:uk c.2)(k:BB l):BB (c::l):=fun x a=>by
 rcases YA.1 a with rfl|a
 .exact h
 .exact k x a
theorem BB.app{m:LP}(h:BB l)(k:BB m):BB (l++m):=fun x a=>by
 rcases YM.1 a with a|a
 .exact h x a
 .exact k x a
theorem Av:∀(l:LN) (prev:Nat),WB l->PB (vg prev l)
 | [],_,_=>fun c a=>by simp[vg]at a
 | [_],_,_=>fun c a=>by simp[vg]at a
 | k::p::l,prev,h=>by
  have h2:WB l:=fun x b=>h x (Ys _ (Ys _ b));rw[vg]
  split
  .exact fun c a=>by grind
  .split
   .exact Av l p h2
   .intro c a;rcases YA.1 a with rfl|a
    .exact⟨h _ (by simp),h _ (by simp)⟩
    .exact Av l p h2 c a
theorem WA(left:Nat){l:LN}(h:WB l):PB (wy left l):=by
 unfold wy
 split
 .exact Av _ _ h
 .exact fun c a=>by grind
structure NB(n:zi):Prop where
 low:uk n.low
 left:uk n.left
 pairs:PB n.pairs
variable {n:zi}
theorem Rn(h:WB w):NB (headN w):=⟨h.get 2,h.get 3,WA _ (h.drop 8)⟩
theorem HB(h:NB n)(h1:n.level<=100)(h2:n.sib<2048)(h3:n.way<=2):∀i,WB (uu n i)
 | 0=>fun x a=>by rw[uu]at a;rw[ZV a];exact Zt _
 | i+1=>by
  rw[uu];refine(HB h h1 h2 h3 i).set ?_ _
  match i with
  | 0=>show 7522529147838689024+n.level<_;omega
  | 1=>show n.sib<_;omega
  | 2=>exact h.low
  | 3=>exact h.left
  | i+4=>show n.way<_;omega
theorem JL(h:NB n)(h1:n.level<=100)(h2:n.sib<2048)(h3:n.way<=2):∀i,WB (xd n i)
 | 0=>HB h h1 h2 h3 5
 | i+1=>by
  rw[xd];exact((JL h h1 h2 h3 i).set (h.pairs.get i).1 _).set (h.pairs.get i).2 _
theorem SI(h:NB n)(h1:n.level<=100)(h2:n.sib<2048)(h3:n.way<=2):WB (uR n):=JL h h1 h2 h3 _
theorem Mq(h:PB l)(i:Nat):∀m,BB (xy l i m)
 | 0=>BB.nil
 | m+1=>by
  unfold xy
  split
  .exact .cons (h.get m).2 (.cons (h.get m).1 (Mq h i m))
  .exact BB.nil
theorem KI(hw:WB w)(hl:uk left)(j:Nat):uk (yU left w j):=by
 unfold yU
 split
 .exact hl
 .exact hw.get _
theorem Wv(hw:WB w)(hl:uk left)(hx:uk x.1/\uk x.2):BB (yd left w x).1:=by
 have a:=Av w left hw;unfold yd
 split
 .split
  .exact BB.nil
  .split
   .exact BB.nil
   .exact .cons (Zt _) ((Mq a _ _).app (.cons (KI hw hl _) (.cons hx.1 (.cons hx.2 BB.nil))))
 .exact BB.nil
theorem W5(hw:WB w)(d m:Nat):BB (xx w d m):=by
 unfold xx xZ;refine BB.app (fun c a=>?_) (.cons (Zt _) BB.nil);obtain⟨q,_,a⟩:=YG.1 a;simp only[YA,Zl,or_false]at a;rcases a with rfl|rfl<;>exact hw.get _
theorem WE(hw:WB w)(hl:uk left)(key:Nat):BB (yu left w key).1:=by
 unfold yu
 split
 .split
  .exact .cons (KI hw hl _) (W5 hw _ _)
  .exact BB.nil
 .exact BB.nil
theorem Gh{v no:Nat}{r:LP×Nat}(hv:uk v)(h:BB r.1):BB (yF w v no r).1:=by
 unfold yF
 split
 .split
  .refine BB.app ?_ fun c a=>?_
   .unfold kh;split
    .exact BB.nil
    .exact .cons hv BB.nil
   .obtain⟨x,hx,rfl⟩:=Yx.1 a;exact h x hx
  .exact BB.nil
 .exact BB.nil
theorem Um(hw:WB w)(hx:uk x.1/\uk x.2):BB (uD w x).1:=Gh zy (Wv (hw.drop 8) (hw.get 3) hx)
theorem Up(hw:WB w)(key:Nat):BB (yR w key).1:=Gh zy (WE (hw.drop 8) (hw.get 3) key)
theorem BB.off(h:BB l)(a:Nat):BB (vY a l):=fun c b=>by
 obtain⟨x,d,rfl⟩:=Yx.1 b;exact h x d
theorem eN:∀{l:LP} {w:LN},WB w->BB l->WB (jZ w l)
 | [],w,h,_=>h
 | c::l,w,h,k=>by
  show WB (jZ (w.set c.1 c.2) l);exact eN (h.set (k c (by simp)) _) fun y a=>k y (Ys _ a)
def rH(l:LC):Prop:=∀n∈l,NB n/\n.level<=100/\n.way<=2
theorem Te(h:PB l):rH (yH l):=by
 unfold yH
 split
 .intro n hn;simp only[YA,Zl,or_false]at hn;subst hn;exact⟨⟨Zt _,show 9223372036854775808<_ by decide,fun c a=>by grind⟩,Yv _,Yv _⟩
 .intro n hn;obtain⟨i,_,rfl⟩:=Yx.1 hn;refine⟨⟨?_,show 9223372036854775808<_ by decide,fun c a=>h c (Y5 (YW a))⟩,Yv _,Yv _⟩;show uk (if _ then _ else _)
  split
  .exact(h.get _).1
  omega
theorem NQ{lv:Nat}(hv:lv<=100)(h:PB l):rH (xb lv l):=fun n a=>by
 obtain⟨i,_,rfl⟩:=Yx.1 a;exact⟨⟨(h.get _).1,(h.get _).2,fun c b=>h c (Y5 (YW (Y5 b)))⟩,hv,Yv _⟩
theorem ID:∀{bs:LN} {ns:LC},(∀b∈bs,b<2048)->rH ns->∀n∈wz bs ns,NB n/\n.level<=100/\n.sib<2048/\n.way<=2
 | [],ns,_,_=>fun n c=>by simp[wz]at c
 | _::_,[],_,_=>fun n c=>by simp[wz]at c
 | b::bs,n::ns,h,k=>fun m d=>by
  rw[wz]at d;rcases YA.1 d with rfl|d
  .obtain⟨k1,k2,k3⟩:=k n (by simp);refine⟨⟨k1.low,k1.left,k1.pairs⟩,k2,?_,k3⟩;show bs.headD 0<2048
   cases bs with
   | nil=>decide
   | cons a bs=>simp_all
  .exact ID (fun b e=>h b (Ys _ e)) (fun n c=>k n (Ys _ c)) m d
def TB(T:List vh):Prop:=∀L∈T,∀n∈L.2,NB n/\n.level<=100/\n.sib<2048/\n.way<=2
theorem FS{free:LN}(hf:∀b∈free,b<2048):∀(k:Nat) (l:LC) (used:Nat) (T T':List vh),T.length+k<=90->rH l->TB T->pI free k l used T=some T'->TB T'
 | 0,l,used,T,T',_,_,_,h=>by cases h
 | k+1,l,used,T,T',p,f,i,h=>by
  have d:∀b∈(free.drop used).take l.length,b<2048:=fun b j=>hf b (Y5 (YW j));have g:TB (((free.drop used).take l.length,wz ((free.drop used).take l.length) l)::T):=fun L a=>by
   rcases YA.1 a with rfl|a
   .exact ID d f
   .exact i L a
  unfold pI at h
  split at h
  .cases h
  .split at h
   .grind
   .refine FS hf k _ _ _ _ (by grind) (NQ zo fun c m=>?_) g h;have h1:=zAR9 m;obtain⟨n,o,e⟩:=Yx.1 h1.1;have h2:=d _ h1.2;exact⟨by rw[<- e];exact(f n o).1.low,by omega⟩
theorem Mg:∀{T:List vh},TB T->BB (kg T)
 | [],_=>BB.nil
 | L::T,h=>by
  refine BB.app (fun c a=>?_) (Mg fun M b=>h M (Ys _ b));obtain⟨x,d,a⟩:=YG.1 a;obtain⟨i,_,rfl⟩:=Yx.1 a;obtain⟨h1,h2,h3,h4⟩:=h L (Yp ..) _ (zAR9 d).2;exact(SI h1 h2 h3 h4).get i


theorem BS(b:Nat):∀(l:LP) (w:LN),64*b+64<=w.length->(∀s∈l,s.1<64)->jW (jZ w (vY (64*b) l)) b=jZ (jW w b) l
 | [],_,_,_=>rfl
 | s::l,w,e,h=>by
  have h1:=h s (Yp ..);have a:jZ w (vY (64*b) (s::l))=jZ (w.set (64*b+s.1) s.2) (vY (64*b) l):=rfl;have c:jZ (jW w b) (s::l)=jZ ((jW w b).set s.1 s.2) l:=rfl;rw[a,c,BS b l _ (by grind) fun t d=>h t (Ys _ d)]
  congr 1
  unfold jW
  apply Zn
  intro j;rw[Zo,Y4,zBI9,zBI9,Zo,Y4];simp only[Y0,YF]
  grind
theorem eO(i:Nat):∀(l:LP) (w:LN),(∀s∈l,s.1≠i)->(jZ w l).getD i 0=w.getD i 0
 | [],_,_=>rfl
 | s::l,w,h=>by
  have e:jZ w (s::l)=jZ (w.set s.1 s.2) l:=rfl;rw[e,eO i l _ fun t a=>h t (Ys _ a),Yu,YD (h s (Yp ..)),<- Yu]


@[reducible] def nA (L:LP) (n:Nat) (bs:LN) (no:Nat):PV:=.tuple [.list 0 2 (L.map vm),iv n,.list 0 1 (bs.map fun (b:Nat)=>iv (b:Int)),iv no]
theorem C1(L:LP)(n:Nat)(bs:LN)(no:Nat):Lb (nA L n bs no):=.tuple fun v a=>by
 simp at a;rcases a with rfl|rfl|rfl|rfl
 .exact nW _
 .exact .int _ _
 .exact Lb.ivn _
 .exact .int _ _
variable {E:vC}


theorem Fo(q:Nat)(H:LQ)(iw gw qw M0:Nat)(w:LN)(l:LP)(hl:l.length<10000000)(hw:0<w.length/\w.length<=1000000)(hM0:M0<=gw)(hr:H[iw]?=some (.row 29 1 gw M0 (w.map uv))):FO ET 27 [.sl iw gw 0 w.length qw 1,.list q 2 (l.map vm)] H false fun e H'=>xG H H'/\∃id g M,e=.ret (.sl id g 0 w.length (2*w.length) 1)/\M<=g/\H'[id]?=some (.row 29 1 g M ((jZ w l).map uv)):=by
 refine wF (eG T27 func27) ?_;have v:w.length*9<=140737488355328:=zo;have p:¬w.length=0:=zo;have y:∀X,(H++X)[iw]?=some (.row 29 1 gw M0 (w.map uv)):=fun X=>vM hr;have h:(w.map uv).length=w.length:=Yw ..;have r:w.length<=w.length:=Ym _;have b:(w.map uv).take w.length=w.map uv:=by rw[<- h,YR]
 refine vI (uc v p y hM0 h r b) ?_;refine vo (vG (fun m s=>∃(i M:Nat),m=l.length-i/\i<=l.length/\M<=1/\s.tm 1=.list q 2 (l.map vm)/\s.tm 5=.sl H.length 1 0 w.length (2*w.length) 1/\s.tm 6=iv i/\s.df=[]/\s.H=H++[.row 29 1 1 M ((jZ w (l.take i)).map uv)]) (n:=l.length) ?_ ?_)
 .exact⟨0,0,rfl,Yv _,by decide,zt,zt,zt,rfl,rfl⟩
 .rintro m ⟨tm,df,Hx⟩ ⟨i,M,rfl,hi,hM,h1,h5,h6,rfl,rfl⟩;dsimp only at h1 h5 h6;have t:=yZ (l.take i) w;refine vJ (jX h1 h6) ?_ ?_;rotate_left
  .intro a;have a:¬i<l.length:=vZ a;obtain rfl:i=l.length:=zo;refine uf h5 ?_;rw[YR]at t⊢;exact⟨(xG.refl H).app _,H.length,1,M,rfl,hM,by simp⟩
  intro a;have a:i<l.length:=wa a;obtain⟨x,j⟩:=uM (l:=l) a;have c:(l.map vm)[i]?=some (vm x):=wB j;have b:jZ w (l.take (i+1))=(jZ w (l.take i)).set x.1 x.2:=by
   rw[YO,j,pg];rfl
  have k:(0:Int)<=(x.1:Nat):=ZD _;refine vP ?_
  by_cases u:x.1<w.length
  .have d:((x.1:Nat):Int)<(w.length:Nat):=zo;obtain⟨o,z⟩:∃old,(jZ w (l.take i))[x.1]?=some old:=⟨_,Yk zo⟩
   have A:((jZ w (l.take i)).map uv)[x.1]?=some (uv o):=wB z;have f:((jZ w (l.take i)).map uv).set x.1 (.int .u64 (x.2:Int))=(jZ w (l.take (i+1))).map uv:=by rw[b];exact zAO9.symm
   generalize (jZ w (l.take i)).map uv=K0 at *
   refine zB ?_;refine zB ?_;refine vF (uc h1 h5 h6 c a k d) ?_;refine uF ?_;refine ua ?_;refine vS (bq h1 h5 h6 c a u hM A f) ?_;refine vq h5 ?_;refine vu h6 ?_;refine⟨_,?m,i+1,1,rfl,a,Ym _,zu h1,zu h5,zu h6,rfl,rfl⟩
   case m=>omega
  .have d:¬((x.1:Nat):Int)<(w.length:Nat):=zo;have f:(jZ w (l.take (i+1)))=jZ w (l.take i):=by rw[b,List.set_eq_of_length_le zo]
   refine zB ?_;refine zB ?_;refine vF (uc h1 h5 h6 c a k d) ?_;refine zH ?_;refine vu h6 ?_;refine⟨_,?m,i+1,M,rfl,a,hM,zu h1,zu h5,zu h6,zt,by rw[f]⟩;omega


section mid3
variable {α:Type}
theorem Cw(G G2 l:List α)(a b c x y z:α):(G++a::b::c::(G2++x::y::z::l))[G.length+(G2.length+1+1+1+1+1)]?=some z:=by
 rw[YN zo,show G.length+(G2.length+1+1+1+1+1)-G.length=G2.length+1+1+1+1+1 by omega];simp_all
end mid3
variable (w:LN)(a:Int)
@[reducible] def kC (l:List (Int × Nat)):LJ:=l.map fun x=>.agg [iv x.1,uv x.2]


def yY(w:LN)(a:Int):LP×Nat:=if uK w.length a=true then if(vK w a.toNat).2=true then(vQ (xK (vK w a.toNat).1).2,0)else([],220)else([],2)
theorem NY:mR w a=.ret (.tuple [vO 0 (yY w a).1,iv (yY w a).2]):=by
 unfold mR yY
 grind
theorem Fh(hw:w.length<=131072):(yY w a).1.length<=60000:=by
 unfold yY
 split
 .split
  .rename_i hr ht;obtain⟨f1,f2,f3,f4,f5⟩:=li (w:=w) (T:=(vK w a.toNat).1) hw a.toNat (by rw[<- ht]);obtain⟨c,g⟩:=sZ f3;have b:=f1 _ (Yt c);have f:=tj (xK (vK w a.toNat).1).2 fun n d=>(b.lv.node d).1;have e:=b.few
   grind
  grind
 grind


def ox(T:List vh)(b:Nat):LN:=(T.filter fun L=>L.1.contains b).map fun _=>b
variable (X:LN)(T:List vh)(Y:LN)(p j:Nat)(w:LN)(a b e n:Nat)
def gq(T:List vh)(n:Nat):LN:=(List.range n).flatMap (ox T)
def nN(w:LN)(a:Int):FE:=if uK w.length a=true then if(vK w a.toNat).2=true then .ret (.tuple [.list 0 1 (wo (gq (vK w a.toNat).1 (w.length/64))),iv 0])else .ret (.tuple [.list 0 1 (wo []),iv 220])else .ret (.tuple [.list 0 1 (wo []),iv 2])
theorem Ip(l:LN):Lb (.list 0 1 (wo l)):=by
 refine Lb.list fun v a=>?_;obtain⟨y,b,a⟩:=YG.1 a;obtain⟨x,_,rfl⟩:=Yx.1 b;simp[PV.cells]at a;subst a;exact .int _ _
theorem SV(a:Int):kI (nN w a):=by
 unfold nN
 split
 .split<;>exact Lb.two (Ip _) (.int _ _)
 .exact Lb.two (Ip _) (.int _ _)


theorem F0:gq T (n+1)=gq T n++ox T n:=by
 unfold gq;rw[Zw,Zj];simp
theorem tD{T:List vh}{b x:Nat}(h:x∈ox T b):x=b:=by
 obtain⟨_,_,e⟩:=Yx.1 h;omega
theorem Tq(a:Nat):(ox T b).count a=if a=b then(T.filter fun L=>L.1.contains a).length else 0:=by
 unfold ox;rw[show (fun _:vh=>b)=Function.const vh b from rfl,List.map_const,List.count_replicate]
 grind
theorem FW(T:List vh)(a:Nat):∀n,(gq T n).count a=if a<n then(T.filter fun L=>L.1.contains a).length else 0
 | 0=>by simp[gq]
 | n+1=>by
  rw[F0,List.count_append,FW T a n,Tq]
  grind
theorem Hb(a:Nat):∀T:List vh,(∀L∈T,L.1.Nodup)->(T.flatMap (·.1)).count a=(T.filter fun L=>L.1.contains a).length
 | [],_=>rfl
 | L::T,h=>by
  rw[YT,List.count_append,Hb a T fun M b=>h M (Ys _ b),(h L (Yp ..)).count,List.filter_cons]
  grind
theorem FZ(T:List vh):∀n,(gq T n).Pairwise (·<=·)/\∀x∈gq T n,x<n
 | 0=>by simp[gq]
 | n+1=>by
  obtain⟨h1,h2⟩:=FZ T n;rw[F0];refine⟨zAV9.2 ⟨h1,zBA9.2 fun i j b c _=>?_,fun x a y d=>?_⟩,fun x a=>?_⟩
  .rw[tD (YX b),tD (YX c)];omega
  .have:=h2 x a;rw[tD d];omega
  .rcases YM.1 a with a|a
   .grind
   .rw[tD a];omega
theorem Xp(hn:∀L∈T,L.1.Nodup)(hb:∀L∈T,∀b∈L.1,b<n):yV ((T.flatMap (·.1)).map fun b:Nat=>(b:Int))=(gq T n).map fun b:Nat=>(b:Int):=by
 have d:(T.flatMap (·.1)).Perm (gq T n):=List.perm_iff_count.2 fun a=>by
  rw[Hb a T hn,FW]
  by_cases h:a<n
  .grind
  .rw[if_neg h,Zg,List.filter_eq_nil_iff];intro L e f
   grind
 refine List.Perm.eq_of_pairwise (le:=fun x y:Int=>x<=y) (fun a b _ _ h1 h2=>by omega) ?_ ?_ ((List.mergeSort_perm _ _).trans (d.map _))
 .exact(List.pairwise_mergeSort (fun a b c h1 h2=>by grind) (fun a b=>by grind) _).imp fun h=>of_decide_eq_true h
 .exact zBL9.2 ((FZ T n).1.imp fun h=>by omega)
theorem Kq{w:LN}{lv:Int}:∀(k:Nat) (seen bs:LN) (ns:LC) (b:Nat),bs.Nodup->(∀x∈bs,x∈seen)->∀r,wW w lv k seen bs ns b=some r->r.2.1.Nodup
 | 0,seen,bs,ns,b,h1,h2,r,h=>by
  unfold wW at h
  grind
 | k+1,seen,bs,ns,b,h1,h2,r,h=>by
  unfold wW at h
  split at h
  .grind
  .split at h
   .cases h
   .rename_i hs
    split at h
    .refine Kq k _ _ _ _ ?_ ?_ r h
     .grind
     grind
    grind
theorem Kk{w:LN}:∀(d:Nat) (seen:LN) (acc:List vh) (b:Nat) (lv:Int),(∀L∈acc,L.1.Nodup)->∀L∈(wZ w d seen acc b lv).1,L.1.Nodup
 | 0,seen,acc,b,lv,h=>h
 | d+1,seen,acc,b,lv,h=>by
  rw[wZ]
  cases c:wW w lv (w.length/64) seen [] [] b with
  | none=>exact h
  | some r =>
   obtain⟨e,bs,a⟩:=r;have k:=Kq _ _ _ _ _ List.nodup_nil (fun x f=>by grind) _ c;have h':∀L∈acc++[(bs,a)],L.1.Nodup:=fun L g=>by grind
   cases a with
   | nil=>exact h
   | cons n a =>
    simp only
    split
    .exact h'
    .exact Kk d _ _ _ _ h'
def lL(acc:LN)(i:Nat)(G:LQ):LQ:=.row 33 1 0 0 [.sl 2 i 0 acc.length (2*acc.length) 1]::.row 38 1 0 0 [iv 0]::.row 3 1 i 0 (wo acc)::G
theorem Py:FO ET 171 [.ptr 0 0 0 0 1] [.row 33 1 0 0 [.nilsl],.row 38 1 0 0 [iv 0]] false fun e H'=>e=.ret (.tuple [])/\H'=[.row 33 1 0 0 [.nilsl],.row 38 1 0 0 [iv 0]]:=by
 refine wF (eG T171 func171) ?_;refine zJ ?_;exact⟨[],rfl,rfl,rfl⟩
theorem FK(l:LN):wo l=(l.map fun b:Nat=>(b:Int)).map iv:=by simp_all
theorem F1:∀(T:List vh),(∀L∈T,L.1.length<=2048)->(T.flatMap (·.1)).length<=2048*T.length
 | [],_=>Yv _
 | L::T,h=>by
  have h1:=F1 T fun M a=>h M (Ys _ a)
  grind
theorem Xc{acc:LN}{i q:Nat}{G:LQ}(h1:0<acc.length)(h2:acc.length<=1000000):FO ET 172 [.sl 2 i 0 acc.length q 1] (lL acc i G) false fun e H'=>e=.ret (.tuple [])/\H'=.row 33 1 0 0 [.sl 2 i 0 acc.length (2*acc.length) 1]::.row 38 1 0 0 [iv 0]::.row 3 1 i i ((yV (acc.map fun b:Nat=>(b:Int))).map iv)::G:=by
 have:=M6 Qx Xg (H:=lL acc i G) (id:=2) (g:=i) (M:=0) (xs:=acc.map fun b:Nat=>(b:Int)) (by rw[<- FK];rfl) (Yv _) (by grind) (by grind) q;rw[Yw]at this;exact this
theorem MT(a:Int)(hs:vx w.length):FN ET 111 [wv p w,iv a] (nN w a):=by
 have d:=tu p w a hs;have M:=SV w a;refine qv (eG T111 func111) M ?_;refine wu ?_;refine gZ (f:=91) (p:=.ptr 1 0 0 0 1) (cl:=.fn 171 [.ptr 0 0 0 0 1]) ?_ ?_ eS ?_
 .rfl
 .simp only[go_sem]<;>rfl
 refine zN ?_;refine zI ?_;have bad:∀(j:Nat->PV) (n:Nat),nN w a=.ret (.tuple [.list 0 1 (wo []),iv n])->j 4=.ptr 0 0 0 0 1->j 5=.ptr 1 0 0 0 1->ye ET T111 (fun P H=>va H 0 P (nN w a)) (.panic (vN n)) ⟨j,[.caught (.ptr 1 0 0 0 1) (.fn 171 [.ptr 0 0 0 0 1])],[.row 33 1 0 0 [.nilsl],.row 38 1 0 0 [iv 0]]⟩:=fun j n A h4 k=>by
  refine⟨n,171,[.ptr 0 0 0 0 1],false,1,0,1,rfl,rfl,rfl,Py.mono fun e H Q=>?_⟩;obtain⟨rfl,rfl⟩:=Q;refine⟨rfl,_,rfl,[.nilsl,iv n],?_,?_⟩
  .simp[T111,xT,zj,zq,h4,k,zD,zA,zF];rfl
  .rw[A];exact wq
 unfold fy at d
 by_cases t:uK w.length a=true
 rotate_left
 .rw[if_neg t]at d;refine vB d ?_;exact bad _ 2 (by unfold nN;grind) rfl rfl
 rw[if_pos t]at d;have B:=(iY _ _).1 t
 by_cases v:(vK w a.toNat).2=true
 rotate_left
 .rw[if_neg v]at d;refine vB d ?_;exact bad _ 220 (by unfold nN;grind) rfl rfl
 rw[if_pos v]at d;have I:nN w a=.ret (.tuple [.list 0 1 (wo (gq (vK w a.toNat).1 (w.length/64))),iv 0]):=by unfold nN;rw[if_pos t,if_pos v]
 obtain⟨f1,f2,f3,f4,f5⟩:=li (w:=w) (T:=(vK w a.toNat).1) zo a.toNat (by grind);have C:∀L∈(vK w a.toNat).1,L.1.Nodup:=Kk _ _ _ _ _ fun L c=>by grind
 rw[I];clear bad;generalize (vK w a.toNat).1=T at d f1 f2 f3 f4 f5 C;have D:∀L∈T,L.1.length<=2048:=fun L c=>by have h1:=(f1 L c).lv.len;have h2:=(f1 L c).few;omega
 refine wj d ?_;refine By 3 1 (id:=0) rfl ?_;simp only[ya,Yq,YK,ZE,Yy,YC];refine zB ?_;refine vo (vG (fun m s=>∃(i:Nat) (acc:LN) (G:LQ),m=T.length-i/\i<=T.length/\acc=(T.take i).flatMap (·.1)/\(0<i->0<acc.length)/\s.tm 4=.ptr 0 0 0 0 1/\s.tm 5=.ptr 1 0 0 0 1/\s.tm 11=yJ T/\s.tm 12=iv T.length/\s.tm 13=iv i/\s.df=[.caught (.ptr 1 0 0 0 1) (.fn 171 [.ptr 0 0 0 0 1])]/\s.H=lL acc i G) (n:=T.length) ?_ ?_)
 .exact⟨0,[],[],rfl,Yv _,rfl,fun h=>absurd h zo,zt,zt,zt,zt,zt,rfl,rfl⟩
 rintro m ⟨j,Z,H⟩ ⟨i,acc,G,rfl,hi,o,J,h4,k,x,y,r,rfl,rfl⟩;dsimp only at *
 unfold lL;have X:acc.length<=2048*14:=by
  rw[o];have:=F1 (T.take i) fun L c=>D L (YW c);rw[YF]at this;omega
 refine vJ (jX y r) ?_ ?_
 .intro g;have g:i<T.length:=wa g;obtain⟨L,c⟩:=uM (l:=T) g;have N:(T.map fun L=>uw 0 0 L.1 L.2)[i]?=some (uw 0 0 L.1 L.2):=wB c;have u:=Yt c;have Y:=D L u;have K:¬L.1.length=0:=fun h=>(f1 L u).ne (Zc (by rw[<- (f1 L u).lv.len];exact h));have O:(acc.length+L.1.length)*9<=140737488355328:=zo;refine vP ?_;refine vI (wd x r N g) ?_;refine vu (vn h4 K O) ?_;refine vu r ?_;refine⟨_,?R,i+1,acc++L.1,?G1,rfl,g,?S,fun _=>by grind,zu h4,zu k,zu x,zu y,zu r,rfl,?U⟩
  case R=>omega
  case S=>rw[o,YO,c,Zj];simp
  case U=>(try dsimp only);rw[show wo (acc++L.1)=wo acc++wo L.1 from YJ,Yn]
 intro g;have g:¬i<T.length:=vZ g;obtain rfl:i=T.length:=zo;rw[YR]at o;have V:=J (Zq.2 f3);refine pC ?_;refine vU h4 ?_;have z:=Xc (acc:=acc) (i:=T.length) (q:=2*acc.length) (G:=G) V zo;unfold lL at z;refine wI z ?_ (by first|rfl|(simp only[go_sem,h4]<;>rfl)) (by simp only[go_sem]<;>rfl);rintro e H' ⟨rfl,rfl⟩;refine zN ?_;refine vI (jX h4 k) ?_;refine vt ?_;refine⟨[.sl 2 T.length 0 acc.length (2*acc.length) 1,iv 0],by simp[T111,xT,zj,zq,zb,h4,k,zD,zA,zF,PV.cells],zf.tL ⟨?_,.int _ _,trivial⟩⟩;have e:=Xp T (w.length/64) C fun L c b B=>((f1 L c).lv.each b B).1;rw[<- o]at e;have A:(gq T (w.length/64)).length=acc.length:=by
  have:=congrArg List.length e;rw[rc,Yw,Yw]at this;exact this.symm
 rw[FK,<- e];exact zf.wM rfl (Ym _) rfl (by grind) (by grind) uo Hg


theorem JZ:∀(l:LP) (seen:LN),xr seen l=true->(l.map (·.2)).Nodup/\∀p∈l,p.2 ∉ seen
 | [],_,_=>⟨List.nodup_nil,fun p b=>by cases b⟩
 | a::l,seen,h=>by
  rw[xr,Yr,ZA]at h;obtain⟨h1,h2⟩:=JZ l (a.2::seen) h.2
  grind
theorem DI{left:Nat}(h:xr [left] l=true):(left::l.map (·.2)).Nodup:=by
 obtain⟨h1,h2⟩:=JZ l _ h
 grind
def wT:Nat->LP->Nat
 | prev,a::l=>wT a.2 l
 | prev,[]=>prev
theorem sw(a:Pr):∀(l:LP) (prev:Nat),wT prev (l++[a])=a.2
 | [],_=>rfl
 | b::l,_=>sw a l b.2
theorem i9(rest:LN):∀(A:LP) (prev:Nat),(prev::A.map (·.2)).Nodup->(∀p∈A,p.2≠0)->vg prev (vA A++rest)=A++vg (wT prev A) rest
 | [],_,_,_=>rfl
 | a::A,prev,h,b=>by
  rw[YL]at h;have h2:=ZF.1 h;have h1:¬a.2=prev:=fun e=>h2.1 (by grind);rw[mZ,Yy,Yy,vg,if_neg (b a (Yp ..)),if_neg h1,i9 rest A a.2 h2.2 fun p c=>b p (Ys _ c)];rfl
theorem Aw:∀(l:LN) (prev:Nat),(vg prev l).length<=vR l
 | [],_=>Yv _
 | [_],_=>Yv _
 | k::p::l,prev=>by
  have h:=Aw l p;rw[vg,vR]
  grind
theorem KO:∀(l:LN) (prev:Nat),(vg prev l).length=vR l->∃rest,l=vA (vg prev l)++rest/\vR rest=0/\∀p∈vg prev l,p.2≠0
 | [],_,_=>⟨[],rfl,rfl,fun p a=>by cases a⟩
 | [x],_,_=>⟨[x],rfl,rfl,fun p a=>by cases a⟩
 | k::p::l,prev,h=>by
  have c:=Aw l p;rw[vg,vR]at h;rw[vg]
  by_cases b:p=0
  .rw[if_pos b];exact⟨k::p::l,rfl,by rw[vR,if_pos b],fun p a=>by cases a⟩
  rw[if_neg b,if_neg b]at h;rw[if_neg b]
  by_cases h1:p=prev
  .grind
  rw[if_neg h1,Yq]at h;rw[if_neg h1];obtain⟨rest,e,h2,h3⟩:=KO l p zo;refine⟨rest,?_,h2,fun q d=>?_⟩
  .rw[mZ,Yy,Yy,<- e]
  grind
theorem oC:(X++a::b::Y).getD X.length 0=a/\(X++a::b::Y).getD (X.length+1) 0=b:=by grind
theorem I6(hn:n=X.length+1):(X++a::b::Y).set n e=X++a::e::Y:=by simp_all
theorem lY(A B:LP):vA (A++B)=vA A++vA B:=by simp[vA]
theorem sq(left:Nat)(A C:LP)(x:Pr)(rest w:LN)(hw:w=vA A++x.1::x.2::(vA C++rest)):∀q,q<=C.length->∃k,jZ (vA A++x.1::wT left A::(vA C++rest)) (xZ w A.length q)=vA (A++C.take q)++k::wT left (A++C.take q)::(vA (C.drop q)++rest)
 | 0,_=>⟨x.1,by simp[xZ,jZ]⟩
 | q+1,m=>by
  obtain⟨k,h⟩:=sq left A C x rest w hw q zo;have e:q<C.length:=zo;obtain⟨c,a⟩:=uM (l:=C) e;have hd:C.drop q=c::C.drop (q+1):=aw a;have i:C.take (q+1)=C.take q++[c]:=by rw[YO,a];rfl
  have j:(vA (A++x::C.take q)).length=2*(A.length+q)+2:=by rw[pM,Yn,Yq,YF];omega
  have f:w=vA (A++x::C.take q)++c.1::c.2::(vA (C.drop (q+1))++rest):=by
   rw[hw,lY,mZ,YI,Yy,Yy]
   congr 3
   conv=>lhs;rw[<- Y3 q C,hd,lY,mZ]
   simp
  obtain⟨b,d⟩:=oC (vA (A++x::C.take q)) (vA (C.drop (q+1))++rest) c.1 c.2;rw[<- f,j]at b d;have g:(vA (A++C.take q)).length=2*(A.length+q):=by rw[pM,Yn,YF];omega
  refine⟨c.1,?_⟩;rw[so,pg,h,b,d];show ((_:LN).set _ _).set _ _=_;rw[K6 _ _ _ _ _ _ _ g.symm,i,<- YI,sw,sD,hd,mZ];simp


theorem sv(k a:Nat):(w.set (k+8) a).drop 8=(w.drop 8).set k a:=by
 rw[List.drop_set,if_neg zo,ZM]
theorem Cb:∀(S:LP) (w:LN),(jZ w (uJ S)).drop 8=jZ (w.drop 8) S
 | [],_=>rfl
 | s::S,w=>by
  have a:jZ w (uJ (s::S))=jZ (w.set (s.1+8) s.2) (uJ S):=rfl;have b:jZ (w.drop 8) (s::S)=jZ ((w.drop 8).set s.1 s.2) S:=rfl;rw[a,b,Cb S,sv]
theorem GB(v:Nat):(jZ w (kh w v)).drop 8=w.drop 8:=by
 unfold kh
 split
 .rfl
 .show (w.set 4 v).drop 8=_;rw[List.drop_set,if_pos zy]
theorem KC:∀{l m:LP},m.Sublist l->vz l=true->vz m=true:=by
 have f:∀l:LP,vz l=true↔l.Pairwise fun a b=>a.1<b.1:=by
  intro l
  induction l with
  | nil=>exact⟨fun _=>.nil,fun _=>rfl⟩
  | cons a l e =>
   cases l with
   | nil=>exact⟨fun _=>zBG9 _ _,fun _=>rfl⟩
   | cons b l =>
    rw[vz,Yr,e,decide_eq_true_eq]
    constructor
    .rintro ⟨h1,h2⟩;refine Zu.2 ⟨fun c d=>?_,h2⟩;rcases YA.1 d with rfl|d
     .exact h1
     .exact Nat.lt_trans h1 ((Zu.1 h2).1 c d)
    .intro h;obtain⟨h1,h2⟩:=Zu.1 h
     grind
 grind


theorem QA(x:Nat):wm (wO .shr) [.int .u64 (x:Int),.int .u64 1]=some (.int .u64 ((x/2:Nat):Int)):=by
 simp[wm,PV.toT,wO,kv,ku,yb];rfl
theorem iN(hj:j<1000000):FR 207 [iv j] (uv (2*j+1:Nat)):=by
 refine qv (eG T207 func207) (.int _ _) ?_;have a:IntKind.i64.wrap ((2:Int)*(j:Int))=((2*j:Nat):Int):=yw;have b:((2*j:Nat):Int)+1=((2*j+1:Nat):Int):=zo;have c:IntKind.u64.wrap ((2*j+1:Nat):Int)=((2*j+1:Nat):Int):=ep;refine uf (vn a b c) ?_;exact zf.int _ _
theorem CT(hj:j<1000000):FR 208 [iv j] (uv (2*j:Nat)):=by
 refine qv (eG T208 func208) (.int _ _) ?_;have a:IntKind.i64.wrap ((2:Int)*(j:Int))=((2*j:Nat):Int):=yw;have b:IntKind.u64.wrap ((2*j:Nat):Int)=((2*j:Nat):Int):=ep;refine uf (jX a b) ?_;exact zf.int _ _
def bJ(a key:Nat):Int:=if a<key then -1 else if key<a then 1 else 0
theorem Gn(a:Pr)(key:Nat):FR 284 [pv a,uv key] (iv (bJ a.1 key)):=by
 refine qv (eG T284 func284) (.int _ _) ?_;refine zG ?_;refine vP ?_;unfold bJ
 by_cases h1:a.1<key
 .have g:(a.1:Int)<(key:Nat):=zo;rw[if_pos h1];refine yv g ?_;refine zO ?_;exact zf.int _ _
 have g:¬(a.1:Int)<(key:Nat):=zo;rw[if_neg h1];refine cH g ?_
 by_cases h2:key<a.1
 .have b:(key:Int)<(a.1:Nat):=zo;rw[if_pos h2];refine yv b ?_;refine zO ?_;exact zf.int _ _
 have b:¬(key:Int)<(a.1:Nat):=zo;rw[if_neg h2];refine pD b ?_;refine zO ?_;exact zf.int _ _
theorem Wr{key lo:Nat}(h1:∀(i:Nat) (x:Pr),l[i]?=some x->i<lo->x.1<key)(h2:∀(i:Nat) (x:Pr),l[i]?=some x->lo<=i->key<=x.1)(hl:lo<=l.length):wQ l key=lo:=by
 unfold wQ
 induction l generalizing lo with
 | nil=>simp_all
 | cons x l a =>
  rw[zCE9]
  cases lo with
  | zero =>
   have:=h2 0 x rfl (Yv _)
   grind
  | succ lo =>
   have:=h1 0 x rfl (Zt _);rw[if_pos (by grind),Yq,a (lo:=lo) (fun i y b c=>h1 (i+1) y (by grind) zo) (fun i y b c=>h2 (i+1) y (by grind) zo) (by grind)]
theorem An:∀{l:LP} {i j:Nat} {x y:Pr},vz l=true->l[i]?=some x->l[j]?=some y->i<j->x.1<y.1
 | [],i,j,x,y,_,c,_,_=>by grind
 | [a],i,j,x,y,_,c,d,e=>by grind
 | a::b::l,i,j,x,y,h,c,d,e=>by
  simp only[vz,Yr,decide_eq_true_eq]at h;obtain⟨j,rfl⟩:∃k,j=k+1:=⟨j-1,by omega⟩
  simp at d
  cases i with
  | zero =>
   simp at c;subst c
   cases j with
   | zero=>grind
   | succ j =>
    have:=An (l:=b::l) (i:=0) (j:=j+1) h.2 rfl (by simpa using d) (Zt _);omega
  | succ i=>exact An (l:=b::l) h.2 (by simpa using c) d zo
theorem Ol(l:LP)(key:Nat)(hr:vz l=true)(hl:l.length<1000000):FR 283 [vO p l,uv key,.fn 284 []] (.tuple [iv (wQ l key:Nat),.bool (yc l key)]):=by
 refine qv (eG T283 func283) (Lb.two (.int _ _) (.bool _)) ?_;refine zG ?_;refine vo (vG (fun m s=>∃a b:Nat,m=b-a/\a<=b/\b<=l.length/\(∀(i:Nat) (x:Pr),l[i]?=some x->i<a->x.1<key)/\(∀(i:Nat) (x:Pr),l[i]?=some x->b<=i->key<=x.1)/\s.tm 0=vO p l/\s.tm 1=uv key/\s.tm 2=.fn 284 []/\s.tm 8=iv l.length/\s.tm 9=iv a/\s.tm 10=iv b/\s.df=[]/\s.H=[]) (n:=l.length) ?_ ?_)
 .exact⟨0,l.length,rfl,Yv _,Ym _,fun i x _ h=>by omega,fun i x c h=>by grind,zt,zt,zt,zt,zt,zt,rfl,rfl⟩
 rintro m ⟨Q,R,H⟩ ⟨a,b,rfl,O,D,G,w,k,h1,h2,o,j,r,rfl,rfl⟩;dsimp only at *
 refine vJ (jX j r) ?_ ?_
 .intro f;have f:a<b:=wa f;obtain⟨d,I⟩:∃d,(a+b)/2=d:=⟨_,rfl⟩
  have uY:a<=d:=zo;have uZ:d<b:=zo;obtain⟨x,c⟩:∃x,l[d]?=some x:=⟨_,Yk zo⟩
  have t:(l.map pv)[d]?=some (pv x):=wB c;have u:d<l.length:=zo;have J:(a:Int)+(b:Int)=((a+b:Nat):Int):=zo;have K:IntKind.u64.wrap ((a+b:Nat):Int)=((a+b:Nat):Int):=ep;have L:IntKind.i64.wrap ((d:Nat):Int)=((d:Nat):Int):=yw;have z:=Gn x key;refine vP ?_;(repeat(first|refine vj ?_|refine wX ?_ (by simp(disch:=omega)only[go_sem,j,r,J,K,QA,I,L]<;>rfl)));refine vp (wc k h1 h2 t u) ?_;refine vi z ?_
  by_cases A:x.1<key
  .have g:bJ x.1 key<0:=by unfold bJ;rw[if_pos A];decide
   refine uy g ?_;refine uF ?_;have M:(d:Int)+1=((d+1:Nat):Int):=zo;refine vu M ?_;refine⟨_,?B,d+1,b,rfl,uZ,D,fun i y e b=>?_,w,zu k,zu h1,zu h2,zu o,zt,zu r,zt,zt⟩
   case B=>omega
   rcases Nat.lt_or_eq_of_le (Nat.le_of_lt_succ b)with h|h
   .have:=An hr e c h;omega
   .subst h;rw[c]at e;cases e;exact A
  .have g:¬bJ x.1 key<0:=by
    unfold bJ;rw[if_neg A];split<;>decide
   refine uy g ?_;refine yO ?_;refine zJ ?_;refine⟨_,?B,a,d,rfl,uY,by omega,G,fun i y e b=>?_,zu k,zu h1,zu h2,zu o,zu j,zt,zt,zt⟩
   case B=>omega
   rcases Nat.lt_or_eq_of_le b with h|h
   .have:=An hr c e h;omega
   .subst h;rw[c]at e;cases e;omega
 intro f;have f:¬a<b:=vZ f;obtain rfl:a=b:=zo;have q:=Wr G w D;refine zB ?_
 cases c:l[a]? with
 | none =>
  have v:¬(a:Int)<(l.length:Nat):=by have:=List.getElem?_eq_none_iff.1 c;omega
  have C:yc l key=false:=by unfold yc;rw[q,c]
  refine uf (vn o j v) ?_;rw[q,C];exact wq
 | some x =>
  have u:=(Yl.1 c).1;have v:(a:Int)<(l.length:Nat):=zo;have t:(l.map pv)[a]?=some (pv x):=wB c;have P:=w a x c (Ym _);have C:yc l key=decide (x.1=key):=by unfold yc;rw[q,c]
  have z:=Gn x key;have N:decide (bJ x.1 key=0)=decide (x.1=key):=by
   unfold bJ;rw[if_neg zo]
   by_cases h:key<x.1
   .rw[if_pos h];simp;omega
   .rw[if_neg h];simp;omega
  refine vp (ax k h1 h2 o j v u t) ?_;refine vi z ?_;refine zP ?_;rw[q,C,N];exact wq
theorem JU(l:LP)(key:Nat)(hr:vz l=true)(hl:l.length<1000000):FR 222 [vO p l,uv key] (.tuple [iv (wQ l key:Nat),.bool (yc l key)]):=by
 refine qv (eG T222 func222) (Lb.two (.int _ _) (.bool _)) ?_;refine wu ?_;refine vi (Ol p l key hr hl) ?_;refine zP ?_;exact wq


theorem FO.nil1{f:Nat}{x:PV}{H:LQ}{b:Bool}{R:FE->LQ->Prop}(z:Nat)(k:FO E f [.sl H.length 0 0 0 0 z,x] (H++[.row e z 0 0 []]) b R):FO E f [.nilsl,x] H b R:=fun B c h w g i=>by
 obtain⟨m,a⟩:=g.lazy e z;obtain⟨u,d,rfl,h1,h2⟩:=i.oc;obtain rfl:u=.nilsl:=by cases h1 with|pure h1=>cases h1;rfl
 obtain⟨r,h',j,H',c',l,n,o,p,q,s⟩:=k B _ h (.nilsl::d) a (LR.cons (.slnil z (.inr rfl)) (h2.mono fun _ _=>VR.mono m));exact⟨r,h',j,H',c',l,n,m.trans o,p,q,fun t id x v=>s t id x v⟩
def xq:LN->LP
 | a::b::l=>(a,b)::xq l
 | _=>[]
theorem JX:∀(l:LN) (j a b:Nat),l[2*j]?=some a->l[2*j+1]?=some b->(xq l)[j]?=some (a,b)
 | [],j,a,b,h,_=>by simp at h
 | [x],j,a,b,_,h=>by simp at h
 | x::y::l,0,a,b,h1,h2=>by simp at h1 h2;subst h1 h2;rfl
 | x::y::l,j+1,a,b,h1,h2=>by
  rw[xq,Y2];exact JX l j a b (by grind) (by grind)
theorem JY:∀(l:LN),(xq l).length=l.length/2
 | []=>rfl
 | [x]=>by simp[xq]
 | x::y::l=>by rw[xq,Yq,JY l,Yq,Yq];omega
def Nv(H:LQ)(idL:Nat)(x:PV)(more:LN):Prop:=x=.list 1 1 (more.map uv)\/∃idM,idM≠idL/\x=.sl idM 0 0 more.length (2*more.length) 1/\H[idM]?=some (.row 29 1 0 0 (more.map uv))
theorem iR{H:LQ}{idL g M k:Nat}{x:PV}{L:LP}{more:LN}(hsrc:Nv H idL x more)(hL:H[idL]?=some (.row 120 2 g M (L.map vm)))(hl:L.length<1000000)(hk:more.length=2*k)(hk4:k<=3)(hb:∀(j a:Nat),more[2*j]?=some a->a<1000000) :
  FO ET 206 [.sl idL g 0 L.length (2*L.length) 2,x] H false fun e H'=>e=.ret (.sl idL (g+k) 0 (L.length+k) (2*(L.length+k)) 2)/\xh idL H H'/\H'[idL]?=some (.row 120 2 (g+k) M ((L++xq more).map vm)):=by
 refine wF (eG T206 func206) ?_;refine zG ?_;refine vo (vG (fun m s=>∃(j:Nat) (V:LP) (Hc:LQ),m=k-j/\j<=k/\V=L++(xq more).take j/\V.length=L.length+j/\xh idL H Hc/\Hc[idL]?=some (.row 120 2 (g+j) M (V.map vm))/\s.tm 0=.sl idL (g+j) 0 V.length (2*V.length) 2/\s.tm 1=x/\s.tm 5=iv (2*j:Nat)/\s.df=[]/\s.H=Hc) (n:=k) ?_ ?_)
 .exact⟨0,L,H,rfl,Yv _,by simp,rfl,.refl _ _,hL,zt,zt,zt,rfl,rfl⟩
 rintro m ⟨R,S,Hc⟩ ⟨j,V,P,rfl,T,l,r,i,d,f,h1,c,rfl,rfl⟩;dsimp only at f h1 c;have o:((2*j:Nat):Int)+1=((2*j+1:Nat):Int):=zo;rcases hsrc with rfl|⟨v,w,rfl,C⟩;rotate_left;have t:=i v _ w C;rotate_left;have t:=d
 all_goals
  by_cases y:j<k
  .have p:((2*j+1:Nat):Int)<(2*k:Nat):=zo;refine vJ (wc h1 c o p hk) ?_ ?_;rotate_left
   .intro h;cases h
   intro _;obtain⟨a,q⟩:∃a,more[2*j]?=some a:=⟨_,Yk zo⟩
   obtain⟨b,u⟩:∃b,more[2*j+1]?=some b:=⟨_,Yk zo⟩
   have z:(more.map uv)[2*j]?=some (uv a):=wB q;have A:(more.map uv)[2*j+1]?=some (uv b):=wB u;have D:2*j<2*k:=zo;have I:2*j+1<2*k:=zo;have Q:=hb j a q;have J:IntKind.i64.wrap ((a:Nat):Int)=((a:Nat):Int):=yw;have K:∀X,(Hc++X)[idL]?=some (.row 120 2 (g+j) M (V.map vm)):=fun X=>vM d;have B:(V.length+1)*17<=140737488355328:=zo;have N:((2*j:Nat):Int)+2=((2*(j+1):Nat):Int):=zo;refine vP ?_;refine wH ?_;refine vS (xB f h1 c t z A D I o J B (jX K hk)) ?_;refine vq f ?_;refine vu (jX c N) ?_;refine⟨_,?m,j+1,V++[(a,b)],_,rfl,y,?O,by rw[Yn,r];rfl,(i.app _).set _,?G,by simp[zb];omega,zu h1,zu c,rfl,rfl⟩
   case m=>omega
   case O=>rw[l,YO,JX more j a b q u,YI];rfl
   case G=>rw[la d,YJ];rfl
  .have p:¬((2*j+1:Nat):Int)<(2*k:Nat):=zo;refine vJ (wc h1 c o p hk) ?_ ?_
   .intro h;cases h
   intro _;obtain rfl:j=k:=zo;rw[YV (by rw[JY];omega)]at l;refine vI f ?_;refine vt ?_;refine pK (vs:=[.sl idL (g+j) 0 V.length (2*V.length) 2]) (by simp[T206,xT,zj,zq,zb]) ⟨?_,i,?_⟩
   .rw[r];try rfl
   .rw[d,l]


theorem Hw{w:LN}{i:Nat}(h:i<w.length):w[i]=w.getD i 0:=by grind
theorem W4(p left d m:Nat)(w:LN)(hw:w.length<1000000)(hd:d<m)(hm:2*m<=w.length):FR 223 [xR p w left,iv d,iv m] (.list 0 2 ((xx w d m).map vm)):=by
 refine qv (eG T223 func223) (nW _) ?_;refine zG ?_;refine kp 120 2 (i:=6) rfl ?_;simp only[ya,Yq,YK,Y6,Yy,YC];refine zG ?_;refine vo (vG (fun B s=>∃(q:Nat) (V:LP) (Hc:LQ),B=m-1-d-q/\q<=m-1-d/\V=xZ w d q/\Hc[0]?=some (.row 299 2 0 0 [xR p w left])/\Hc[1]?=some (.row 120 2 V.length 0 (V.map vm))/\s.tm 2=iv m/\s.tm 3=.ptr 0 0 0 0 2/\s.tm 6=.sl 1 V.length 0 V.length (2*V.length) 2/\s.tm 7=iv (d+q:Nat)/\s.df=[]/\s.H=Hc) (n:=m-1-d) ?_ ?_)
 .exact⟨0,[],_,rfl,Yv _,rfl,rfl,rfl,zt,zt,zt,zt,rfl,rfl⟩
 rintro B ⟨tm,df,Hc⟩ ⟨q,V,T,rfl,hq,C,f,v,h2,h3,l,c,rfl,rfl⟩;dsimp only at *
 have U:V.length=2*q:=by rw[C,sn]
 have e0:((m:Nat):Int)-2=((m:Int)-2):=rfl
 by_cases K:q<m-1-d
 .have y:((d+q:Nat):Int)<=(m:Int)-2:=zo;refine vJ (vn h2 c y) ?_ ?_;rotate_left
  .intro h;cases h
  intro _;have o:((d+q:Nat):Int)+1=((d+q+1:Nat):Int):=zo;have D:2*(d+q+1)<w.length:=zo;have I:2*(d+q+1)+1<w.length:=zo;have N:=CT (d+q) zo;have z:=Ic p w (d+q+1) (by unfold vx;omega) D;have r:=iN (d+q) zo;have A:=iO p w (d+q+1) (by unfold vx;omega) I;rw[Hw D]at z;rw[Hw I]at A;have Y:xZ w d (q+1)=xZ w d q++xq [2*(d+q),w.getD (2*(d+q+1)) 0,2*(d+q)+1,w.getD (2*(d+q+1)+1) 0]:=by
   rw[so];rfl
  generalize w.getD (2*(d+q+1)) 0=a at *
  generalize w.getD (2*(d+q+1)+1) 0=b at *
  have Z:∀X,(Hc++X)[0]?=some (.row 299 2 0 0 [xR p w left]):=fun X=>vM f;have ab:0<Hc.length:=(Yl.1 f).1;have ad:1<Hc.length:=(Yl.1 v).1;have t:=iR (H:=Hc++[.row 29 1 0 0 [uv (2*(d+q):Nat),uv a,uv (2*(d+q)+1:Nat),uv b]]) (idL:=1) (g:=V.length) (M:=0) (k:=2) (L:=V) (more:=[2*(d+q),a,2*(d+q)+1,b]) (.inr ⟨Hc.length,by omega,rfl,by simp⟩) (vM v) zo rfl zy (fun j x O=>by
   grind)
  refine vP ?_;refine ua ?_;refine wD (wc h3 l c o f) N ?_;refine wD (wc h3 l c o f) z ?_;refine wD (wc h3 l c o f) r ?_;refine wD (wc h3 l c o f) A ?_;refine bk (wc h3 l c o f) t ?_;rintro e H' ⟨rfl,J,u⟩;refine⟨_,by simp only[go_sem]<;>rfl,?_⟩;refine vq h3 ?_;have P:((d+q:Nat):Int)+1=((d+(q+1):Nat):Int):=zo;refine vu (jX c P) ?_;refine⟨_,?m,q+1,V++xq [2*(d+q),a,2*(d+q)+1,b],_,rfl,K,by grind,J 0 _ zy (vM f),?G,zu h2,zu h3,by simp[zb,Yn,xq],zu c,rfl,rfl⟩
  case m=>omega
  case G=>rw[u,Yn];rfl
 .have y:¬((d+q:Nat):Int)<=(m:Int)-2:=zo;refine vJ (vn h2 c y) ?_ ?_
  .intro h;cases h
  intro _;obtain rfl:q=m-1-d:=zo;have Q:((m:Nat):Int)-1=((m-1:Nat):Int):=zo;have r:=iN (m-1) zo;have R:2*(m-1)+1=2*m-1:=zo;rw[R]at r;have t:=iR (H:=Hc++[.row 29 1 0 0 [uv (2*m-1:Nat),uv 0]]) (idL:=1) (g:=V.length) (M:=0) (k:=1) (L:=V) (more:=[2*m-1,0]) (.inr ⟨Hc.length,by grind,rfl,by simp⟩) (vM v) zo rfl zy (fun j x O=>by
   grind)
  refine vp (vn h2 Q l) ?_;refine vi r ?_;refine vU l ?_;refine wI t ?_ (by first|rfl|(simp only[go_sem,l]<;>rfl)) (by simp only[go_sem]<;>rfl);rintro e H' ⟨rfl,_,u⟩;refine zP ?_;have S:xx w d m=V++xq [2*m-1,0]:=by unfold xx;rw[C];rfl
  rw[S];exact zf.wh u rfl (by simp[xq]) (by simp[xq]) uo m6
theorem Ps(X:LQ):FO ET 220 [.ptr 0 0 0 0 1] (.row 57 1 0 0 [.nilsl]::.row 38 1 0 0 [iv 0]::X) false fun e H'=>e=.ret (.tuple [])/\H'=.row 57 1 0 0 [.nilsl]::.row 38 1 0 0 [iv 0]::X:=by
 refine wF (eG T220 func220) ?_;refine zJ ?_;exact⟨[],rfl,rfl,rfl⟩
@[reducible] def pY (r:LP × Nat):PV:=.tuple [.list 0 2 (r.1.map vm),iv (r.2:Nat)]
variable {mo:za}(p left:Nat)(l:LP)(x:Pr)(L:LP)(key:Nat)(w:LN)
theorem bY(r:LP×Nat):Lb (pY r):=Lb.two (nW _) (.int _ _)
theorem XA(hw:w.length<1000000):FR 164 [uv left,wv p w,uv key] (pY (yu left w key)):=by
 refine qv (eG T164 func164) (bY _) ?_;refine wu ?_;refine gZ (f:=201) (p:=.ptr 1 0 0 0 1) (cl:=.fn 220 [.ptr 0 0 0 0 1]) ?_ ?_ BX ?_
 .rfl
 .simp only[go_sem]<;>rfl
 refine zN ?_;have m:=En p w left (by unfold vx;omega);have bad:∀(b:Nat->PV) (n:Nat) (X:LQ),yu left w key=([],n)->b 6=.ptr 0 0 0 0 1->b 7=.ptr 1 0 0 0 1->ye ET T164 (fun U H=>va H 0 U (.ret (pY (yu left w key)))) (.panic (vN n)) ⟨b,[.caught (.ptr 1 0 0 0 1) (.fn 220 [.ptr 0 0 0 0 1])],.row 57 1 0 0 [.nilsl]::.row 38 1 0 0 [iv 0]::X⟩:=fun b n X V c d=>by
  refine⟨n,220,[.ptr 0 0 0 0 1],false,1,0,1,rfl,rfl,rfl,(Ps X).mono fun e H a=>?_⟩;obtain⟨rfl,rfl⟩:=a;refine⟨rfl,_,rfl,[.nilsl,iv n],?_,?_⟩
  .simp[T164,xT,zj,zq,c,d,zD,zA,zF];rfl
  .rw[V];exact wq
 refine wu ?_
 by_cases o:uj left w.length=true
 rotate_left
 .have a:yr left w=.panic (vN 2):=by simp[yr,o]
  rw[a]at m;refine vB m ?_;exact bad _ 2 _ (by simp[yu,w7,o]) rfl rfl
 by_cases h2:pX left w=true
 rotate_left
 .have a:yr left w=.panic (vN 190):=by simp[yr,o,h2]
  rw[a]at m;refine vB m ?_;exact bad _ 190 _ (by simp[yu,w7,o,h2]) rfl rfl
 have a:yr left w=.ret (vO 0 (wy left w)):=by simp[yr,o,h2]
 have Y:w7 left w=0:=by simp[w7,o,h2]
 have J:wy left w=vg left w:=by unfold wy;rw[if_pos o]
 have K:=dQ left w;have u:=h2;unfold pX at u;simp only[Yr,decide_eq_true_eq]at u;obtain⟨⟨⟨⟨B,_⟩,_⟩,D⟩,_⟩:=u;rw[J]at a K B D;rw[a]at m;have t:yu left w key=if yc (vg left w) key=true then((2*wQ (vg left w) key+1,yU left w (wQ (vg left w) key))::xx w (wQ (vg left w) key) (vg left w).length,0)else([],5):=by unfold yu;rw[if_pos Y]
 have C:=JU 0 (vg left w) key B zo;have ab:=Ar (vg left w) key;refine wj m ?_;refine zM C ?_
 cases A:yc (vg left w) key with
 | false =>
  rw[A]at t;refine zI ?_;refine vB (gS 5) ?_;exact bad _ 5 _ t rfl rfl
 | true =>
  have N:=As A;rw[A,if_pos rfl]at t;clear bad m a C;rw[t];generalize wQ (vg left w) key=i at *
  have O:2*(vg left w).length<=w.length:=zo;generalize (vg left w)=P at *
  refine zM (an 5) ?_;have Q:=iN i zo;have Z:=BF p w left i (by unfold vx;omega) zo;have R:=W4 p left i P.length w hw N O;have ad:(xx w i P.length).length<=100:=by unfold xx;rw[Yn,sn];simp;omega
  have T:¬(xx w i P.length).length=0:=by unfold xx;rw[Yn];simp
  generalize xx w i P.length=S at *
  generalize yU left w i=ah at *
  have G:=FO.nil1 (H:=[]) 120 2 (iR (H:=[.row 120 2 0 0 []]) (idL:=0) (g:=0) (M:=0) (k:=1) (L:=[]) (more:=[2*i+1,ah]) (.inl rfl) rfl (by simp) rfl zy (fun j x hx=>by
   grind))
  have I:=FO.own1 (H:=[.row 57 1 0 0 [.nilsl],.row 38 1 0 0 [iv 0],.row 299 2 0 0 [xR p w left],.row 29 1 0 0 [uv (2*i+1:Nat),uv ah]]) (args:=[.nilsl,.sl 3 0 0 2 4 1]) (l:=[vm (2*i+1,ah)]) (e0:=120) (z:=2) (n:=1) (G.mono fun e H' a=>⟨0,1,0,a.1,Yv _,a.2.2⟩) ⟨.nilsl,zf.wh rfl rfl rfl (Ym _) (fun v q=>by simp at q;rcases q with rfl|rfl<;>rfl) (fun v q=>by simp[PV.cells]at q;rcases q with rfl|rfl<;>exact .int _ _),trivial⟩ (fun v q=>by simp[PV.cells]at q;grind) (by simp);refine kJ (fun b=>b 6=.ptr 0 0 0 0 1/\b 7=.ptr 1 0 0 0 1/\b 8=.ptr 2 0 0 0 2/\b 9=vO 0 P/\b 10=iv i) ⟨zt,zt,zt,zt,by simp[zb]⟩ ?_;rintro b ⟨c,d,r,s,h⟩;refine vj ?_;refine ua ?_;refine wD (wc c d r s h) Q ?_;refine wD (wc c d r s h) Z ?_;refine bk (wc c d r s h) I ?_;rintro e H' ⟨g,M,rfl,hM,rfl⟩;refine⟨_,by simp only[go_sem]<;>rfl,?_⟩;refine wD (wc c d r s h) R ?_;have y:(1+S.length)*17<=140737488355328:=zo;refine vS (uc c d r s h y T) ?_;refine vS (uN c d r s h y) ?_;refine vS (uN c d r s h y) ?_;refine vq c ?_;refine vt ?_;refine⟨[.sl 4 (g+1) 0 (1+S.length) (2*(1+S.length)) 2,iv 0],by simp[zj,zq,zb,c,d,zD,zA,zF,PV.cells],zf.tL ⟨?_,.int _ _,trivial⟩⟩;exact zf.wM rfl zo rfl (by grind) (by grind) uo m6


theorem GL:ET.funcs.get 200=none:=by kernel_rfl
theorem Lf:ET.spec 200=some (dn 120):=rfl
theorem S5:Lb (vm x):=.agg fun v a=>by
 simp only[YA,Zl,or_false]at a;rcases a with rfl|rfl
 .exact .int _ _
 .exact .int _ _
theorem Uj(hx:x.1<1000000):FR 254 [vm x] (vm (x.1+8,x.2)):=by
 refine qv (eG T254 func254) (S5 _) ?_;have a:(x.1:Int)+8=((x.1+8:Nat):Int):=zo;refine vI a ?_;refine vt ?_;refine pK (vs:=[vm (x.1+8,x.2)]) ?_ (zf.aggL ⟨.int _ _,.int _ _,trivial⟩);simp[T254,xT,zj,zq,zb,zD,zA,zF,PV.cells,qe]
theorem oD:(uJ l).length=l.length:=by unfold uJ;grind
theorem Qc(hL:L.length<1000000)(hb:∀x∈L,x.1<1000000):FO ET 253 [.list p 2 (L.map vm),.fn 254 []] [] false fun e H'=>∃id g M,e=.ret (.sl id g 0 L.length (2*L.length) 2)/\M<=g/\H'[id]?=some (.row 120 2 g M ((uJ L).map vm)):=by
 refine wF (eG T253 func253) ?_;refine zG ?_;refine kp 120 2 (i:=4) rfl ?_;simp only[ya,YK,YC];refine zG ?_;refine vo (vG (fun m s=>∃(i:Nat) (V:LP) (G:LQ),m=L.length-i/\i<=L.length/\V=uJ (L.take i)/\V.length=i/\s.tm 1=.fn 254 []/\s.tm 4=.sl 0 V.length 0 V.length (2*V.length) 2/\s.tm 7=.list p 2 (L.map vm)/\s.tm 8=iv L.length/\s.tm 9=iv i/\s.df=[]/\s.H=.row 120 2 V.length 0 (V.map vm)::G) (n:=L.length) ?_ ?_)
 .exact⟨0,[],[],rfl,Yv _,rfl,rfl,zt,zt,zt,zt,zt,rfl,rfl⟩
 rintro m ⟨v,w,H⟩ ⟨i,V,G,rfl,y,k,t,h1,h4,d,f,b,rfl,rfl⟩;dsimp only at *
 refine vJ (jX f b) ?_ ?_
 .intro a;have a:i<L.length:=wa a;obtain⟨x,c⟩:=uM (l:=L) a;have h:(L.map vm)[i]?=some (vm x):=wB c;have o:=Uj x (hb x (Yt c));have j:(V.length+1)*17<=140737488355328:=zo;have u:uJ (L.take (i+1))=uJ (L.take i)++[(x.1+8,x.2)]:=by unfold uJ;rw[YO,c,YJ];rfl
  refine vP ?_;refine zB ?_;refine vF (wd d b h a) ?_;refine vp (jX h1 h4) ?_;refine vi o ?_;refine w9 (jX h4 j) ?_;refine vu b ?_;refine⟨_,?q,i+1,V++[(x.1+8,x.2)],?z,rfl,a,by grind,by grind,zu h1,zt,zu d,zu f,zu b,zt,?r⟩
  case q=>omega
  case r=>(try dsimp only);rw[Yn,YJ];rfl
 intro a;have a:¬i<L.length:=vZ a;obtain rfl:i=L.length:=zo;rw[YR]at k;refine vI h4 ?_;refine vt ?_;refine pK (vs:=[.sl 0 V.length 0 V.length (2*V.length) 2]) (by simp[T253,xT,zj,zq,zb]) ⟨0,V.length,0,by grind,Yv _,by grind⟩
theorem CL:rG ((l.map vm).flatMap PV.cells):=fun v a=>by
 obtain⟨y,b,a⟩:=YG.1 a;obtain⟨x,_,rfl⟩:=Yx.1 b;simp[PV.cells]at a
 grind
theorem Ja(hL:L.length<1000000)(h0:0<L.length)(hb:∀x∈L,x.1<1000000):FO ET 199 [.list p 2 (L.map vm)] [] false fun e H'=>∃id g M,e=.ret (.sl id g 0 L.length (2*L.length) 2)/\M<=g/\H'[id]?=some (.row 120 2 g M ((uJ L).map vm)):=by
 have a:(uJ L).map vm ≠ []:=fun h=>by
  have:=congrArg List.length h;rw[Yw,oD,YK]at this;omega
 have b:=FO.own1 (H:=[]) (args:=[.list p 2 (L.map vm),.fn 254 []]) (Qc p L hL hb) ⟨.list _ _ _,zf.fnL trivial,trivial⟩ (CL _) a;refine wF (eG T199 func199) ?_;refine wu ?_;refine wI b ?_;rintro e H' ⟨g,M,rfl,c,rfl⟩;refine zN ?_;refine vt ?_;exact pK (vs:=[.sl 0 g 0 L.length (2*L.length) 2]) (by simp[T199,xT,zj,zq,zb]) ⟨0,g,M,rfl,c,rfl⟩
theorem Xz(hw:w.length<1000000):FR 163 [uv left,wv p w,.elem [uv key]] (pY (yu left w key)):=by
 refine qv (eG T163 func163) (bY _) ?_;have h:=XA p left key w hw;refine wu ?_;refine vi h ?_;refine zP ?_;exact wq
theorem Pk(hw:w.length=64):FR 141 [wv p w,iv 2,.fn 163 [.elem [uv key]]] (pY (yF w 2 0 (yu (w.getD 3 0) (w.drop 8) key))):=by
 refine qv (eG T141 func141) (bY _) ?_;have h3:(w.map uv)[3]?=some (uv (w.getD 3 0)):=by rw[YH,Yk zo,Yu,Yk zo];rfl
 have h4:(w.map uv)[4]?=some (uv (w.getD 4 0)):=by rw[YH,Yk zo,Yu,Yk zo];rfl
 have hd:List.drop 8 (w.map uv)=(w.drop 8).map uv:=by rw[Zv]
 have k:3<w.length:=zo;have l:4<w.length:=zo;have s:8<=w.length:=zo;have t:=Xz p (w.getD 3 0) key (w.drop 8) (by grind);have j:=fun h=>WF (left:=w.getD 3 0) (w:=w.drop 8) (key:=key) h;have o:kh w 2=if w.getD 4 0=2 then[]else[(4,2)]:=rfl;generalize yu (w.getD 3 0) (w.drop 8) key=S at *
 obtain⟨S,d⟩:=S;dsimp only at j;refine zG ?_;refine ua ?_;refine wD (wd h3 hd k s) t ?_;refine vq k ?_;unfold yF;rw[if_pos rfl]
 by_cases b:d=0
 rotate_left
 .have g:¬(d:Int)=0:=zo;rw[if_neg b];refine yv g ?_;refine zO ?_;exact wq
 have g:(d:Int)=0:=zo;rw[if_pos b];obtain⟨u,y,z⟩:=j b;have a:=Ja 0 S zo u fun x A=>by grind
 have q:(uJ S).map vm ≠ []:=fun h=>by
  have:=congrArg List.length h;rw[Yw,oD,YK]at this;omega
 have a:=FO.own1 (H:=[]) (args:=[.list 0 2 (S.map vm)]) a ⟨.list _ _ _,trivial⟩ (CL _) q;have r:=oD S;generalize uJ S=N at *
 refine cH g ?_;refine uL ?_;refine zI ?_;refine wI a ?_;rintro e H' ⟨v,M,rfl,a,rfl⟩;refine zN ?_;rw[o];have m:¬(2:Int)=0:=by decide
 by_cases i:w.getD 4 0=2
 .have f:((w.getD 4 0:Nat):Int)=2:=zo;rw[if_pos i];refine cH (wd h4 l f m) ?_;refine uL ?_;refine zO ?_;rw[YC];exact zf.tL ⟨zf.wM rfl a rfl (by grind) (by grind) uo m6,.int _ _,trivial⟩
 .have f:¬((w.getD 4 0:Nat):Int)=2:=zo;rw[if_neg i];have n:=EP (c:=(4,2)) GL Lf (H:=[.row 120 2 v M (N.map vm),.row 120 2 0 0 [vm (4,2)]]) (id:=0) (ix:=1) (L:=N) rfl a rfl (Ym _) zy zo zo;rw[r]at n;refine yv (wd h4 l f m) ?_;refine zI ?_;refine wI n ?_;rintro e H' ⟨rfl,rfl⟩;refine zN ?_;refine zO ?_;exact zf.tL ⟨zf.wM rfl (Ym _) rfl (by grind) (by grind) uo m6,.int _ _,trivial⟩
theorem Xy(hw:w.length=64):FR 107 [wv p w,uv key] (pY (yR w key)):=by
 refine qv (eG T107 func107) (bY _) ?_;have h:=Gf p w (by unfold vx;omega);have i:=Pk p key w hw;have f:yR w key=yF w 2 (wi w) (yu (w.getD 3 0) (w.drop 8) key):=rfl;rw[f];generalize wi w=c at *
 generalize yu (w.getD 3 0) (w.drop 8) key=S at *
 refine wN h ?_
 by_cases d:c=0
 rotate_left
 .have g:¬(c:Int)=0:=zo;have e:yF w 2 c S=([],c):=by unfold yF;rw[if_neg d]
  rw[e];refine yv g ?_;refine zO ?_;exact wq
 have g:(c:Int)=0:=zo;rw[d];refine cH g ?_;refine uL ?_;refine zI ?_;refine gV i ?_ ?_;(repeat(first|exact trivial|refine And.intro ?_ ?_|exact .int _ _|exact .bool _|exact .list _ _ _|exact .elem _|exact .nilsl|exact .nil _ _|exact .str _|refine zf.aggL ?_|refine zf.fnL ?_|refine zf.tL ?_|refine .iface ?_|exact mu rfl rfl (by assumption)))
 .refine zf.ptr (w:=uv key) (cs:=[uv key]) rfl (Ym _) rfl fun j x y b a=>?_
  cases j with
  | zero=>injection b with b;injection a with a;subst b a;exact .int _ _
  | succ j=>cases a
 .exact trivial
 .exact trivial
 refine zP ?_;exact wq


theorem Pm(c:Nat)(hc:¬c=0)(hC:FR 197 [wv p w] (.tuple [wb 0 kF,iv c])):FR 139 [wv p w,uv key] (.tuple [iv 0,iv (c:Nat)]):=by
 refine qv (eG T139 func139) (Lb.two (.int _ _) (.int _ _)) ?_;refine wN hC ?_;have g:¬(c:Int)=0:=zo;refine vP ?_;refine yv g ?_;refine zO ?_;exact wq
theorem Pl(n:zi)(hpl:n.pairs.length<=28)(hk:0<n.level->∀x∈(0,n.left)::n.pairs,x.2<2048)(hC:FR 197 [wv p w] (.tuple [wb 0 n,iv 0])):FN ET 139 [wv p w,uv key] (if n.level=0 then .ret (.tuple [iv 0,iv 2])else .ret (.tuple [iv (kQ n.left n.pairs key:Nat),iv 0])):=by
 refine qv (eG T139 func139) ?_ ?_
 .split<;>exact Lb.two (.int _ _) (.int _ _)
 refine wN hC ?_;refine vP ?_;refine zT ?_
 by_cases e:n.level=0
 .have g:(n.level:Int)=0:=zo;rw[if_pos e];refine yv g ?_;refine zO ?_;exact wq
 have g:¬(n.level:Int)=0:=zo;have h:=Sw (key:=key) (hk zo);rw[if_neg e];refine pD g ?_;refine zG ?_;refine vo (vG (fun m s=>∃(i a:Nat) (G:LQ),m=n.pairs.length-i/\i<=n.pairs.length/\kQ n.left n.pairs key=kQ a (n.pairs.drop i) key/\s.tm 1=uv key/\s.tm 8=uv a/\s.tm 30=vO 0 n.pairs/\s.tm 31=iv n.pairs.length/\s.tm 32=iv i/\s.df=[]/\s.H=G) (n:=n.pairs.length) ?_ ?_)
 .exact⟨0,n.left,_,rfl,Yv _,rfl,zt,zt,zt,zt,zt,rfl,rfl⟩
 .rintro m ⟨tm,df,H⟩ ⟨i,a,G,rfl,hi,hka,h1,h8,h30,h31,h32,rfl,rfl⟩;dsimp only at h1 h8 h30 h31 h32;refine vJ (jX h31 h32) ?_ ?_
  .intro b;have b:i<n.pairs.length:=wa b;obtain⟨q,f⟩:=uM (l:=n.pairs) b;have j:(n.pairs.map pv)[i]?=some (pv q):=wB f;have k:n.pairs.drop i=q::n.pairs.drop (i+1):=aw f;rw[k]at hka;change _=kQ (if q.1<=key then q.2 else a) _ key at hka;refine vP ?_;refine zB ?_;refine vF (wd h30 h32 j b) ?_
   by_cases d:q.1<=key
   .have c:(q.1:Int)<=key:=zo;rw[if_pos d]at hka;refine zB ?_;refine vF (jX h1 c) ?_;refine uF ?_;refine zJ ?_;refine vu h32 ?_;refine⟨_,?o,i+1,q.2,_,rfl,b,hka,zu h1,zt,zu h30,zu h31,zu h32,rfl,rfl⟩
    case o=>omega
   .have c:¬(q.1:Int)<=key:=zo;rw[if_neg d]at hka;refine zB ?_;refine vF (jX h1 c) ?_;refine zH ?_;refine vu h32 ?_;refine⟨_,?r,i+1,a,_,rfl,b,hka,zu h1,zu h8,zu h30,zu h31,zu h32,rfl,rfl⟩
    case r=>omega
  .intro b;have b:¬i<n.pairs.length:=vZ b;obtain rfl:i=n.pairs.length:=zo;rw[Y9]at hka;change _=a at hka;rw[hka]at h⊢;have t:IntKind.i64.wrap (a:Int)=(a:Int):=yw;refine uf (jX h8 t) ?_;exact wq
theorem Pn(hw:vx w.length):FR 139 [wv p w,uv key] (.tuple [iv ((yL w key).1:Nat),iv ((yL w key).2:Nat)]):=by
 have a:=Em p w hw;unfold n7 at a;unfold yL
 by_cases b:wi w=0
 .rw[if_pos b]at a⊢;have h:=Pl p key w _ (CD w) (fun d x c=>by
   rcases YA.1 c with rfl|c
   .exact CV b d ((headN w).low,(headN w).left) (Yp ..)
   .exact CV b d x (Ys _ c)) a
  by_cases e:(headN w).level=0
  .rw[if_pos e]at h⊢;exact h
  .rw[if_neg e]at h⊢;exact h
 .rw[if_neg b]at a⊢;exact Pm p key w _ b a


theorem Xw:FR 146 [iv 0] (.tuple []):=by
 refine qv (eG T146 func146) Lb.unit ?_;refine zI ?_;refine vi (nf 0) ?_;refine zK ?_;exact⟨[],rfl,zf.tL trivial⟩
theorem Xv(e:Int)(he:¬e=0):FN ET 146 [iv e] (.panic (vN e)):=by
 refine qv (eG T146 func146) (.iface (.int _ _)) ?_;refine vp he ?_;refine vB (pt e) ?_;(try(refine .iface ?_;exact .int _ _))
def mq(n:Nat):LH->LH->Bool
 | seen,f::l=>decide (1<=f)&&decide (f<n) && !seen.contains f&&mq n (f::seen) l
 | _,[]=>true
theorem Hr{n:Nat}:∀(l seen:LH),mq n seen l=true↔(∀i,i<l.length->cp n l i (l.getD i 0)=true)/\∀f∈l,f ∉ seen
 | [],seen=>by simp[mq]
 | f::l,seen=>by
  unfold mq;rw[Yr,Yr,Yr,Hr l (f::seen)];simp only[decide_eq_true_eq,ZA,zCB9,decide_eq_false_iff_not]
  constructor
  .rintro ⟨⟨⟨h1,h2⟩,h3⟩,h4,h5⟩;refine⟨fun i c=>?_,fun g d=>?_⟩
   .cases i with
    | zero=>unfold cp;grind
    | succ i =>
     have a:=h4 i (by grind);have j:l.getD i 0∈l:=by rw[Yu,Yk (by grind)];exact YX _
     have k:=h5 _ j;unfold cp at a⊢
     grind
   grind
  .rintro ⟨h1,h2⟩;have b:=h1 0 (by simp);unfold cp at b;simp at b;refine⟨⟨b,h2 f (Yp ..)⟩,fun i c=>?_,fun g d h=>?_⟩
   .have a:=h1 (i+1) (by grind);unfold cp at a⊢
    grind
   .rcases YA.1 h with rfl|h
    .obtain⟨i,c,e⟩:=YU.1 d;have a:=h1 (i+1) (by grind);unfold cp at a
     grind
    grind
def ak(T:List vh):LH:=(T.flatMap (·.1)).map fun b:Nat=>(b:Int)
theorem QN(a:Nat)(fr:LH):mq (w.length/64) (if(ec w a).2=true then ak (ec w a).1 else[]) fr=aN w a fr:=by
 rw[Bool.eq_iff_iff,Hr];unfold aN tV tP Dq;rw[Yr,Z6,YZ];refine and_congr ⟨fun h i b=>h i (Zm.1 b),fun h i b=>h i (Zm.2 b)⟩ ?_
 cases (ec w a).2 with
 | false=>simp
 | true =>
  simp only[if_true,Bool.not_true,Zi,false_or,YZ,ZA,zCB9,decide_eq_false_iff_not];unfold ak
  grind
theorem mO.put{seen:LH}(hs:mO mo seen)(x:Int):(∃mm,mo=.mapI .i64 mm/\mO (.mapI .i64 fun y=>if y=x then some (iv 1)else mm y) (x::seen))\/(mo=.map0/\mO (.mapI .i64 fun y=>if y=x then some (iv 1)else none) (x::seen)):=by
 rcases hs with⟨rfl,rfl⟩|⟨mm,rfl,a⟩
 .refine .inr ⟨rfl,.inr ⟨_,rfl,fun q=>?_⟩⟩
  grind
 .refine .inl ⟨mm,rfl,.inr ⟨_,rfl,fun q=>?_⟩⟩
  grind
theorem mO.perm{s t:LH}(hs:mO mo s)(h:∀x,x∈s↔x∈t):mO mo t:=by
 rcases hs with⟨rfl,rfl⟩|⟨b,rfl,c⟩
 .refine .inl ⟨rfl,?_⟩
  cases t with
  | nil=>rfl
  | cons a t=>exact absurd ((h a).2 (Yp ..)) (by simp)
 .refine .inr ⟨b,rfl,fun q=>?_⟩
  grind
def sL(w:LN)(a:Int)(fr:LH):FE:=if uK w.length a=true then if aN w a.toNat fr=true then .ret (.tuple [])else .panic (vN 2)else .panic (vN 2)
theorem Hs(r:Nat)(w:LN)(a:Int)(fr:LH)(hs:vx w.length)(hfl:fr.length<1000000):FN ET 136 [wv p w,iv a,.list r 1 (fr.map iv)] (sL w a fr):=by
 have O:=Mj p w a hs;unfold sL
 by_cases h:uK w.length a=true
 rotate_left
 .rw[if_neg h]at O⊢;refine qv (eG T136 func136) (.iface (.int _ _)) ?_;refine zI ?_;refine vB O ?_;(try(refine .iface ?_;exact .int _ _))
 rw[if_pos h]at O⊢;have P:=(iY _ _).1 h;obtain⟨n,rfl⟩:∃n:Nat,a=n:=⟨a.toNat,by omega⟩
 rw[Zz];have a1:=Ks p w ⟨P.1,P.2.2.1,P.2.1⟩ n zo;obtain⟨e1,e2⟩:=Mf w n;have J:=QN w n fr;rw[e1]at J;obtain⟨S0,N⟩:∃S0,S0=(if(vK w n).2=true then ak (vK w n).1 else[]):=⟨_,rfl⟩
 have J:mq (w.length/64) S0 fr=aN w n fr:=by
  rw[<- J,N]
  by_cases ht:(vK w n).2=true
  .grind
  .grind
 have V:=(DX P.2.2.1 14 [] [] (w.getD n 0) (-1) (fun L R=>by grind)).1;change ∀L∈(vK w n).1,aC w L at V;have a0:(vK w n).1.length<=14:=by
  have h:=DY w 14 [] [] (w.getD n 0) (-1);change (vK w n).1.length<=0+14 at h;omega
 rw[<- J];have a2:kI (if mq (w.length/64) S0 fr=true then .ret (.tuple [])else .panic (vN 2)):=by
  split
  .exact Lb.unit
  .exact .iface (.int _ _)
 clear J e1 e2 h;generalize (vK w n).1=T at *
 generalize (vK w n).2=fine at *
 refine qv (eG T136 func136) a2 ?_;refine zM O ?_;refine wN a1 ?_;refine zG ?_;refine zB ?_;refine xH (Q:=fun yy K=>yy=.norm/\∃(mo:za) (G:LQ),mO mo S0/\K.tm 0=wv p w/\K.tm 2=.list r 1 (fr.map iv)/\K.tm 6=.map 0/\K.df=[]/\K.H=mo::G) ?_ ?_
 .cases fine with
  | false =>
   subst N;refine zH ?_;exact⟨rfl,.map0,[],.inl ⟨rfl,rfl⟩,zt,zt,zt,rfl,rfl⟩
  | true =>
   rw[if_pos rfl]at N;refine uF ?_;refine zG ?_;refine vo (vG (fun m s=>∃(k:Nat) (S:LH) (mo:za) (G:LQ),m=T.length-k/\k<=T.length/\mO mo S/\(∀x,x∈S↔x∈ak (T.take k))/\s.tm 0=wv p w/\s.tm 2=.list r 1 (fr.map iv)/\s.tm 6=.map 0/\s.tm 26=yJ T/\s.tm 27=iv T.length/\s.tm 28=iv k/\s.df=[]/\s.H=mo::G) (n:=T.length) ?_ ?_)
   .exact⟨0,[],.map0,[],rfl,Yv _,.inl ⟨rfl,rfl⟩,fun x=>by simp[ak],zt,zt,zt,zt,zt,zt,rfl,rfl⟩
   rintro m ⟨f,df,H⟩ ⟨k,S,mo,G,rfl,hk,g,C,d,h2,c,q,t,o,rfl,rfl⟩;dsimp only at *
   refine vJ (jX t o) ?_ ?_;rotate_left
   .intro e;have e:¬k<T.length:=vZ e;obtain rfl:k=T.length:=zo;rw[YR]at C;exact⟨rfl,mo,G,g.perm fun x=>by grind,d,h2,c,rfl,rfl⟩
   intro e;have e:k<T.length:=wa e;obtain⟨L,R⟩:=uM (l:=T) e;have a3:(T.map fun L=>uw 0 0 L.1 L.2)[k]?=some (uw 0 0 L.1 L.2):=wB R;have ad:=V L (Yt R);have a8:L.1.length<=2048:=by have:=ad.lv.len;have:=ad.few;omega
   have a9:∀x,x∈ak (T.take (k+1))↔x∈ak (T.take k)\/x∈L.1.map fun b:Nat=>(b:Int):=fun x=>by
    unfold ak;rw[YO,R,Zj,YJ,YM];simp
   refine vP ?_;refine vI (wd q o a3 e) ?_;refine kJ (fun f=>f 0=wv p w/\f 2=.list r 1 (fr.map iv)/\f 6=.map 0/\f 26=yJ T/\f 27=iv T.length/\f 28=iv k/\f 33=.list 0 1 (L.1.map fun(b:Nat)=>iv (b:Int))/\f 34=iv L.1.length/\f 35=iv (0:Nat)) ⟨zu d,zu h2,zu c,zu q,zu t,zu o,zt,zt,by simp[zb]⟩ ?_;clear d h2 c q t o;rintro f ⟨d,h2,c,q,t,o,D,I,v⟩;refine vo (vG (fun m s=>∃(j:Nat) (S:LH) (mo:za) (G:LQ),m=L.1.length-j/\j<=L.1.length/\mO mo S/\(∀x,x∈S↔x∈ak (T.take k)\/x∈(L.1.take j).map fun b:Nat=>(b:Int))/\s.tm 0=wv p w/\s.tm 2=.list r 1 (fr.map iv)/\s.tm 6=.map 0/\s.tm 26=yJ T/\s.tm 27=iv T.length/\s.tm 28=iv k/\s.tm 33=.list 0 1 (L.1.map fun(b:Nat)=>iv (b:Int))/\s.tm 34=iv L.1.length/\s.tm 35=iv j/\s.df=[]/\s.H=mo::G) (n:=L.1.length) ?_ ?_)
   .exact⟨0,S,mo,_,rfl,Yv _,g,fun x=>by grind,d,h2,c,q,t,o,D,I,v,rfl,rfl⟩
   clear d h2 c q t o D I v g C;rintro m ⟨f,df,H⟩ ⟨j,S,mo,G,rfl,hj,g,C,d,h2,c,q,t,o,D,I,v,rfl,rfl⟩;dsimp only at *
   refine vJ (jX I v) ?_ ?_;rotate_left
   .intro ah;have ah:¬j<L.1.length:=vZ ah;obtain rfl:j=L.1.length:=zo;rw[YR]at C;refine vu o ?_;refine⟨_,?m1,k+1,S,mo,_,rfl,e,g,fun x=>by grind,zu d,zu h2,zu c,zu q,zu t,zu o,rfl,rfl⟩;omega
   intro B;have B:j<L.1.length:=wa B;obtain⟨b,av⟩:=uM (l:=L.1) B;have a4:(L.1.map fun(b:Nat)=>iv (b:Int))[j]?=some (iv b):=wB av;have a5:∀x,x∈(b:Int)::S↔x∈ak (T.take k)\/x∈(L.1.take (j+1)).map fun b:Nat=>(b:Int):=fun x=>by
    rw[YO,av,YJ,YM,YA,C];simp only[Option.toList_some,YL,ZU,YQ];exact⟨fun h=>by
     rcases h with h|h|h
     .exact .inr (.inr h)
     .exact .inl h
     .exact .inr (.inl h),fun h=>by
     rcases h with h|h|h
     .exact .inr (.inl h)
     .exact .inr (.inr h)
     .exact .inl h⟩
   refine vP ?_;rcases g.put b with⟨mm,rfl,z⟩|⟨rfl,z⟩
   all_goals
    refine vI (wd D v a4 B) ?_;refine vu c ?_;refine vu v ?_;refine⟨_,?m2,j+1,(b:Int)::S,_,_,rfl,B,z,a5,zu d,zu h2,zu c,zu q,zu t,zu o,zu D,zu I,zu v,rfl,rfl⟩
    case m2=>omega
 clear V N a0;rintro yy ⟨f,df,H⟩ ⟨rfl,mo,G,g,d,h2,c,rfl,rfl⟩;dsimp only at d h2 c;refine vI h2 ?_;refine vo (vG (fun m s=>∃(i:Nat) (S:LH) (mo:za) (G:LQ),m=fr.length-i/\i<=fr.length/\mO mo S/\mq (w.length/64) S0 fr=mq (w.length/64) S (fr.drop i)/\s.tm 0=wv p w/\s.tm 6=.map 0/\s.tm 43=.list r 1 (fr.map iv)/\s.tm 44=iv fr.length/\s.tm 45=iv i/\s.df=[]/\s.H=mo::G) (n:=fr.length) ?_ ?_)
 .exact⟨0,S0,mo,G,rfl,Yv _,g,rfl,zu d,zu c,zt,zt,zt,rfl,rfl⟩
 clear d h2 c g;rintro m ⟨f,df,H⟩ ⟨i,S,mo,G,rfl,hi,g,u,d,c,X,Y,y,rfl,rfl⟩;dsimp only at *
 refine vJ (jX Y y) ?_ ?_;rotate_left
 .intro e;have e:¬i<fr.length:=vZ e;obtain rfl:i=fr.length:=zo;rw[Y9]at u;change _=true at u;rw[u];exact dc (E:=ET) (vs:=[]) rfl (zf.tL trivial)
 intro e;have e:i<fr.length:=wa e;obtain⟨x,hx⟩:=uM (l:=fr) e;have a6:(fr.map iv)[i]?=some (iv x):=wB hx;have a7:fr.drop i=x::fr.drop (i+1):=aw hx;rw[a7,mq]at u;have U:(w.length:Int).tdiv 64=((w.length/64:Nat):Int):=by rw[Int.tdiv_eq_ediv_of_nonneg zo];omega
 refine vP ?_;refine vI (wd X y a6 e) ?_;refine pC ?_
 by_cases b1:1<=x
 rotate_left
 .refine vU (vn d c b1) ?_;refine vB (pt 2) ?_;exact wG (by rw[u];simp[b1])
 by_cases b2:x<((w.length/64:Nat):Int)
 rotate_left
 .refine vU (wc d c b1 b2 U) ?_;refine vB (pt 2) ?_;exact wG (by rw[u,decide_eq_false b2];simp)
 cases M:S.contains x with
 | true =>
  rcases g with⟨rfl,rfl⟩|⟨mm,rfl,Z⟩
  .simp at M
  have A:=Z x;rw[if_pos M]at A;refine wg ?_ (by simp(disch:=omega)only[go_sem,d,c,b1,b2,U,A,Qb]<;>rfl);refine vB (pt 2) ?_;exact wG (by rw[u,M];simp)
 | false =>
  have ab:mq (w.length/64) S0 fr=mq (w.length/64) (x::S) (fr.drop (i+1)):=by rw[u,M,decide_eq_true b1,decide_eq_true b2];simp
  rcases g.put x with⟨mm,rfl,z⟩|⟨rfl,z⟩
  .rcases g with⟨h,_⟩|⟨mm',h,Z⟩
   .cases h
   injection h with _ h;subst h;have A:=Z x;rw[M]at A;change mm x=none at A;refine vU (uN d c b1 b2 U A) ?_;refine wj (nf 2) ?_;refine vu c ?_;refine vu y ?_;refine⟨_,?m3,i+1,x::S,_,_,rfl,e,z,ab,zu d,zu c,zu X,zu Y,zu y,rfl,rfl⟩
   case m3=>omega
  .refine vU (wc d c b1 b2 U) ?_;refine wj (nf 2) ?_;refine vu c ?_;refine vu y ?_;refine⟨_,?m4,i+1,x::S,_,_,rfl,e,z,ab,zu d,zu c,zu X,zu Y,zu y,rfl,rfl⟩
   case m4=>omega


def yX(l:LN)(H H':LQ):Prop:=∀(id:Nat) (o:za),id ∉ l->H[id]?=some o->H'[id]?=some o
variable {a j:Nat}{l:LN}
theorem yX.refl(l:LN)(H:LQ):yX l H H:=fun _ _ _ h=>h
theorem yX.trans{H' H'':LQ}(h:yX l H H')(k:yX l H' H''):yX l H H'':=fun id o a b=>k id o a (h id o a b)
theorem yX.app(h:yX l H Hc)(X:LQ):yX l H (Hc++X):=fun id o a b=>vM (h id o a b)
theorem yX.set(h:yX l H Hc)(ha:a∈l)(o':za):yX l H (Hc.set a o'):=fun id o b c=>by
 rw[YD (fun e=>b (by grind))];exact h id o b c
theorem sQ{X:LQ}(h:H[j]?=some o)(hne:j≠a):((H++X).set a o')[j]?=some o:=by grind
theorem get_set(h:H[j]?=some o)(hne:j≠a):(H.set a o')[j]?=some o:=by grind
theorem pG{caught:LE}{rnd:LB}{code:vw}{tm:Nat->PV}{df:AV}{Q:FX->vd->Prop}(k:∀H',H'=H->W E caught rnd code ⟨tm,df,H'⟩ Q):W E caught rnd code ⟨tm,df,H⟩ Q:=k H rfl
structure yf(H:LQ)(id iW iP:Nat)(w:LN)(L:LP)(F:PV)(u a:Nat):Prop where
 ex:∃gP MP MW,H[id]?=some (.row 178 5 0 0 [.agg [.sl iW 1 0 w.length (2*w.length) 1,.sl iP gP 0 L.length (2*L.length) 2,F,iv u,iv a]])/\H[iW]?=some (.row 29 1 1 MW (w.map uv))/\MW<=1/\H[iP]?=some (.row 120 2 gP MP (L.map vm))/\MP<=gP
 n1:id≠iW
 n2:id≠iP
 n3:iW≠iP
variable {F:PV}{L:LP}{iP iW id u:Nat}{w:LN}
theorem yf.other{H':LQ}(h:yf H id iW iP w L F u a)(hs:∀j,j=id\/j=iW\/j=iP->∀o,H[j]?=some o->H'[j]?=some o):yf H' id iW iP w L F u a:=by
 obtain⟨⟨gP,b,c,h1,h2,h3,h4,d⟩,e,f,g⟩:=h;exact⟨⟨gP,b,c,hs _ (.inl rfl) _ h1,hs _ (.inr (.inl rfl)) _ h2,h3,hs _ (.inr (.inr rfl)) _ h4,d⟩,e,f,g⟩
theorem yf.app(h:yf H id iW iP w L F u a)(X:LQ):yf (H++X) id iW iP w L F u a:=h.other fun _ _ _ b=>vM b
def Nu(H:LQ)(no:LN)(x:PV)(l:LP):Prop:=(∃r,x=.list r 2 (l.map vm))\/∃idM,idM ∉ no/\x=.sl idM 0 0 l.length (2*l.length) 2/\H[idM]?=some (.row 120 2 0 0 (l.map vm))
variable {M q:Nat}(p:Nat)(X:LQ)(r:Nat)
theorem N6(w:LN)(l:LP)(s:Pr):jZ w (l++[s])=(jZ w l).set s.1 s.2:=by unfold jZ;grind
theorem JA(a:Nat)(l:LP)(s:Pr):vY a (l++[s])=vY a l++[(a+s.1,s.2)]:=by unfold vY;grind
theorem T5(w:LN)(i x:Nat):(w.map uv).set i (uv x)=(w.set i x).map uv:=by simp_all
theorem B9{x:PV}(hU:yf H id iW iP w L F u a)(fr:Nat)(l:LP)(hx:Nu H [id,iW,iP] x l)(hin:∀s∈l,fr+s.1<w.length)(hw:w.length<=131072)(hL:L.length+l.length<=900000):
  FO ET 112 [.ptr id 0 0 0 2,iv fr,x] H false fun e H'=>e=.ret (.tuple [])/\yf H' id iW iP (jZ w (vY fr l)) (L++vY fr l) F u a/\yX [id,iW,iP] H H':=by
 refine wF (eG T112 func112) ?_;rcases hx with⟨r,hx⟩|⟨A,B,hx,D⟩;rotate_left;have Y:A ∉ [id,iW,iP]/\H[A]?=some (.row 120 2 0 0 (l.map vm)):=⟨B,D⟩
 rotate_left;have Y:True/\True:=⟨zt,trivial⟩
 all_goals
  obtain⟨B,D⟩:=Y;rw[hx];refine zG ?_;refine vo (vG (fun m s=>∃(i:Nat) (Hc:LQ),m=l.length-i/\i<=l.length/\yf Hc id iW iP (jZ w (vY fr (l.take i))) (L++vY fr (l.take i)) F u a/\yX [id,iW,iP] H Hc/\s.tm 0=.ptr id 0 0 0 2/\s.tm 1=iv fr/\s.tm 8=x/\s.tm 9=iv l.length/\s.tm 10=iv i/\s.df=[]/\s.H=Hc) (n:=l.length) ?_ ?_)
  .exact⟨0,H,rfl,Yv _,by simpa[vY,jZ]using hU,.refl _ _,zt,zt,by simp[zb,zr,hx],zt,zt,rfl,rfl⟩
  rintro m ⟨tm,df,Hc⟩ ⟨i,a5,rfl,hi,p,q,c,h1,t,v,d,rfl,rfl⟩;dsimp only at c h1 t v d p q
  by_cases C:i<l.length
  rotate_left
  .have G:¬(i:Int)<(l.length:Nat):=zo;refine vJ (vn v d G) ?_ ?_
   .intro h;cases h
   intro _;obtain rfl:i=l.length:=zo;rw[YR]at p;exact dc (E:=ET) (vs:=[]) rfl ⟨rfl,p,q⟩
  have G:(i:Int)<(l.length:Nat):=zo;refine vJ (vn v d G) ?_ ?_;rotate_left
  .intro h;cases h
  intro _;obtain⟨s,z⟩:=uM (l:=l) C;have ab:(l.map vm)[i]?=some (vm s):=wB z;have ad:=hin s (Yt z);have T:(jZ w (vY fr (l.take i))).length=w.length:=yZ _ _;have a6:(L++vY fr (l.take i)).length=L.length+i:=by unfold vY;rw[Yn,Yw,YF];omega
  have Z:jZ w (vY fr (l.take (i+1)))=(jZ w (vY fr (l.take i))).set (fr+s.1) s.2:=by rw[YO,z];exact(congrArg (jZ w) (JA ..)).trans (N6 ..)
  have eK:L++vY fr (l.take (i+1))=(L++vY fr (l.take i))++[(fr+s.1,s.2)]:=by rw[YO,z,YI];exact congrArg (L++·) (JA ..)
  generalize jZ w (vY fr (l.take i))=V at *
  generalize L++vY fr (l.take i)=K at *
  obtain⟨⟨gP,I,MW,j,J,u3,u4,u5⟩,M,k,N⟩:=p;rw[T]at j;have l1:=(Yl.1 j).1;have l2:=(Yl.1 J).1;have l3:=(Yl.1 u4).1;have w1:IntKind.i64.wrap ((s.1:Int)+(fr:Int))=((fr+s.1:Nat):Int):=yw;refine vP ?_
  first|(have U:=q A _ B D)|(have U:=j)
  rw[hx]at t;refine zB ?_;refine vF (wc t d ab C U) ?_;refine zB ?_;refine vF (jX h1 w1) ?_;have x1:∀X,(Hc++X)[id]?=_:=fun X=>vM j;have x2:∀X,(Hc++X)[iW]?=_:=fun X=>vM J;have i1:fr+s.1<V.length:=zo;obtain⟨v0,ah⟩:∃v0,V[fr+s.1]?=some v0:=⟨_,Yk i1⟩
  have i2:fr+s.1<w.length:=ad;refine wH ?_;refine vS (uc c x1 x2 ah i1 i2 u3) ?_;refine vq c ?_;refine pG fun b f=>?_;have O:b[id]?=some (.row 178 5 0 0 [.agg [.sl iW 1 0 w.length (2*w.length) 1,.sl iP gP 0 K.length (2*K.length) 2,F,iv u,iv a]]):=by rw[f];exact sQ j M
  have v2:b[iW]?=some (.row 29 1 1 1 ((V.set (fr+s.1) s.2).map uv)):=by rw[f,<- T5];exact la J
  have P:b[iP]?=some (.row 120 2 gP I (K.map vm)):=by rw[f];exact sQ u4 (Ne.symm N)
  have v7:b[Hc.length]?=some (.row 120 2 0 0 [vm (fr+s.1,s.2)]):=by rw[f,YD zo];simp
  have vk:yX [id,iW,iP] H b:=by rw[f];exact(q.app _).set (by simp) _
  clear f;have av:(K.length+1)*17<=140737488355328:=zo;have a0:∀X,(b++X)[iP]?=_:=fun X=>vM P;refine ua ?_;refine vS (uN c O a0 v7 av u5) ?_;have y1:∀X y,((b++X).set iP y)[id]?=_:=fun X y=>sQ O k;have b1:(id==iP)=false:=by simpa using k
  have a1:(iP==id)=false:=by simpa using Ne.symm k
  have a7:=(Yl.1 P).1;have b2:(b.length==iP)=false:=by simp;omega
  have a2:(iP==b.length)=false:=by simp;omega
  have b3:(Hc.length==iP)=false:=by simp;omega
  have a3:(iP==Hc.length)=false:=by simp;omega
  refine ki (ax c y1 b1 a1 b2 a2 b3 a3) ?_;refine vq c ?_;refine pG fun o g=>?_;have a4:(K++[(fr+s.1,s.2)]).length=K.length+1:=by simp
  have Q:o[id]?=some (.row 178 5 0 0 [.agg [.sl iW 1 0 w.length (2*w.length) 1,.sl iP (gP+1) 0 (K.length+1) (2*(K.length+1)) 2,F,iv u,iv a]]):=by
   rw[g];exact Yz (by rw[Y1,Yn];have:=(Yl.1 O).1;omega)
  have R:o[iW]?=some (.row 29 1 1 1 ((V.set (fr+s.1) s.2).map uv)):=by rw[g];exact get_set (sQ v2 N) (Ne.symm M)
  have S:o[iP]?=some (.row 120 2 (gP+1) I ((K++[(fr+s.1,s.2)]).map vm)):=by rw[g,YJ];exact get_set (la P) (Ne.symm k)
  have zk:yX [id,iW,iP] H o:=by rw[g];exact((vk.app _).set (by simp) _).set (by simp) _
  clear g;refine vu d ?_;refine⟨_,?m,i+1,o,rfl,C,⟨⟨gP+1,I,1,?Q,?R,Ym _,?S,by omega⟩,M,k,N⟩,zk,zu c,zu h1,by simp[zb,t,hx],zu v,zu d,rfl,rfl⟩
  case m=>omega
  case Q=>rw[Z,eK,Y1,T,a4];exact Q
  case R=>rw[Z];exact R
  case S=>rw[eK];exact S


theorem sM(hH:H[iW]?=some (.row 29 1 1 M (w.map uv)))(hM:M<=1)(b:Nat)(hb:64*b+64<=w.length)(hq:128<=q):zf H 1 (.sl iW 1 (64*b) 64 q 1) (wv 1 (jW w b)):=by
 have e:((w.map uv).drop (64*b)).take 64=(jW w b).map uv:=by
  unfold jW;rw[ZZ,show 64*b+64-64*b=64 by omega,ZY,Zv]
 refine .sl hH hM (Ym _) (by grind) hq (by grind) uo (by rw[e]) fun i x y a c=>?_;rw[e,c]at a
 cases a
 obtain⟨z,d,f⟩:=YG.1 (Yt c);obtain⟨n,_,rfl⟩:=Yx.1 d;obtain rfl:=YQ.1 f;exact .int _ _
theorem QW{n:Nat}(hH:H[iW]?=some (.row 29 1 1 M (w.map uv)))(hM:M<=1)(hn:n=w.length)(hq:2*w.length<=q):zf H 1 (.sl iW 1 0 n q 1) (wv 1 w) :=
 zf.wM hH hM rfl (by grind) (by grind) uo fun v a=>by
  obtain⟨z,b,a⟩:=YG.1 a;obtain⟨n,_,rfl⟩:=Yx.1 b;obtain rfl:=YQ.1 a;exact .int _ _
theorem tT(hH:H[iW]?=some (.row 29 1 1 M (w.map uv)))(hM:M<=1)(b:Nat)(hb:64*b+64<=w.length)(hw:w.length<=131072):FO ET 96 [.sl iW 1 0 w.length (2*w.length) 1,iv b] H false fun e H'=>∃q,e=.ret (.sl iW 1 (64*b) 64 q 1)/\128<=q/\H'=H:=by
 refine wF f96 ?_;have a:(64:Int)*(b:Int)=((64*b:Nat):Int):=zo;have c:((64*b:Nat):Int)+64=((64*b+64:Nat):Int):=zo;have d:64*b<=64*b+64:=zo;refine zG ?_;have f:2*w.length/2=w.length:=zo;have g:0<2*w.length:=zo;have h:64*b+64-64*b=64:=zo;refine vI (uc a c d f g h hb) ?_;refine vt ?_;exact pK (vs:=[.sl iW 1 (64*b) 64 (2*w.length-2*(64*b)) 1]) (by simp[T96,xT,zj,zq,zb]) ⟨_,rfl,by omega,rfl⟩
theorem PC(w:LN)(H:LQ)(h0:0<w.length)(hw:w.length<=131072):FO ET 138 [wv p w] H false fun e H'=>e=.ret (.sl H.length 1 0 w.length (2*w.length) 1)/\H'=H++[.row 29 1 1 0 (w.map uv)]:=by
 refine Eh (eG T138 func138) (YB rfl) ?_;obtain⟨y,l,a⟩:∃y l,w.map uv=y::l:=by
  cases w with
  | nil=>grind
  | cons y l=>simp_all
 have b:l.length+1=w.length:=by have:=congrArg List.length a;rw[Yw,Yq]at this;omega
 show W _ _ _ _ ⟨zr [.list p 1 (w.map uv)],_,_⟩ _;rw[a];have c:(l.length+1)*9<=140737488355328:=zo;refine zG ?_;refine zT ?_;refine uL ?_;refine vI c ?_;refine vt ?_;exact pK (vs:=[.sl H.length 1 0 w.length (2*w.length) 1]) (by simp[T138,xT,zj,zq,zb,b]) ⟨rfl,rfl⟩
theorem XQ(H:LQ)(A F x y:PV)(n:Nat)(hn:n=H.length):∀(i:Nat) (u v:PV),(PV.agg [A,.nilsl,F,x,y]).cells[i]?=some u->(PV.agg [A,.sl n 0 0 0 0 2,F,x,y]).cells[i]?=some v->v=u\/(u=.nilsl/\v=ya H 2):=fun i u v a b=>by
 subst hn
 match i with
 | 0=>left;injection a with a;injection b with b;grind
 | 1=>right;injection a with a;injection b with b;exact⟨a.symm,b.symm⟩
 | i+2 =>
  left
  change [F,x,y][i]?=some u at a;change [F,x,y][i]?=some v at b
  grind
theorem Tt(a b o:za):((X++[a]).set X.length b++[o])[X.length]?=some b:=by grind
theorem Tu(a b o:za):((X++[a]).set X.length b++[o])[X.length+1]?=some o:=by grind
theorem Fx(w:LN)(a:Int)(fr:LH)(n:Nat)(H:LQ)(h1:FN ET 136 [wv p w,iv a,.list r 1 (fr.map iv)] (.panic (vN n))):FO ET 93 [wv p w,iv a,.list r 1 (fr.map iv)] H false fun e H'=>e=.panic (vN n)/\H'=H:=by
 refine wF (eG T93 func93) ?_;refine wu ?_;refine vB h1 ?_
 all_goals first|rfl|exact⟨rfl,rfl⟩
theorem Fy(w:LN)(a:Nat)(fr:LH)(T:List vh)(H:LQ)(h0:0<w.length)(hw:w.length<=131072)(h1:FR 136 [wv p w,iv a,.list r 1 (fr.map iv)] (.tuple []))(h2:FR 137 [wv p w,iv a] (yJ T)):
  FO ET 93 [wv p w,iv a,.list r 1 (fr.map iv)] H false fun e H'=>∃id iW iP,e=.ret (.ptr id 0 0 0 5)/\yf H' id iW iP w [] (.list r 1 (fr.map iv)) 0 a/\xG H H'/\H.length<=id/\H.length<=iW/\H.length<=iP:=by
 refine wF (eG T93 func93) ?_;have g:=PC p w H h0 hw;refine wN h1 ?_;refine zM h2 ?_;refine zI ?_;refine wI g ?_;rintro e H' ⟨rfl,rfl⟩;refine zN ?_;obtain⟨X,b⟩:∃X,X=H++[za.row 29 1 1 0 (w.map uv)]:=⟨_,rfl⟩
 refine eI 120 2 (id:=X.length) (v:=.agg [.sl H.length 1 0 w.length (2*w.length) 1,.nilsl,.list r 1 (fr.map iv),iv 0,iv a]) (v':=.agg [.sl H.length 1 0 w.length (2*w.length) 1,.sl (X.length+1) 0 0 0 0 2,.list r 1 (fr.map iv),iv 0,iv a]) (by rw[b];exact zc _ _) rfl (XQ _ _ _ _ _ _ (by rw[b];simp)) ?_;refine vt ?_;refine pK (vs:=[.ptr X.length 0 0 0 5]) (by rw[b];rfl) ?_;have n:X.length=H.length+1:=by rw[b];simp
 have d:∀i o,H[i]?=some o->X[i]?=some o:=fun i o h=>by rw[b];exact vM h
 have f:X[H.length]?=some (.row 29 1 1 0 (w.map uv)):=by rw[b];exact zc _ _
 rw[<- b];refine⟨X.length,H.length,X.length+1,rfl,⟨⟨0,0,0,?j,?k,Yv _,?l,Ym _⟩,by omega,by omega,by omega⟩,?m,by omega,Ym _,by omega⟩
 case j=>exact Tt _ _ _ _
 case k=>exact vM (get_set (vM f) zo)
 case l=>exact Tu _ _ _ _
 case m=>exact fun i o c=>vM (get_set (vM (d i o c)) (by have:=(Yl.1 c).1;omega))
theorem Pj(id:Nat)(b:Int)(n:Nat)(hn:¬n=0):FO ET 99 [.ptr id 0 0 0 5,iv b,.list 0 2 [],iv (n:Nat)] H false fun e H'=>e=.panic (vN n)/\H'=H:=by
 refine wF (eG T99 func99) ?_;refine zI ?_;refine vB (Xv n zo) ?_
 all_goals first|rfl|exact⟨rfl,rfl⟩
theorem Gd(hU:yf H id iW iP w L F u a)(b:Nat)(l:LP)(hin:∀s∈l,64*b+s.1<w.length)(hb:b<1000000)(hw:w.length<=131072)(hL:L.length+l.length<=900000):
  FO ET 99 [.ptr id 0 0 0 5,iv b,.list 0 2 (l.map vm),iv 0] H false fun e H'=>e=.ret (.tuple [])/\yf H' id iW iP (jZ w (vY (64*b) l)) (L++vY (64*b) l) F u a/\yX [id,iW,iP] H H':=by
 refine wF (eG T99 func99) ?_;have hd:=B9 hU (64*b) l (.inl ⟨0,rfl⟩) hin hw hL;have d:IntKind.i64.wrap ((64:Int)*(b:Int))=((64*b:Nat):Int):=yw;refine zM Xw ?_;refine vp d ?_;refine wI hd ?_;rintro e H' ⟨rfl,c,f⟩;refine zK ?_;exact⟨[],rfl,rfl,c,f⟩


theorem Ms(hU:yf H id iW iP w L F u a)(key:Nat)(ws:LN)(hw:w.length<=131072)(ha:a<w.length)(hW:eB w (w.getD a 0) key ws):
  FO ET 94 [.ptr id 0 0 0 5,uv key] H false fun e H'=>xG H H'/\∃io g,e=.ret (.sl io g 0 ws.length (2*ws.length) 1)/\H'[io]?=some (.row 3 1 g 0 (wo ws)):=by
 refine wF (eG T94 func94) ?_;have I:=XX ha;obtain⟨h1,h2,h3,h4,h5⟩:=hW;generalize w.getD a 0=b0 at *
 have J:0<ws.length:=(Yl.1 h1).1;have ad:=h2 b0 (Yt h1);have Q:IntKind.i64.wrap (b0:Int)=(b0:Int):=yw;obtain⟨⟨gP,MP,MW,z,A,p,u4,u5⟩,n1,n2,n3⟩:=hU;refine zG ?_;refine ua ?_;refine vq (uN z A p I ha Q) ?_;refine vo (vG (fun m s=>∃(i:Nat) (Hc:LQ),m=ws.length-i/\i<ws.length/\xG H Hc/\Hc[H.length]?=some (.row 3 1 i 0 (wo (ws.take (i+1))))/\s.tm 0=.ptr id 0 0 0 5/\s.tm 1=uv key/\s.tm 5=.sl H.length i 0 (i+1) (2*(i+1)) 1/\s.df=[]/\s.H=Hc) (n:=ws.length) ?_ ?_)
 .refine⟨0,_,rfl,J,(xG.refl H).app _,?R,zt,zt,zt,rfl,rfl⟩
  case R=>rw[YO,h1];exact zc _ _
 rintro m ⟨tm,df,Hc⟩ ⟨i,ah,rfl,S,f,d,t0,t1,t5,rfl,rfl⟩;dsimp only at t0 t1 t5 f d;obtain⟨b,h⟩:=uM (l:=ws) S;have v:=h2 b (Yt h);have x:(ws.take (i+1)).length=i+1:=by rw[YF];omega
 have K:(ws.take (i+1))[i]?=some b:=by rw[Y4,if_pos zo];exact h
 have M:(wo (ws.take (i+1)))[i]?=some (iv b):=by rw[YH,K];rfl
 have T:((i+1:Nat):Int)-1=(i:Int):=zo;have U:i<i+1:=zo;have V:=f _ _ z;have r:=f _ _ A;have N:=tT r p b v hw;have Y:=Pn 1 key (jW w b) (by unfold jW vx;simp;omega);have av:i<=20:=zo;refine vP ?_;refine wH ?_;refine bk (nH t0 t1 t5 T U V r p d M x) N ?_;rintro e H' ⟨q,rfl,Z,rfl⟩;refine⟨_,by simp only[go_sem]<;>rfl,?_⟩;refine lE (s1:=?_) (caps:=?_) (vs:=?_) (nm':=?_) ?_ ?_ rfl rfl ?_ ?_ Y ?_ ?_ ?_;rotate_left 4;(first|exact trivial|(simp only[go_sem,t1]));(simp(disch:=omega)only[go_sem,t1]<;>rfl);(first|rfl|(simp only[go_sem,t1]<;>rfl));(simp only[go_sem,t1]<;>rfl);exact⟨sM r p b v Z,.int _ _,trivial⟩;(simp only[go_sem,t1]<;>rfl);refine vq t0 ?_
 by_cases B:(yL (jW w b) key).2=0
 rotate_left
 .have C:¬(((yL (jW w b) key).2:Nat):Int)=0:=zo;have t:i+1=ws.length:=by
   apply Classical.byContradiction
   intro ab;obtain⟨c,k⟩:∃c,ws[i+1]?=some c:=⟨_,Yk zo⟩
   exact B (by rw[h3 i b c h k])
  refine yv C ?_;(repeat(first|refine vj ?_|refine vF t5 ?_));refine vt ?_;rw[t]at d t5;rw[YR]at d;exact pK (vs:=[.sl H.length i 0 ws.length (2*ws.length) 1]) (by simp[T94,xT,zj,zq,zb,t]) ⟨f,_,_,rfl,d⟩
 have C:(((yL (jW w b) key).2:Nat):Int)=0:=zo;have y:i+1<ws.length:=by
  apply Classical.byContradiction
  intro a0;refine h4 b ?_ B;rw[Z4,show ws.length-1=i by omega];exact h
 obtain⟨c,k⟩:∃c,ws[i+1]?=some c:=⟨_,Yk y⟩
 have O:=h3 i b c h k;have P:∀X,(H'++X)[H.length]?=_:=fun X=>vM d;rw[O];have G:(i+1+1)*9<=140737488355328:=zo;refine bi ?_;refine zB ?_;refine gW (wd t5 P x G) ?_;refine km ?_;refine⟨_,?m,i+1,_,rfl,y,fun j o D=>get_set (vM (f j o D)) (by have:=(Yl.1 D).1;omega),?g,by simp[zb,t0],by simp[zb,t1],zt,rfl,rfl⟩
 case m=>omega
 case g=>rw[la d,YO (i:=i+1),k,wo,wo,YJ];rfl


@[reducible] def yj (v:PV):za:=.row 57 1 0 0 [v]
@[reducible] def yz (v:PV):za:=.row 3 1 0 0 [v]
@[reducible] def mf (v:PV):za:=.row 33 1 0 0 [v]
@[reducible] def yq (v:PV):za:=.row 38 1 0 0 [v]
theorem Pu{H:LQ}{a b c:PV}(h0:H[0]?=some (yj a))(h1:H[1]?=some (yz b))(h2:H[2]?=some (mf c)):FO ET 106 [.ptr 0 0 0 0 1,.ptr 1 0 0 0 1,.ptr 2 0 0 0 1] H false fun e H'=>e=.ret (.tuple [])/\H'=((H.set 0 (yj .nilsl)).set 1 (yz (iv 0))).set 2 (mf .nilsl):=by
 refine wF (eG T106 func106) ?_;have d:(H.set 0 (yj .nilsl))[1]?=some (yz b):=get_set h1 zy;have f:((H.set 0 (yj .nilsl)).set 1 (yz (iv 0)))[2]?=some (mf c):=get_set (get_set h2 zy) zy;refine vu (vn h0 d f) ?_;exact⟨[],rfl,rfl,rfl⟩
structure uQ(H:LQ)(id iW iP:Nat)(w:LN)(L:LP)(F:PV)(n:Nat)(b0 b1 b2 b3:PV):Prop where
 g0:H[0]?=some (yj b0)
 g1:H[1]?=some (yz b1)
 g2:H[2]?=some (mf b2)
 g3:H[3]?=some (yq b3)
 und:yf H id iW iP w L F 0 n
 l1:4<=id
 l2:4<=iW
 l3:4<=iP
variable {b0 b1 b2 b3:PV}{n:Nat}(p r:Nat)
theorem uQ.app(h:uQ H id iW iP w L F n b0 b1 b2 b3)(X:LQ):uQ (H++X) id iW iP w L F n b0 b1 b2 b3 :=
 ⟨vM h.g0,vM h.g1,vM h.g2,vM h.g3,h.und.app X,h.l1,h.l2,h.l3⟩
theorem yf.box(h:yf H id iW iP w L F 0 n)(k:Nat)(o:za)(h1:k<id)(h2:k<iW)(h3:k<iP):yf (H.set k o) id iW iP w L F 0 n :=
 h.other fun j a o' b=>get_set b (by rcases a with rfl|rfl|rfl<;>omega)
theorem uQ.set0(h:uQ H id iW iP w L F n b0 b1 b2 b3)(v:PV):uQ (H.set 0 (yj v)) id iW iP w L F n v b1 b2 b3 :=
 ⟨Yz (Yl.1 h.g0).1,get_set h.g1 zy,get_set h.g2 zy,get_set h.g3 zy,h.und.box 0 _ (by have:=h.l1;omega) (by have:=h.l2;omega) (by have:=h.l3;omega),h.l1,h.l2,h.l3⟩
theorem uQ.set1(h:uQ H id iW iP w L F n b0 b1 b2 b3)(v:PV):uQ (H.set 1 (yz v)) id iW iP w L F n b0 v b2 b3 :=
 ⟨get_set h.g0 zy,Yz (Yl.1 h.g1).1,get_set h.g2 zy,get_set h.g3 zy,h.und.box 1 _ (by have:=h.l1;omega) (by have:=h.l2;omega) (by have:=h.l3;omega),h.l1,h.l2,h.l3⟩
theorem uQ.set2(h:uQ H id iW iP w L F n b0 b1 b2 b3)(v:PV):uQ (H.set 2 (mf v)) id iW iP w L F n b0 b1 v b3 :=
 ⟨get_set h.g0 zy,get_set h.g1 zy,Yz (Yl.1 h.g2).1,get_set h.g3 zy,h.und.box 2 _ (by have:=h.l1;omega) (by have:=h.l2;omega) (by have:=h.l3;omega),h.l1,h.l2,h.l3⟩
theorem uQ.set3(h:uQ H id iW iP w L F n b0 b1 b2 b3)(v:PV):uQ (H.set 3 (yq v)) id iW iP w L F n b0 b1 b2 v :=
 ⟨get_set h.g0 zy,get_set h.g1 zy,get_set h.g2 zy,Yz (Yl.1 h.g3).1,h.und.box 3 _ (by have:=h.l1;omega) (by have:=h.l2;omega) (by have:=h.l3;omega),h.l1,h.l2,h.l3⟩
theorem uQ.keep{w':LN}{L':LP}(h:uQ H id iW iP w L F n b0 b1 b2 b3)(hU:yf H' id iW iP w' L' F 0 n)(hk:yX [id,iW,iP] H H'):uQ H' id iW iP w' L' F n b0 b1 b2 b3:=by
 obtain⟨a,b,c,d,_,e,f,g⟩:=h;exact⟨hk 0 _ (by simp;omega) a,hk 1 _ (by simp;omega) b,hk 2 _ (by simp;omega) c,hk 3 _ (by simp;omega) d,hU,e,f,g⟩
theorem uQ.stay(h:uQ H id iW iP w L F n b0 b1 b2 b3)(hk:xG H H'):uQ H' id iW iP w L F n b0 b1 b2 b3 :=
 ⟨hk _ _ h.g0,hk _ _ h.g1,hk _ _ h.g2,hk _ _ h.g3,h.und.other fun j _ o a=>hk j o a,h.l1,h.l2,h.l3⟩
theorem Mb{R:PV}{tm:Nat->PV}{a b c d:PV}(h0:H[0]?=some (yj a))(h1:H[1]?=some (yz b))(h2:H[2]?=some (mf c))(h3:H[3]?=some (yq d))(t8:tm 8=.ptr 0 0 0 0 1)(t9:tm 9=.ptr 1 0 0 0 1)(t10:tm 10=.ptr 2 0 0 0 1)(t11:tm 11=.ptr 3 0 0 0 1)(hR:R=nA [] 0 [] n):
  ye ET T60 (fun e' H=>va H 0 e' (.ret R)) (.panic (vN n)) ⟨tm,[.caught (.ptr 3 0 0 0 1) (.fn 106 [.ptr 0 0 0 0 1,.ptr 1 0 0 0 1,.ptr 2 0 0 0 1])],H⟩:=by
 refine⟨n,106,[.ptr 0 0 0 0 1,.ptr 1 0 0 0 1,.ptr 2 0 0 0 1],false,3,0,1,rfl,rfl,rfl,(Pu h0 h1 h2).mono fun e H' h=>?_⟩;obtain⟨rfl,rfl⟩:=h;refine⟨rfl,?_⟩;have i:=Yz (a:=yj .nilsl) (Yl.1 h0).1;have q:=(Yl.1 h1).1;have r:=(Yl.1 h2).1;have s:=(Yl.1 h3).1;have j:(((H.set 0 (yj .nilsl)).set 1 (yz (iv 0))).set 2 (mf .nilsl))[3]?=some (yq d):=get_set (get_set (get_set h3 zy) zy) zy;obtain⟨f,g⟩:∃f,f=((H.set 0 (yj .nilsl)).set 1 (yz (iv 0))).set 2 (mf .nilsl):=⟨_,rfl⟩
 have k:f[0]?=some (yj .nilsl):=by rw[g];exact get_set (get_set i zy) zy
 have j1:f[1]?=some (yz (iv 0)):=by rw[g];exact get_set (Yz (by grind)) zy
 have j2:f[2]?=some (mf .nilsl):=by rw[g];exact Yz (by grind)
 have j3:f[3]?=some (yq d):=by rw[g];exact j
 rw[<- g];refine⟨⟨.tuple [],f.set 3 (yq (iv n)),[3]⟩,by simp[qs,j3,PV.cells,qj],[.nilsl,iv 0,.nilsl,iv n],?_,?_⟩
 .have l:(f.set 3 (yq (iv n)))[0]?=some (yj .nilsl):=get_set k zy;have m:(f.set 3 (yq (iv n)))[1]?=some (yz (iv 0)):=get_set j1 zy;have o:(f.set 3 (yq (iv n)))[2]?=some (mf .nilsl):=get_set j2 zy;have p:(f.set 3 (yq (iv n)))[3]?=some (yq (iv n)):=Yz (Yl.1 j3).1;simp[T60,xT,zj,zq,t8,t9,t10,t11,zD,zA,zF,l,m,o,p,PV.cells]
 .rw[hR];exact wq
theorem JB(l:LP):vY 0 l=l:=by unfold vY;simp
theorem Lu(n key:Nat)(w:LN)(fr:LH)(ws:LN)(leaf:Nat)(tk:LP×Nat)(T0 T:List vh)(LL:vh)(P:LP)(bl:LN)(root used no:Nat)(more:LP)(R:PV)(hN:0<w.length/\w.length<=131072)(hn:n<w.length)(h82:FR 136 [wv p w,iv n,.list r 1 (fr.map iv)] (.tuple []))(h60:FR 137 [wv p w,iv n] (yJ T0))(hW:eB w (w.getD n 0) key ws)(hlf:ws[ws.length-1]?=some leaf)(hwl:0<ws.length/\ws.length<=20)(hin:64*leaf+64<=w.length)(htk:FR 107 [wv 1 (jW w leaf),uv key] (pY tk))(hta:tk.1.length<=100/\∀s∈tk.1,s.1<64)(hR1:¬tk.2=0->tk.1=[]/\R=nA [] 0 [] tk.2)(hlv:tk.2=0->FR 108 [wv 1 (jZ w (vY (64*leaf) tk.1)),iv n] (yJ T))(hT:T[T.length-1]?=some LL)(hTl:0<T.length/\T.length<=14)(hLL:LL.2.length<=2048)(hpa:FR 109 [uw 0 0 LL.1 LL.2] (.tuple [vO 0 P,.bool true]))(hP:P.length<=100000)(hfew:tk.2=0->T.length=1\/6*LL.2.length<P.length->R=nA (vY (64*leaf) tk.1) 0 [] 0)(hbd:tk.2=0->¬(T.length=1\/6*LL.2.length<P.length)->FR 110 [vO 0 P,.list r 1 (fr.map iv)] (.tuple [iv root,.list 0 2 (more.map vm),iv used,iv no]))(hno:tk.2=0->¬(T.length=1\/6*LL.2.length<P.length)->¬no=0->R=nA (vY (64*leaf) tk.1) 0 [] 0)(hbl:FR 111 [wv p w,iv n] (.tuple [.list 0 1 (wo bl),iv 0]))(hyes:tk.2=0->¬(T.length=1\/6*LL.2.length<P.length)->no=0->(∀s∈more,s.1<w.length)/\more.length<=200000/\root<1000000/\R=nA (vY (64*leaf) tk.1++more++[(n,root)]) used bl 0)(hlb:Lb R):
  FR 60 [wv p w,iv n,uv key,.list r 1 (fr.map iv)] R:=by
 refine qv (eG T60 func60) hlb ?_;refine wu ?_;refine gZ (f:=91) (p:=.ptr 3 0 0 0 1) (cl:=.fn 106 [.ptr 0 0 0 0 1,.ptr 1 0 0 0 1,.ptr 2 0 0 0 1]) ?_ ?_ eS ?_
 .rfl
 .simp only[go_sem]<;>rfl
 refine zN ?_;refine zI ?_;refine wI (Fy p r w n fr T0 [yj .nilsl,yz (iv 0),mf .nilsl,yq (iv 0)] hN.1 hN.2 h82 h60) ?_;rintro e H ⟨id,iW,iP,rfl,x,M,l1,l2,l3⟩;refine zN ?_;have t:uQ H id iW iP w [] (.list r 1 (fr.map iv)) n .nilsl (iv 0) .nilsl (iv 0):=⟨M 0 _ rfl,M 1 _ rfl,M 2 _ rfl,M 3 _ rfl,x,l1,l2,l3⟩
 clear M x;refine kJ (fun a=>a 0=wv p w/\a 1=iv n/\a 2=uv key/\a 3=.list r 1 (fr.map iv)/\a 8=.ptr 0 0 0 0 1/\a 9=.ptr 1 0 0 0 1/\a 10=.ptr 2 0 0 0 1/\a 11=.ptr 3 0 0 0 1/\a 12=.ptr id 0 0 0 5) ⟨zt,zt,zt,zt,zt,zt,zt,zt,by simp[zb]⟩ ?_;rintro a ⟨j,h1,h2,h3,h,i,d,b,c⟩;refine vp (jX h2 c) ?_;refine wI (Ms t.und key ws hN.2 hn hW) ?_;rintro e H1 ⟨M,io,g,rfl,a4⟩;refine zN ?_
 replace t:=t.stay M
 clear M;have e1:(ws.length:Int)-1=((ws.length-1:Nat):Int):=zo;have e2:ws.length-1<ws.length:=zo;have a9:(wo ws)[ws.length-1]?=some (iv leaf):=by rw[YH,hlf];rfl
 refine vI (wd a4 e1 e2 a9) ?_;refine kJ (fun a=>a 0=wv p w/\a 1=iv n/\a 2=uv key/\a 3=.list r 1 (fr.map iv)/\a 8=.ptr 0 0 0 0 1/\a 9=.ptr 1 0 0 0 1/\a 10=.ptr 2 0 0 0 1/\a 11=.ptr 3 0 0 0 1/\a 12=.ptr id 0 0 0 5/\a 14=iv leaf) ⟨zu j,zu h1,zu h2,zu h3,zu h,zu i,zu d,zu b,zu c,by simp[zb]⟩ ?_;clear j h1 h2 h3 h i d b c;rintro a ⟨j,h1,h2,h3,h,i,d,b,c,Z⟩;obtain⟨⟨gP,O,MW,o,A,I,B,J⟩,n1,n2,n3⟩:=t.und;refine vp (vn c Z o) ?_;refine wI (tT A I leaf hin hN.2) ?_;rintro e H2 ⟨q,rfl,hq,rfl⟩;refine vU h2 ?_;refine gV htk ?_ ?_;exact⟨sM A I leaf hin hq,.int _ _,trivial⟩;have b3:=t.g3;refine uy (jX b b3) ?_;refine pG fun H3 a5=>?_;have N:uQ H3 id iW iP w [] (.list r 1 (fr.map iv)) n .nilsl (iv 0) .nilsl (iv (tk.2:Nat)):=by rw[a5];exact t.set3 _
 clear a5 t a4 b3 o A I B J;refine kJ (fun a=>a 0=wv p w/\a 1=iv n/\a 3=.list r 1 (fr.map iv)/\a 8=.ptr 0 0 0 0 1/\a 9=.ptr 1 0 0 0 1/\a 10=.ptr 2 0 0 0 1/\a 11=.ptr 3 0 0 0 1/\a 12=.ptr id 0 0 0 5/\a 14=iv leaf/\a 15=.list 0 2 (tk.1.map vm)) ⟨zu j,zu h1,zu h3,zu h,zu i,zu d,zu b,zu c,zu Z,by simp[zb]⟩ ?_;clear j h1 h2 h3 h i d b c Z;rintro a ⟨j,h1,h3,h,i,d,b,c,Z,ah⟩;have b3:=N.g3
 by_cases S:tk.2=0
 rotate_left
 .obtain⟨r1,r2⟩:=hR1 S;rw[r1]at ah;refine vp (wc b c Z ah b3) ?_;refine wI (Pj (H:=H3) id leaf tk.2 S) ?_;rintro e H4 ⟨rfl,rfl⟩;exact Mb N.g0 N.g1 N.g2 N.g3 (by simp[x7,zb,h]) (by simp[x7,zb,i]) (by simp[x7,zb,d]) (by simp[x7,zb,b]) r2
 have hlv:=hlv S;have hfew:=hfew S;have hbd:=hbd S;have hno:=hno S;have hyes:=hyes S;rw[S]at b3;refine vp (wc b c Z ah b3) ?_;refine wI (Gd N.und leaf tk.1 (fun s hs=>by have:=hta.2 s hs;omega) zo hN.2 (by simp;omega)) ?_;rintro e H4 ⟨rfl,x,U⟩;refine zN ?_;have t:=N.keep x U;clear x U N b3 hR1;rw[YC]at t;have bb:(jZ w (vY (64*leaf) tk.1)).length=w.length:=yZ _ _;have b6:(vY (64*leaf) tk.1).length<=100:=by unfold vY;rw[Yw];exact hta.1
 generalize jZ w (vY (64*leaf) tk.1)=V at *
 generalize vY (64*leaf) tk.1=L1 at *
 refine kJ (fun a=>a 0=wv p w/\a 1=iv n/\a 3=.list r 1 (fr.map iv)/\a 8=.ptr 0 0 0 0 1/\a 9=.ptr 1 0 0 0 1/\a 10=.ptr 2 0 0 0 1/\a 11=.ptr 3 0 0 0 1/\a 12=.ptr id 0 0 0 5) ⟨zu j,zu h1,zu h3,zu h,zu i,zu d,zu b,zu c⟩ ?_;clear j h1 h3 h i d b c Z ah;rintro a ⟨j,h1,h3,h,i,d,b,c⟩;obtain⟨⟨gP,O,MW,o,A,I,B,J⟩,n1,n2,n3⟩:=t.und;refine vp (vn h1 c o) ?_;refine gV hlv ?_ ?_;exact⟨QW A I rfl (Ym _),.int _ _,trivial⟩;refine zN ?_;have bm:(T.map fun L=>uw 0 0 L.1 L.2)[T.length-1]?=some (uw 0 0 LL.1 LL.2):=wB hT;have e3:(T.length:Int)-1=((T.length-1:Nat):Int):=zo;have e4:T.length-1<T.length:=zo;refine vI (vn bm e3 e4) ?_;refine pG fun H5 a2=>?_;have l:uQ H5 id iW iP V L1 (.list r 1 (fr.map iv)) n .nilsl (iv 0) .nilsl (iv (tk.2:Nat)):=by rw[a2];exact t.app _
 have av:H5[H4.length]?=some (.row 195 2 0 0 [uw 0 0 LL.1 LL.2]):=by rw[a2];exact zc _ _
 clear a2 t o A I B J;generalize H4.length=i17 at *
 refine vp av ?_;refine wj hpa ?_;refine kJ (fun a=>a 0=wv p w/\a 1=iv n/\a 3=.list r 1 (fr.map iv)/\a 8=.ptr 0 0 0 0 1/\a 9=.ptr 1 0 0 0 1/\a 10=.ptr 2 0 0 0 1/\a 11=.ptr 3 0 0 0 1/\a 12=.ptr id 0 0 0 5/\a 16=yJ T/\a 17=.ptr i17 0 0 0 2/\a 18=vO 0 P) ⟨zu j,zu h1,zu h3,zu h,zu i,zu d,zu b,zu c,zt,zt,by simp[zb]⟩ ?_;clear j h1 h3 h i d b c;rintro a ⟨j,h1,h3,h,i,d,b,c,a0,a3,D⟩;refine zB ?_;refine xH (Q:=fun yy v=>yy=.norm/\v.tm 0=wv p w/\v.tm 1=iv n/\v.tm 3=.list r 1 (fr.map iv)/\v.tm 8=.ptr 0 0 0 0 1/\v.tm 9=.ptr 1 0 0 0 1/\v.tm 10=.ptr 2 0 0 0 1/\v.tm 11=.ptr 3 0 0 0 1/\v.tm 12=.ptr id 0 0 0 5/\v.tm 18=vO 0 P/\v.tm 82=.bool (decide (T.length=1\/6*LL.2.length<P.length))/\v.df=[.caught (.ptr 3 0 0 0 1) (.fn 106 [.ptr 0 0 0 0 1,.ptr 1 0 0 0 1,.ptr 2 0 0 0 1])]/\v.H=H5) (vX ?_) ?_
 .by_cases a6:T.length=1
  .have c1:=eq_true (show ((T.length:Nat):Int)=1 by omega);refine w9 (vn a0 D c1) ?_;exact⟨rfl,j,h1,h3,h,i,d,b,c,D,by simp[zb,a6],rfl,rfl⟩
  have c1:¬((T.length:Nat):Int)=1:=zo;have w6:IntKind.i64.wrap ((6:Int)*(LL.2.length:Int))=((6*LL.2.length:Nat):Int):=yw
  by_cases a7:6*LL.2.length<P.length
  .have c2:((6*LL.2.length:Nat):Int)<(P.length:Nat):=zo;refine w9 (uc a0 a3 D av c1 c2 w6) ?_;exact⟨rfl,j,h1,h3,h,i,d,b,c,D,by simp[zb,a7],rfl,rfl⟩
  have c2:¬((6*LL.2.length:Nat):Int)<(P.length:Nat):=zo;refine w9 (uc a0 a3 D av c1 c2 w6) ?_;exact⟨rfl,j,h1,h3,h,i,d,b,c,D,by simp[zb,a7,a6],rfl,rfl⟩
 clear j h1 h3 h i d b c a0 a3 D;rintro yy ⟨a,df,H⟩ ⟨rfl,j,h1,h3,h,i,d,b,c,D,h82,rfl,rfl⟩;dsimp only at *
 have bo:=l.l1;have bp:=l.l2;have bs:=l.l3
 by_cases hf:T.length=1\/6*LL.2.length<P.length
 .rw[decide_eq_true hf]at h82;refine MM h82 ?_;obtain⟨⟨gP,O,MW,o,A,I,B,J⟩,n1,n2,n3⟩:=l.und;have b0:=l.g0;have b1:=l.g1;have b2:=l.g2;have b3:=l.g3;have X:∀y,(H.set 0 y)[1]?=_:=fun y=>get_set b1 zy;have Y:∀y z,((H.set 0 y).set 1 z)[2]?=_:=fun y z=>get_set (get_set b2 zy) zy;have C:∀y z u,(((H.set 0 y).set 1 z).set 2 u)[3]?=_:=fun y z u=>get_set (get_set (get_set b3 zy) zy) zy;(repeat(first|refine vj ?_|refine vF (mG h i d b c o b0 X Y C) ?_));refine pG fun H6 ab=>?_;have k:uQ H6 id iW iP V L1 (.list r 1 (fr.map iv)) n (.sl iP gP 0 L1.length (2*L1.length) 2) (iv 0) .nilsl (iv 0):=by rw[ab];exact(((l.set0 _).set1 _).set2 _).set3 _
  have u6:H6[iP]?=some (.row 120 2 gP O (L1.map vm)):=by rw[ab];exact get_set (get_set (get_set (get_set B zo) zo) zo) zo
  clear ab;refine vt ?_;refine⟨[.sl iP gP 0 L1.length (2*L1.length) 2,iv 0,.nilsl,iv 0],by simp[T60,xT,zj,zq,zb,h,i,d,b,zD,zA,zF,zW,k.g0,k.g1,k.g2,k.g3,PV.cells],?_⟩;rw[hfew hf];exact zf.tL ⟨zf.wM u6 J rfl (by rw[Yw]) (by rw[Yw];exact Ym _) uo m6,.int _ _,.nil _ _,.int _ _,trivial⟩
 rw[decide_eq_false hf]at h82;have hbd:=hbd hf;refine Yg h82 ?_;refine vp (jX h3 D) ?_;refine vi hbd ?_;have b1:=l.g1;have b3:=l.g3;have C:∀y,(H.set 1 y)[3]?=_:=fun y=>get_set b3 zy;refine vU (wd i b b1 C) ?_;refine ug ?_;refine pG fun H6 ab=>?_;have k:uQ H6 id iW iP V L1 (.list r 1 (fr.map iv)) n .nilsl (iv used) .nilsl (iv no):=by rw[ab];exact(l.set1 _).set3 _
 clear ab l b1 b3 C av;refine kJ (fun a=>a 0=wv p w/\a 1=iv n/\a 8=.ptr 0 0 0 0 1/\a 9=.ptr 1 0 0 0 1/\a 10=.ptr 2 0 0 0 1/\a 11=.ptr 3 0 0 0 1/\a 12=.ptr id 0 0 0 5/\a 20=iv root/\a 21=.list 0 2 (more.map vm)) ⟨zu j,zu h1,zu h,zu i,zu d,zu b,zu c,zt,by simp[zb]⟩ ?_;clear j h1 h3 h i d b c D h82;rintro a ⟨j,h1,h,i,d,b,c,bw,bx⟩;have b3:=k.g3
 by_cases a1:no=0
 rotate_left
 .have g:¬(no:Int)=0:=zo;refine yv (vn b b3 g) ?_;obtain⟨⟨gP,O,MW,o,A,I,B,J⟩,n1,n2,n3⟩:=k.und;have b0:=k.g0;have b1:=k.g1;have b2:=k.g2;have X:∀y,(H6.set 0 y)[1]?=_:=fun y=>get_set b1 zy;have Y:∀y z,((H6.set 0 y).set 1 z)[2]?=_:=fun y z=>get_set (get_set b2 zy) zy;have C:∀y z u,(((H6.set 0 y).set 1 z).set 2 u)[3]?=_:=fun y z u=>get_set (get_set (get_set b3 zy) zy) zy;(repeat(first|refine vj ?_|refine vF (mG h i d b c o b0 X Y C) ?_));refine pG fun H7 G=>?_;have m:uQ H7 id iW iP V L1 (.list r 1 (fr.map iv)) n (.sl iP gP 0 L1.length (2*L1.length) 2) (iv 0) .nilsl (iv 0):=by rw[G];exact(((k.set0 _).set1 _).set2 _).set3 _
  have u6:H7[iP]?=some (.row 120 2 gP O (L1.map vm)):=by rw[G];exact get_set (get_set (get_set (get_set B zo) zo) zo) zo
  clear G;refine vt ?_;refine⟨[.sl iP gP 0 L1.length (2*L1.length) 2,iv 0,.nilsl,iv 0],by simp[T60,xT,zj,zq,zb,h,i,d,b,zD,zA,zF,zW,m.g0,m.g1,m.g2,m.g3,PV.cells],?_⟩;rw[hno hf a1];exact zf.tL ⟨zf.wM u6 J rfl (by rw[Yw]) (by rw[Yw];exact Ym _) uo m6,.int _ _,.nil _ _,.int _ _,trivial⟩
 obtain⟨m1,m2,m3,m4⟩:=hyes hf a1;rw[a1]at b3;refine cH (jX b b3) ?_;refine uL ?_;have b2:=k.g2;refine vp (jX j h1) ?_;refine vi hbl ?_;refine uy (jX d b2) ?_;refine pG fun H7 G=>?_;have m:uQ H7 id iW iP V L1 (.list r 1 (fr.map iv)) n .nilsl (iv used) (.list 0 1 (wo bl)) (iv no):=by rw[G];exact k.set2 _
 clear G k b2 b3;refine vp (jX c bx) ?_;refine wI (B9 m.und 0 more (.inl ⟨0,rfl⟩) (fun s hs=>by have:=m1 s hs;omega) zo zo) ?_;rintro e H8 ⟨rfl,x,U⟩;refine zN ?_;have ad:=m.keep x U;rw[JB]at ad;clear x U m;have b4:(jZ V more).length=w.length:=(yZ _ _).trans bb;have b5:(L1++more).length<=200100:=by rw[Yn];omega
 have w1:IntKind.u64.wrap (root:Int)=(root:Int):=ep;have e5:L1++more++[(n,root)]=(L1++more)++vY 0 [(n,root)]:=by rw[JB]
 rw[e5]at m4;generalize L1++more=L2 at *
 generalize jZ V more=V2 at *
 have b7:=ad.l3;have a8:H8.length ∉ [id,iW,iP]:=by
  obtain⟨⟨gP,O,MW,o,A,I,B,J⟩,n1,n2,n3⟩:=ad.und;have q1:=(Yl.1 o).1;have q2:=(Yl.1 A).1;have q3:=(Yl.1 B).1;simp;omega
 refine vp (wd h1 c bw w1) ?_;refine wI (B9 (ad.und.app [.row 120 2 0 0 [vm (n,root)]]) 0 [(n,root)] (.inr ⟨H8.length,a8,rfl,zc _ _⟩) (fun s hs=>by obtain rfl:=YQ.1 hs;dsimp only;omega) zo (by simp;omega)) ?_;rintro e H9 ⟨rfl,x,U⟩;refine zN ?_;have K:=(ad.app [.row 120 2 0 0 [vm (n,root)]]).keep x U;clear x U ad a8;generalize L2++vY 0 [(n,root)]=L3 at *
 generalize jZ V2 (vY 0 [(n,root)])=V3 at *
 have bo:=K.l1;obtain⟨⟨gP,O,MW,o,A,I,B,J⟩,n1,n2,n3⟩:=K.und;have b0:=K.g0;have b1:=K.g1;have b2:=K.g2;have b3:=K.g3;have X:∀y,(H9.set 0 y)[1]?=_:=fun y=>get_set b1 zy;have Y:∀y z,((H9.set 0 y).set 1 z)[2]?=_:=fun y z=>get_set (get_set b2 zy) zy;have C:∀y z u,(((H9.set 0 y).set 1 z).set 2 u)[3]?=_:=fun y z u=>get_set (get_set (get_set b3 zy) zy) zy;refine wH ?_;refine vS (xB h i d b c o b0 b1 b2 X Y C) ?_;refine vS (ax h i d b c X Y C) ?_;refine vS (ax h i d b c X Y C) ?_;refine vS (ax h i d b c X Y C) ?_;refine vq h ?_;have bp:=K.l2;have bs:=K.l3;refine pG fun H7 G=>?_;have m:uQ H7 id iW iP V3 L3 (.list r 1 (fr.map iv)) n (.sl iP gP 0 L3.length (2*L3.length) 2) (iv used) (.list 0 1 (wo bl)) (iv 0):=by rw[G];exact(((K.set0 _).set1 _).set2 _).set3 _
 have u6:H7[iP]?=some (.row 120 2 gP O (L3.map vm)):=by rw[G];exact get_set (get_set (get_set (get_set B zo) zo) zo) zo
 clear G;refine vt ?_;refine⟨[.sl iP gP 0 L3.length (2*L3.length) 2,iv used,.list 0 1 (wo bl),iv 0],by simp[T60,xT,zj,zq,zb,h,i,d,b,zD,zA,zF,zW,m.g0,m.g1,m.g2,m.g3,PV.cells],?_⟩;rw[m4];exact zf.tL ⟨zf.wM u6 J rfl (by rw[Yw]) (by rw[Yw];exact Ym _) uo m6,.int _ _,.list _ _ _,.int _ _,trivial⟩
theorem Xx(w:LN)(a:Int)(key:Nat)(fr:LH)(no:Nat)(h:∀H,FO ET 93 [wv p w,iv a,.list r 1 (fr.map iv)] H false fun e H'=>e=.panic (vN no)/\H'=H):FR 60 [wv p w,iv a,uv key,.list r 1 (fr.map iv)] (nA [] 0 [] no):=by
 refine qv (eG T60 func60) (C1 _ _ _ _) ?_;refine wu ?_;refine gZ (f:=91) (p:=.ptr 3 0 0 0 1) (cl:=.fn 106 [.ptr 0 0 0 0 1,.ptr 1 0 0 0 1,.ptr 2 0 0 0 1]) ?_ ?_ eS ?_
 .rfl
 .simp only[go_sem]<;>rfl
 refine zN ?_;refine zI ?_;refine wI (h [yj .nilsl,yz (iv 0),mf .nilsl,yq (iv 0)]) ?_;rintro e H ⟨rfl,rfl⟩;exact Mb rfl rfl rfl rfl (by simp[x7,zb]) (by simp[x7,zb]) (by simp[x7,zb]) (by simp[x7,zb]) rfl
end Fv
open Go.RowKit
namespace Tw
variable {ρ ρ':zg}{Z:Nat}{h h':TH}{w:World}
variable (n:Int)(eb:Nat)(p' c':Value)(g:Nat)(cap:LO)
theorem DN:∀(n:Nat) (l:LK) (r:List (Int×Nat)) (cs:LG),l.length<=n->nu l=some r->VL ρ l cs->cs=LT.all r/\l.length=r.length*2
 | n,[],r,cs,_,h,c=>by
  simp only[nu]at h;injection h with h;subst h;exact⟨by rw[c.oN];rfl,rfl⟩
 | 0,_::_,r,cs,d,h,c=>by simp at d
 | n+1,x::p,r,cs,d,h,c=>by
  unfold nu at h
  split at h
  .rename_i e;cases e
  .rename_i a b l e;injection e with i j;subst i;subst j
   split at h
   .rename_i r' hr;injection h with h;subst h;obtain⟨y,q,rfl,k,f⟩:=c.oc;obtain⟨z,m,rfl,o,g⟩:=f.oc
    cases k;cases o
    obtain⟨h1,h2⟩:=DN n l r' m (by simp at d;omega) hr g;exact⟨by rw[h1,LT.all_cons];rfl,by simp[h2];omega⟩
   .cases h
  .cases h
theorem J6:∀(n:Nat) (l:LK) (r:List (Int×Nat)),l.length<=n->nu l=some r->∀x∈l,x.one=true
 | n,[],r,_,h=>by simp
 | 0,_::_,r,d,h=>by simp at d
 | n+1,x::i,r,d,h=>by
  unfold nu at h
  split at h
  .rename_i e;cases e
  .rename_i a b l e;injection e with f g;subst f;subst g
   split at h
   .rename_i r' hr;intro y c;rcases YA.1 c with rfl|c
    .rfl
    .rcases YA.1 c with rfl|c
     .rfl
     .exact J6 n l r' (by simp at d;omega) hr y c
   .cases h
  .cases h
theorem HP(k:WR prog Z ρ h w){b g n:Nat}{loc:yE}(hl:ρ b g=some loc){M len:Nat}{cells:LA}(hro:h.get b=some (.row 120 g M len cells)){news old:LK}{x:Int×Nat}{l:List (Int×Nat)}(hn:l.length=n)(hv:VL ρ (news++old) (LT.all (x::l)))(h1:∀y∈news++old,y.one=true)
  {v:Value} {w':World} (hO:OL LT w' Z v (x::l)) (hb:Below Z w w') {g' c':Nat} (hvv:v=.slice (some ⟨g',0,none⟩) (l.length+1) c') (hg:g'=loc.r\/w.heap.size<=g') (hfr:∀k,k≠loc.r->k<w.heap.size->w'.heap[k]?=w.heap[k]?) :
  kj prog Z ρ h (h.set b (.row 120 (g+1) (g+1) ((n+1)*2) (Tr.putL .nil 0 (news++old)))) w (.ret (.sl b (g+1) 0 (n+1) (2*(n+1)) 2)) (.returned v) w':=by
 subst hn;obtain⟨ob,m,A⟩:=k.obj _ _ _ hl;rw[hro]at m;injection m with m;subst m;have o:∀g loc,ρ b g=some loc->Z<=loc.r:=fun g loc hl=>(k.dom b g loc hl).2.1.resolve_right fun⟨cs,h1⟩=>by rw[hro]at h1;cases h1
 have J:ρ b (g+1)=none:=by
  cases T:ρ b (g+1)with
  | none=>rfl
  | some l2=>have:=A.2.1 _ _ T;omega
 rcases hO with⟨ab,⟨p,_⟩|⟨g2,cap,q,p,L,B,N,uZ,O,P⟩⟩
 .rw[hvv]at p;cases p
 .have f:=hvv.symm.trans p;injection f with f e3 U;injection f with f;injection f with f;subst f;subst U;have t:=zg.add_more (loc:=⟨g',(l.length+1)*2,c'*2⟩) J;have ad:=k.dom _ _ _ hl;have ah:l.length+1<=c':=by simpa using N
  have Q:g'<w'.heap.size:=(Zd.1 B).1;have K:(LT.all (x::l)).length=(l.length+1)*2:=by rw[LT.all_len];simp[LT]
  have C:q.size=c'*2:=O;have V:=k.change (b:=b) (ρ':=ρ.add b (g+1) ⟨g',(l.length+1)*2,c'*2⟩) (x':=.row 120 (g+1) (g+1) ((l.length+1)*2) (Tr.putL .nil 0 (news++old))) t (fun c j d=>zg.add_ne j d) hl (w':=w') hb.size (fun c d u j D=>hfr _ (fun e=>j (k.sep _ _ _ _ _ _ D hl e (by rw[e];exact o _ _ hl))) (k.dom _ _ _ D).2.2)
   ⟨Ym _,fun d u a=>by
    rcases zg.add_inv a with⟨_,e,_⟩|a
    .omega
    .have:=A.2.1 _ _ a;omega,fun d ha av=>by
    have:d=g+1:=by omega
    subst this;refine⟨_,q,zg.aS _ _ _ _,.of B,fun _=>C,Ym _,by rw[C];dsimp only;omega,fun _=>rfl,fun i z=>?_⟩;dsimp only at z;have G:i<(news++old).length:=by rw[hv.1,K];exact z
    have R:(news++old)[i]?=some (news++old)[i]:=Yk G;obtain⟨y,I,X⟩:=hv.at R;refine⟨_,y,?_,?_,h1 _ (YX G),X.mono t⟩
    .rw[Tr.get_putL,if_pos zo];simp
    .have Y:q.toList.take ((l.length+1)*2)=LT.all (x::l):=by simpa[LT]using P
     rw[<- Y,Y4,if_pos z]at I;simpa using I⟩
   (fun d u a=>by
    rcases zg.add_inv a with⟨_,_,e⟩|a
    .subst e;exact⟨L,Q⟩
    .have:=k.dom _ _ _ a;exact⟨o _ _ a,YS this.2.2 hb.size⟩)
   (fun d u a c g1 l1 j s e=>by
    rcases zg.add_inv a with⟨_,_,e6⟩|a
    .subst e6;rcases hg with hg|hg
     .exact j (k.sep _ _ _ _ _ _ s hl (by dsimp only at e;omega) (by have:=o _ _ hl;dsimp only at e;omega))
     .have:=(k.dom _ _ _ s).2.2;dsimp only at e;omega
    .exact j (k.sep _ _ _ _ _ _ s a e.symm (by have:=o _ _ a;omega)))
  refine⟨_,⟨t,fun c j hn d=>?_⟩,V,hb,Ym _,_,rfl,?_⟩
  .have S:c≠b:=fun e=>by rw[e,]at hn;rw[hn g]at hl;cases hl
   rw[zg.add_ne S];exact hn d
  .rw[hvv];exact .sl (zg.aS _ _ _ _) zo zo (by dsimp only;omega) (.inl rfl) (fun _=>by dsimp only;omega) uZ
theorem RS(k:WR prog Z ρ h w)(hZ:Z<=w.heap.size){args:LK}{args':LG}(hv:VL ρ args args'){r:TE}(hr:dn 120 args h=some (r,h')) :
  CallsIn (Fr none) 0 prog 200 args'.toArray w (kj prog Z ρ h h' w r):=by
 unfold dn at hr
 split at hr
 .rename_i b g n q z bx gx qx zx;unfold sW at hr
  split at hr
  .rename_i rx ro news hrx hro hnews;obtain⟨C,b3⟩:=ve hr;obtain⟨V,b4⟩:=ve b3;obtain⟨X,b5⟩:=ve b4;obtain⟨Y,b6⟩:=ve b5;obtain⟨c5,b7⟩:=ve b6;obtain⟨c6,f⟩:=ve b7;have V:=Yo V;have X:=Yo X;have Y:=Yo Y;have c5:=YB c5;have c6:=YB c6;subst V;subst X
   cases K:Nat.beq b bx with
   | true=>rw[K]at f;cases f
   | false =>
    have bw:b≠bx:=fun e=>by rw[e,Nat.beq_refl]at K;cases K
    rw[K]at f;simp only[cond_false]at f
    cases ro with
    | map=>cases f
    | dfr=>cases f
    | loop=>cases f
    | ro=>cases f
    | row e G M len cells =>
     simp only[CJ]at f;obtain⟨d1,ca⟩:=ve f;obtain⟨d2,cb⟩:=ve ca;obtain⟨d3,d⟩:=ve cb;have d1:=Yo d1;have d2:=Yo d2;have d3:=Yo d3;subst d1;subst d2;subst d3
     cases R:cells.getL 0 (n*2)with
     | none=>rw[R]at d;cases d
     | some S =>
      rw[R]at d;simp only[CK]at d
      split at d
      .rename_i pn po hpn hpo;injection d with d;injection d with d b0;subst d;subst b0;obtain⟨s',t1,rfl,v1,hv⟩:=hv.oc;obtain⟨i',t2,rfl,v2,hv⟩:=hv.oc;obtain⟨x',t3,rfl,v3,hv⟩:=hv.oc;obtain rfl:=hv.oN
       cases v2
       obtain⟨s,o',c,rfl,t,hn,hq,hc,ho,hs,hm⟩:=v1.sl_inv;have ho:o'=0:=by omega
       subst ho;obtain⟨A,mx,dp,ds,ex,_,Q,bb,bm,bo⟩:=Et (n:=1) (esz:=2) k v3 (l:=news) (by simp only[be,Nat.beq_refl,cond_true];exact hnews) (Ym _);obtain⟨o,cc,N,rfl,T,dx,dT,eb,a3,ed,ef⟩:=v3.sl_inv;have a3:cc=0:=by omega
       subst a3;injection ex with ch ej en;subst ch;obtain⟨ob,L,a4⟩:=k.obj _ _ _ t;rw[hro]at L;injection L with L;subst L;obtain⟨dd,U,O,q2,q3,q4,q5,q6,q7⟩:=a4.2.2 g a4.1 (Ym _);rw[t]at O;injection O with O;subst O;have hS:=hs Y;have hL:=q6 rfl;have ad:=q3 rfl;obtain⟨ck,cl⟩:=Tr.getL_some R;have cu:(U.toList.take (n*2)).length=n*2:=by rw[YF,zAD9,ad];omega
       have a0:VL ρ S (U.toList.take (n*2)):=⟨by rw[ck,cu],fun i x y D m=>by
        have hi:i<n*2:=by have:=(Yl.1 D).1;omega
        obtain⟨x0,v0,z1,z2,_,z4⟩:=q7 i zo;rw[cl i hi,Y6,z1]at D;rw[Y4,if_pos hi,Y7,z2]at m;injection D with D;injection m with m;subst D;subst m;exact z4⟩
       obtain⟨a5,er⟩:=DN _ _ _ _ (Ym _) hpo a0;obtain⟨a6,es⟩:=DN _ _ _ _ (Ym _) hpn Q;have B:po.length=n:=by omega
       have et:news.length=2:=by rw[Q.1,bb]
       have b1:pn.length=1:=by omega
       obtain⟨p,rfl⟩:∃p,pn=[p]:=zAS9.1 b1;obtain⟨a,ea,bp⟩:=bo zo;injection ea with ea;subst ea;have c0:=k.dom _ _ _ t;have a7:Z<=s.r:=c0.2.1.resolve_right fun⟨cs,h1⟩=>by rw[hro]at h1;cases h1
       have hO:OL LT w Z (.slice (some ⟨s.r,0,none⟩) po.length c) po:=⟨by rw[LT.all_len],.inr ⟨s.r,c,U,rfl,a7,q2.plain (by kernel_rfl),by omega,hm,by rw[ad,<- hS];simp[LT],by rw[B,<- a5];rfl⟩⟩
       have a8:RL LT (o.r+1) w (some ⟨o.r,0,none⟩) [p]:=fun _=>⟨o.r,0,rfl,.inl (Zr _),fun j u hu=>by
        have:=bp j u (by rw[a6];exact hu);simpa[pH]using this⟩
       have a1:po ≠ []:=fun e=>by subst e;simp at B;omega
       have ah:VL ρ (news++S) (LT.all (p::po)):=by
        have:=Q.app a0;rw[a6,a5]at this;rw[LT.all_cons,<- LT.all_one];exact this
       have a2:∀y∈news++S,y.one=true:=fun y m=>by
        rcases YM.1 m with m|m
        .exact bm y m
        .exact J6 _ _ _ (Ym _) hpo y m
       have bs:([.slice (some ⟨s.r,0,none⟩) n c,.int .i64 (.ofNat 0),.slice (some ⟨o.r,0,none⟩) 1 N]:LG).toArray=#[.slice (some ⟨s.r,0,none⟩) po.length c,.int .i64 0,.slice (some ⟨o.r,0,none⟩) 1 N]:=by rw[B];rfl
       rw[bs];refine callsIn_wide.2 ?_;have c7:o.r≠s.r:=fun e=>bw (k.sep _ _ _ _ _ _ T t e (by rw[e];exact a7)).symm
       by_cases av:po.length+1<=c
       .obtain⟨obx,J,horx⟩:=k.obj _ _ _ T;rw[hrx]at J;injection J with J;subst J
        cases rx with
        | map=>cases C
        | dfr=>cases C
        | loop=>cases C
        | ro=>cases C
        | row e2 G2 M2 df c8 =>
         have ab:=hnews;simp only[wK,hrx,mC]at ab;obtain⟨m1,a9⟩:=ve ab;obtain⟨m2,_⟩:=ve a9;obtain⟨dm,b2,P,I,_⟩:=horx.2.2 gx (YB m1) (YB m2);rw[T]at P;injection P with P;subst P;obtain rfl:e2=120:=Yo C
         replace I:=I.plain (by kernel_rfl)
         refine(RQ po p Z s.r c o.r N w a1 zo av hO a8 c7 120 b2.size (by simp[World.shape?,I]) (frozen_of_row w _ _ _ _ I) (frozen_of_row w _ _ _ _ I) hZ).mono ?_;rintro e w' ⟨v,rfl,o1,o2,⟨g',c',o3,o4⟩,o5⟩;exact HP k t hro B ah a2 o1 o2 o3 o4 o5
       .refine(RP po p Z s.r c o.r N w a1 zo av hO a8 hZ).mono ?_;rintro e w' ⟨v,rfl,o1,o2,⟨g',c',o3,o4⟩,o5⟩;exact HP k t hro B ah a2 o1 o2 o3 o4 o5
      .cases d
  .cases hr
 .cases hr
theorem Eg(v:Value)(t:TypeId)(w:World):(Instr.typeAssert (.iface 38 v) t 38 true).run prog w=.ok (.tuple #[v,.bool true]) w:=by
 simp[Instr.typeAssert,run_underlying underlying38,Result.andThen]
theorem Rq(w:World)(R:World->Prop)(hent:∀w,(callFunc g cap).run prog w=.ok (.enter g cap) w)(hg:Calls prog g cap w fun e w'=>e=.returned (.tuple #[])/\R w')(hR:∀w',R w'->(∃v,w'.cell? ⟨eb,0,none⟩=some v)/\w'.frozen? ⟨eb,0,none⟩=false):
  CallsDIn Fence.wide 0 prog 38 #[.pointer (some ⟨eb,0,none⟩),.func (.func g) #[] cap] (.panicking [{ v:=.iface 38 (.int .i64 n),recovered:=false }]) w fun e u' w'=>(∃v,e=.returned v)/\u'=.panicking [{ v:=.iface 38 (.int .i64 n),recovered:=true }]/\∃w1,R w1/\w'=w1.setCell ⟨eb,0,none⟩ (.int .i64 n):=by
 refine callsDIn_of_wpSIn func38 rfl trivial fun d f a=>?_
 apply wpSIn_seq
 apply wpSIn_region
 generalize h:Exit.thenS _ _=QQ;simp[wpOpsSIn,go_sem,recoverD,a,Tryz.ntmps38,Fence.wide];subst h;simp only[Exit.thenS];refine wpSIn_of_wpIn rfl (wpIn_wide.2 ?_);have i:=Lib.hid hg;have m:=Lib.hid a;have c:=Lib.hid hR;clear a hg hR;generalize hR:(fun e j w'=>bodyPostS prog Tryz.f38 d f _ e j _ w')=RR;have HR:=Lib.hid hR;clear hR;have k:=Eg;have l:=hent;simp only[Array.replicate,List.replicate]
 go_wp2_with (first|((with_reducible refine i.out.mono ?_);rintro e w1 ⟨rfl,b⟩;obtain⟨⟨o,p⟩,q⟩:=c.out _ b))
 rw[<- HR.out];exact⟨rfl,_,rfl,.tuple #[],by simp[results,Tryz.results38,go_sem],⟨_,rfl⟩,rfl,_,b,rfl⟩
theorem RB(w:World):
  CallsDIn Fence.wide 0 prog 38 #[p',c'] .returning w fun e u' w'=>(∃v,e=.returned v)/\u'=.returning/\w'=w:=by
 refine callsDIn_of_wpSIn func38 rfl trivial fun b d a=>?_
 apply wpSIn_seq
 apply wpSIn_region
 generalize f:Exit.thenS _ _=QQ;simp[wpOpsSIn,go_sem,recoverD,a,Tryz.ntmps38,Fence.wide];subst f;simp only[Exit.thenS];refine wpSIn_of_wpIn rfl (wpIn_wide.2 ?_);generalize c:(fun e g w'=>bodyPostS prog Tryz.f38 b d _ e g _ w')=RR;have HR:=Lib.hid c;have h:=Lib.hid a;clear c a;simp only[Array.replicate,List.replicate]
 go_wp2
 rw[<- HR.out]
 cases b
 exact⟨rfl,_,by have:=h.out;subst this;rfl,.tuple #[],by simp[results,Tryz.results38,go_sem],⟨_,rfl⟩,rfl,rfl⟩
theorem Pb:eq prog 38 38:=⟨enters_of func38 (by kernel_rfl) rfl,fun p' c' w=>RB p' c' w,fun n eb b cap w R a c d=>Rq n eb b cap w R a (callsIn_wide.1 c) d⟩
theorem Rs(w:World)(R:World->Prop)(hent:∀w,(callFunc g cap).run prog w=.ok (.enter g cap) w)(hg:Calls prog g cap w fun e w'=>e=.returned (.tuple #[])/\R w')(hR:∀w',R w'->(∃v,w'.cell? ⟨eb,0,none⟩=some v)/\w'.frozen? ⟨eb,0,none⟩=false):
  CallsDIn Fence.wide 0 prog 91 #[.pointer (some ⟨eb,0,none⟩),.func (.func g) #[] cap] (.panicking [{ v:=.iface 38 (.int .i64 n),recovered:=false }]) w fun e u' w'=>(∃v,e=.returned v)/\u'=.panicking [{ v:=.iface 38 (.int .i64 n),recovered:=true }]/\∃w1,R w1/\w'=w1.setCell ⟨eb,0,none⟩ (.int .i64 n):=by
 refine callsDIn_of_wpSIn func91 rfl trivial fun d f a=>?_
 apply wpSIn_seq
 apply wpSIn_region
 generalize h:Exit.thenS _ _=QQ;simp[wpOpsSIn,go_sem,recoverD,a,Tryz.ntmps91,Fence.wide];subst h;simp only[Exit.thenS];refine wpSIn_of_wpIn rfl (wpIn_wide.2 ?_);have i:=Lib.hid hg;have m:=Lib.hid a;have c:=Lib.hid hR;clear a hg hR;generalize hR:(fun e j w'=>bodyPostS prog Tryz.f91 d f _ e j _ w')=RR;have HR:=Lib.hid hR;clear hR;have k:=Eg;have l:=hent;simp only[Array.replicate,List.replicate]
 go_wp2_with (first|((with_reducible refine i.out.mono ?_);rintro e w1 ⟨rfl,b⟩;obtain⟨⟨o,p⟩,q⟩:=c.out _ b))
 rw[<- HR.out];exact⟨rfl,_,rfl,.tuple #[],by simp[results,Tryz.results91,go_sem],⟨_,rfl⟩,rfl,_,b,rfl⟩
theorem RD(w:World):
  CallsDIn Fence.wide 0 prog 91 #[p',c'] .returning w fun e u' w'=>(∃v,e=.returned v)/\u'=.returning/\w'=w:=by
 refine callsDIn_of_wpSIn func91 rfl trivial fun b d a=>?_
 apply wpSIn_seq
 apply wpSIn_region
 generalize f:Exit.thenS _ _=QQ;simp[wpOpsSIn,go_sem,recoverD,a,Tryz.ntmps91,Fence.wide];subst f;simp only[Exit.thenS];refine wpSIn_of_wpIn rfl (wpIn_wide.2 ?_);generalize c:(fun e g w'=>bodyPostS prog Tryz.f91 b d _ e g _ w')=RR;have HR:=Lib.hid c;have h:=Lib.hid a;clear c a;simp only[Array.replicate,List.replicate]
 go_wp2
 rw[<- HR.out]
 cases b
 exact⟨rfl,_,by have:=h.out;subst this;rfl,.tuple #[],by simp[results,Tryz.results91,go_sem],⟨_,rfl⟩,rfl,rfl⟩
theorem Pd:eq prog 38 91:=⟨enters_of func91 (by kernel_rfl) rfl,fun p' c' w=>RD p' c' w,fun n eb b cap w R a c d=>Rs n eb b cap w R a (callsIn_wide.1 c) d⟩
theorem Rr(w:World)(R:World->Prop)(hent:∀w,(callFunc g cap).run prog w=.ok (.enter g cap) w)(hg:Calls prog g cap w fun e w'=>e=.returned (.tuple #[])/\R w')(hR:∀w',R w'->(∃v,w'.cell? ⟨eb,0,none⟩=some v)/\w'.frozen? ⟨eb,0,none⟩=false):
  CallsDIn Fence.wide 0 prog 201 #[.pointer (some ⟨eb,0,none⟩),.func (.func g) #[] cap] (.panicking [{ v:=.iface 38 (.int .i64 n),recovered:=false }]) w fun e u' w'=>(∃v,e=.returned v)/\u'=.panicking [{ v:=.iface 38 (.int .i64 n),recovered:=true }]/\∃w1,R w1/\w'=w1.setCell ⟨eb,0,none⟩ (.int .i64 n):=by
 refine callsDIn_of_wpSIn func201 rfl trivial fun d f a=>?_
 apply wpSIn_seq
 apply wpSIn_region
 generalize h:Exit.thenS _ _=QQ;simp[wpOpsSIn,go_sem,recoverD,a,Tryz.ntmps201,Fence.wide];subst h;simp only[Exit.thenS];refine wpSIn_of_wpIn rfl (wpIn_wide.2 ?_);have i:=Lib.hid hg;have m:=Lib.hid a;have c:=Lib.hid hR;clear a hg hR;generalize hR:(fun e j w'=>bodyPostS prog Tryz.f201 d f _ e j _ w')=RR;have HR:=Lib.hid hR;clear hR;have k:=Eg;have l:=hent;simp only[Array.replicate,List.replicate]
 go_wp2_with (first|((with_reducible refine i.out.mono ?_);rintro e w1 ⟨rfl,b⟩;obtain⟨⟨o,p⟩,q⟩:=c.out _ b))
 rw[<- HR.out];exact⟨rfl,_,rfl,.tuple #[],by simp[results,Tryz.results201,go_sem],⟨_,rfl⟩,rfl,_,b,rfl⟩
theorem RC(w:World):
  CallsDIn Fence.wide 0 prog 201 #[p',c'] .returning w fun e u' w'=>(∃v,e=.returned v)/\u'=.returning/\w'=w:=by
 refine callsDIn_of_wpSIn func201 rfl trivial fun b d a=>?_
 apply wpSIn_seq
 apply wpSIn_region
 generalize f:Exit.thenS _ _=QQ;simp[wpOpsSIn,go_sem,recoverD,a,Tryz.ntmps201,Fence.wide];subst f;simp only[Exit.thenS];refine wpSIn_of_wpIn rfl (wpIn_wide.2 ?_);generalize c:(fun e g w'=>bodyPostS prog Tryz.f201 b d _ e g _ w')=RR;have HR:=Lib.hid c;have h:=Lib.hid a;clear c a;simp only[Array.replicate,List.replicate]
 go_wp2
 rw[<- HR.out]
 cases b
 exact⟨rfl,_,by have:=h.out;subst this;rfl,.tuple #[],by simp[results,Tryz.results201,go_sem],⟨_,rfl⟩,rfl,rfl⟩
theorem Pc:eq prog 38 201:=⟨enters_of func201 (by kernel_rfl) rfl,fun p' c' w=>RC p' c' w,fun n eb b cap w R a c d=>Rr n eb b cap w R a (callsIn_wide.1 c) d⟩
end Tw
end Go.Proofs.YtkeknmgnoceogaaGreat
