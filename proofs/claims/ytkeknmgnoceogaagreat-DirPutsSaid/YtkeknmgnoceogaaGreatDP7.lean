/- part 7 of the proof of dir_puts. -/
import Derived.Test.YtkeknmgnoceogaaGreatDP6
set_option linter.unusedSimpArgs false
set_option linter.unusedVariables false
set_option linter.defProp false
set_option maxRecDepth 100000
set_option maxHeartbeats 4000000
namespace Go.Proofs.YtkeknmgnoceogaaGreat
open Tryz
namespace Fv
open Tw


@[reducible] def yl (n:zi) (pvl:PV):PV:=.agg [iv n.level,iv n.sib,uv n.low,uv n.left,iv n.way,pvl]
def dR(H:LP)(pvl:PV)(ps:LJ):Prop:=(pvl=.nilsl/\ps=[])\/∃id g,pvl=.sl id g 0 ps.length (2*ps.length) 2/\H[id]?=some (.row 92 2 g 0 (ps.map pv))
def ka:PV->LA
 | .sl id _ _ _ _ _=>some id
 | _=>none
structure uo(H:LP)(vs:LQ)(ps:LQ)(nodes:LB):Prop where
 lenV:vs.length=nodes.length
 lenP:ps.length=nodes.length
 val:∀(q:Nat) (n:zi) (p:PV),nodes[q]?=some n->ps[q]?=some p->vs[q]?=some (yl n p)/\dR H p n.pairs
 dist:∀(q r:Nat) (x y:PV) (a:Nat),ps[q]?=some x->ps[r]?=some y->ka x=some a->ka y=some a->q=r
def iq:za->Prop
 | .row e _ _ _ _=>e=92
 | _=>False
variable {H H':LP}{p:PV}{ps vs:LQ}(lv k:Nat)(ks:LJ)(m i c j:Nat)
theorem dR.keep{ps:LJ}(h:dR H p ps)(k:∀(id:Nat) (o:za),ka p=some id->iq o->H[id]?=some o->H'[id]?=some o):dR H' p ps:=by
 rcases h with h|⟨id,g,rfl,h2⟩
 .exact .inl h
 .exact .inr ⟨id,g,rfl,k id _ rfl rfl h2⟩
theorem uo.keep{nodes:LB}(h:uo H vs ps nodes)(k:∀(id:Nat) (o:za),iq o->H[id]?=some o->H'[id]?=some o):uo H' vs ps nodes :=
 ⟨h.lenV,h.lenP,fun q n p a b=>⟨(h.val q n p a b).1,(h.val q n p a b).2.keep fun id o _ c d=>k id o c d⟩,h.dist⟩
theorem uo.nil(H:LP):uo H [] [] []:=⟨rfl,rfl,fun q n p h=>by simp at h,fun q r x y a h=>by simp at h⟩
theorem uo.snoc{nodes:LB}(h:uo H vs ps nodes)(n:zi)(hn:n.pairs=[]):uo H (vs++[yl n .nilsl]) (ps++[.nilsl]) (nodes++[n]):=by
 refine⟨by simp[h.lenV],by simp[h.lenP],fun q m p b c=>?_,fun q r x y a j k d e=>?_⟩
 .rcases zAO9 q nodes.length with hq|hq
  .rw[ZM hq]at b;rw[ZM (by rw[h.lenP];exact hq)]at c;rw[ZM (by rw[h.lenV];exact hq)];exact h.val q m p b c
  .rw[ZH hq]at b;rw[ZH (by rw[h.lenP];exact hq)]at c;rw[ZH (by rw[h.lenV];exact hq)];rw[h.lenP]at c;rw[h.lenV];obtain rfl:=ZI.1 (Zj b);obtain rfl:=ZI.1 (Zj c);have l:q-nodes.length=0:=by have:=(Zh.1 b).1;simp at this;omega
   rw[l];exact⟨rfl,.inl ⟨rfl,hn⟩⟩
 .have f:∀(s:Nat) (z:PV),(ps++[PV.nilsl])[s]?=some z->ka z=some a->ps[s]?=some z:=fun s z g o=>by
   rcases zAO9 s ps.length with i|i
   .grind
   .rw[ZH i]at g;obtain rfl:=ZI.1 (Zj g);simp[ka]at o
  exact h.dist q r x y a (f q x j d) (f r y k e) d e
theorem uo.last{vf pf:LQ}{front:LB}{v p':PV}{nd nd':zi}(h:uo H (vf++[v]) (pf++[p]) (front++[nd]))(hlv:vf.length=front.length)(hlp:pf.length=front.length)(hp':dR H' p' nd'.pairs)(hd:∀a,ka p'=some a->ka p=some a\/H.length<=a)(k:∀(id:Nat) (o:za),iq o->H[id]?=some o->H'[id]?=some o\/ka p=some id):uo H' (vf++[yl nd' p']) (pf++[p']) (front++[nd']):=by
 have u:(pf++[p])[front.length]?=some p:=by rw[<- hlp];simp
 have d:∀(q:Nat) (x:PV),q<front.length->pf[q]?=some x->(pf++[p])[q]?=some x:=fun q x b c=>by grind
 have J:∀(q:Nat) (x:PV) (a:Nat),q<front.length->pf[q]?=some x->ka x=some a->a<H.length:=fun q x a b c e=>by
  obtain⟨n,K⟩:=wX (l:=front) b;have:=(h.val q n x (by grind) (d q x b c)).2;rcases this with⟨rfl,_⟩|⟨id,g,rfl,h2⟩
  .simp[ka]at e
  .simp[ka]at e;grind
 refine⟨by grind,by grind,fun q m x A c=>?_,fun q r x y a c B e C=>?_⟩
 .rcases zAO9 q front.length with b|b
  .rw[ZM b]at A;rw[ZM zo]at c;rw[ZM zo];have i:=h.val q m x (by grind) (d q x b c);rw[ZM zo]at i;refine⟨i.1,i.2.keep fun id o j D G=>?_⟩;rcases k id o D G with h1|h1
   .exact h1
   .exact absurd (h.dist q front.length x p id (d q x b c) u j h1) zo
  .rw[ZH b]at A;rw[ZH zo]at c;rw[ZH zo]
   grind
 .have w:∀(s:Nat) (z:PV),(pf++[p'])[s]?=some z->(s<front.length/\pf[s]?=some z)\/(s=front.length/\z=p'):=fun s z f=>by
   rcases zAO9 s front.length with t|t
   .grind
   .rw[ZH zo]at f;have L:s-pf.length=0:=by have:=(Zh.1 f).1;simp at this;omega
    grind
  have key:∀(s:Nat) (z:PV),s<front.length->pf[s]?=some z->ka z=some a->ka p'=some a->False:=fun s z t f j I=>by
   rcases hd a I with h1|h1
   .exact absurd (h.dist s front.length z p a (d s z t f) u j h1) zo
   grind
  rcases w q x c with⟨h1,h2⟩|⟨h1,h2⟩
  .rcases w r y B with⟨h3,h4⟩|⟨h3,h4⟩
   .exact h.dist q r x y a (d q x h1 h2) (d r y h3 h4) e C
   grind
  grind
theorem Dj(h:j<m)(hm:m<=ks.length):(ks.take m).getD j (0,0)=ks.getD j (0,0):=by grind
theorem Hb(h:k*j+k<=m):((ks.take m).drop (k*j)).take k=(ks.drop (k*j)).take k:=by
 rw[zBL9,zCD9,zBE9 zo]
theorem Ha(h:m<=k*j+k):((ks.take m).drop (k*j)).take k=(ks.drop (k*j)).take (m-k*j):=by
 rw[zBL9,zCD9,Nat.min_eq_right zo]
def xG(n:zi)(l:LJ):zi:={ n with pairs:=l }
def sX(lv i:Nat)(x:Pr)(L:LB):LB:=if i%19=0 then L++[⟨lv,0,x.1,x.2,0,[]⟩]else
 match L.getLast? with
 | some n=>L.dropLast++[xG n (n.pairs++[x])]
 | none=>L
theorem F8(hm:m<=ks.length)(hc:19*c<=m):(List.range c).map (mR lv (ks.take m))=(List.range c).map (mR lv ks):=by
 refine zBP9 fun j a=>?_;have a:j<c:=zAL9.1 a;unfold mR;rw[Dj ks m _ zo hm,Hb 19 ks m j zo]
theorem Ol(hm:m<=ks.length)(h1:19*c<m)(h2:m<=19*c+19):mR lv (ks.take m) c=⟨lv,0,(ks.getD (19*c) (0,0)).1,(ks.getD (19*c) (0,0)).2,0,((ks.drop (19*c)).take (m-19*c)).drop 1⟩:=by
 unfold mR;rw[Dj ks m _ h1 hm,Ha 19 ks m c h2]
theorem Cf(hm:m<=ks.length)(h1:19*c<m)(h2:m<=19*c+19):xx lv (ks.take m)=(List.range c).map (mR lv ks)++[⟨lv,0,(ks.getD (19*c) (0,0)).1,(ks.getD (19*c) (0,0)).2,0,((ks.drop (19*c)).take (m-19*c)).drop 1⟩]:=by
 unfold xx;have:(fU 19 (ks.take m)).length=c+1:=by rw[oD,ZC,zBE9 hm];omega
 rw[this,zAQ9,ZG,F8 lv ks m c hm zo];simp only[Z3,zAW9];rw[Ol lv ks m c hm h1 h2]
theorem Oq(hi:i<ks.length):xx lv (ks.take (i+1))=sX lv i (ks.getD i (0,0)) (xx lv (ks.take i)):=by
 unfold sX
 by_cases h:i%19=0
 .rw[if_pos h];obtain⟨c,rfl⟩:∃c,i=19*c:=⟨i/19,by omega⟩
  rw[Cf lv ks (19*c+1) c zo zo zo];have e:xx lv (ks.take (19*c))=(List.range c).map (mR lv ks):=by
   unfold xx;have:(fU 19 (ks.take (19*c))).length=c:=by rw[oD,ZC,zBE9 zo];omega
   rw[this,F8 lv ks (19*c) c zo zo]
  simp_all
 .rw[if_neg h];have a:19*(i/19)<i:=zo;rw[Cf lv ks i (i/19) zo a zo,Cf lv ks (i+1) (i/19) zo zo zo];simp only[zCL9,zBY9,xG]
  congr 3
  have e:i+1-19*(i/19)=(i-19*(i/19))+1:=zo;rw[e,ZE,zCA9 (by grind)]
  grind
def n6(i:Nat)(x:Pr)(L:LB):LB:=if 0<i/\i%18=0 then L++[⟨0,0,x.1,9223372036854775808,0,[]⟩]else L
def Aq(x:Pr)(L:LB):LB:=match L.getLast? with
 | some n=>L.dropLast++[xG n (n.pairs++[x])]
 | none=>L
theorem T8(hm:m<=ks.length)(hc:18*c<=m):(List.range c).map (gI (ks.take m))=(List.range c).map (gI ks):=by
 refine zBP9 fun j a=>?_;have a:j<c:=zAL9.1 a;unfold gI;rw[Dj ks m _ zo hm,Hb 18 ks m j zo]
theorem Al(hm:m<=ks.length)(h1:18*c<m\/(m=0/\c=0))(h2:m<=18*c+18):yZ (ks.take m)=(List.range c).map (gI ks)++[⟨0,0,if 0<c then(ks.getD (18*c) (0,0)).1 else 0,9223372036854775808,0,(ks.drop (18*c)).take (m-18*c)⟩]:=by
 rw[Am,ZC,zBE9 hm];have:max 1 ((m+17)/18)=c+1:=zo;rw[this,zAQ9,ZG,T8 ks m c hm zo];simp only[Z3,zAW9]
 congr 2
 unfold gI;rw[Ha 18 ks m c h2]
 grind
theorem T9(hi:i<ks.length):yZ (ks.take (i+1))=Aq (ks.getD i (0,0)) (n6 i (ks.getD i (0,0)) (yZ (ks.take i))):=by
 unfold n6
 by_cases h:0<i/\i%18=0
 .rw[if_pos h];obtain⟨c,rfl⟩:∃c,i=18*(c+1):=⟨i/18-1,by omega⟩
  rw[Al ks (18*(c+1)+1) (c+1) zo zo zo,Al ks (18*(c+1)) c zo zo zo];unfold Aq;simp only[zCL9,zBY9,xG];rw[zAQ9,ZG];simp only[Z3,zAW9,ZA]
  congr 2
  .congr 2
   unfold gI
   grind
  .rw[if_pos (zAN9 _)]
   congr 1
   rw[show 18*(c+1)+1-18*(c+1)=1 by omega];rw[Zs hi,zED9,List.take_zero,Zq,Zg hi];rfl
 .rw[if_neg h];have a:18*(i/18)<i\/(i=0/\i/18=0):=zo;rw[Al ks i (i/18) zo a zo,Al ks (i+1) (i/18) zo zo zo];unfold Aq;simp only[zCL9,zBY9,xG]
  congr 3
  have e:i+1-18*(i/18)=(i-18*(i/18))+1:=zo;rw[e,ZE]
  grind


def kv(H H':LP):Prop:=∀(id:Nat) (o:za),H[id]?=some o->H'[id]?=some o
variable {Hc:LP}{a:Nat}{α:Type}{l:List α}
theorem kv.refl(H:LP):kv H H:=fun _ _ h=>h
theorem kv.app(h:kv H Hc)(X:LP):kv H (Hc++X):=fun id o a=>by
 have:=h id o a
 grind
theorem kv.set(h:kv H Hc)(ha:H.length<=a)(o':za):kv H (Hc.set a o'):=fun id o b=>by
 have c:=(Zh.1 b).1;rw[Zx zo];exact h id o b
theorem wi{X:List α}{i:Nat}{x:α}(h:l[i]?=some x):(l++X)[i]?=some x:=by grind
theorem uo.other{vs ps:LQ}{nodes:LB}(h:uo H vs ps nodes){o o':za}(ha:H[a]?=some o)(ho:¬iq o)(X:LP):uo ((H++X).set a o') vs ps nodes :=
 h.keep fun id q b c=>by grind
theorem Fa(h:l ≠ []):∃f x,l=f++[x]:=⟨l.dropLast,l.getLast h,(zCZ9 h).symm⟩
theorem BT{n:Nat}(h:l.length=n+1):∃f x,l=f++[x]/\f.length=n:=by
 obtain⟨f,x,rfl⟩:=Fa (l:=l) (by grind)
 grind
theorem Om{lv:Nat}{ks:LJ}{n:zi}(h:n∈xx lv ks):n.pairs.length<=18:=by
 unfold xx at h;obtain⟨i,_,rfl⟩:=Zu.1 h;show (((ks.drop (19*i)).take 19).drop 1).length<=18
 grind
theorem Oi(H:LP)(i8 g8 M8 i13 g13:Nat)(vs8 ps8:LQ)(l:LB)(bs:LN)(lv:Nat)(hr8:H[i8]?=some (.row 143 6 g8 M8 vs8))(hM8:M8<=g8)(hlv:uo H vs8 ps8 l)(hr13:H[i13]?=some (.row 3 1 g13 0 (ui bs)))(hlen:bs.length=l.length)(hl:l.length<=1000)(hl0:∀n∈l,n.level=lv)(hlv12:lv<=12)(hb:∀b∈bs,b<2048) :
  FO ET 76 [.sl i8 g8 0 l.length (2*l.length) 6,.sl i13 g13 0 l.length (2*l.length) 1] H false (fun e H'=>kv H H'/\∃idL g M vs ps,e=.ret (.sl idL g 0 vs.length (2*vs.length) 6)/\M<=g/\H.length<=idL/\H'[idL]?=some (.row 143 6 g M vs)/\uo H' vs ps (xx (lv+1) ((l.map zi.low).zip bs))/\∀p∈ps,∀a,ka p=some a->H.length<=a):=by
 refine wS (eG T76 func76) ?_;have a5:((l.map zi.low).zip bs).length=l.length:=by simp[hlen]
 generalize a6:(l.map zi.low).zip bs=ks at *
 refine zG ?_;refine yD 143 6 (i:=5) rfl ?_;simp only[uF];refine vm (vy (fun m s=>∃(i:Nat) (Hc:LP) (idL g M:Nat) (vs ps:LQ),m=l.length-i/\i<=l.length/\kv H Hc/\M<=g/\Hc[idL]?=some (.row 143 6 g M vs)/\H.length<=idL/\uo Hc vs ps (xx (lv+1) (ks.take i))/\(∀p∈ps,∀a,ka p=some a->H.length<=a)/\s.tm 0=.sl i8 g8 0 l.length (2*l.length) 6/\s.tm 1=.sl i13 g13 0 l.length (2*l.length) 1/\s.tm 5=.sl idL g 0 vs.length (2*vs.length) 6/\s.tm 6=iv i/\s.df=[]/\s.H=Hc) (n:=l.length) ?_ ?_)
 .exact⟨0,_,H.length,0,0,[],[],rfl,Zn _,(kv.refl H).app _,Zi _,by simp,Zi _,(by rw[List.take_zero];exact uo.nil _),fun p f=>by simp at f,zt,zt,zt,zt,rfl,rfl⟩
 .rintro m ⟨tm,df,Hc⟩ ⟨i,Hc',idL,g,M,vs,ps,rfl,t,hst,hM,hL,hidL,hlvl,hids,h0,h1,h5,h6,rfl,rfl⟩;dsimp only at *
  refine vu (zj h0 h6) ?_ ?_;rotate_left
  .intro k;have k:¬i<l.length:=vL k;obtain rfl:i=l.length:=zo;refine wm h5 ?_;rw[<- a5,ZL]at hlvl;exact⟨hst,idL,g,M,vs,ps,rfl,hM,hidL,hL,hlvl,hids⟩
  intro k;have k:i<l.length:=vM k;obtain⟨x,hx⟩:=wX (l:=l) k;obtain⟨b,D⟩:∃b,bs[i]?=some b:=⟨_,Zg zo⟩
  obtain⟨Q,a7⟩:∃Q,ps8[i]?=some Q:=⟨_,Zg (by rw[hlv.lenP];exact k)⟩
  have J:=(hlv.val i x Q hx a7).1;have K:(ui bs)[i]?=some (iv b):=by rw[Zt,D];rfl
  have ca:=hb b (Zj D);have cb:=hl0 x (Zj hx);have a8:ks.getD i (0,0)=(x.low,b):=by
   have:ks[i]?=some (x.low,b):=by rw[<- a6,zBN9];exact⟨by grind,D⟩
   exact getD_some this
  have r:=Oq (lv+1) ks i zo;rw[a8]at r;have R:=hst i8 _ hr8;have N:=hst i13 _ hr13;have b0:(ui bs).length=l.length:=by rw[ZB,hlen]
  have r1:(i:Int).tmod 19=((i%19:Nat):Int):=rfl;have U:(xx (lv+1) (ks.take i)).length<=1000:=by rw[dY,ZC];omega
  have O:=hlvl.lenV;refine vD ?_
  by_cases hm:i%19=0
  .have S:((i%19:Nat):Int)=0:=zo;have a9:IntKind.i64.wrap ((x.level:Int)+1)=((lv+1:Nat):Int):=wx;have A:(vs.length+1)*65<=140737488355328:=zo;have u:∀X,(Hc++X)[idL]?=some (.row 143 6 g M vs):=fun X=>wi hL;unfold sX at r;rw[if_pos hm]at r;refine zB ?_;refine zB ?_;refine vC (vh h6 r1 S) ?_;refine uQ ?_;refine vR ?_;refine vW (wP h0 h1 h5 h6 R N hL u J K k (vh hM8 a9 A)) ?_;refine vj h0 ?_;refine bL ?_;refine vp h6 ?_;refine⟨_,?m,i+1,_,idL,g+1,M,vs++[yl ⟨lv+1,0,x.low,b,0,[]⟩ .nilsl],ps++[.nilsl],rfl,k,(hst.app _).set hidL _,by omega,Zw (by grind),hidL,?L,?I,zu h0,zu h1,zt,zu h6,rfl,rfl⟩
   case m=>omega
   case L=>rw[r];exact(hlvl.snoc _ rfl).other hL (fun h=>absurd (show (143:Nat)=92 from h) zy) _
   case I =>
    intro p f a q;rcases ZW.1 f with f|f
    .grind
    .obtain rfl:=ZI.1 f;cases q
  .have S:¬((i%19:Nat):Int)=0:=zo;have w:(xx (lv+1) (ks.take i)).length≠0:=by rw[dY,ZC];omega
   obtain⟨front,d,V⟩:=Fa (l:=xx (lv+1) (ks.take i)) (fun e=>w (by grind));rw[V]at hlvl r U;have O:=hlvl.lenV;have Z:=hlvl.lenP;rw[Zl]at O Z;obtain⟨j,v,rfl,P⟩:=BT O;obtain⟨pf,p,rfl,ab⟩:=BT Z;have ad:=hlvl.val front.length d p (by simp) (by simp_all);have hv:v=yl d p:=by
    have h:=ad.1;rw[<- P,ZH (Zi _),zEA9]at h;injection h
   subst hv;have bb:=ad.2;have a1:=hids p (zCW9 _ (ZI.2 rfl));unfold sX at r;rw[if_neg hm]at r;simp only[zCL9,zBY9]at r;have b5:j.length<=1000:=by rw[Zl]at U;omega
   have a2:IntKind.i64.wrap (((j.length+1:Nat):Int)-1)=(j.length:Int):=wx;have bm:(j++[yl d p]).length=j.length+1:=by simp
   have B:j.length<j.length+1:=Z5 _;have C:(j++[yl d p])[j.length]?=some (yl d p):=by simp
   have ah:∀y,(j++[yl d p]).set j.length y=j++[y]:=fun y=>by simp
   have u:∀X,(Hc++X)[idL]?=some (.row 143 6 g M (j++[yl d p])):=fun X=>wi hL;rw[bm]at h5;refine zB ?_;refine zB ?_;refine vC (vh h6 r1 S) ?_;refine uq ?_;refine vY ?_;refine zB ?_;refine zB ?_;refine vC (zj h5 a2) ?_;refine vR ?_;rcases bb with⟨rfl,av⟩|⟨c,z,rfl,a0⟩
   .have A:1*17<=140737488355328:=zo;have a3:∀X Y,(Hc++X++Y)[idL]?=some (.row 143 6 g M (j++[yl d .nilsl])):=fun X Y=>wi (wi hL);refine vW (wP h0 h1 h5 h6 R N hL u hM J K (vz k hM8 C B)) ?_;refine vW (xI h0 h1 h5 h6 hL u a3 hM C B ah) ?_;refine vj h0 ?_;refine vp h6 ?_;have bo:idL<Hc.length:=(Zh.1 hL).1;refine⟨_,?m,i+1,_,idL,g,g,j++[yl (xG d (d.pairs++[(x.low,b)])) (.sl (Hc.length+1) 0 0 1 2 2)],pf++[.sl (Hc.length+1) 0 0 1 2 2],rfl,k,((hst.app _).app _).set hidL _,Zi _,?G,hidL,?L,?I,zu h0,zu h1,zu h5,zu h6,rfl,rfl⟩
    case m=>omega
    case G =>
     rw[Zw (by simp only[Zl,Zp,Zz];omega)];simp[xG]
    case L =>
     rw[r];refine hlvl.last P ab ?_ (fun a q=>?_) (fun id o T t=>?_)
     .refine .inr ⟨Hc.length+1,0,by simp[xG,av],?_⟩;rw[Zx zo];simp[xG,av]
     .right
      have:Hc.length+1=a:=by simpa[ka]using q
      grind
     .left
      have w:idL≠id:=fun e=>by subst e;rw[hL]at t;cases t;exact absurd (show (143:Nat)=92 from T) zy
      rw[Zx w];exact wi (wi t)
    case I =>
     intro p f a q;rcases ZW.1 f with f|f
     .exact hids p (zBX9 _ f) a q
     .obtain rfl:=ZI.1 f;have:Hc.length+1=a:=by simpa[ka]using q
      omega
   .have b6:d.pairs.length<=18:=Om (n:=d) (by rw[V];simp);have A:(d.pairs.length+1)*17<=140737488355328:=zo;have bp:∀X,(Hc++X)[c]?=some (.row 92 2 z 0 (d.pairs.map pv)):=fun X=>wi a0;have b7:c<Hc.length:=(Zh.1 a0).1;have a4:H.length<=c:=a1 c rfl;have d1:idL≠c:=fun e=>by grind
    have d2:i8≠c:=by have:=(Zh.1 hr8).1;omega
    have d3:i13≠c:=by have:=(Zh.1 hr13).1;omega
    have d4:Hc.length≠c:=zo;have b1:(idL==c)=false:=by simpa using d1
    have b2:(i8==c)=false:=by simpa using d2
    have b3:(i13==c)=false:=by simpa using d3
    have b4:(Hc.length==c)=false:=by simpa using d4
    have cc:(c==idL)=false:=by simpa using d1.symm
    have ch:(c==i8)=false:=by simpa using d2.symm
    have ck:(c==i13)=false:=by simpa using d3.symm
    have bw:(c==Hc.length)=false:=by simpa using d4.symm
    have bx:∀X y,((Hc++X).set c y)[idL]?=some (.row 143 6 g M (j++[yl d (.sl c z 0 d.pairs.length (2*d.pairs.length) 2)])):=fun X y=>by rw[Zx (fun e=>d1 e.symm)];exact wi hL
    refine vW (wP h0 h1 h5 h6 R N hL u hM J K (wQ k hM8 C B bp A)) ?_;refine uY (pZ bx C B ah b1 b2 b3 b4 bw) ?_;refine vj h0 ?_;refine vp h6 ?_;have bo:idL<Hc.length:=(Zh.1 hL).1;refine⟨_,?m,i+1,_,idL,g,g,j++[yl (xG d (d.pairs++[(x.low,b)])) (.sl c (z+1) 0 (d.pairs.length+1) (2*(d.pairs.length+1)) 2)],pf++[.sl c (z+1) 0 (d.pairs.length+1) (2*(d.pairs.length+1)) 2],rfl,k,((hst.app _).set a4 _).set hidL _,Zi _,?G,hidL,?L,?I,zu h0,zu h1,zu h5,zu h6,rfl,rfl⟩
    case m=>omega
    case G =>
     rw[Zw (by simp only[Z2,Zl,Zp,Zz];omega)];simp[xG]
    case L =>
     rw[r];refine hlvl.last P ab ?_ (fun a q=>?_) (fun id o T t=>?_)
     .refine .inr ⟨c,z+1,by simp[xG],?_⟩;rw[Zx d1,Zw (by simp only[Zl,Zp,Zz];omega)];simp[xG]
     .left
      exact q
     .by_cases he:c=id
      .right;rw[<- he];rfl
      .left
       have w:idL≠id:=fun e=>by subst e;rw[hL]at t;cases t;exact absurd (show (143:Nat)=92 from T) zy
       rw[Zx w,Zx he];exact wi t
    case I =>
     intro p f a q;rcases ZW.1 f with f|f
     .exact hids p (zBX9 _ f) a q
     .obtain rfl:=ZI.1 f;have:c=a:=by simpa[ka]using q
      omega


def xJ(a:Nat)(H H':LP):Prop:=∀(id:Nat) (o:za),id≠a->H[id]?=some o->H'[id]?=some o
variable {Q:FX->vn->Prop}{o o':za}(p left:Nat)(bs:LN)(q n:Nat)(w:LN)(l:LJ)
theorem xJ.refl(a:Nat)(H:LP):xJ a H H:=fun _ _ _ h=>h
theorem xJ.app(h:xJ a H Hc)(X:LP):xJ a H (Hc++X):=fun id o b c=>wi (h id o b c)
theorem xJ.set(h:xJ a H Hc)(o':za):xJ a H (Hc.set a o'):=fun id o b c=>by
 rw[Zx (fun e=>b e.symm)];exact h id o b c
theorem xJ.trans{H'':LP}(h:xJ a H H')(k:xJ a H' H''):xJ a H H'':=fun id o b c=>k id o b (h id o b c)
theorem l6{X:LP}(h:H[a]?=some o):((H++X).set a o')[a]?=some o':=by grind
theorem Ps(free:LN)(used n:Nat)(hfl:free.length<1000000)(hul:used+n<=free.length)(tm:Nat->PV)(H:LP)(idL g:Nat)(z8:Nat)(idA:Nat)(hA:H[idA]?=some (.row 3 1 0 0 []))(h1:tm 1=.list q 1 (ui free))(h8:tm 8=.sl idL g 0 n z8 6)(h12:tm 12=iv used)(h13:tm 13=.sl idA 0 0 0 0 1)(h14:tm 14=iv 0)(hQ:∀(tm':Nat->PV) (H':LP),xJ idA H H'->H'[idA]?=some (.row 3 1 n 0 (ui ((free.drop used).take n)))->(∀k,k≠13->k≠14->(k<74\/88<k)->tm' k=tm k)->tm' 13=.sl idA n 0 n (2*n) 1->Q .norm ⟨tm',[],H'⟩):
  W ET ET.caught none c36_4 ⟨tm,[],H⟩ Q:=by
 unfold c36_4 xC;have f:∀i,i<n->((free.drop used).take n)[i]?=some (free.getD (used+i) 0):=fun i p=>by
  grind
 have y:((free.drop used).take n).length=n:=by rw[ZC,ZX];omega
 generalize z:(free.drop used).take n=bs at *
 refine vm (vy (fun m s=>∃(i:Nat) (Hc:LP),m=n-i/\i<=n/\xJ idA H Hc/\Hc[idA]?=some (.row 3 1 i 0 (ui (bs.take i)))/\(∀k,k≠13->k≠14->(k<74\/88<k)->s.tm k=tm k)/\s.tm 13=.sl idA i 0 i (2*i) 1/\s.tm 14=iv i/\s.df=[]/\s.H=Hc) (n:=n) ?_ ?_)
 .exact⟨0,H,rfl,Zn _,.refl _ _,hA,fun k _ _ _=>rfl,h13,h14,rfl,rfl⟩
 .rintro m ⟨tn,df,Hc⟩ ⟨i,Hc',rfl,p,hst,hr,hf,h13',h14',rfl,rfl⟩;dsimp only at hf h13' h14';have h:=(hf 1 zy zy zy).trans h1;have j:=(hf 8 zy zy zy).trans h8;have d:=(hf 12 zy zy zy).trans h12;refine vu (zj j h14') ?_ ?_
  .intro a;have a:i<n:=vM a;have c:used+i<free.length:=zo;have l:(ui free)[used+i]?=some (iv (free.getD (used+i) 0:Nat)):=by rw[Zt,Zg c,Zq,Zg c];rfl
   have r:((used:Int)+(i:Int))=((used+i:Nat):Int):=zo;have o:(i+1)*9<=140737488355328:=zo;have e:(ui (bs.take i)).length=i:=by rw[ZB,ZC];omega
   have t:∀X,(Hc++X)[idA]?=some (.row 3 1 i 0 (ui (bs.take i))):=fun X=>wi hr;have x:ui (bs.take (i+1))=ui (bs.take i)++[iv (free.getD (used+i) 0:Nat)]:=by
    rw[ZE,f i a];simp
   generalize free.getD (used+i) 0=b at *
   refine vD ?_;refine zB ?_;refine vp (kO h d h13' h14' r c l o e t) ?_;refine vp h14' ?_;refine⟨_,?m,i+1,_,rfl,a,(hst.app _).set _,?G,fun k u v w=>?_,zt,zu h14',rfl,rfl⟩
   case m=>omega
   case G=>grind
   .simp(disch:=omega)only[yO];grind
  .intro a;have a:¬i<n:=vL a;obtain rfl:i=n:=zo;refine hQ _ Hc hst (by grind) (fun k u v w=>?_) (by simp[zb,h13']);simp(disch:=omega)only[yO]
   grind
theorem Pu(ws:LN)(i b:Nat)(hb:bs[i]?=some b)(hbm:b<2048)(hws:ws.length=64)(hbs:bs.length<1000000)(tm:Nat->PV)(H:LP)(idO:Nat)(V0:LQ)(hV0:V0.length<1000000)(idA gA:Nat)(hne:idA≠idO)(hO:H[idO]?=some (.row 120 2 V0.length 0 V0))(hA:H[idA]?=some (.row 3 1 gA 0 (ui bs)))(h11:tm 11=.sl idO V0.length 0 V0.length (2*V0.length) 2)(h13:tm 13=.sl idA gA 0 bs.length (2*bs.length) 1)(h15:tm 15=iv i)(h16:tm 16=wv 0 ws)(h17:tm 17=iv 0)(hQ:∀(tm':Nat->PV) (H':LP) (V:LQ),V=V0++(pb b ws).map vd->xJ idO H H'->H'[idO]?=some (.row 120 2 V.length 0 V)->(∀k,k≠11->k≠17->(k<114\/132<k)->tm' k=tm k)->tm' 11=.sl idO V.length 0 V.length (2*V.length) 2->Q .norm ⟨tm',[],H'⟩):
  W ET ET.caught none c36_8 ⟨tm,[],H⟩ Q:=by
 unfold c36_8 xC;refine vm (vy (fun m s=>∃(j:Nat) (V:LQ) (Hc:LP),m=64-j/\j<=64/\V=V0++((List.range j).map fun k=>(64*b+k,ws.getD k 0)).map vd/\xJ idO H Hc/\Hc[idO]?=some (.row 120 2 V.length 0 V)/\(∀k,k≠11->k≠17->(k<114\/132<k)->s.tm k=tm k)/\s.tm 11=.sl idO V.length 0 V.length (2*V.length) 2/\s.tm 17=iv j/\s.df=[]/\s.H=Hc) (n:=64) ?_ ?_)
 .exact⟨0,V0,H,rfl,Zn _,by simp,.refl _ _,hO,fun k _ _ _=>rfl,h11,h17,rfl,rfl⟩
 .rintro m ⟨tn,df,Hc⟩ ⟨j,V,Hc',rfl,hj,hV,hst,hr,hf,h11',h17',rfl,rfl⟩;dsimp only at hf h11' h17';have e:=(hf 13 zy zy zy).trans h13;have d:=(hf 15 zy zy zy).trans h15;have f:=(hf 16 zy zy zy).trans h16;have y:V.length=V0.length+j:=by rw[hV];simp
  refine vu h17' ?_ ?_
  .intro a;have a:j<64:=vM a;have g:=hst idA _ hne hA;have h:(ui bs)[i]?=some (iv b):=by rw[Zt,hb];rfl
   have l:i<bs.length:=(Zh.1 hb).1;have c:j<ws.length:=zo;have o:(ws.map uv)[j]?=some (uv (ws.getD j 0)):=by rw[Zt,Zg c,Zq,Zg c];rfl
   have p:(V.length+1)*17<=140737488355328:=zo;have q:V++[vd (64*b+j,ws.getD j 0)]=V0++((List.range (j+1)).map fun k=>(64*b+k,ws.getD k 0)).map vd:=by rw[zAQ9,hV];simp
   have r:IntKind.i64.wrap (64*(b:Int))=((64*b:Nat):Int):=wx;have t:IntKind.i64.wrap (((64*b:Nat):Int)+(j:Int))=((64*b+j:Nat):Int):=wx;have u:∀X,(Hc++X)[idO]?=some (.row 120 2 V.length 0 V):=fun X=>wi hr;refine vD ?_;refine vR ?_;refine vW (wP h11' e d f h17' g h l c o r (vh t p u)) ?_;refine vj d ?_;refine vp h17' ?_;refine⟨_,?m,j+1,V++[vd (64*b+j,ws.getD j 0)],_,rfl,a,q,(hst.app _).set _,?G,fun k v w x=>?_,zt,zu h17',rfl,rfl⟩
   case m=>omega
   case G=>rw[l6 hr,Zl];rfl
   .simp(disch:=omega)only[yO];grind
  .intro a;have a:¬j<64:=vL a;obtain rfl:j=64:=zo;refine hQ _ Hc V (by rw[hV,pb,hws]) hst hr (fun k v w x=>?_) (by simp[zb,h11']);simp(disch:=omega)only[yO]
   grind


theorem Je{l:LJ}{n:zi}(h:n∈yZ l):n.pairs.length<=18:=by
 rw[Am]at h;obtain⟨i,_,rfl⟩:=Zu.1 h;show ((l.drop (18*i)).take 18).length<=18
 grind
theorem Pq(hl:l.length<=500)(tm:Nat->PV)(H:LP)(idL g0 M0:Nat)(vs0 ps0:LQ)(hM0:M0<=g0)(hL0:H[idL]?=some (.row 143 6 g0 M0 vs0))(hlv0:uo H vs0 ps0 (yZ []))(h0:tm 0=vJ p l)(h8:tm 8=.sl idL g0 0 vs0.length (2*vs0.length) 6)(h9:tm 9=iv 0)(hQ:∀(tm':Nat->PV) (H':LP) (g M:Nat) (vs ps:LQ),M<=g->H'[idL]?=some (.row 143 6 g M vs)->uo H' vs ps (yZ l)->(∀k,k≠8->k≠9->k≠10->(k<34\/73<k)->tm' k=tm k)->tm' 8=.sl idL g 0 vs.length (2*vs.length) 6->Q .norm ⟨tm',[],H'⟩):
  W ET ET.caught none c36_0 ⟨tm,[],H⟩ Q:=by
 unfold c36_0 xC;refine vm (vy (fun m s=>∃(i:Nat) (Hc:LP) (g M:Nat) (vs ps:LQ),m=l.length-i/\i<=l.length/\M<=g/\Hc[idL]?=some (.row 143 6 g M vs)/\uo Hc vs ps (yZ (l.take i))/\(∀k,k≠8->k≠9->k≠10->(k<34\/73<k)->s.tm k=tm k)/\s.tm 8=.sl idL g 0 vs.length (2*vs.length) 6/\s.tm 9=iv i/\s.df=[]/\s.H=Hc) (n:=l.length) ?_ ?_)
 .exact⟨0,H,g0,M0,vs0,ps0,rfl,Zn _,hM0,hL0,by rw[List.take_zero];exact hlv0,fun k _ _ _ _=>rfl,h8,h9,rfl,rfl⟩
 .rintro m ⟨tn,df,Hc⟩ ⟨i,Hc',g,M,vs,ps,rfl,C,u,d,q,hf,j,c,rfl,rfl⟩;dsimp only at hf j c;have ab:=(hf 0 zy zy zy zy).trans h0;refine vu (zj ab c) ?_ ?_;rotate_left
  .intro t;have t:¬i<l.length:=vL t;obtain rfl:i=l.length:=zo;rw[ZL]at q;refine hQ _ Hc g M vs ps u d q (fun k w z A B=>?_) (by simp[zb,j]);simp(disch:=omega)only[yO]
   grind
  intro t;have t:i<l.length:=vM t;obtain⟨x,hx⟩:=wX (l:=l) t;have ad:(l.map pv)[i]?=some (pv x):=vU hx;have K:=T9 l i t;rw[getD_some hx]at K;have r1:(i:Int).tmod 18=((i%18:Nat):Int):=rfl;have b7:(yZ (l.take i)).length<=28:=by rw[iB,ZC];omega
  have S:=q.lenV;have a1:∀n∈n6 i x (yZ (l.take i)),n.pairs.length<=18:=by
   intro n I;unfold n6 at I
   split at I
   .rcases ZW.1 I with I|I
    .exact Je I
    grind
   .exact Je I
  have a2:n6 i x (yZ (l.take i)) ≠ []:=by
   unfold n6
   split
   .simp
   .intro e;have:=congrArg List.length e;rw[iB]at this;grind
  have a3:(n6 i x (yZ (l.take i))).length<=29:=by
   unfold n6
   split
   .grind
   .omega
  generalize D:n6 i x (yZ (l.take i))=nodes at K a1 a2 a3;refine vD ?_;refine vq (ur (Q:=fun y N=>y=.norm/\∃(g M:Nat) (vs ps:LQ),M<=g/\N.H[idL]?=some (.row 143 6 g M vs)/\uo N.H vs ps nodes/\(∀k,k≠8->k≠9->k≠10->(k<34\/73<k)->N.tm k=tn k)/\N.tm 8=.sl idL g 0 vs.length (2*vs.length) 6/\N.tm 9=iv i/\N.df=[]) ?_ ?_)
  .by_cases hm:0<i/\i%18=0
   .have g1:((i%18:Nat):Int)=0:=zo;have g0:(0:Int)<(i:Int):=zo;have Z:(vs.length+1)*65<=140737488355328:=zo;have O:∀X,(Hc++X)[idL]?=some (.row 143 6 g M vs):=fun X=>wi d;unfold n6 at D;rw[if_pos hm]at D;refine zB ?_;refine zB ?_;refine vC (vz c r1 g1 g0) ?_;refine uQ ?_;refine wa ?_;refine wA (ww ab j c ad t Z O) ?_;refine⟨rfl,g+1,M,vs++[yl ⟨0,0,x.1,9223372036854775808,0,[]⟩ .nilsl],ps++[.nilsl],by omega,l6 d,?_,fun k w z A B=>?_,zt,zu c,rfl⟩
    .rw[<- D];exact(q.snoc _ rfl).other d (fun h=>absurd (show (143:Nat)=92 from h) zy) _
    .simp(disch:=omega)only[yO]
   .unfold n6 at D;rw[if_neg hm]at D
    by_cases g0:0<i
    .have bm:(0:Int)<(i:Int):=zo;have g1:¬((i%18:Nat):Int)=0:=zo;refine zB ?_;refine zB ?_;refine vC (vz c r1 g1 bm) ?_;refine uq ?_;refine wK ⟨rfl,g,M,vs,ps,u,d,by rw[<- D];exact q,fun k w z A B=>?_,zu j,zu c,rfl⟩;simp(disch:=omega)only[yO]
    .obtain rfl:i=0:=zo;refine zB ?_;refine zB ?_;refine vC c ?_;refine uq ?_;refine wK ⟨rfl,g,M,vs,ps,u,d,by rw[<- D];exact q,fun k w z A B=>?_,zu j,zu c,rfl⟩;simp(disch:=omega)only[yO]
  clear u d q S j c;rintro y ⟨tq,df,Hc⟩ ⟨rfl,g,M,vs,ps,u,d,q,T,j,c,rfl⟩;dsimp only at u d q T j c;have P:=(T 0 zy zy zy zy).trans ab;obtain⟨front,b,bo⟩:=Fa (l:=nodes) a2;subst bo;have S:=q.lenV;have a4:=q.lenP;rw[Zl]at S a4;obtain⟨f,v,rfl,ah⟩:=BT S;obtain⟨pf,J,rfl,av⟩:=BT a4;have a5:=q.val front.length b J (by simp) (by rw[<- av];simp);have hv:v=yl b J:=by
   have h:=a5.1;rw[<- ah,ZH (Zi _),zEA9]at h;injection h
  subst hv;have bp:=a5.2;have b3:b.pairs.length<=18:=a1 b (zCW9 _ (ZI.2 rfl));unfold Aq at K;simp only[zCL9,zBY9]at K;have b5:f.length<=1000:=by rw[Zl]at a3;omega
  have a9:IntKind.i64.wrap (((f.length+1:Nat):Int)-1)=(f.length:Int):=wx;have bs:(f++[yl b J]).length=f.length+1:=by simp
  have U:f.length<f.length+1:=Z5 _;have V:(f++[yl b J])[f.length]?=some (yl b J):=by simp
  have a6:∀y,(f++[yl b J]).set f.length y=f++[y]:=fun y=>by simp
  have O:∀X,(Hc++X)[idL]?=some (.row 143 6 g M (f++[yl b J])):=fun X=>wi d;rw[bs]at j;refine zB ?_;refine zB ?_;refine vC (zj j a9) ?_;refine vR ?_;rcases bp with⟨rfl,a7⟩|⟨r,R,rfl,a8⟩
  .have bb:∀X Y,(Hc++X++Y)[idL]?=some (.row 143 6 g M (f++[yl b .nilsl])):=fun X Y=>wi (wi d);refine vW (kO P j c d O u ad t V U) ?_;refine vW (kO P j c d O bb u V U a6) ?_;refine vj P ?_;refine vp c ?_;have bw:idL<Hc.length:=(Zh.1 d).1;refine⟨_,?m,i+1,_,g,g,f++[yl (xG b (b.pairs++[x])) (.sl (Hc.length+1) 0 0 1 2 2)],pf++[.sl (Hc.length+1) 0 0 1 2 2],rfl,t,Zi _,?G,?L,fun k w z A B=>?_,zu j,zu c,rfl,rfl⟩
   case m=>omega
   case G =>
    rw[Zw (by simp only[Zl,Zp,Zz];omega)];simp[xG]
   case L =>
    rw[K];refine q.last ah av ?_ (fun a ha=>?_) (fun id o ho C=>?_)
    .refine .inr ⟨Hc.length+1,0,by simp[xG,a7],?_⟩;rw[Zx zo];simp[xG,a7]
    .right
     have:Hc.length+1=a:=by simpa[ka]using ha
     omega
    .left
     have a0:idL≠id:=fun e=>by subst e;rw[d]at C;cases C;exact absurd (show (143:Nat)=92 from ho) zy
     rw[Zx a0];exact wi (wi C)
   .simp(disch:=omega)only[yO];exact(T k w z A B).trans (hf k w z A B)
  .have Z:(b.pairs.length+1)*17<=140737488355328:=zo;have bx:∀X,(Hc++X)[r]?=some (.row 92 2 R 0 (b.pairs.map pv)):=fun X=>wi a8;have b6:r<Hc.length:=(Zh.1 a8).1;have d1:idL≠r:=fun e=>by grind
   have d4:Hc.length≠r:=zo;have b1:(idL==r)=false:=by simpa using d1
   have b4:(Hc.length==r)=false:=by simpa using d4
   have ca:(r==idL)=false:=by simpa using d1.symm
   have b0:(r==Hc.length)=false:=by simpa using d4.symm
   have b2:∀X y,((Hc++X).set r y)[idL]?=some (.row 143 6 g M (f++[yl b (.sl r R 0 b.pairs.length (2*b.pairs.length) 2)])):=fun X y=>by rw[Zx (fun e=>d1 e.symm)];exact wi d
   refine vW (wP P j c d O u ad t V U bx Z) ?_;refine uY (ww b2 V U a6 b1 b4 b0) ?_;refine vj P ?_;refine vp c ?_;have bw:idL<Hc.length:=(Zh.1 d).1;refine⟨_,?m,i+1,_,g,g,f++[yl (xG b (b.pairs++[x])) (.sl r (R+1) 0 (b.pairs.length+1) (2*(b.pairs.length+1)) 2)],pf++[.sl r (R+1) 0 (b.pairs.length+1) (2*(b.pairs.length+1)) 2],rfl,t,Zi _,?G,?L,fun k w z A B=>?_,zu j,zu c,rfl,rfl⟩
   case m=>omega
   case G =>
    rw[Zw (by simp only[Z2,Zl,Zp,Zz];omega)];simp[xG]
   case L =>
    rw[K];refine q.last ah av ?_ (fun a ha=>?_) (fun id o ho C=>?_)
    .refine .inr ⟨r,R+1,by simp[xG],?_⟩;rw[Zx d1,Zw (by simp only[Zl,Zp,Zz];omega)];simp[xG]
    .left
     exact ha
    .by_cases he:r=id
     .right;rw[<- he];rfl
     .left
      have a0:idL≠id:=fun e=>by subst e;rw[d]at C;cases C;exact absurd (show (143:Nat)=92 from ho) zy
      rw[Zx a0,Zx he];exact wi C
   .simp(disch:=omega)only[yO];exact(T k w z A B).trans (hf k w z A B)


theorem uo.setNode{nodes:LB}(h:uo H vs ps nodes){q:Nat}{n n':zi}{p:PV}(hn:nodes[q]?=some n)(hp:ps[q]?=some p)(he:n'.pairs=n.pairs):uo H (vs.set q (yl n' p)) ps (nodes.set q n'):=by
 have c:q<nodes.length:=(Zh.1 hn).1;refine⟨by simp[h.lenV],by simp[h.lenP],fun r m x a b=>?_,h.dist⟩
 by_cases d:r=q
 .subst d;rw[Zw c]at a;rw[Zw (by rw[h.lenV];exact c)]
  cases a
  rw[hp]at b;cases b
  exact⟨rfl,by rw[he];exact(h.val r n p hn hp).2⟩
 .rw[Zx (fun e=>d e.symm)]at a⊢;exact h.val r m x a b
theorem uo.but{nodes:LB}(h:uo H vs ps nodes)(ha:H[a]?=some o)(ho:¬iq o)(k:xJ a H H'):uo H' vs ps nodes :=
 h.keep fun id q c b=>k id q (fun e=>by grind) b
theorem uo.set0{nodes:LB}(h:uo H vs ps nodes)(ha:H[a]?=some o)(ho:¬iq o):uo (H.set a o') vs ps nodes :=
 h.but ha ho ((xJ.refl a H).set o')
theorem dR.frz{p:PV}{ps:LJ}(h:dR H p ps):ze H 1 p (vJ 1 ps):=by
 rcases h with⟨rfl,rfl⟩|⟨id,g,rfl,h2⟩
 .exact .nil _ _
 .exact ze.wh h2 rfl (by simp) (by simp) uG bS
def mG(bs:LN)(q:Nat)(n:zi):zi:={ n with sib:=bs.getD (q+1) 0 }
theorem Pt(nl:LB)(hbl:bs.length=nl.length)(hnl:nl.length<=100)(hbm:∀b∈bs,b<2048)(hg:∀n∈nl,uM n/\n.sib=0)(tm:Nat->PV)(H:LP)(idL idA idO g M0 gA:Nat)(vs0 ps V0:LQ)(hV0:V0.length<900000)(hM0:M0<=g)(hL0:H[idL]?=some (.row 143 6 g M0 vs0))(hlv0:uo H vs0 ps nl)(hA0:H[idA]?=some (.row 3 1 gA 0 (ui bs)))(hO0:H[idO]?=some (.row 120 2 V0.length 0 V0))(h8:tm 8=.sl idL g 0 nl.length (2*nl.length) 6)(h11:tm 11=.sl idO V0.length 0 V0.length (2*V0.length) 2)(h13:tm 13=.sl idA gA 0 bs.length (2*bs.length) 1)(h15:tm 15=iv 0)(hQ:∀(tm':Nat->PV) (H':LP) (M:Nat) (vs V:LQ),M<=g->H'[idL]?=some (.row 143 6 g M vs)->uo H' vs ps (ud bs nl)->H'[idA]?=some (.row 3 1 gA 0 (ui bs))->H'[idO]?=some (.row 120 2 V.length 0 V)->V=V0++(ni bs (ud bs nl)).map vd->(∀k,k<11\/(11<k/\k<15)\/132<k->tm' k=tm k)->tm' 11=.sl idO V.length 0 V.length (2*V.length) 2->Q .norm ⟨tm',[],H'⟩):
  W ET ET.caught none c36_6 ⟨tm,[],H⟩ Q:=by
 unfold c36_6 xC;have cb:=eM bs nl hbl;have bx:∀i,(((bs.zip (ud bs nl)).take i).flatMap fun x=>pb x.1 (vI x.2)).length<=64*i:=fun i=>by
  rw[EA,ZC];omega
 refine vm (vy (fun m s=>∃(i:Nat) (Hc:LP) (M:Nat) (vs V:LQ) (nodes:LB),m=nl.length-i/\i<=nl.length/\M<=g/\Hc[idL]?=some (.row 143 6 g M vs)/\uo Hc vs ps nodes/\nodes.length=nl.length/\(∀(q:Nat) (n:zi),nl[q]?=some n->nodes[q]?=some (if q<i then mG bs q n else n))/\Hc[idA]?=some (.row 3 1 gA 0 (ui bs))/\Hc[idO]?=some (.row 120 2 V.length 0 V)/\V=V0++(((bs.zip (ud bs nl)).take i).flatMap fun x=>pb x.1 (vI x.2)).map vd/\(∀k,k<11\/(11<k/\k<15)\/132<k->s.tm k=tm k)/\s.tm 11=.sl idO V.length 0 V.length (2*V.length) 2/\s.tm 15=iv i/\s.df=[]/\s.H=Hc) (n:=nl.length) ?_ ?_)
 .exact⟨0,H,M0,vs0,V0,nl,rfl,Zn _,hM0,hL0,hlv0,rfl,fun q n j=>by grind,hA0,hO0,by simp,fun k _=>rfl,h11,h15,rfl,rfl⟩
 .rintro m ⟨tn,df,Hc⟩ ⟨i,Hc',M,vs,V,nodes,rfl,hi,t,d,c,z,r,o,u,hV,hf,h11',a,rfl,rfl⟩;dsimp only at hf h11' a;have B:=(hf 8 zy).trans h8;have Z:=(hf 13 zy).trans h13;have ca:=bx i;have b7:V.length<=V0.length+64*i:=by rw[hV,Zl,ZB];omega
  refine vu (zj B a) ?_ ?_;rotate_left
  .intro f;have f:¬i<nl.length:=vL f;obtain rfl:i=nl.length:=zo;have a7:nodes=ud bs nl:=by
    apply zBD9
    intro q;rcases zAO9 q nl.length with v|v
    .have j:=Zg v;rw[r q _ j,if_pos v,iE bs nl q _ hbl j];rfl
    .grind
   rw[a7]at c;refine hQ _ Hc M vs V t d c o u ?_ (fun k J=>?_) (by simp[zb,h11'])
   .rw[hV,ZO (by simp;omega)];rfl
   .simp(disch:=omega)only[yO];exact hf k J
  intro f;have f:i<nl.length:=vM f;obtain⟨x,K⟩:=wX (l:=nl) f;obtain⟨b,T⟩:∃b,bs[i]?=some b:=⟨_,Zg zo⟩
  obtain⟨p,U⟩:∃p,ps[i]?=some p:=⟨_,Zg (by rw[c.lenP];omega)⟩
  have C:nodes[i]?=some x:=by have:=r i x K;rwa [if_neg (Nat.lt_irrefl _)]at this
  have D:=(c.val i x p C U).1;have ab:=hg x (Zj K);have ad:=iE bs nl i x hbl K;change (ud bs nl)[i]?=some (mG bs i x)at ad;have a8:=hbm b (Zj T);have a9:bs.getD (i+1) 0<2048:=by
   rcases zAO9 (i+1) bs.length with h|h
   .rw[Zq,Zg h];exact hbm _ (ZV _)
   .rw[Zq,zAB9 zo];decide
  have P:uM (mG bs i x):=ab.1.setSib a9;have ah:idO≠idL:=fun e=>by grind
  have b0:idA≠idL:=fun e=>by grind
  have av:idA≠idO:=fun e=>by grind
  have X:((i:Int)+1)=((i+1:Nat):Int):=zo;have bb:i<vs.length:=by rw[c.lenV];omega
  refine vD ?_;refine vq (ur (Q:=fun y w=>y=.norm/\∃(M:Nat) (vs:LQ) (nodes:LB),M<=g/\w.H[idL]?=some (.row 143 6 g M vs)/\uo w.H vs ps nodes/\nodes.length=nl.length/\(∀(q:Nat) (n:zi),nl[q]?=some n->nodes[q]?=some (if q<i+1 then mG bs q n else n))/\w.H[idA]?=some (.row 3 1 gA 0 (ui bs))/\w.H[idO]?=some (.row 120 2 V.length 0 V)/\(∀k,k<15\/132<k->w.tm k=tn k)/\w.tm 15=iv i/\w.df=[]) ?_ ?_)
  .by_cases cc:i+1<nl.length
   .have Y:((i+1:Nat):Int)<(nl.length:Nat):=zo;have R:i+1<bs.length:=zo;have b1:(ui bs)[i+1]?=some (iv (bs.getD (i+1) 0:Nat)):=by rw[Zt,Zg R,Zq,Zg R];rfl
    refine zB ?_;refine zB ?_;refine vC (vz B a X Y) ?_;refine uQ ?_;refine wa ?_;refine wA (xI B Z a X R b1 o d t D f) ?_;refine⟨rfl,g,vs.set i (yl (mG bs i x) p),nodes.set i (mG bs i x),Zi _,?G,?L,by simp[z],?N,?A,?O,fun k J=>?_,zu a,rfl⟩
    case G=>rw[Zw (Zh.1 d).1];rfl
    case L=>exact(c.setNode (n':=mG bs i x) C U rfl).set0 d (fun h=>absurd (show (143:Nat)=92 from h) zy)
    case N =>
     intro q n j
     by_cases v:q=i
     .subst v;rw[Zw zo,if_pos (Z5 _)]
      grind
     .rw[Zx (fun e=>v e.symm),r q n j]
      by_cases h1:q<i
      .grind
      .rw[if_neg h1,if_neg zo]
    case A=>rw[Zx (fun e=>b0 e.symm)];exact o
    case O=>rw[Zx (fun e=>ah e.symm)];exact u
    .simp(disch:=omega)only[yO]
   .have Y:¬((i+1:Nat):Int)<(nl.length:Nat):=zo;refine zB ?_;refine zB ?_;refine vC (vz B a X Y) ?_;refine uq ?_;refine wK ⟨rfl,M,vs,nodes,t,d,c,z,?_,o,u,fun k J=>?_,zu a,rfl⟩
    .intro q n j;rw[r q n j]
     by_cases h1:q<i
     .grind
     .by_cases v:q=i
      .subst v;rw[if_neg h1,if_pos (Z5 _)];rw[K]at j;cases j
       have h0:=ab.2;unfold mG;rw[Zq,zAB9 (show bs.length<=q+1 by omega)];obtain⟨a1,a2,a3,a4,a5,a6⟩:=x;dsimp only at h0;rw[h0];rfl
      .rw[if_neg h1,if_neg zo]
    .simp(disch:=omega)only[yO]
  clear t d c o u z r C D a bb;rintro y ⟨tq,df,Hc⟩ ⟨rfl,M,vs,nodes,t,d,c,z,r,o,u,I,a,rfl⟩;dsimp only at t d c o u I a;have C:nodes[i]?=some (mG bs i x):=by have:=r i x K;rwa [if_pos (Z5 _)]at this
  have D:=c.val i _ p C U;have b2:=(I 8 zy).trans B;have bm:=(I 11 zy).trans h11';have bo:=(I 13 zy).trans Z;have hw:=Fp 1 (mG bs i x) P.level P.sib P.way P.few;have b3:ze Hc 1 (yl (mG bs i x) p) (vl 1 (mG bs i x)):=ze.aggL ⟨.int _ _,.int _ _,.int _ _,.int _ _,.int _ _,D.2.frz,trivial⟩;have b4:=D.1;generalize ch:mG bs i x=x' at *
  refine yv ?_;refine vS (wQ b2 a d t b4 f) ?_;refine pt (caps:=?_) (vs:=?_) ?_ ?_ hw ?_ ?_;rotate_left 2;(first|rfl|(simp only[qb,qo,go_sem]<;>rfl));(simp only[go_sem]<;>rfl)
  .exact⟨b3,trivial⟩
  refine zN ?_;refine zB ?_;refine zI ?_;refine uH ?_;refine Pu bs (vI x') i b T a8 (kb _) zo _ Hc idO V zo idA gA av u o (by simp[zb,bm]) (by simp[zb,bo]) (by simp[zb,a]) (by simp[zb]) (by simp[zb]) (fun yW H2 V2 b5 S b6 a0 bp=>?_);have bw:yW 15=iv i:=(a0 15 zy zy zy).trans (by simp[zb,a]);refine vp bw ?_;refine⟨_,?m,i+1,H2,M,vs,V2,nodes,rfl,f,t,S idL _ ah.symm d,c.but u (fun h=>absurd (show (120:Nat)=92 from h) zy) S,z,r,S idA _ av o,b6,?_,fun k J=>?_,by simp[zb,bp],by simp[zb],rfl,rfl⟩
  case m=>omega
  .rw[b5,hV,Zf T ad];simp
  .simp(disch:=omega)only[yO];rw[a0 k zo zo zo];simp(disch:=omega)only[yO];exact(I k zo).trans (hf k J)


theorem Df:ze H 0 (.tuple [iv 0,.nilsl,iv 0,iv n]) (.tuple [iv 0,.list 0 2 (([]:LJ).map vd),iv 0,iv n]):=ze.tL ⟨.int _ _,.nil _ _,.int _ _,.int _ _,trivial⟩
theorem Wr(fr:LG)(hl:l.length<=500)(hfr:fr.length<=2000):FN ET 36 [vJ p l,.list q 1 (fr.map iv)] (nU l fr):=by
 refine zn (eG T36 func36) (Tu l fr) ?_;refine zG ?_;refine yv ?_;have G:=Xb p l zo;have P:=Pk q fr zo
 by_cases A:kC l=true
 rotate_left
 .have A:kC l=false:=by simpa using A
  have he:nU l fr=oy 2:=by unfold nU;rw[A];rfl
  rw[A]at G;refine wq ?_;refine wD G ?_;refine zU ?_;rw[he];exact Df 2
 rw[A]at G
 by_cases B:xR [] fr=true
 rotate_left
 .have B:xR [] fr=false:=by simpa using B
  have he:nU l fr=oy 2:=by unfold nU;rw[B,Bool.and_false];rfl
  rw[B]at P;refine wq ?_;refine vo G ?_;refine wq ?_;refine wD P ?_;refine zU ?_;rw[he];exact Df 2
 rw[B]at P;refine wq ?_;refine vo G ?_;refine wq ?_;refine wD P ?_;refine uq ?_;refine vY ?_;obtain⟨free,rfl,ab⟩:=Kj B;have eU:=(lG free).1 ab;have cl:(free.map fun(b:Nat)=>(b:Int)).map Int.toNat=free:=by rw[zBS9];exact List.map_id free
 have c6:nU l (free.map fun(b:Nat)=>(b:Int))=match aJ l free with
   | none=>oy 221
   | some T=>Gp T:=by unfold nU;rw[A,B,cl];rfl
 have c7:(free.map fun(b:Nat)=>(b:Int)).map iv=ui free:=by rw[zBS9];rfl
 have eV:free.length<=2000:=by simpa using hfr
 rw[c6,c7];have eB:(ui free).length=free.length:=by rw[ZB]
 refine yv ?_;refine wq ?_;refine vo (U6 l.length hl) ?_
 by_cases a9:free.length<dr l.length
 .have g:((free.length:Nat):Int)<(dr l.length:Nat):=zo;have C:=(GQ (free:=free) hl).2 a9;refine wN g ?_;refine zU ?_;rw[C];exact Df 221
 have g:¬((free.length:Nat):Int)<(dr l.length:Nat):=zo;refine wN g ?_;refine uq ?_;refine vY ?_;obtain⟨X,bb⟩:∃X,aJ l free=some X:=by
  cases h:aJ l free with
  | none=>exact absurd ((GQ (free:=free) hl).1 h) a9
  | some X=>grind
 rw[bb];refine zG ?_;refine Pq p l hl _ _ 0 0 0 [yl ⟨0,0,0,9223372036854775808,0,[]⟩ .nilsl] [.nilsl] (Zi _) rfl ((uo.nil _).snoc ⟨0,0,0,9223372036854775808,0,[]⟩ rfl) (by simp[zb,zq]) (by simp[zb]) (by simp[zb]) (fun ar L D M1 ad bm bo bp a0 bw bx=>?_);have k1:ar 1=.list q 1 (ui free):=(bw 1 zy zy zy zy).trans (by simp[zb,zq]);clear bw;refine zG ?_;refine yD 120 2 (i:=11) (by simp[zb]) ?_;simp only[uF];have b1:(L++[za.row 120 2 0 0 []])[L.length]?=some (.row 120 2 0 0 []):=by simp
 have a6:(L++[za.row 120 2 0 0 []])[0]?=some (.row 143 6 D M1 ad):=wi bp;have av:uo (L++[za.row 120 2 0 0 []]) ad bm (yZ l):=a0.keep fun id o _ h=>wi h;refine vm (vy (fun m s=>∃(k:Nat) (a:LB) (c:Nat) (T:List vO) (Hc:LP) (d g M f:Nat) (vs ps V:LQ),m=k/\1<=k/\3<=k+T.length/\cD l free a c T/\aI free k a c T=some X/\c=(T.reverse.flatMap Prod.fst).length/\V=(pj T.reverse).map vd/\V.length=64*c/\M<=g/\Hc[d]?=some (.row 143 6 g M vs)/\uo Hc vs ps a/\Hc[f]?=some (.row 120 2 V.length 0 V)/\s.tm 1=.list q 1 (ui free)/\s.tm 8=.sl d g 0 vs.length (2*vs.length) 6/\s.tm 11=.sl f V.length 0 V.length (2*V.length) 2/\s.tm 12=iv c/\s.df=[]/\s.H=Hc) (n:=4) ?_ ?_)
 .exact⟨4,yZ l,0,[],_,0,D,M1,L.length,ad,bm,[],rfl,by decide,by decide,Gn free A hl,bb,rfl,rfl,rfl,bo,a6,av,b1,by simp[zb,k1],zu bx,zt,zt,rfl,rfl⟩
 .clear bo bp a0 a6 av b1 k1 bx;rintro m ⟨tm,df,Hc⟩ ⟨k,a,c,T,e0,d,g,M,f,vs,ps,V,rfl,e1,e2,r,w,c8,hV,e3,hM,hL,a7,hO,h1,Y,I,ah,rfl,rfl⟩;dsimp only at *
  obtain⟨k,rfl⟩:∃k,m=k+1:=⟨m-1,by omega⟩
  have cx:0<a.length:=zAI9.2 r.ok.ne;have eK:a.length<=28:=by
   have:=r.bndL;have N:∀t,bndL t<=28:=fun t=>by match t with|0=>decide|1=>decide|t+2=>exact(show 1<=28 by decide)
   exact Z0 this (N _)
  rw[aI]at w;have e4:=r.used
  by_cases Q:free.length<c+a.length
  .rw[if_pos Q]at w;cases w
  rw[if_neg Q]at w;have dd:=a7.lenV;rw[dd]at Y;refine vD ?_;refine zG ?_;refine yD 3 1 (i:=13) (by simp[zb]) ?_;simp only[uF];have e5:d<Hc.length:=(Zh.1 hL).1;have e6:f<Hc.length:=(Zh.1 hO).1;refine Ps q free c a.length zo zo _ _ d g _ Hc.length (by simp) (by simp[zb,h1]) (by simp[zb,Y];rfl) (by simp[zb,ah]) (by simp[zb]) (by simp[zb]) (fun yW Z R dm J b2=>?_);obtain⟨u,v2,v3,v4,v5,v6,v7,v8⟩:=r.level ab Q;have S:=r.next ab Q;have ey:=r.lvl;have dp:Z[d]?=some (.row 143 6 g M vs):=R d _ zo (wi hL);have ds:Z[f]?=some (.row 120 2 V.length 0 V):=R f _ zo (wi hO);have c0:uo Z vs ps a:=a7.keep fun id o _ h=>R id o (by grind) (wi h);have x1:yW 1=.list q 1 (ui free):=(J 1 zy zy zy).trans (by simp[zb,h1]);have x8:yW 8=.sl d g 0 a.length (2*a.length) 6:=(J 8 zy zy zy).trans (by simp[zb,Y]);have b3:yW 11=.sl f V.length 0 V.length (2*V.length) 2:=(J 11 zy zy zy).trans (by simp[zb,I]);have b4:yW 12=iv c:=(J 12 zy zy zy).trans (by simp[zb,ah]);clear J R h1 Y I ah;generalize e7:(free.drop c).take a.length=bs at *
  refine zG ?_;refine Pt bs a u zo (fun b N=>(v4 b N).2) (fun n C=>⟨(r.ok.each n C).1,(r.ok.each n C).2.2⟩) _ Z d Hc.length f g M a.length vs ps V zo hM dp c0 dm ds (by simp[zb,x8]) (by simp[zb,b3]) (by simp[zb,b2,u]) (by simp[zb]) (fun nD H3 M3 dx V3 dT ea c1 b5 b6 b7 K I=>?_);have y1:nD 1=.list q 1 (ui free):=(K 1 zy).trans (by simp[zb,x1]);have O:nD 8=.sl d g 0 a.length (2*a.length) 6:=(K 8 zy).trans (by simp[zb,x8]);have ca:nD 12=iv c:=(K 12 zy).trans (by simp[zb,b4]);have cb:nD 13=.sl Hc.length a.length 0 a.length (2*a.length) 1:=(K 13 zy).trans (by simp[zb,b2]);clear K x1 x8 b3 b4;have eb:(ni bs (ud bs a)).length=64*a.length:=by
   unfold ni;rw[EA];simp[u,eM bs a u]
  have U:V3=(pj ((bs,ud bs a)::T).reverse).map vd:=by
   rw[b7,hV,zCV9,pj,pj,zBC9];simp
  have c2:V3.length=64*(c+a.length):=by rw[b7,Zl,ZB,eb];omega
  have a8:c+a.length=(((bs,ud bs a)::T).reverse.flatMap Prod.fst).length:=by
   rw[zCV9,zBC9,Zl,<- c8];simp[u]
  have hw:IntKind.i64.wrap ((c:Int)+(a.length:Int))=((c+a.length:Nat):Int):=wx
  by_cases ho:a.length=1
  .rw[if_pos ho]at w
   cases w
   have D:((a.length:Nat):Int)=1:=zo;obtain⟨b0,cc⟩:=zCU9.1 (u.trans ho);have ed:(ui bs)[0]?=some (iv b0):=by rw[cc];rfl
   have ef:0<=a.length:=Zn _;refine zB ?_;refine zB ?_;refine vC (vh O ca hw) ?_;refine zB ?_;refine zB ?_;refine vC (zj O D) ?_;refine uQ ?_;refine zB ?_;refine zB ?_;refine vC (wQ cb I b5 ed cx ef) ?_;refine vw (wo ?_);have cs:rU ((bs,ud bs a)::T)=b0:=by rw[cc];rfl
   refine ze.tL ⟨?_,?_,?_,.int _ _,trivial⟩
   .rw[cs];exact .int _ _
   .rw[<- U];refine ze.wh b6 rfl rfl (Zi _) (fun v z=>?_) (fun v z=>?_)
    .rw[U]at z;obtain⟨x,_,rfl⟩:=Zu.1 z;rfl
    .rw[U]at z;obtain⟨x,hx,z⟩:=ZF.1 z;obtain⟨y,_,rfl⟩:=Zu.1 hx;simp[PV.cells]at z;rcases z with rfl|rfl<;>exact .int _ _
   .rw[<- a8];exact .int _ _
  .rw[if_neg ho]at w;have D:¬((a.length:Nat):Int)=1:=zo;have S:=S ho;have e8:T.length<=1:=by
    have:=S.lvl;simp at this;omega
   obtain⟨w1,w2,w3⟩:=rh bs a u;have ch:=eM bs a u;have cu:∀n∈ud bs a,n.level=T.length:=by
    intro n C;obtain⟨j,hj⟩:=Z8.1 C;have ej:j<a.length:=by rw[<- ch];exact(Zh.1 hj).1
    have e:=iE bs a j _ u (Zg ej);rw[hj]at e;cases e
    exact(r.ok.each _ (ZV _)).2.1
   have ck:=Oi H3 d g M3 Hc.length a.length dx ps (ud bs a) bs T.length ea dT c1 b5 (by omega) zo cu zo (fun b N=>(v4 b N).2);rw[ch,w2]at ck;refine zB ?_;refine zB ?_;refine vC (vh O ca hw) ?_;refine zB ?_;refine zB ?_;refine vC (zj O D) ?_;refine uq ?_;refine vY ?_;refine yv ?_;refine vS (zj O cb) ?_;refine Cc (caps:=?caps) (vs:=?vs) ?a1 ?a2 ck ?a3 ?a4 ?a5
   case a1=>first|rfl|(simp only[qb,qo,go_sem]<;>rfl)
   case a2=>simp only[go_sem]<;>rfl
   case a3=>rfl
   case a4=>rfl
   rintro e H4 ⟨c3,c4,g4,M4,er,es,rfl,et,_,ex,c5,_⟩;refine zK ?_;refine⟨k,Z5 _,k,_,c+a.length,(bs,ud bs a)::T,H4,c4,g4,M4,f,er,es,V3,rfl,by omega,?_,S,w,a8,U,c2,et,ex,c5,c3 f _ b6,by simp[zb,y1],zt,zu I,zt,rfl,rfl⟩;simp;omega


theorem M5:∀X:List vO,(∀M∈X,M.1.length=M.2.length)->(pj X).length=64*(X.flatMap Prod.fst).length
 | [],_=>rfl
 | M::X,h=>by
  have h1:=M5 X fun K a=>h K (Zo _ a);have h2:=h M (Zr ..);unfold pj at h1⊢;rw[ZZ,Zl,h1,ZZ,Zl];unfold ni;rw[EA,List.length_zip];omega


theorem L6:w9 left n=(decide (left≠0)&&decide (n%2=0)&&decide (4<=n)&&decide (n<=56)):=by
 rw[zDJ9];simp only[w9,Zm,decide_eq_true_eq];omega
theorem Lg(hw:vE w.length):FR 277 [uv left,wv p w] (.bool (w9 left w.length)):=by
 refine zn (eG T277 func277) (.bool _) ?_;have c:(w.length:Int).tmod 2=((w.length%2:Nat):Int):=rfl;rw[L6]
 by_cases f:left=0
 .have a:(left:Int)=0:=zo;refine wm a ?_;exact ve.bool (by simp[f])
 have a:¬(left:Int)=0:=zo
 by_cases i:w.length%2=0
 rotate_left
 .have b:¬((w.length%2:Nat):Int)=0:=zo;refine wm (vh a c b) ?_;exact ve.bool (by grind)
 have b:((w.length%2:Nat):Int)=0:=zo
 by_cases g:4<=w.length
 rotate_left
 .have d:¬(4:Int)<=(w.length:Nat):=zo;refine wm (vz a c b d) ?_;exact ve.bool (by simp[g])
 have d:(4:Int)<=(w.length:Nat):=zo
 by_cases h:w.length<=56
 .have e:((w.length:Nat):Int)<=56:=zo;refine wm (vX a c b d e) ?_;exact ve.bool (by grind)
 .have e:¬((w.length:Nat):Int)<=56:=zo;refine wm (vX a c b d e) ?_;exact ve.bool (by simp[h])
theorem xe{w:LN}{i:Nat}(h:i<w.length):(w.map uv)[i]?=some (uv (w.getD i 0)):=by grind
theorem Gb(j:Nat)(hw:vE w.length)(h:2*j<w.length+1):FR 219 [uv left,wv p w,iv j] (uv (xF left w j)):=by
 refine zn (eG T219 func219) (.int _ _) ?_;unfold xF;refine zG ?_;refine wn ?_ ?_
 .intro a;obtain rfl:j=0:=vM a;refine zO ?_;exact ze.int _ _
 .intro a;have a:¬j=0:=vL a;rw[if_neg a];refine vY ?_;have c:IntKind.i64.wrap (2*(j:Int))=((2*j:Nat):Int):=wx;have d:IntKind.i64.wrap (((2*j:Nat):Int)-1)=((2*(j-1)+1:Nat):Int):=wx;have b:2*(j-1)+1<w.length:=zo;have e:=xe b;refine wm (vz c d b e) ?_;exact ze.int _ _
theorem KR(hw:vE w.length):FR 279 [wv p w] (iv (vV w:Nat)):=by
 refine zn (eG T279 func279) (.int _ _) ?_;have c:IntKind.i64.wrap ((w.length:Int).tdiv 2)=((w.length/2:Nat):Int):=by rw[IntWalk.i64_quo _ _ zo];omega
 refine zG ?_;refine vm (vy (fun m s=>∃i:Nat,m=w.length-i/\2*i<=w.length/\vV w=i+vV (w.drop (2*i))/\s.tm 0=wv p w/\s.tm 3=iv i/\s.df=[]/\s.H=[]) (n:=w.length) ?_ ?_)
 .exact⟨0,by simp[zb,zq]⟩
 .rintro m ⟨tm,df,H⟩ ⟨i,rfl,hi,hc,h0,h3,rfl,rfl⟩;dsimp only at h0 h3
  by_cases o:i<w.length/2
  .have b:(i:Int)<((w.length/2:Nat):Int):=zo;have f:IntKind.i64.wrap (2*(i:Int))=((2*i:Nat):Int):=wx;have g:IntKind.i64.wrap (((2*i:Nat):Int)+1)=((2*i+1:Nat):Int):=wx;have a:2*i+1<w.length:=zo;have j:=xe a;have d:=oI w i a;have l:w[2*i+1]=w.getD (2*i+1) 0:=by rw[Zq,Zg a];rfl
   rw[l]at d;generalize w.getD (2*i+1) 0=x at *
   by_cases k:x=0
   .have e:(x:Int)=0:=zo;refine vu (pZ h0 h3 c b f g a j e) ?_ ?_
    .intro h;cases h
    .intro _;refine wm h3 ?_;rw[hc,d,vV,if_pos k];exact ze.int _ _
   .have e:¬(x:Int)=0:=zo;refine vu (pZ h0 h3 c b f g a j e) ?_ ?_
    .intro _;refine vm ?_;refine vp h3 ?_;refine⟨_,?m,i+1,rfl,by omega,?_,zu h0,zu h3,zt,zt⟩
     case m=>omega
     rw[hc,d,vV,if_neg k];omega
    .intro h;cases h
  .have b:¬(i:Int)<((w.length/2:Nat):Int):=zo;refine vu (vz h0 h3 c b) ?_ ?_
   .intro h;cases h
   .intro _;refine wm h3 ?_;rw[hc,Lz (by grind)];exact ze.int _ _
def yL(l:LJ)(x:Nat):Bool:=(l.map Prod.snd).contains x
theorem ID(x:Nat)(hl:vE l.length):FR 278 [vJ p l,uv x] (.bool (yL l x)):=by
 refine zn (eG T278 func278) (.bool _) ?_;refine zG ?_;refine vm (vy (fun m s=>∃i:Nat,m=l.length-i/\i<=l.length/\yL l x=yL (l.drop i) x/\s.tm 0=vJ p l/\s.tm 1=uv x/\s.tm 5=iv i/\s.df=[]/\s.H=[]) (n:=l.length) ?_ ?_)
 .exact⟨0,by simp[zb,zq]⟩
 .rintro m ⟨tm,df,H⟩ ⟨i,rfl,hi,hc,h0,h1,h5,rfl,rfl⟩;dsimp only at h0 h1 h5;refine vu (zj h0 h5) ?_ ?_
  .intro a;have a:i<l.length:=vM a;obtain⟨q,e⟩:=wX (l:=l) a;have c:(l.map pv)[i]?=some (pv q):=vU e;have d:l.drop i=q::l.drop (i+1):=pX e;refine vD ?_
   by_cases f:q.2=x
   .have b:(q.2:Int)=x:=zo;refine zB ?_;refine vC (wQ h0 h1 h5 c a b) ?_;refine zU ?_;exact ve.bool (by rw[hc,d];simp[yL,f])
   .have b:¬(q.2:Int)=x:=zo;refine zB ?_;refine vC (wQ h0 h1 h5 c a b) ?_;refine zH ?_;refine vp h5 ?_;refine⟨_,?m,i+1,rfl,a,?_,zu h0,zu h1,zu h5,zt,zt⟩
    case m=>omega
    rw[hc,d];simp[yL,Ne.symm f]
  .intro a;have a:¬i<l.length:=vL a;obtain rfl:i=l.length:=zo;refine zO ?_;exact ve.bool (by rw[hc,ZS];rfl)
theorem EX:∀(l:LN) (j prev:Nat),2*(yC j prev l).length<=l.length
 | [],_,_=>by simp[yC]
 | [_],_,_=>by simp[yC]
 | _::p::l,j,prev=>by
  have:=EX l (j+1) p;rw[yC]
  grind
theorem Xy{l:LN}(h:vV l=0)(j prev:Nat):yC j prev l=[]:=by
 match l,h with
 | [],_=>simp[yC]
 | [_],_=>simp[yC]
 | a::b::l,h =>
  rw[vV]at h
  by_cases c:b=0
  .rw[yC,if_pos c]
  grind
theorem Bt(hw:w.length<1000000):FR 217 [uv left,wv p w] (.tuple [vJ 0 (vG left w),.list 0 1 ((yC 0 left w).map fun x=>iv (x.1:Nat))]):=by
 refine zn (eG T217 func217) (Lb.two (Lb.pvs _) ?_) ?_
 .have:=Lb.ivs (z:=1) ((yC 0 left w).map fun x=>(x.1:Int));rw[zBS9]at this;exact this
 refine zG ?_;refine yD 92 2 (i:=6) rfl ?_;refine yD 3 1 (i:=7) rfl ?_;simp only[uF,Zp,Zz,ZT,Zv,ZA];refine vm (vy (fun m s=>∃(j:Nat) (V1 V2:LQ) (I:List (Nat×Pr)) (G:LP),m=w.length-j/\j<=vV w/\vV w=j+vV (w.drop (2*j))/\yC 0 left w=I++yC j (xF left w j) (w.drop (2*j))/\V1=I.map (fun x=>pv x.2)/\V2=I.map (fun x=>iv (x.1:Nat))/\s.tm 0=uv left/\s.tm 1=wv p w/\s.tm 6=.sl 0 V1.length 0 V1.length (2*V1.length) 2/\s.tm 7=.sl 1 V2.length 0 V2.length (2*V2.length) 1/\s.tm 8=iv j/\s.df=[]/\s.H=.row 92 2 V1.length 0 V1::.row 3 1 V2.length 0 V2::G) (n:=w.length) ?_ ?_)
 .exact⟨0,[],[],[],[],rfl,Zn _,by simp,by simp[xF],rfl,rfl,zt,zt,zt,zt,zt,rfl,rfl⟩
 .rintro m ⟨tm,df,H⟩ ⟨j,V1,V2,I,G,rfl,hj,hraw,hit,hV1,hV2,h0,h1,h6,h7,h8,rfl,rfl⟩;dsimp only at *
  have P:=E1 w;have Q:I.length<=w.length:=by have:=EX w 0 left;rw[hit,Zl]at this;omega
  have R:V1.length=I.length:=by rw[hV1,ZB]
  have S:V2.length=I.length:=by rw[hV2,ZB]
  refine fM ?_;refine vK (zj h1 h8) ?_;refine wD (KR p w zo) ?_;refine fE ?_ ?_
  .intro b;have b:j<vV w:=vM b;have g:IntKind.i64.wrap (2*(j:Int))=((2*j:Nat):Int):=wx;have o:IntKind.i64.wrap (((2*j:Nat):Int)+1)=((2*j+1:Nat):Int):=wx;have q:2*j<w.length:=zo;have c:2*j+1<w.length:=zo;have L:=xe q;have r:=xe c;have f:=oI w j c;have C:w[2*j]=w.getD (2*j) 0:=by rw[Zq,Zg q];rfl
   have D:w[2*j+1]=w.getD (2*j+1) 0:=by rw[Zq,Zg c];rfl
   have T:xF left w (j+1)=w.getD (2*j+1) 0:=by unfold xF;rw[if_neg zo,zEO9]
   have u:=Gb p left w j zo zo;rw[C,D]at f;generalize w.getD (2*j) 0=k at *
   generalize w.getD (2*j+1) 0=x at *
   generalize xF left w j=a at *
   have y:x≠0:=by
    intro e;rw[hraw,f,vV,if_pos e]at b;omega
   rw[f,vV,if_neg y]at hraw;rw[f,yC,if_neg y]at hit;refine vD ?_;refine vR ?_
   by_cases A:x=a
   .have t:(x:Int)=a:=zo;rw[if_pos A]at hit;refine wF (ww h0 h1 h8 g o c r) u ?_;refine vj (zj h0 t) ?_;refine wn ?_ ?_
    .intro h;simp at h
    intro _;refine wK ?_;refine vp h8 ?_;refine⟨_,?U,j+1,V1,V2,I,G,rfl,b,by omega,(by grind),hV1,hV2,zu h0,zu h1,zu h6,zu h7,zu h8,rfl,rfl⟩;omega
   .have t:¬(x:Int)=a:=zo;rw[if_neg A]at hit;refine wF (ww h0 h1 h8 g o c r) u ?_;refine vj (zj h0 t) ?_;refine wn ?_ ?_;rotate_left
    .intro h;simp at h
    intro _;have J:(V1.length+1)*17<=140737488355328:=zo;have K:(V2.length+1)*9<=140737488355328:=zo;refine vR ?_;refine vW (wP h0 h1 h6 h7 h8 g o q c L r J) ?_;refine vj h0 ?_;refine vp (vh h7 h8 K) ?_;refine vp h8 ?_;refine⟨_,?M,j+1,V1++[pv (k,x)],V2++[iv (j:Nat)],I++[(j,(k,x))],?G2,rfl,b,by omega,(by grind),(by grind),(by grind),zu h0,zu h1,zt,zt,zu h8,zt,?H⟩
    case M=>omega
    case H=>simp only[Zl,Zp,Zz,ZK,Zv];rfl
  .intro b;have b:¬j<vV w:=vL b;rw[Xy (l:=w.drop (2*j)) zo,zAG9]at hit;refine wm (zj h6 h7) ?_;have N:vG left w=I.map (fun x=>x.2):=by rw[<- rW w 0 left,hit]
   have B:(I.map (fun x=>x.2)).map pv=V1:=by rw[hV1,zBS9];rfl
   rw[N,hit];refine ze.tL ⟨?_,?_,trivial⟩
   .show ze _ _ _ (.list 0 2 ((I.map fun x=>x.2).map pv));rw[B];exact ze.wh (l:=V1) rfl rfl rfl (Zi _) (fun v d=>by rw[hV1]at d;obtain⟨x,_,rfl⟩:=Zu.1 d;rfl) (by rw[<- B];exact bS)
   .rw[<- hV2];have O:V2=(I.map fun x=>(x.1:Int)).map iv:=by rw[hV2,zBS9];rfl
    exact ze.wh (l:=V2) rfl rfl rfl (Zi _) (fun v d=>by rw[hV2]at d;obtain⟨x,_,rfl⟩:=Zu.1 d;rfl) (by rw[O];exact If)


def aU(left:Nat)(l:LJ)(i:Nat):Bool :=
 (decide (i=0)||decide ((l.getD (i-1) (0,0)).1<(l.getD i (0,0)).1)) && !yL (l.take i) (l.getD i (0,0)).2 && !decide ((l.getD i (0,0)).2=left)
def bR(left:Nat)(l:LJ):Bool:=wh l&&xE [left] l
theorem HV:bR left l=true↔∀i,i<l.length->aU left l i=true:=by
 unfold bR;rw[Zm,bn,nv];have f:∀i,i<l.length->l[i]?=some (l.getD i (0,0)):=fun i a=>get_lt l a
 constructor
 .rintro ⟨h1,h2,h3⟩ i a;unfold aU;simp only[Zm,zEC9,zAZ9,decide_eq_true_eq,decide_eq_false_iff_not];refine⟨⟨?_,?_⟩,?_⟩
  .by_cases r:i=0
   .omega
   .right
    refine h1 (i-1) _ _ (f _ zo) ?_;rw[show i-1+1=i by omega];grind
  .unfold yL;rw[<- zDS9,zDV9];intro c;obtain⟨q,m,e⟩:=Zu.1 c;obtain⟨k,n,g⟩:=ZP.1 m;rw[ZC]at n;rw[zEX9]at g;have d:=zBW9.1 h2 k i (by grind) (by grind) zo
   grind
  grind
 .intro h;have k:∀i,i<l.length->(i=0\/(l.getD (i-1) (0,0)).1<(l.getD i (0,0)).1)/\yL (l.take i) (l.getD i (0,0)).2=false/\¬(l.getD i (0,0)).2=left:=fun i a=>by
   have:=h i a;unfold aU at this
   grind
  refine⟨fun i x y s t=>?_,?_,fun p d c=>?_⟩
  .grind
  .show List.Pairwise (fun x y=>x≠y) (l.map Prod.snd);rw[zBW9];intro i j a b o e;rw[ZB]at a b;rw[List.getElem_map,List.getElem_map]at e;have h2:=(k j b).2.1;unfold yL at h2;rw[<- zDS9,zDV9]at h2
   apply h2
   rw[Zq,Zg b];show l[j].2∈_;rw[<- e];exact List.mem_map_of_mem (ZP.2 ⟨i,by grind,zEX9⟩)
  .obtain⟨i,a,e⟩:=ZP.1 d
   grind
theorem Q2(hl:l.length<1000000):FR 301 [uv left,vJ p l] (.bool (bR left l)):=by
 refine zn (eG T301 func301) (.bool _) ?_;refine zG ?_;have bad:∀i,i<l.length->aU left l i=false->bR left l=false:=fun i A h=>by
  cases D:bR left l with
  | false=>rfl
  | true=>rw[(HV left l).1 D i A]at h;cases h
 refine vm (vy (fun m s=>∃i:Nat,m=l.length-i/\i<=l.length/\(∀j,j<i->aU left l j=true)/\s.tm 0=uv left/\s.tm 1=vJ p l/\s.tm 5=iv i/\s.df=[]/\s.H=[]) (n:=l.length) ?_ ?_)
 .exact⟨0,rfl,Zn _,fun j G=>by omega,zt,zt,zt,rfl,rfl⟩
 .rintro m ⟨I,J,H⟩ ⟨i,rfl,A,hok,c,h1,a,rfl,rfl⟩;dsimp only at c h1 a;refine vu (zj h1 a) ?_ ?_;rotate_left
  .intro b;have b:¬i<l.length:=vL b;obtain rfl:i=l.length:=zo;refine zO ?_;exact ve.bool ((HV left l).2 hok).symm
  intro b;have b:i<l.length:=vM b;have d:(l.map pv)[i]?=some (pv (l.getD i (0,0))):=by rw[Zt,get_lt l b];rfl
  have q:(l.map pv).take i=(l.take i).map pv:=by rw[zAK9]
  have g:i<=l.length:=A;have o:=ID p (l.take i) (l.getD i (0,0)).2 (by rw[ZC];omega);have z:aU left l i=((decide (i=0)||decide ((l.getD (i-1) (0,0)).1<(l.getD i (0,0)).1)) && !yL (l.take i) (l.getD i (0,0)).2 && !decide ((l.getD i (0,0)).2=left)):=rfl;refine vD ?_;refine zB ?_;refine ur (Q:=fun y w=>y=.norm/\w.tm 47=.bool (!aU left l i)/\w.tm 0=uv left/\w.tm 1=vJ p l/\w.tm 5=iv i/\w.df=[]/\w.H=[]) (wV ?_) ?_
  .generalize yL (l.take i) (l.getD i (0,0)).2=hp at *
   generalize aU left l i=fa at *
   by_cases L:i=0
   .have e:¬(0:Int)<(i:Int):=zo
    cases hp with
    | true =>
     refine wF (ww h1 a e d b g q) o ?_;refine vj (vh c h1 a) ?_
     grind
    | false =>
     by_cases B:(l.getD i (0,0)).2=left
     .have k:((l.getD i (0,0)).2:Int)=left:=zo;refine wF (ww h1 a e d b g q) o ?_;refine vj (wQ c h1 a d b k) ?_
      grind
     .have k:¬((l.getD i (0,0)).2:Int)=left:=zo;refine wF (ww h1 a e d b g q) o ?_;refine vj (wQ c h1 a d b k) ?_
      grind
   have e:(0:Int)<(i:Int):=zo;have r:IntKind.i64.wrap ((i:Int)-1)=((i-1:Nat):Int):=wx;have t:i-1<l.length:=zo;have u:(l.map pv)[i-1]?=some (pv (l.getD (i-1) (0,0))):=by rw[Zt,get_lt l t];rfl
   generalize l.getD (i-1) (0,0)=pr at *
   generalize l.getD i (0,0)=x at *
   by_cases K:pr.1<x.1
   rotate_left
   .have f:((x.1:Nat):Int)<=(pr.1:Nat):=zo;refine nO (by first|exact trivial|simp only[go_sem,c,h1,a,e,r,t,u,d,b,g,f]) (by simp(disch:=omega)only[go_sem,h1,a,e,r,u,d,f]<;>rfl) rfl (by simp only[go_sem,f]<;>rfl) (by simp only[go_sem]<;>rfl) ?_;refine vj (xI c h1 a e r t u d b g f) ?_
    grind
   have f:¬((x.1:Nat):Int)<=(pr.1:Nat):=zo
   cases hp with
   | true =>
    refine wF (xI h1 a e r t u d b g q f) o ?_;refine vj (vh c h1 a) ?_;exact⟨by rw[z];simp,c,h1,a⟩
   | false =>
    by_cases B:x.2=left
    .have k:(x.2:Int)=left:=zo;refine wF (xI h1 a e r t u d b g q f) o ?_;refine vj (wQ c h1 a d b k) ?_;exact⟨by rw[z];simp[B],c,h1,a⟩
    .have k:¬(x.2:Int)=left:=zo;refine wF (xI h1 a e r t u d b g q f) o ?_;refine vj (wQ c h1 a d b k) ?_;exact⟨by rw[z];simp[K,B],c,h1,a⟩
  clear c h1 a;rintro y ⟨I,J,H⟩ ⟨rfl,C,c,h1,a,rfl,rfl⟩;dsimp only at *
  by_cases v:aU left l i=true
  rotate_left
  .have v:aU left l i=false:=by simpa using v
   refine pY C ?_ ?_
   .intro _;refine zO ?_;exact ve.bool (bad i b v).symm
   .rw[v];intro h;cases h
  refine pY C ?_ ?_
  .rw[v];intro h;cases h
  intro _;refine wK ?_;refine vp a ?_;refine⟨_,?m,i+1,rfl,b,fun j G=>?_,zu c,zu h1,zu a,zt,zt⟩
  case m=>omega
  rcases zAO9 j i with h|h
  .exact hok j h
  .rw[show j=i by omega];exact v
theorem GZ(hw:w.length<1000000):FR 231 [uv left,wv p w] (iv (uf left w:Nat)):=by
 refine zn (eG T231 func231) (.int _ _) ?_;have C:=Lg p left w zo;have z:=Bt p left w hw;have y:=KR p w zo;have j:IntKind.i64.wrap ((w.length:Int).tdiv 2)=((w.length/2:Nat):Int):=by rw[IntWalk.i64_quo _ _ zo];omega
 refine wl C ?_
 by_cases a:w9 left w.length=true
 rotate_left
 .have a:w9 left w.length=false:=by simpa using a
  rw[a];refine zU ?_;have:uf left w=2:=by unfold uf;rw[a];rfl
  rw[this];exact ze.int _ _
 rw[a];refine uq ?_;refine vY ?_;refine zM z ?_;have o:wO left w=vG left w:=by unfold wO;rw[if_pos a]
 have A:=cn left w;have l:kE left w=(bR left (vG left w)&&decide ((vG left w).length=vV w)&&decide ((vG left w).length<w.length/2)&&kF (w.drop (2*(vG left w).length))):=by unfold kE bR;rw[o]
 have q:uf left w=if kE left w=true then 0 else 190:=by unfold uf;rw[if_pos a]
 rw[o]at A;generalize vG left w=L at *
 have D:=Q2 0 left L zo;have bad:kE left w=false->ve [] 0 (.ret (iv 190)) (.ret (iv (uf left w:Nat))):=fun h=>by rw[q,h];exact ze.int _ _
 refine zI ?_;refine vo D ?_
 by_cases c:bR left L=true
 rotate_left
 .have c:bR left L=false:=by simpa using c
  rw[c];refine zN ?_;refine zU ?_;exact bad (by grind)
 rw[c];refine wq ?_;refine vo y ?_
 by_cases G:L.length=vV w
 rotate_left
 .have d:¬(L.length:Int)=(vV w:Nat):=zo;refine wN d ?_;refine zU ?_;exact bad (by grind)
 have d:(L.length:Int)=(vV w:Nat):=zo
 by_cases b:L.length<w.length/2
 rotate_left
 .have g:((w.length/2:Nat):Int)<=(L.length:Nat):=zo;have f:((w.length/2:Nat):Int)<=(vV w:Nat):=zo;refine wN (vz d g f j) ?_;refine zU ?_;exact bad (by grind)
 have g:¬((w.length/2:Nat):Int)<=(L.length:Nat):=zo;have f:¬((w.length/2:Nat):Int)<=(vV w:Nat):=zo;refine wN (vz d g f j) ?_;refine uq ?_;refine vY ?_;refine zG ?_;have v:kE left w=kF (w.drop (2*L.length)):=by rw[l,c];simp[G];omega
 clear l d g f;refine vm (vy (fun m s=>∃i:Nat,m=w.length-i/\L.length<=i/\i<=w.length/2/\kE left w=kF (w.drop (2*i))/\s.tm 1=wv p w/\s.tm 7=iv i/\s.df=[]/\s.H=[]) (n:=w.length-L.length) ?_ ?_)
 .exact⟨L.length,rfl,Zi _,by omega,v,zt,by simp[zb];try omega,rfl,rfl⟩
 .rintro m ⟨tm,df,H⟩ ⟨i,rfl,hli,hi,hz,h1,h7,rfl,rfl⟩;dsimp only at h1 h7;refine vu (vh h1 h7 j) ?_ ?_
  .intro b;have b:i<w.length/2:=vM b;have r:IntKind.i64.wrap (2*(i:Int))=((2*i:Nat):Int):=wx;have t:IntKind.i64.wrap (((2*i:Nat):Int)+1)=((2*i+1:Nat):Int):=wx;have e:2*i+1<w.length:=zo;have u:=xe e;have B:=L9 w i e;have I:w[2*i+1]=w.getD (2*i+1) 0:=by rw[Zq,Zg e];rfl
   rw[I]at B;generalize w.getD (2*i+1) 0=x at *
   refine vD ?_
   by_cases J:x=0
   .have k:(x:Int)=0:=zo;refine zB ?_;refine vC (ww h1 h7 r t e u k) ?_;refine zH ?_;refine vp h7 ?_;refine⟨_,?m,i+1,rfl,by omega,by omega,by grind,zu h1,zu h7,zt,zt⟩;omega
   .have k:¬(x:Int)=0:=zo;refine zB ?_;refine vC (ww h1 h7 r t e u k) ?_;refine zU ?_;exact bad (by grind)
  .intro b;have b:¬i<w.length/2:=vL b;refine zO ?_;rw[q,hz,L7 w i (by omega)];exact ze.int _ _
def yI(l:LJ)(key:Nat):Nat:=(l.takeWhile fun x=>decide (x.1<key)).length
def yq(l:LJ)(key:Nat):Bool:=match l[yI l key]? with
 | some x=>decide (x.1=key)
 | none=>false
theorem BF(key:Nat):yI l key<=l.length:=by
 unfold yI;exact(List.takeWhile_sublist _).length_le
theorem Q1(key:Nat)(l:LJ)(hl:l.length<1000000):FR 218 [vJ p l,uv key] (.tuple [iv (yI l key:Nat),.bool (yq l key)]):=by
 refine zn (eG T218 func218) (Lb.two (.int _ _) (.bool _)) ?_;refine zG ?_;refine vm (vy (fun m s=>∃i:Nat,m=l.length-i/\i<=l.length/\yI l key=i+((l.drop i).takeWhile fun x=>decide (x.1<key)).length/\s.tm 0=vJ p l/\s.tm 1=uv key/\s.tm 6=iv i/\s.df=[]/\s.H=[]) (n:=l.length) ?_ ?_)
 .exact⟨0,rfl,Zn _,by simp[yI],zt,zt,zt,rfl,rfl⟩
 .rintro m ⟨tm,df,H⟩ ⟨i,rfl,hi,hc,h0,h1,h6,rfl,rfl⟩;dsimp only at h0 h1 h6
  by_cases b:i<l.length
  .have a:(i:Int)<(l.length:Nat):=zo;obtain⟨q,f⟩:=wX (l:=l) b;have d:(l.map pv)[i]?=some (pv q):=vU f;have o:l.drop i=q::l.drop (i+1):=pX f;rw[o,zDG9]at hc
   by_cases r:q.1<key
   .have g:(q.1:Int)<key:=zo;rw[if_pos (decide_eq_true r)]at hc;refine vu (ww h0 h1 h6 a d b g) ?_ ?_
    .intro _;refine vm ?_;refine vp h6 ?_;refine⟨_,?m,i+1,rfl,b,by grind,zu h0,zu h1,zu h6,zt,zt⟩;omega
    .intro h;cases h
   .have g:¬(q.1:Int)<key:=zo;rw[if_neg (by grind)]at hc;have c:yI l key=i:=by simpa using hc
    refine vu (ww h0 h1 h6 a d b g) ?_ ?_
    .intro h;cases h
    .intro _;have e:yq l key=decide (q.1=key):=by unfold yq;rw[c,f]
     rw[c,e];refine vR ?_
     by_cases k:q.1=key
     .have j:(q.1:Int)=key:=zo;refine vj (ww h0 h1 h6 a d b j) ?_;refine vw (wo ?_);rw[decide_eq_true k];exact vN
     .have j:¬(q.1:Int)=key:=zo;refine vj (ww h0 h1 h6 a d b j) ?_;refine vw (wo ?_);rw[decide_eq_false k];exact vN
  .obtain rfl:i=l.length:=zo;have a:¬(l.length:Int)<(l.length:Nat):=zo;rw[ZS]at hc;have c:yI l key=l.length:=by simpa using hc
   have e:yq l key=false:=by unfold yq;rw[c,zAB9 (Zi _)]
   rw[c,e];refine vu (vz h0 h1 h6 a) ?_ ?_
   .intro h;cases h
   .intro _;refine vR ?_;refine vj (vz h0 h1 h6 a) ?_;refine vw (wo ?_);exact vN


def uW(left:Nat)(w:LN)(x:Pr):Nat :=
 if(w9 left w.length && !decide (x.2=0) && !decide (x.2=left))=true then(if(decide (uf left w=0)&&yL (vG left w) x.2)=true then 2 else uf left w)else 2
theorem V9(p left:Nat)(w:LN)(x:Pr)(hw:w.length<1000000):FR 216 [uv left,wv p w,pv x] (iv (uW left w x:Nat)):=by
 refine zn (eG T216 func216) (.int _ _) ?_;have l:=Lg p left w zo;have j:=Bt p left w hw;have m:=GZ p left w hw;have bad:(w9 left w.length && !decide (x.2=0) && !decide (x.2=left))=false->uW left w x=2:=fun h=>by unfold uW;grind
 refine wI ?_;refine vo l ?_
 by_cases a:w9 left w.length=true
 rotate_left
 .have a:w9 left w.length=false:=by simpa using a
  rw[a];refine zN ?_;refine zU ?_;rw[bad (by grind)];exact ze.int _ _
 rw[a]
 by_cases q:x.2=0
 .have b:(x.2:Int)=0:=zo;refine wN b ?_;refine zU ?_;rw[bad (by grind)];exact ze.int _ _
 have b:¬(x.2:Int)=0:=zo
 by_cases h1:x.2=left
 .have d:(x.2:Int)=left:=zo;have k:¬(left:Int)=0:=zo;refine wN (vh b k d) ?_;refine zU ?_;rw[bad (by grind)];exact ze.int _ _
 have d:¬(x.2:Int)=left:=zo;refine wN (zj b d) ?_;refine uq ?_;refine vY ?_;refine zM m ?_;refine zM j ?_;have e:uW left w x=if(decide (uf left w=0)&&yL (vG left w) x.2)=true then 2 else uf left w:=by
  unfold uW;rw[if_pos (by grind)]
 have o:(vG left w).length<=28:=by have:=cn left w;unfold wO at this;rwa [if_pos a]at this
 have n:=ID 0 (vG left w) x.2 zo;generalize vG left w=L at *
 generalize uf left w=c at *
 by_cases i:c=0
 rotate_left
 .have f:¬(c:Int)=0:=zo;refine zB ?_;refine vC f ?_;refine uq ?_;refine vY ?_;refine zO ?_;rw[e,if_neg (by simp[i])];exact ze.int _ _
 have f:(c:Int)=0:=zo;refine vK f ?_;refine wD n ?_
 by_cases g:yL L x.2=true
 .refine wn ?_ ?_
  .intro _;refine zO ?_;rw[e,if_pos (by grind)];exact ze.int _ _
  .rw[g];intro h;cases h
 .refine wn ?_ ?_
  .intro h;exact absurd h g
  intro _;refine vY ?_;refine zO ?_;rw[e,if_neg (by simp[g]),i];exact ze.int _ _
theorem mf{l:LJ}:∀v∈(l.map vd).flatMap PV.cells,vg v:=fun v a=>by
 obtain⟨x,b,a⟩:=ZF.1 a;obtain⟨n,_,rfl⟩:=Zu.1 b;simp[PV.cells]at a;rcases a with rfl|rfl<;>exact .int _ _
def xq(l:LJ)(i:Nat):Nat->LJ
 | 0=>[]
 | m+1=>if i<=m then(2*m+3,(l.getD m (0,0)).2)::(2*m+2,(l.getD m (0,0)).1)::xq l i m else[]
def dH(left:Nat)(w:LN)(l:LJ)(i:Nat)(x:Pr):LJ:=(2*l.length+3,0)::(xq l i l.length++[(2*i+1,xF left w i),(2*i,x.1),(2*i+1,x.2)])
def uk(left:Nat)(w:LN)(x:Pr):LJ×Nat :=
 if uW left w x=0 then(if yq (vG left w) x.1=true then([],191)else if w.length/2<=(vG left w).length+1 then([],3)else(dH left w (vG left w) (yI (vG left w) x.1) x,0))else([],uW left w x)
variable {left:Nat}{w:LN}(lv p a x:Nat)
theorem Bn{x:Pr}(h:uW left w x=0):w9 left w.length=true/\uf left w=0:=by
 unfold uW at h
 grind
theorem EZ(h:w9 left w.length=true):(vG left w).length<=28:=by
 have:=cn left w;unfold wO at this;grind
theorem Wc(left:Nat)(w:LN)(x:Pr)(hw:w.length<1000000):FR 154 [uv left,wv p w,pv x] (.tuple [.list 0 2 ((uk left w x).1.map vd),iv ((uk left w x).2:Nat)]):=by
 refine zn (eG T154 func154) (Lb.two (my _) (.int _ _)) ?_;have u:=V9 p left w x hw;have B:=Bt p left w hw;have e:IntKind.i64.wrap ((w.length:Int).tdiv 2)=((w.length/2:Nat):Int):=by rw[IntWalk.i64_quo _ _ zo];omega
 refine wl u ?_
 by_cases d:uW left w x=0
 rotate_left
 .have g:¬(uW left w x:Int)=0:=zo;refine wB g ?_;refine zO ?_;have:uk left w x=([],uW left w x):=by unfold uk;rw[if_neg d]
  rw[this];exact vN
 have g:(uW left w x:Int)=0:=zo;refine xH g ?_;refine vY ?_;obtain⟨z,T⟩:=Bn d;have U:=EZ z;have q:=z;rw[L6]at q;simp only[Zm,decide_eq_true_eq]at q;have r:uk left w x=if yq (vG left w) x.1=true then([],191)else if w.length/2<=(vG left w).length+1 then([],3)else(dH left w (vG left w) (yI (vG left w) x.1) x,0):=by unfold uk;rw[if_pos d]
 rw[r];clear r g u;have S:(vG left w).length<=w.length/2:=by
  have:=EX w 0 left;have h2:=congrArg List.length (rW w 0 left);rw[ZB]at h2;omega
 generalize vG left w=L at *
 have M:=Q1 0 x.1 L zo;have C:=BF L x.1;refine zM B ?_;refine zM M ?_;generalize yI L x.1=i at *
 refine zG ?_
 by_cases a:yq L x.1=true
 .refine wn ?_ ?_
  .intro _;refine zO ?_;rw[if_pos a];exact vN
  .intro h;rw[a]at h;cases h
 rw[if_neg a];refine wn ?_ ?_
 .intro h;exact absurd h a
 intro _;refine vY ?_
 by_cases o:w.length/2<=L.length+1
 .have f:((w.length/2:Nat):Int)<=(L.length:Int)+1:=zo;refine wB (zj e f) ?_;refine zO ?_;rw[if_pos o];exact vN
 rw[if_neg o];have f:¬((w.length/2:Nat):Int)<=(L.length:Int)+1:=zo;have N:(L.length:Int)+1<((w.length/2:Nat):Int):=zo;refine xH (zj e f) ?_;refine vY ?_;refine zB ?_;refine um ?_;refine yD 120 2 (i:=14) rfl ?_;simp only[uF,Zp,Zz,ZT,Zv,ZA];refine wB (zj e N) ?_;have O:IntKind.i64.wrap (2*(L.length:Int))=((2*L.length:Nat):Int):=wx;have P:IntKind.i64.wrap (((2*L.length:Nat):Int)+3)=((2*L.length+3:Nat):Int):=wx;refine vA (zj O P) ?_;generalize Q:dH left w L i x=D;refine vm (vy (fun m s=>∃(V:LQ) (g:Nat) (G:LP),i<=m/\m<=L.length/\V.length<=1+2*(L.length-m)/\D.map vd=V++(xq L i m++[(2*i+1,xF left w i),(2*i,x.1),(2*i+1,x.2)]).map vd/\s.tm 0=uv left/\s.tm 1=wv p w/\s.tm 5=.ptr 0 0 0 0 2/\s.tm 9=vJ 0 L/\s.tm 11=iv i/\s.tm 14=.sl 1 g 0 V.length (2*V.length) 2/\s.tm 15=iv ((m:Int)-1)/\s.df=[]/\s.H=.row 92 2 0 0 [pv x]::.row 120 2 g 0 V::G) (n:=L.length) ?_ ?_)
 .refine⟨[vd (2*L.length+3,0)],1,_,C,Zi _,by simp,by rw[<- Q];rfl,zt,zt,zt,zt,zt,zt,zt,rfl,rfl⟩
 .rintro m ⟨tm,df,H⟩ ⟨V,g,G,him,hmL,hVl,hDV,h0,h1,h5,h9,h11,h14,h15,rfl,rfl⟩;dsimp only at *
  by_cases X:i<m
  .obtain⟨k,rfl⟩:∃k,m=k+1:=⟨m-1,by omega⟩
   rw[show ((k+1:Nat):Int)-1=(k:Nat) by omega]at h15;rw[xq,if_pos zo]at hDV;have j:(i:Int)<=(k:Nat):=zo;have t:k<L.length:=zo;have I:(L.map pv)[k]?=some (pv (L.getD k (0,0))):=by rw[Zt,get_lt L t];rfl
   have b:IntKind.i64.wrap (2*(k:Int))=((2*k:Nat):Int):=wx;have c:IntKind.i64.wrap (((2*k:Nat):Int)+3)=((2*k+3:Nat):Int):=wx;have R:IntKind.i64.wrap (((2*k:Nat):Int)+2)=((2*k+2:Nat):Int):=wx;have l:(V.length+2)*17<=140737488355328:=zo;generalize L.getD k (0,0)=y at *
   refine vu (vh h11 h15 j) ?_ ?_
   .intro _;refine vD ?_;refine vR ?_;refine vW (pZ h9 h14 h15 b c R I t l) ?_;refine vj h5 ?_;refine vp h15 ?_;refine⟨k,Z5 _,V++[vd (2*k+3,y.2),vd (2*k+2,y.1)],g+1,?G2,by omega,by omega,by grind,(by grind),zu h0,zu h1,zu h5,zu h9,zu h11,zt,zu h15,zt,?H⟩
    case H=>rfl
   .intro h;cases h
  .obtain rfl:m=i:=zo;have j:¬(m:Int)<=(m:Int)-1:=zo;have J:xq L m m=[]:=by cases m with
    | zero=>rfl
    | succ k=>rw[xq,if_neg zo]
   rw[J,ZA]at hDV;refine vu (vh h11 h15 j) ?_ ?_
   .intro h;cases h
   intro _;have b:IntKind.i64.wrap (2*(m:Int))=((2*m:Nat):Int):=wx;have c:IntKind.i64.wrap (((2*m:Nat):Int)+1)=((2*m+1:Nat):Int):=wx;have K:=Gb p left w m zo zo;have l:(V.length+3)*17<=140737488355328:=zo;refine vR ?_;refine wF (ww h0 h1 h5 h11 h14 b c) K ?_;refine vW (kQ h0 h1 h5 h11 h14 b c l) ?_;refine vj h5 ?_;refine vw (wo ?_);refine ze.tL ⟨?_,.int _ _,trivial⟩;rw[hDV];exact ze.wh rfl rfl (by simp) (by simp) (fun v A=>by rw[<- hDV]at A;obtain⟨x,_,rfl⟩:=Zu.1 A;rfl) (by rw[<- hDV];exact mf)
theorem Xv(h:uf left w=0):w9 left w.length=true:=by
 unfold uf at h
 grind


theorem GI:FR 181 [uv x] (.bool (xN x)):=by
 refine zn (eG T181 func181) (.bool _) ?_
 by_cases h:1<=x
 .have g:(1:Int)<=x:=zo
  by_cases h2:x<=2047
  .have a:(x:Int)<=2047:=zo;refine wm (zj g a) ?_;exact ve.bool (by simp[xN,h];omega)
  .have a:¬(x:Int)<=2047:=zo;refine wm (zj g a) ?_;exact ve.bool (by simp[xN,h];omega)
 .have g:¬(1:Int)<=x:=zo;refine wm g ?_;exact ve.bool (by simp[xN,h])
def fh(lv x:Nat):Bool:=if lv=0 then decide (1<=x)&&decide (x<=1099511627776)else xN x
theorem Lh:FR 122 [iv lv,uv x] (.bool (fh lv x)):=by
 by_cases h:lv=0
 .subst h;exact cm x
 have g:¬(lv:Int)=0:=zo;have:fh lv x=xN x:=by unfold fh;rw[if_neg h]
 rw[this];refine zn (eG T122 func122) (.bool _) ?_;refine xH g ?_;refine vY ?_;refine zI ?_;refine vo (GI x) ?_;refine zP ?_;exact ze.bool _
def mj(w:LN):Bool:=decide (w.length=64)&&decide (7522529147838689024<=w.getD 0 0)&&decide (w.getD 0 0<=7522529147838689024+12)&&decide (w.getD 1 0<=2047)&&decide (w.getD 4 0<=2)&&decide (w.getD 5 0=0)&&decide (w.getD 6 0=0)&&decide (w.getD 7 0=0)
def nZ(lv x:Nat):Bool:=(decide (lv=0)&&decide (x=9223372036854775808))||(decide (0<lv)&&xN x)
theorem UW:uO 0 lv a=(decide (7522529147838689024<=a)&&decide (a<=7522529147838689024+12)):=by rw[uO]
theorem UY:uO 3 lv a=nZ lv a:=by rw[uO,nZ]
theorem UX:uO 1 lv a=decide (a<=2047):=by
 rw[uO,zDJ9,decide_eq_true_eq,decide_eq_true_eq];omega
theorem UZ:uO 4 lv a=decide (a<=2):=by rw[uO];all_goals (intro h;cases h)
theorem RV(w:LN):headB w=(mj w&&nZ (pM (w.getD 0 0)) (w.getD 3 0)):=by
 by_cases b:w.length=64
 rotate_left
 .unfold headB mj;grind
 obtain⟨lv,a⟩:=DK w;rw[IG w b lv a,<- a];have c:((w.take 8).drop 5)=[w.getD 5 0,w.getD 6 0,w.getD 7 0]:=by
  apply List.ext_getElem
  all_goals grind
 have d:List.range 5=[0,1,2,3,4]:=rfl;rw[c,d];unfold mj;rw[decide_eq_true b,Z9];simp only[zER9,List.any_nil,List.all_cons,List.all_nil,zDQ9,Bool.or_false];rw[UW,UX,UY,UZ];have e:uO 2 lv (w.getD 2 0)=true:=rfl
 grind
theorem fc(w:LN)(hw:vE w.length):FN ET 191 [wv p w] (xD w):=by
 refine zn (eG T191 func191) ?_ ?_
 .unfold xD;split
  .exact Lb.two (Lb.node _) (.int _ _)
  .exact Lb.two (Lb.node _) (.int _ _)
 have j:=RV w;refine zG ?_;refine zB ?_;refine ur (Q:=fun y z=>y=.norm/\z.tm 49=.bool (!mj w)/\z.tm 0=wv p w/\z.tm 2=.ptr 0 0 0 0 6/\z.df=[]/\z.H=[.row 143 6 0 0 [nq]]) (wa ?_) ?_
 .have d:True:=trivial;have fin:∀(e:Nat->PV) (b:Bool),b=mj w->e 49=.bool (!b)->e 0=wv p w->e 2=.ptr 0 0 0 0 6->(FX.norm=FX.norm/\e 49=.bool (!mj w)/\e 0=wv p w/\e 2=.ptr 0 0 0 0 6/\([]:AP)=[]/\[za.row 143 6 0 0 [nq]]=[.row 143 6 0 0 [nq]]):=fun e b l r d h2=>⟨rfl,by rw[r,l],d,h2,rfl,rfl⟩
  by_cases i:w.length=64
  rotate_left
  .have g:¬(w.length:Int)=64:=zo;refine wA g ?_;exact fin _ false (by unfold mj;rw[decide_eq_false i];rfl) (by simp[zb]) (by simp[zb,zq]) (by simp[zb])
  have g:(w.length:Int)=64:=zo;have f:0<w.length:=zo;have m:1<w.length:=zo;have q:4<w.length:=zo;have A:5<w.length:=zo;have I:6<w.length:=zo;have O:7<w.length:=zo;have n:=xe f;have s:=xe m;have u:=xe q;have J:=xe A;have P:=xe I;have z7:=xe O;have a:mj w=(decide (7522529147838689024<=w.getD 0 0)&&decide (w.getD 0 0<=7522529147838689024+12)&&decide (w.getD 1 0<=2047)&&decide (w.getD 4 0<=2)&&decide (w.getD 5 0=0)&&decide (w.getD 6 0=0)&&decide (w.getD 7 0=0)):=by unfold mj;rw[decide_eq_true i,Z9]
  generalize mj w=hd at *
  generalize w.getD 0 0=a0 at *
  generalize w.getD 1 0=a1 at *
  generalize w.getD 4 0=a4 at *
  generalize w.getD 5 0=a5 at *
  generalize w.getD 6 0=a6 at *
  generalize w.getD 7 0=a7 at *
  by_cases R:7522529147838689024<=a0
  rotate_left
  .have c:(a0:Int)<7522529147838689024:=zo;refine wA (vX g i f n c) ?_;exact fin _ false (by rw[a,decide_eq_false R];rfl) (by simp[zb]) (by simp[zb,zq]) (by simp[zb])
  have c:¬(a0:Int)<7522529147838689024:=zo;rw[decide_eq_true R]at a
  by_cases S:a0<=7522529147838689024+12
  rotate_left
  .have t:(7522529147838689036:Int)<a0:=zo;refine wA (wQ g i f n c t) ?_;exact fin _ false (by rw[a,decide_eq_false S];simp) (by simp[zb]) (by simp[zb,zq]) (by simp[zb])
  have t:¬(7522529147838689036:Int)<a0:=zo;rw[decide_eq_true S]at a
  by_cases T:a1<=2047
  rotate_left
  .have v:(2047:Int)<a1:=zo;refine wA (pZ g i f n c t m s v) ?_;exact fin _ false (by rw[a,decide_eq_false T];simp) (by simp[zb]) (by simp[zb,zq]) (by simp[zb])
  have v:¬(2047:Int)<a1:=zo;rw[decide_eq_true T]at a
  by_cases U:a4<=2
  rotate_left
  .have x:(2:Int)<a4:=zo;refine wA (wP g i f n c t m s v q u x) ?_;exact fin _ false (by rw[a,decide_eq_false U];simp) (by simp[zb]) (by simp[zb,zq]) (by simp[zb])
  have x:¬(2:Int)<a4:=zo;rw[decide_eq_true U]at a
  by_cases b5:a5=0
  rotate_left
  .have B:¬(a5:Int)=0:=zo;refine wA (wP g i f n c t m s v q u (vz x A J B)) ?_;exact fin _ false (by rw[a,decide_eq_false b5];simp) (by simp[zb]) (by simp[zb,zq]) (by simp[zb])
  have B:(a5:Int)=0:=zo;rw[decide_eq_true b5]at a
  by_cases b6:a6=0
  rotate_left
  .have K:¬(a6:Int)=0:=zo;refine wA (wP g i f n c t m s v q u (ww x A J B I P K)) ?_;exact fin _ false (by rw[a,decide_eq_false b6];simp) (by simp[zb]) (by simp[zb,zq]) (by simp[zb])
  have K:(a6:Int)=0:=zo;rw[decide_eq_true b6]at a
  by_cases b7:a7=0
  rotate_left
  .have V:¬(a7:Int)=0:=zo;refine wA (wP g i f n c t m s v q u (kO x A J B I P K O z7 V)) ?_;exact fin _ false (by rw[a,decide_eq_false b7];simp) (by simp[zb]) (by simp[zb,zq]) (by simp[zb])
  have V:(a7:Int)=0:=zo;rw[decide_eq_true b7]at a;refine wA (wP g i f n c t m s v q u (kO x A J B I P K O z7 V)) ?_;exact fin _ true (by rw[a];rfl) (by simp[zb]) (by simp[zb,zq]) (by simp[zb])
 rintro y ⟨e,df,H⟩ ⟨rfl,r,d,h2,rfl,rfl⟩;dsimp only at r d h2;have Y:headB w=false->xD w=.ret (.tuple [vl 0 kN,iv 210]):=fun h=>by unfold xD;rw[if_neg (by rw[h];decide)]
 by_cases a:mj w=true
 rotate_left
 .have a:mj w=false:=by simpa using a
  rw[a]at r j;refine mN r ?_;refine vA h2 ?_;refine vw ?_;(try simp only[xU,b8,gY,bk,l5]);refine yd (vs:=[nq,iv 210]) ?_ ?_
  .simp only[T191,zr,go_sem,h2];rfl
  rw[Y j];exact Dg
 rw[a]at r;refine su r ?_;rw[a,Z9]at j;have M:=a;unfold mj at M;simp only[Zm,decide_eq_true_eq]at M;obtain⟨⟨⟨⟨⟨⟨⟨i,R⟩,S⟩,T⟩,U⟩,_⟩,_⟩,_⟩:=M;obtain⟨lv,D⟩:=DK w;have hN:=II w lv D;rw[<- D]at j;have a8:lv=w.getD 0 0-7522529147838689024:=by rw[D,Ax]
 have N:headB w=true->xD w=.ret (.tuple [vl 0 (headN w),iv 0]):=fun h=>by unfold xD;rw[if_pos h]
 rw[hN]at N;have f:0<w.length:=zo;have m:1<w.length:=zo;have c2:2<w.length:=zo;have c3:3<w.length:=zo;have q:4<w.length:=zo;have n:=xe f;have s:=xe m;have z2:=xe c2;have z3:=xe c3;have u:=xe q;have q0:IntKind.i64.wrap (IntKind.u64.wrap ((w.getD 0 0:Int)-7522529147838689024))=(lv:Int):=by
  rw[wrap_u64 zo zo,wrap_i64 zo zo];omega
 have a9:IntKind.u64.wrap ((w.getD 0 0:Int)-7522529147838689024)=(lv:Int):=by
  rw[wrap_u64 zo zo];omega
 have bp:lv<=12:=zo;clear D a8 a r;have ab:List.drop 8 (List.map uv w)=(w.drop 8).map uv:=by rw[Z1]
 have ad:=Bt p (w.getD 3 0) (w.drop 8) (by rw[ZX];omega);have bb:(w.drop 8).length=56:=by rw[ZX];omega
 have Z:8<=w.length:=zo;generalize w.getD 0 0=a0 at *
 generalize w.getD 1 0=a1 at *
 generalize w.getD 2 0=a2 at *
 generalize w.getD 3 0=a3 at *
 generalize w.getD 4 0=a4 at *
 refine vR ?_;refine vW (wP d h2 f m c2 c3 q n s z2 z3 (vh u q0 a9)) ?_;refine vj d ?_;have stop:∀(e:Nat->PV) (H:LP) (o:za) (k:vn->Prop),headB w=false->e 2=.ptr 0 0 0 0 6->H=[za.row 143 6 0 0 [nq],o]->W ET ET.caught none (.seq (.region [⟨some 90,.build [.int .i64 0,.int .i64 0,.int .u64 0,.int .u64 0,.int .i64 0,.nilsl] [],[],none⟩,⟨none,.store 6,[.tmp 2,.tmp 90],none⟩,⟨some 3,.mov,[.const (.int .i64 210)],none⟩]) .ret) ⟨e,[],H⟩ (xU k (yG ET T191 fun e' H=>ve H 0 e' (xD w))):=fun e H o k l h2 hH=>by
  subst hH;refine vA h2 ?_;refine vw ?_;(try simp only[xU,b8,gY,bk,l5]);refine yd (vs:=[nq,iv 210]) ?_ ?_
  .simp only[T191,zr,go_sem,h2];rfl
  rw[Y l];exact Dg
 have ah:nZ lv a3=true->a3≠0:=fun h=>by
  unfold nZ at h;simp only[zEC9,Zm,decide_eq_true_eq,nS]at h;omega
 have av:a3≠0->wO a3 (w.drop 8)=vG a3 (w.drop 8):=fun h=>by
  unfold wO;rw[if_pos (by unfold w9;rw[bb];simp[h])]
 by_cases L:lv=0
 .have c:(lv:Int)=0:=zo;have G:¬(0:Int)<(lv:Int):=zo
  by_cases he:a3=9223372036854775808
  rotate_left
  .have X:¬(a3:Int)=9223372036854775808:=zo;refine zB ?_;refine vC (vh c G X) ?_;refine uQ ?_;refine stop _ _ ?bs _ ?BG ?bm ?kG
   case kG=>rfl
   case BG=>rw[j];simp[nZ,L,he]
   case bm=>simp[zb,h2]
  have X:(a3:Int)=9223372036854775808:=zo;have C:nZ lv a3=true:=by unfold nZ;simp[L,he]
  rw[C]at j;rw[N j,av (ah C)];refine zB ?_;refine vC (vh c G X) ?_;refine uq ?_;refine vY ?_;refine vR ?_;refine wF (vz d h2 ab Z) ad ?_;refine vW (zj d h2) ?_;refine kM d ?_;refine wY ?_;simp only[go_sem];refine vA h2 ?_;refine vw ?_;(try simp only[xU,b8,gY,bk,l5]);refine yd (vs:=?_) ?_ ?_;rotate_left
  .simp only[T191,zr,go_sem,h2];rfl
  exact ze.tL ⟨ze.aggL ⟨(by subst L;exact .int _ _),.int _ _,.int _ _,.int _ _,.int _ _,.list _ _ _,trivial⟩,.int _ _,trivial⟩
 .have c:¬(lv:Int)=0:=zo;have G:(0:Int)<(lv:Int):=zo;refine yv ?_;refine vS (zj c G) ?_;refine vo (GI a3) ?_
  by_cases l:xN a3=true
  rotate_left
  .have l:xN a3=false:=by simpa using l
   rw[l];refine zN ?_;refine uQ ?_;refine stop _ _ ?bw _ ?E3 ?bo ?wH
   case wH=>rfl
   case E3=>rw[j];simp[nZ,L,l]
   case bo=>simp[zb,h2]
  have C:nZ lv a3=true:=by unfold nZ;rw[l];simp;omega
  rw[C]at j;rw[N j,av (ah C),l];refine zN ?_;refine uq ?_;refine vY ?_;refine vR ?_;refine wF (vz d h2 ab Z) ad ?_;refine vW (zj d h2) ?_;refine kM d ?_;refine wY ?_;simp only[go_sem];refine vA h2 ?_;refine vw ?_;(try simp only[xU,b8,gY,bk,l5]);refine yd (vs:=?_) ?_ ?_;rotate_left
  .simp only[T191,zr,go_sem,h2];rfl
  exact vN


theorem JH(n:zi)(q:Pr):wR n q=(fh n.level q.2 && !decide (q.1<n.low) && !(decide (0<n.level)&&decide (q.1=n.low))):=by
 unfold wR fh
 grind
theorem DW(h:headB w=false):xD w=.ret (.tuple [vl 0 kN,iv 210]):=by unfold xD;grind
theorem PG(w:LN)(hO:FR 191 [wv p w] (.tuple [vl 0 kN,iv 210])):FR 173 [wv p w] (iv (210:Nat)):=by
 refine zn (eG T173 func173) (.int _ _) ?_;refine wl hO ?_;refine zS ?_;refine zO ?_;exact ze.int _ _
def lQ(n:zi)(sc:Nat):Nat:=if(decide (sc=0) && !(n.pairs.any fun q=>!wR n q))=true then 0 else 190
theorem PF(w:LN)(n:zi)(sc:Nat)(hwl:w.length=64)(hpl:n.pairs.length<=28)(hO:FR 191 [wv p w] (.tuple [vl 0 n,iv 0]))(hC:FR 231 [uv n.left,wv p (w.drop 8)] (iv (sc:Nat))):FR 173 [wv p w] (iv (lQ n sc:Nat)):=by
 refine zn (eG T173 func173) (.int _ _) ?_;refine wI ?_;have x:List.drop 8 (List.map uv w)=(w.drop 8).map uv:=by rw[Z1]
 have v:8<=w.length:=zo;refine wD hO ?_;refine zT ?_;refine vY ?_;obtain⟨ok,r⟩:∃ok,ok=(decide (sc=0) && !(n.pairs.any fun q=>!wR n q)):=⟨_,rfl⟩
 have z:lQ n sc=if ok=true then 0 else 190:=by unfold lQ;rw[r]
 have bad:∀H,ok=false->ve H 0 (.ret (iv 190)) (.ret (iv (lQ n sc:Nat))):=fun H h=>by rw[z,h];exact ze.int _ _
 refine vR ?_
 by_cases L:sc=0
 rotate_left
 .have g:¬(sc:Int)=0:=zo;refine wF (zj x v) hC ?_;refine vj g ?_;refine wn ?_ ?_;rotate_left
  .intro h;simp at h
  intro _;refine zO ?_;exact bad _ (by grind)
 have g:(sc:Int)=0:=zo;rw[decide_eq_true L,Z9]at r;refine wF (zj x v) hC ?_;refine vj g ?_;refine wn ?_ ?_
 .intro h;simp at h
 intro _;refine vY ?_;refine zG ?_;refine vm (vy (fun m s=>∃(i:Nat) (G:LP),m=n.pairs.length-i/\i<=n.pairs.length/\ok=!((n.pairs.drop i).any fun q=>!wR n q)/\s.tm 3=.ptr 0 0 0 0 6/\s.tm 5=iv i/\s.df=[]/\s.H=.row 143 6 0 0 [vl 0 n]::G) (n:=n.pairs.length) ?_ ?_)
 .exact⟨0,_,rfl,Zn _,r,zt,zt,rfl,rfl⟩
 .rintro m ⟨M,N,H⟩ ⟨i,G,rfl,hi,hp,h3,a,rfl,rfl⟩;dsimp only at h3 a;refine vu (zj h3 a) ?_ ?_;rotate_left
  .intro b;have b:¬i<n.pairs.length:=vL b;obtain rfl:i=n.pairs.length:=zo;refine zO ?_;rw[ZS]at hp;rw[z,hp];exact ze.int _ _
  intro b;have b:i<n.pairs.length:=vM b;obtain⟨q,B⟩:=wX (l:=n.pairs) b;have D:(n.pairs.map pv)[i]?=some (pv q):=vU B;have I:n.pairs.drop i=q::n.pairs.drop (i+1):=pX B;rw[I,zER9]at hp;have c:=JH n q;have J:=Lh n.level q.2;refine vD ?_;refine yv ?_;refine wN (vz h3 a D b) ?_;refine zB ?_;refine ur (Q:=fun y e=>y=.norm/\e.tm 57=.bool (!wR n q)/\e.tm 3=.ptr 0 0 0 0 6/\e.tm 5=iv i/\e.df=[]/\∃G,e.H=.row 143 6 0 0 [vl 0 n]::G) (wa ?_) ?_
  .generalize wR n q=mq at *
   refine vS (zj h3 a) ?_;refine vo J ?_
   cases j:fh n.level q.2 with
   | false =>
    refine wA (zj h3 a) ?_;exact⟨rfl,by rw[c,j];simp[zb],zu h3,zu a,rfl,_,rfl⟩
   | true =>
    by_cases k:q.1<n.low
    .have f:(q.1:Int)<n.low:=zo;refine wA (vh h3 a f) ?_;exact⟨rfl,by rw[c,decide_eq_true k];simp[zb],zu h3,zu a,rfl,_,rfl⟩
    have f:¬(q.1:Int)<n.low:=zo
    by_cases t:0<n.level
    rotate_left
    .have o:¬(0:Int)<n.level:=zo;refine wA (vz h3 a f o) ?_;exact⟨rfl,by rw[c,j,decide_eq_false k,decide_eq_false t];simp[zb],zu h3,zu a,rfl,_,rfl⟩
    have o:(0:Int)<n.level:=zo
    by_cases C:q.1=n.low
    .have u:(q.1:Int)=n.low:=zo;have K:¬(n.low:Int)<n.low:=zo;refine wA (wQ h3 a f K o u) ?_;exact⟨rfl,by rw[c,j,decide_eq_false k,decide_eq_true t,decide_eq_true C];simp[zb],zu h3,zu a,rfl,_,rfl⟩
    .have u:¬(q.1:Int)=n.low:=zo;refine wA (vX h3 a f o u) ?_;exact⟨rfl,by rw[c,j,decide_eq_false k,decide_eq_true t,decide_eq_false C];simp[zb],zu h3,zu a,rfl,_,rfl⟩
  clear h3 a;rintro y ⟨M,N,H⟩ ⟨rfl,d,h3,a,rfl,G,rfl⟩;dsimp only at d h3 a
  cases A:wR n q with
  | false =>
   rw[A]at d hp;refine mN d ?_;refine zO ?_;exact bad _ (by grind)
  | true =>
   rw[A]at d hp;refine cA d ?_;refine wK ?_;refine vp a ?_;refine⟨_,?O,i+1,_,rfl,b,hp,zu h3,zu a,rfl,rfl⟩;omega
theorem tw(w:LN)(hw:vE w.length):FR 173 [wv p w] (iv (wd w:Nat)):=by
 have b:=fc p w hw
 by_cases a:headB w=true
 rotate_left
 .have a:headB w=false:=by simpa using a
  rw[DW a]at b;have:=PG p w b;have e:wd w=210:=by unfold wd;rw[if_neg (by omega)]
  grind
 rw[ba _ a]at b;have c:w.length=64:=by unfold headB at a;simp only[Zm,decide_eq_true_eq]at a;exact a.1.1
 have d:=GZ p (headN w).left (w.drop 8) (by grind);have:=PF p w (headN w) _ c (yM w) b d;have e:wd w=lQ (headN w) (uf (headN w).left (w.drop 8)):=by unfold wd;rw[if_pos a];unfold gL lQ;rfl
 grind
def xz(w:LN)(x:Pr):Nat:=if wd w=0 then(if wR (headN w) x=true then 0 else 2)else wd w
variable (p:Nat)(a:Int)(key:Nat)(l:LJ)(w:LN)(x:Pr)(c:Nat)(n:zi)
theorem P4(hc:¬c=0)(hC:FR 173 [wv p w] (iv (c:Nat))):FR 153 [wv p w,pv x] (iv (c:Nat)):=by
 refine zn (eG T153 func153) (.int _ _) ?_;refine wl hC ?_;have g:¬(c:Int)=0:=zo;refine wB g ?_;refine zO ?_;exact ze.int _ _
theorem P3(hC:FR 173 [wv p w] (iv (0:Nat)))(hO:FR 191 [wv p w] (.tuple [vl 0 n,iv 0])):FR 153 [wv p w,pv x] (iv ((if wR n x=true then 0 else 2:Nat))):=by
 refine zn (eG T153 func153) (.int _ _) ?_;have a:=JH n x;have m:=Lh n.level x.2;obtain⟨co,b⟩:∃co:Nat,co=if wR n x=true then 0 else 2:=⟨_,rfl⟩
 rw[<- b];refine wl hC ?_;refine zT ?_;refine vY ?_;refine zM hO ?_;refine zB ?_;refine ur (Q:=fun y k=>y=.norm/\k.tm 42=.bool (!wR n x)/\k.df=[]) (wa ?_) ?_
 .generalize wR n x=mq at *
  refine wq ?_;refine vo m ?_
  cases e:fh n.level x.2 with
  | false =>
   refine zK ?_;exact⟨rfl,by rw[a,e];simp[zb],rfl⟩
  | true =>
   by_cases f:x.1<n.low
   .have d:(x.1:Int)<n.low:=zo;refine wA d ?_;exact⟨rfl,by rw[a,decide_eq_true f];simp[zb],rfl⟩
   have d:¬(x.1:Int)<n.low:=zo
   by_cases h:0<n.level
   rotate_left
   .have g:¬(0:Int)<n.level:=zo;refine wA (zj d g) ?_;exact⟨rfl,by rw[a,e,decide_eq_false f,decide_eq_false h];simp[zb],rfl⟩
   have g:(0:Int)<n.level:=zo
   by_cases l:x.1=n.low
   .have i:(x.1:Int)=n.low:=zo;have o:¬(n.low:Int)<n.low:=zo;refine wA (vz d o g i) ?_;exact⟨rfl,by rw[a,e,decide_eq_false f,decide_eq_true h,decide_eq_true l];simp[zb],rfl⟩
   .have i:¬(x.1:Int)=n.low:=zo;refine wA (vh d g i) ?_;exact⟨rfl,by rw[a,e,decide_eq_false f,decide_eq_true h,decide_eq_false l];simp[zb],rfl⟩
 rintro y ⟨q,r,H⟩ ⟨rfl,c,rfl⟩;dsimp only at c
 cases j:wR n x with
 | false =>
  rw[j]at c b;refine mN c ?_;refine zO ?_;rw[b];exact ze.int _ _
 | true =>
  rw[j]at c b;refine su c ?_;refine zO ?_;rw[b];exact ze.int _ _
theorem P5(hw:vE w.length):FR 153 [wv p w,pv x] (iv (xz w x:Nat)):=by
 have b:=tw p w hw;have c:=fc p w hw;unfold xz
 by_cases a:wd w=0
 .rw[if_pos a];rw[ba _ (n8 a)]at c;rw[a]at b;exact P3 p w x _ b c
 .rw[if_neg a];exact P4 p w x _ a b
def mJ(w:LN)(v:Nat):LJ:=if w.getD 4 0=v then[]else[(4,v)]
theorem YZ(v:Nat)(hw:4<w.length)(H:LP):FO ET 155 [wv p w,uv v] H false fun e H'=>∃(g:Nat) (G:LP),e=.ret (.sl H.length g 0 (mJ w v).length (2*(mJ w v).length) 2)/\H'=H++.row 120 2 g 0 ((mJ w v).map vd)::G:=by
 refine wS (eG T155 func155) ?_;have b:=xe hw;unfold mJ;generalize w.getD 4 0=a at *
 refine zG ?_
 by_cases h:a=v
 .have g:(a:Int)=v:=zo;rw[if_pos h];refine wB (vh hw b g) ?_;refine zG ?_;refine yD 120 2 (i:=4) rfl ?_;simp only[uF];refine vw (wo ?_)
  simp_all
 .have g:¬(a:Int)=v:=zo;rw[if_neg h];refine xH (vh hw b g) ?_;refine vY ?_;refine zO ?_
  simp_all
def y7(l:LJ):LJ:=l.map fun x=>(x.1+8,x.2)
theorem UV(hl:l.length<1000000)(hat:∀x∈l,x.1<1000000):FR 156 [.list p 2 (l.map vd)] (.list 0 2 ((y7 l).map vd)):=by
 refine zn (eG T156 func156) (my _) ?_;refine zG ?_;refine yD 120 2 (i:=3) rfl ?_;simp only[uF,Zz,ZA];refine vm (vy (fun m s=>∃(i:Nat) (V:LQ) (G:LP),m=l.length-i/\i<=l.length/\V=(y7 (l.take i)).map vd/\s.tm 0=.list p 2 (l.map vd)/\s.tm 3=.sl 0 V.length 0 V.length (2*V.length) 2/\s.tm 4=iv i/\s.df=[]/\s.H=.row 120 2 V.length 0 V::G) (n:=l.length) ?_ ?_)
 .exact⟨0,[],_,rfl,Zn _,rfl,zt,zt,zt,rfl,rfl⟩
 .rintro m ⟨tm,df,H⟩ ⟨i,V,G,rfl,hi,hV,h0,h3,h4,rfl,rfl⟩;dsimp only at h0 h3 h4;have h:V.length=i:=by rw[hV];simp[y7];omega
  refine vu (zj h0 h4) ?_ ?_
  .intro a;have a:i<l.length:=vM a;obtain⟨q,b⟩:=wX (l:=l) a;have d:(l.map vd)[i]?=some (vd q):=vU b;have j:=hat q (Zj b);have e:IntKind.i64.wrap ((q.1:Int)+8)=((q.1+8:Nat):Int):=wx;have f:(V.length+1)*17<=140737488355328:=zo;refine vD ?_;refine vR ?_;refine vW (ww h0 h3 h4 d a e f) ?_;refine vj h0 ?_;refine vp h4 ?_;refine⟨_,?g,i+1,V++[vd (q.1+8,q.2)],?G2,rfl,a,(by rw[ZE,b,hV];simp[y7]),zu h0,zt,zu h4,zt,?H⟩
   case g=>omega
   case H=>(try dsimp only);rw[Zl];rfl
  .intro a;have a:¬i<l.length:=vL a;obtain rfl:i=l.length:=zo;refine wm h3 ?_;rw[ZL]at hV;rw[<- hV];exact ze.wh rfl rfl rfl (Zi _) (fun v c=>by rw[hV]at c;obtain⟨x,_,rfl⟩:=Zu.1 c;rfl) (by rw[hV];exact mf)


theorem Na(l:LJ)(i:Nat):∀m,(xq l i m).length<=2*m/\∀x∈xq l i m,x.1<=2*m+1
 | 0=>⟨Zi _,fun x a=>by simp[xq]at a⟩
 | m+1=>by
  obtain⟨h1,h2⟩:=Na l i m;rw[xq]
  grind
theorem XD{w:LN}{x:Pr}(h:(uk left w x).2=0):0<(uk left w x).1.length/\(uk left w x).1.length<=1000/\∀y∈(uk left w x).1,y.1<1000:=by
 unfold uk at h⊢
 by_cases a:uW left w x=0
 rotate_left
 .grind
 rw[if_pos a]at h⊢;obtain⟨c,_⟩:=Bn a;have e:=EZ c
 by_cases d:yq (vG left w) x.1=true
 .grind
 rw[if_neg d]at h⊢
 split at h
 .cases h
 rename_i b;rw[if_neg b];have f:=BF (vG left w) x.1;generalize vG left w=L at *
 generalize yI L x.1=i at *
 have g:=Na L i L.length;unfold dH
 grind
def mc(w:LN)(v:Nat)(no:Nat)(r:LJ×Nat):LJ×Nat:=if no=0 then(if r.2=0 then(mJ w v++y7 r.1,0)else([],r.2))else([],no)
def wj(w:LN)(x:Pr):LJ×Nat:=mc w 1 (xz w x) (uk (w.getD 3 0) (w.drop 8) x)
theorem Hh{w:LN}{x:Pr}(h:xz w x=0):wd w=0:=by
 unfold xz at h
 split at h
 .assumption
 .rename_i h2;exact absurd h h2
theorem JO{w:LN}(h:wd w=0):w.length=64:=by
 have:=n8 h;unfold headB at this
 grind
theorem Ri{id g:Nat}{A B:LJ}{n q:Nat}(hH:H[id]?=some (.row 120 2 g 0 (A.map vd++B.map vd)))(hn:n=A.length+B.length)(hq:2*(A.length+B.length)<=q):ze H 0 (.sl id g 0 n q 2) (.list 0 2 ((A++B).map vd)):=by
 rw[<- ZG]at hH;refine ze.wh hH rfl (by grind) (by grind) uG mf
theorem Es(hw:vE w.length):FR 102 [wv p w,pv x] (.tuple [.list 0 2 ((wj w x).1.map vd),iv ((wj w x).2:Nat)]):=by
 refine zn (eG T102 func102) (Lb.two (my _) (.int _ _)) ?_;have b:=P5 p w x hw;unfold wj mc
 by_cases a:xz w x=0
 rotate_left
 .rw[if_neg a];have g:¬(xz w x:Int)=0:=zo;generalize xz w x=c at *
  refine wl b ?_;refine wB g ?_;refine zO ?_;exact vN
 rw[if_pos a];rw[a]at b;have h:=JO (Hh a);have j:=Wc p (w.getD 3 0) (w.drop 8) x (by grind);have i:=XD (left:=w.getD 3 0) (w:=w.drop 8) (x:=x);have m:List.drop 8 (List.map uv w)=(w.drop 8).map uv:=by rw[Z1]
 have l:8<=w.length:=zo;have k:3<w.length:=zo;have o:=xe k;generalize w.getD 3 0=a3 at *
 generalize uk a3 (w.drop 8) x=r at *
 obtain⟨L,d⟩:=r;dsimp only at j i⊢;refine wl b ?_;refine zT ?_;refine vY ?_;refine vR ?_;refine wF (vz k o m l) j ?_;refine vj h ?_
 by_cases f:d=0
 rotate_left
 .rw[if_neg f];have g:¬(d:Int)=0:=zo;refine wB g ?_;refine zO ?_;exact vN
 rw[if_pos f];have g:(d:Int)=0:=zo;obtain⟨v,z,B⟩:=i f;refine xH g ?_;refine vY ?_;refine zI ?_;refine wW (YZ p w 1 zo [.row 92 2 0 0 [pv x]]) ?_ (by first|rfl|(simp only[go_sem,h]<;>rfl)) (by simp only[go_sem]<;>rfl);rintro e H' ⟨C,G,rfl,rfl⟩;have q:=UV 0 L zo (fun y D=>by grind);have u:(y7 L).length=L.length:=by unfold y7;rw[ZB]
 have t:(mJ w 1).length<=1:=by unfold mJ;split<;>simp
 have n:¬(y7 L).length=0:=zo;have s:((mJ w 1).length+(y7 L).length)*17<=140737488355328:=zo;generalize y7 L=M at *
 generalize mJ w 1=A at *
 refine wq ?_;refine vo q ?_;refine xf (zj n s) ?_;refine ze.tL ⟨Ri rfl ?_ ?_,.int _ _,trivial⟩
 .rfl
 .omega
def pB(left:Nat)(l:LJ)(key:Nat):Nat:=l.foldl (fun a q=>if q.1<=key then q.2 else a) left
def yN(w:LN)(key:Nat):Nat×Nat:=if wd w=0 then(if(headN w).level=0 then(0,2)else(pB (headN w).left (headN w).pairs key,0))else(0,wd w)
theorem Dw(key:Nat):∀left,pB left l key=left\/∃q∈l,pB left l key=q.2:=by
 induction l with
 | nil=>exact fun left=>.inl rfl
 | cons a l b =>
  intro left;have h:=b (if a.1<=key then a.2 else left);have e:pB left (a::l) key=pB (if a.1<=key then a.2 else left) l key:=rfl
  grind
theorem I0{l:LJ}{key:Nat}(h:∀x∈(0,left)::l,x.2<2048):pB left l key<2048:=by
 rcases Dw l key left with e|⟨q,a,e⟩
 .simp_all
 grind
theorem PM(hc:¬c=0)(hC:FR 173 [wv p w] (iv (c:Nat))):FR 152 [wv p w,uv key] (.tuple [iv 0,iv (c:Nat)]):=by
 refine zn (eG T152 func152) (Lb.two (.int _ _) (.int _ _)) ?_;refine wl hC ?_;have g:¬(c:Int)=0:=zo;refine wB g ?_;refine zO ?_;exact vN
theorem PL(hpl:n.pairs.length<=28)(hk:0<n.level->∀x∈(0,n.left)::n.pairs,x.2<2048)(hC:FR 173 [wv p w] (iv (0:Nat)))(hO:FR 191 [wv p w] (.tuple [vl 0 n,iv 0])):FN ET 152 [wv p w,uv key] (if n.level=0 then .ret (.tuple [iv 0,iv 2])else .ret (.tuple [iv (pB n.left n.pairs key:Nat),iv 0])):=by
 refine zn (eG T152 func152) ?_ ?_
 .split<;>exact Lb.two (.int _ _) (.int _ _)
 refine wl hC ?_;refine zT ?_;refine vY ?_;refine zM hO ?_
 by_cases f:n.level=0
 .have g:(n.level:Int)=0:=zo;rw[if_pos f];refine wB g ?_;refine zO ?_;exact vN
 have g:¬(n.level:Int)=0:=zo;have j:=I0 (key:=key) (hk zo);rw[if_neg f];refine xH g ?_;refine vY ?_;refine zG ?_;refine vm (vy (fun m s=>∃(i a:Nat),m=n.pairs.length-i/\i<=n.pairs.length/\pB n.left n.pairs key=pB a (n.pairs.drop i) key/\s.tm 1=uv key/\s.tm 7=.ptr 0 0 0 0 6/\s.tm 9=uv a/\s.tm 10=iv i/\s.df=[]/\s.H=[.row 143 6 0 0 [vl 0 n]]) (n:=n.pairs.length) ?_ ?_)
 .exact⟨0,n.left,rfl,Zn _,rfl,zt,zt,zt,zt,rfl,rfl⟩
 .rintro m ⟨tm,df,H⟩ ⟨i,a,rfl,hi,hka,h1,h7,h9,h10,rfl,rfl⟩;dsimp only at *
  refine vu (zj h7 h10) ?_ ?_
  .intro b;have b:i<n.pairs.length:=vM b;obtain⟨q,h⟩:=wX (l:=n.pairs) b;have c:(n.pairs.map pv)[i]?=some (pv q):=vU h;have k:n.pairs.drop i=q::n.pairs.drop (i+1):=pX h;rw[k]at hka;change _=pB (if q.1<=key then q.2 else a) _ key at hka;refine vD ?_
   by_cases e:q.1<=key
   .have d:(q.1:Int)<=key:=zo;rw[if_pos e]at hka;refine zB ?_;refine vC (wQ h1 h7 h10 c b d) ?_;refine uQ ?_;refine vp (vz h7 h10 c b) ?_;refine vp h10 ?_;refine⟨_,?r,i+1,q.2,rfl,b,hka,zu h1,zu h7,zt,zu h10,zt,zt⟩;omega
   .have d:¬(q.1:Int)<=key:=zo;rw[if_neg e]at hka;refine zB ?_;refine vC (wQ h1 h7 h10 c b d) ?_;refine zH ?_;refine vp h10 ?_;refine⟨_,?t,i+1,a,rfl,b,hka,zu h1,zu h7,zu h9,zu h10,zt,zt⟩;omega
  .intro b;have b:¬i<n.pairs.length:=vL b;obtain rfl:i=n.pairs.length:=zo;rw[ZS]at hka;change _=a at hka;rw[hka]at j⊢;have o:IntKind.i64.wrap (a:Int)=(a:Int):=wx;refine wm (zj h9 o) ?_;exact vN
theorem PN(hw:vE w.length):FR 152 [wv p w,uv key] (.tuple [iv ((yN w key).1:Nat),iv ((yN w key).2:Nat)]):=by
 have b:=tw p w hw;have d:=fc p w hw;unfold yN
 by_cases a:wd w=0
 .rw[if_pos a];rw[ba _ (n8 a)]at d;rw[a]at b;have h:=PL p key w _ (yM w) (fun e x c=>by
   rcases ZD.1 c with rfl|c
   .exact o8 a e ((headN w).low,(headN w).left) (Zr ..)
   .exact o8 a e x (Zo _ c)) b d
  by_cases f:(headN w).level=0
  .rw[if_pos f]at h⊢;exact h
  .rw[if_neg f]at h⊢;exact h
 .rw[if_neg a];exact PM p key w _ a b


theorem Lb.three{a b c:PV}(ha:Lb a)(hb:Lb b)(hc:Lb c):Lb (.tuple [a,b,c]):=.tuple fun v d=>by grind
def vF(n:zi):zi:=⟨n.level,n.sib,(n.pairs.getD (n.pairs.length/2) (0,0)).1,(if 0<n.level then(n.pairs.getD (n.pairs.length/2) (0,0)).2 else 9223372036854775808),0,(if 0<n.level then n.pairs.drop (n.pairs.length/2+1)else n.pairs.drop (n.pairs.length/2))⟩
def yF(m:Nat):Nat->LJ
 | 0=>[]
 | k+1=>if m<=k then(9+2*k,0)::yF m k else[]
def yh(n:zi)(a:Nat):LJ:=(1,a)::yF (n.pairs.length/2) n.pairs.length
def nC(n:zi)(a:Int):Bool:=decide (1<=a)&&decide (a<=2047)&&decide (2<=n.pairs.length)
def pR(n:zi)(a:Int):FE:=if nC n a=true then .ret (.tuple [wv 0 (vI (vF n)),.list 0 2 ((yh n a.toNat).map vd),iv 0])else .ret (.tuple [wv 0 [],.list 0 2 (([]:LJ).map vd),iv 2])
theorem da(c:Int):ze H 0 (.tuple [.nilsl,.nilsl,iv c]) (.tuple [wv 0 [],.list 0 2 (([]:LJ).map vd),iv c]):=ze.tL ⟨.nil _ _,.nil _ _,.int _ _,trivial⟩
theorem Yi(hc:¬c=0)(hC:FR 173 [wv p w] (iv (c:Nat))):FR 157 [wv p w,iv a] (.tuple [wv 0 [],.list 0 2 (([]:LJ).map vd),iv (c:Nat)]):=by
 refine zn (eG T157 func157) (Lb.three (Lb.uvs _) (my _) (.int _ _)) ?_;refine wl hC ?_;have g:¬(c:Int)=0:=zo;refine wB g ?_;refine zO ?_;exact da _
theorem Yh(h12:n.level<=12)(hsb:n.sib<2048)(hpl:n.pairs.length<=28)(hC:FR 173 [wv p w] (iv (0:Nat)))(hO:FR 191 [wv p w] (.tuple [vl 0 n,iv 0])):FN ET 157 [wv p w,iv a] (pR n a):=by
 refine zn (eG T157 func157) ?_ ?_
 .unfold pR;split<;>exact Lb.three (Lb.uvs _) (my _) (.int _ _)
 refine wl hC ?_;refine zT ?_;refine vY ?_;refine zM hO ?_;have l:nC n a=false->pR n a=.ret (.tuple [wv 0 [],.list 0 2 (([]:LJ).map vd),iv 2]):=fun h=>by unfold pR;grind
 by_cases o:a<1
 .refine wB o ?_;refine zO ?_;rw[l (by unfold nC;grind)];exact da _
 by_cases z:2047<a
 .refine wB (zj o z) ?_;refine zO ?_;rw[l (by unfold nC;grind)];exact da _
 by_cases b3:n.pairs.length<2
 .have A:(n.pairs.length:Int)<2:=zo;refine wB (vh o z A) ?_;refine zO ?_;rw[l (by unfold nC;grind)];exact da _
 have A:¬(n.pairs.length:Int)<2:=zo;have I:pR n a=.ret (.tuple [wv 0 (vI (vF n)),.list 0 2 ((yh n a.toNat).map vd),iv 0]):=by
  unfold pR;rw[if_pos (by unfold nC;grind)]
 rw[I];clear l I;obtain⟨b,rfl⟩:∃b:Nat,a=b:=⟨a.toNat,by omega⟩
 rw[Z4];have M:IntKind.i64.wrap ((n.pairs.length:Int).tdiv 2)=((n.pairs.length/2:Nat):Int):=by rw[IntWalk.i64_quo _ _ zo];omega
 refine xH (vz o z A M) ?_;refine vY ?_;refine vA M ?_;have e:n.pairs.length/2<n.pairs.length:=zo;have u:(n.pairs.map pv)[n.pairs.length/2]?=some (pv (n.pairs.getD (n.pairs.length/2) (0,0))):=by rw[Zt,get_lt _ e];rfl
 have U:List.drop (n.pairs.length/2) (n.pairs.map pv)=(n.pairs.drop (n.pairs.length/2)).map pv:=by rw[Z1]
 have J:List.drop (n.pairs.length/2+1) (n.pairs.map pv)=(n.pairs.drop (n.pairs.length/2+1)).map pv:=by rw[Z1]
 have ab:n.pairs.length/2<=14:=zo;have N:=Fp 0 (vF n) h12 hsb (Zn _) (by
  show (if 0<n.level then n.pairs.drop (n.pairs.length/2+1)else n.pairs.drop (n.pairs.length/2)).length<=27
  grind)
 have K:yh n b=(1,b)::yF (n.pairs.length/2) n.pairs.length:=rfl;rw[K];have L:vl 0 (vF n)=.agg [iv n.level,iv n.sib,uv (n.pairs.getD (n.pairs.length/2) (0,0)).1,uv (if 0<n.level then(n.pairs.getD (n.pairs.length/2) (0,0)).2 else 9223372036854775808:Nat),iv 0,vJ 0 (if 0<n.level then n.pairs.drop (n.pairs.length/2+1)else n.pairs.drop (n.pairs.length/2))]:=rfl;rw[L]at N;generalize vI (vF n)=LW at *
 clear K L;have T:n.pairs.length/2<=n.pairs.length:=zo;have C:n.pairs.length/2+1<=n.pairs.length:=zo;generalize ad:n.pairs.length/2=m at *
 generalize n.pairs.getD m (0,0)=y at *
 refine vR ?_;refine vW (vz e u U T) ?_;refine kM e ?_;refine wY ?_;simp only[go_sem];refine vq (ur (Q:=fun O i=>O=.norm/\i.tm 1=iv b/\i.tm 8=.ptr 0 0 0 0 6/\i.tm 10=iv m/\i.tm 11=.ptr 1 0 0 0 6/\i.df=[]/\i.H=[.row 143 6 0 0 [vl 0 n],.row 143 6 0 0 [.agg [iv n.level,iv n.sib,uv y.1,uv (if 0<n.level then y.2 else 9223372036854775808:Nat),iv 0,vJ 0 (if 0<n.level then n.pairs.drop (m+1)else n.pairs.drop m)]]]) ?_ ?_)
 .by_cases r:0<n.level
  .have g:(0:Int)<n.level:=zo;rw[if_pos r,if_pos r];have P:(m:Int)+1=((m+1:Nat):Int):=zo;refine wB g ?_;refine vR ?_;refine vW (vX e u P J C) ?_;refine vW (vX e u P J C) ?_;refine kM e ?_;refine wY ?_;simp only[go_sem]
  .have g:¬(0:Int)<n.level:=zo;rw[if_neg r,if_neg r];refine kp g ?_;exact⟨rfl,zt,zt,zt,zt,rfl,rfl⟩
 rintro O ⟨Z,df,H⟩ ⟨rfl,h1,R,c,f,rfl,rfl⟩;dsimp only at *
 have w1:IntKind.u64.wrap (b:Int)=(b:Int):=ku;refine vA (vh h1 R w1) ?_;generalize X:PV.agg [iv n.level,iv n.sib,uv y.1,uv (if 0<n.level then y.2 else 9223372036854775808:Nat),iv 0,vJ 0 (if 0<n.level then n.pairs.drop (m+1)else n.pairs.drop m)]=NV at *
 generalize hD:(1,b)::yF m n.pairs.length=D;refine vm (vy (fun k s=>∃(V:LQ) (g:Nat) (G:LP),m<=k/\k<=n.pairs.length/\V.length<=1+(n.pairs.length-k)/\D.map vd=V++(yF m k).map vd/\s.tm 10=iv m/\s.tm 11=.ptr 1 0 0 0 6/\s.tm 12=.sl 2 g 0 V.length (2*V.length) 2/\s.tm 13=iv ((k:Int)-1)/\s.df=[]/\s.H=.row 143 6 0 0 [vl 0 n]::.row 143 6 0 0 [NV]::.row 120 2 g 0 V::G) (n:=n.pairs.length) ?_ ?_)
 .exact⟨[vd (1,b)],0,[],by omega,Zi _,by simp,by grind,zu c,zu f,zt,zt,rfl,rfl⟩
 .clear h1 R c f;rintro k ⟨Z,df,H⟩ ⟨V,g,G,ah,av,a0,j,c,f,t,d,rfl,rfl⟩;dsimp only at c f t d
  by_cases hk:m<k
  .obtain⟨q,rfl⟩:∃q,k=q+1:=⟨k-1,by omega⟩
   rw[show ((q+1:Nat):Int)-1=(q:Nat) by omega]at d;rw[yF,if_pos zo]at j;have B:(m:Int)<=(q:Nat):=zo;have w2:IntKind.i64.wrap (2*(q:Int))=((2*q:Nat):Int):=wx;have w3:IntKind.i64.wrap (9+((2*q:Nat):Int))=((9+2*q:Nat):Int):=wx;have hb:(V.length+1)*17<=140737488355328:=zo;refine vu (vh c d B) ?_ ?_
   .intro _;refine vD ?_;refine vp (vX t d w2 w3 hb) ?_;refine vp d ?_;refine⟨q,Z5 _,V++[vd (9+2*q,0)],g+1,?G2,by omega,by omega,by grind,(by grind),zu c,zu f,zt,zu d,zt,?H⟩
    case H=>rfl
   .intro h;cases h
  .obtain rfl:k=m:=zo;have B:¬(k:Int)<=(k:Int)-1:=zo;have Y:yF k k=[]:=by cases k with
    | zero=>rfl
    | succ q=>rw[yF,if_neg zo]
   rw[Y,zAW9,zAG9]at j;refine vu (vh c d B) ?_ ?_
   .intro h;cases h
   intro _;subst X;refine vK f ?_;refine vo N ?_;refine xf t ?_;refine ze.tL ⟨.list _ _ _,?_,.int _ _,trivial⟩;rw[j];exact ze.wh rfl rfl rfl (Zi _) (fun v S=>by rw[<- j]at S;obtain⟨x,_,rfl⟩:=Zu.1 S;rfl) (by rw[<- j];exact mf)
def iH(w:LN)(a:Int):FE:=if wd w=0 then pR (headN w) a else .ret (.tuple [wv 0 [],.list 0 2 (([]:LJ).map vd),iv (wd w:Nat)])
theorem Yj(hw:vE w.length):FN ET 157 [wv p w,iv a] (iH w a):=by
 have c:=tw p w hw;have d:=fc p w hw;unfold iH
 by_cases b:wd w=0
 .rw[if_pos b];rw[ba _ (n8 b)]at d;rw[b]at c;have e:=eF (n8 b);exact Yh p a w _ e.1 e.2.1 (yM w) c d
 .rw[if_neg b];exact Yi p a w _ b c


theorem Oz(q:Nat)(w:LN)(x:Pr)(hw:w.length<1000000)(hx:x.1<w.length):FR 161 [wv p w,iv 1,.list q 2 [vd x]] (.tuple [wv 0 (w.set x.1 x.2),iv 0]):=by
 refine zn (eG T161 func161) (Lb.two (Lb.uvs _) (.int _ _)) ?_;have c:w.length*9<=140737488355328:=zo;have a:¬w.length=0:=zo;have b:([vd x]:LQ)[0]?=some (vd x):=rfl;have d:¬((x.1:Nat):Int)<0:=zo;have e:((x.1:Nat):Int)<(w.length:Nat):=zo;have f:¬((w.length:Nat):Int)<=(x.1:Nat):=zo;obtain⟨o,g⟩:∃old,w[x.1]?=some old:=⟨_,Zg hx⟩
 have j:(w.map uv)[x.1]?=some (uv o):=vU g;have k:(w.map uv).set x.1 (.int .u64 (x.2:Int))=(w.set x.1 x.2).map uv:=zBR9.symm;refine xH (zj c a) ?_;refine vY ?_;refine vA (zj c a) ?_;refine vm (vy (fun m s=>∃(i M:Nat) (K:LN),m=1-i/\i<=1/\M<=1/\(i=0->K=w)/\(i=1->K=w.set x.1 x.2)/\s.tm 1=iv 1/\s.tm 2=.list q 2 [vd x]/\s.tm 8=.sl 0 1 0 w.length (2*w.length) 1/\s.tm 9=iv i/\s.df=[]/\s.H=[.row 29 1 1 M (K.map uv)]) (n:=1) ?_ ?_)
 .exact⟨0,0,w,rfl,Zn _,by decide,fun _=>rfl,fun h=>absurd h zy,zt,zt,zt,zt,rfl,rfl⟩
 .rintro m ⟨tm,df,Hx⟩ ⟨i,M,K,rfl,hi,hM,hK0,hK1,h1,h2,h8,h9,rfl,rfl⟩;dsimp only at *
  obtain rfl|rfl:i=0\/i=1:=zo
  .obtain rfl:=hK0 rfl;refine vu (zj h1 h9) ?_ ?_
   .intro _;refine vD ?_;refine zB ?_;generalize K.map uv=K0 at *
    refine zB ?_;refine vC (ww h2 h8 h9 b d e f) ?_;refine uq ?_;refine vY ?_;refine wV ?_;refine vW (kQ h2 h8 h9 b hx hM j k) ?_;refine vj h8 ?_;refine vp h9 ?_;refine⟨_,?m,1,1,K.set x.1 x.2,rfl,Zi _,Zi _,fun h=>absurd h zy,fun _=>rfl,zu h1,zu h2,zu h8,zu h9,rfl,rfl⟩;omega
   .intro h;cases h
  .obtain rfl:=hK1 rfl;refine vu (zj h1 h9) ?_ ?_
   .intro h;cases h
   intro _;refine wm h8 ?_;exact ze.tL ⟨ze.wM rfl hM rfl (by simp) (by simp) uG tQ,.int _ _,trivial⟩


section mid
variable {α:Type}
theorem il(G l:List α)(a:α):(G++a::l)[G.length]?=some a:=by simp
theorem tU(G l:List α)(a b:α):(G++a::b::l)[G.length+1]?=some b:=by simp
theorem It(G l:List α)(a b c:α):(G++a::b::c::l)[G.length+1+1]?=some c:=by grind
theorem E2(G l:List α)(a x:α):(G++a::l).set G.length x=G++x::l:=by grind
theorem BG(G l:List α)(a b x:α):(G++a::b::l).set (G.length+1) x=G++a::x::l:=by simp_all
theorem E3(G l:List α)(a b c x:α):(G++a::b::c::l).set (G.length+1+1) x=G++a::b::x::l:=by
 rw[zDW9 _ _ zo,show G.length+1+1-G.length=2 by omega];rfl
theorem Ro(G l:List α)(a b c d:α):(G++a::b::c::d::l)[G.length+3]?=some d:=by grind
end mid
def zyA:=And.intro (@il za) (And.intro (@tU za) (And.intro (@It za) (And.intro (@E2 za) (And.intro (@BG za) (@E3 za)))))
structure Wk where
 p:Nat
 q:Nat
 W:LN
 L:LJ
 fr:PV
 used:Nat
variable (p:Nat)(x:Wk)
def vT(x:Wk):PV:=.agg [wv x.p x.W,.list x.q 2 (x.L.map vd),x.fr,iv x.used]
def Wk.one(x:Wk)(c:Pr):Wk:=⟨0,0,x.W.set c.1 c.2,x.L++[c],x.fr,x.used⟩
def Wk.does(x:Wk)(l:LJ):Wk:=l.foldl Wk.one x
def vx(a:Nat)(l:LJ):LJ:=l.map fun c=>(a+c.1,c.2)
theorem Qn(l:LJ)(c:Pr):x.does (l++[c])=(x.does l).one c:=by unfold Wk.does;grind
theorem xA:∀(l:LJ) (x:Wk),(x.does l).W.length=x.W.length/\(x.does l).L.length=x.L.length+l.length/\(x.does l).fr=x.fr/\(x.does l).used=x.used
 | [],x=>⟨rfl,rfl,rfl,rfl⟩
 | c::l,x=>by
  have h:=xA l (x.one c);have e:x.does (c::l)=(x.one c).does l:=rfl;rw[e];refine⟨h.1.trans (by simp[Wk.one]),h.2.1.trans (by simp[Wk.one];omega),h.2.2.1,h.2.2.2⟩
theorem gG{x:Wk}(h:vg x.fr):vg (vT x):=.agg fun v a=>by
 simp at a;rcases a with rfl|rfl|rfl|rfl
 .exact .list _ _ _
 .exact .list _ _ _
 .exact h
 .exact .int _ _
theorem oG(hfr:vg x.fr)(a r:Nat)(l:LJ)(hl:x.L.length+l.length<1000000)(hw:x.W.length<1000000)(hin:∀c∈l,a+c.1<x.W.length):FP ET 105 [vT x,iv a,.list r 2 (l.map vd)] (.ret (vT (x.does (vx a l)))):=by
 refine mO (eG T105 func105) ?_;refine zG ?_;refine vm (vy (fun m s=>∃(i:Nat) (G:LP),m=l.length-i/\i<=l.length/\s.tm 1=iv a/\s.tm 2=.list r 2 (l.map vd)/\s.tm 3=.ptr 0 0 0 0 4/\s.tm 6=.ptr 1 0 0 0 4/\s.tm 7=iv i/\s.df=[]/\s.H=.row 185 4 0 0 [vT (x.does (vx a (l.take i)))]::.row 185 4 0 0 [.agg [.nilsl,.nilsl,.nilsl,iv 0]]::G) (n:=l.length) ?_ ?_)
 .exact⟨0,[],rfl,Zn _,zt,zt,zt,zt,zt,rfl,rfl⟩
 .rintro m ⟨J,K,Hx⟩ ⟨i,G,rfl,hi,h1,h2,h3,f,d,rfl,rfl⟩;dsimp only at *
  refine vu (zj h2 d) ?_ ?_;rotate_left
  .intro j;have j:¬i<l.length:=vL j;obtain rfl:i=l.length:=zo;rw[ZL];unfold vT;refine vA (zj h3 f) ?_;refine vw ?_;refine yd (vs:=[vT (x.does (vx a l))]) ?_ ?_
   .simp[T105,xT,zr,zC,zb,f,zR,zF,zW,PV.cells,vT]
   .exact(gG (by rw[(xA _ x).2.2.1];exact hfr)).frz
  intro j;have j:i<l.length:=vM j;obtain⟨c,w⟩:=wX (l:=l) j;have B:(l.map vd)[i]?=some (vd c):=vU w;have P:=hin c (Zj w);have C:x.does (vx a (l.take (i+1)))=(x.does (vx a (l.take i))).one (a+c.1,c.2):=by
   rw[<- Qn,ZE,w];simp[vx]
  obtain⟨d1,d2,d3,d4⟩:=xA (vx a (l.take i)) x;have R:(vx a (l.take i)).length<=l.length:=by simp[vx];omega
  generalize x.does (vx a (l.take i))=y at *
  have M:IntKind.i64.wrap ((a:Int)+((c.1:Nat):Int))=((a+c.1:Nat):Int):=wx;refine vD ?_;refine vR ?_;unfold vT;refine vW (ww h1 h2 d B M zyA zyB) ?_;refine vj d ?_;have q:y.L.length*17<=140737488355328:=zo;have o:(y.L.length+1)*17<=140737488355328:=zo;refine vq (ur (Q:=fun A h=>A=.norm/\∃g,h.tm 1=iv a/\h.tm 2=.list r 2 (l.map vd)/\h.tm 3=.ptr 0 0 0 0 4/\h.tm 6=.ptr 1 0 0 0 4/\h.tm 7=iv i/\h.tm 8=.ptr (G.length+1+1) 0 0 0 2/\h.df=[]/\h.H=.row 185 4 0 0 [.agg [wv y.p y.W,.sl (G.length+1+1+1) g 0 (y.L.length+1) (2*(y.L.length+1)) 2,y.fr,iv y.used]]::.row 185 4 0 0 [.agg [.nilsl,.nilsl,.nilsl,iv 0]]::(G++.row 120 2 0 0 [vd (a+c.1,c.2)]::.row 120 2 g 0 (y.L.map vd++[vd (a+c.1,c.2)])::.row 120 2 0 0 [vd (a+c.1,c.2)]::[])) (wV ?_) ?_)
  .by_cases z:y.L=[]
   .have t:y.L.length=0:=by rw[z];rfl
    rw[z];refine uY (wP h3 xa q o h1 h2 f d y9 xj xk (vh zyA zyB zyC)) ?_;refine uY (zj xa zyA) ?_;refine uY (wP h3 y9 xj xa q o h1 h2 f d xk (vh zyA zyB zyC)) ?_;refine kM (wP xa h1 h2 h3 f d y9 xj xk zyA zyB zyC) ?_;refine wY ?_;simp only[go_sem]
    grind
   .have t:¬y.L.length=0:=by simpa using z
    refine uY (wP t q h3 xa o h1 h2 f d y9 xj (vz xk zyA zyB zyC)) ?_;refine uY (vX o y9 xj xa zyA) ?_;refine uY (wP h3 y9 xj xa t q o h1 h2 f d (vz xk zyA zyB zyC)) ?_;refine kM (wP xa h1 h2 h3 f d y9 xj xk zyA zyB zyC) ?_;refine wY ?_;simp only[go_sem]
    grind
  clear h1 h2 h3 f d;rintro A ⟨J,K,H⟩ ⟨rfl,g,h1,h2,h3,f,d,N,rfl,rfl⟩;dsimp only at *
  have O:y.L.map vd++[vd (a+c.1,c.2)]=(y.L++[(a+c.1,c.2)]).map vd:=by simp
  have D:y.L.length+1=(y.L++[(a+c.1,c.2)]).length:=by simp
  rw[O,D];refine N9 0 (G.length+1+1+1) (v':=.agg [wv y.p y.W,.list 0 2 ((y.L++[(a+c.1,c.2)]).map vd),y.fr,iv y.used]) rfl (by simp only[ZJ,tU]<;>rfl) zo rfl rfl (fun k u v e b=>?_) ?_
  .match k with
   | 0=>injection e with e;injection b with b;subst e b;exact .inl rfl
   | 1 =>
    injection e with e;injection b with b;subst e b;exact .inr (ze.wh (lI (by simp only[ZJ,tU]<;>rfl)) rfl (by simp) (by simp) uG mf)
   | 2=>injection e with e;injection b with b;subst e b;exact .inl rfl
   | 3=>injection e with e;injection b with b;subst e b;exact .inl rfl
   | k+4=>simp[PV.cells]at e
  simp only[zAJ9,zAH9,BG];have I:=Oz y.p 1 y.W (a+c.1,c.2) zo (by omega);refine yv ?_;refine vS (vz h3 N zyA zyB) ?_;refine sv I ?_ ?_
  .exact ze.wh (l:=[vd (a+c.1,c.2)]) (by simp only[ZJ,Ro]<;>rfl) rfl rfl (Zi _) (fun v b=>by obtain rfl:=ZI.1 b;rfl) (mf (l:=[(a+c.1,c.2)]))
  refine zN ?_;refine zB ?_;refine vp h3 ?_;refine vp d ?_;refine⟨_,?m,i+1,?G,rfl,j,zu h1,zu h2,zu h3,zu f,zu d,zt,?H⟩
  case m=>omega
  case H=>(try dsimp only);rw[C];rfl


theorem Kv(q:Nat)(bs:LN)(L:LB)(hl:L.length<1000000)(hp:∀n∈L,n.pairs.length<=28)(hall:(wU L).length<1000000):FN ET 83 [wG p q bs L] (nh L):=by
 refine zn (eG T83 func83) ?_ ?_
 .unfold nh;split
  .exact Lb.two (Lb.pvs _) (.bool _)
  .exact Lb.two (Lb.pvs _) (.bool _)
 refine zG ?_;refine yD 92 2 (i:=4) rfl ?_;simp only[uF,Zp,Zz,Zv,ZA];refine zG ?_;refine vm (vy (fun m s=>∃(i:Nat) (a:LJ) (G:LP),m=L.length-i/\i<=L.length/\wU L=a++wU (L.drop i)/\wh a=true/\s.tm 1=.ptr 0 0 0 0 2/\s.tm 4=.sl 1 a.length 0 a.length (2*a.length) 2/\s.tm 5=iv i/\s.df=[]/\s.H=.row 163 2 0 0 [wG p q bs L]::.row 92 2 a.length 0 (a.map pv)::G) (n:=L.length) ?_ ?_)
 .exact⟨0,[],[],rfl,by omega,rfl,rfl,zt,zt,zt,rfl,rfl⟩
 .rintro m ⟨C,D,H⟩ ⟨i,a,G,rfl,hi,f,o,h1,h4,b,rfl,rfl⟩;dsimp only at h1 h4 b;refine vu (zj h1 b) ?_ ?_
  .intro k;have k:i<L.length:=vM k;have O:=Zg k;rw[Ji L i k]at f;have ab:=hp _ (ZV k);have N:(L.map (vl q))[i]?=some (vl q L[i]):=vU O;generalize L[i]=n at *
   refine vD ?_;refine vA (vz h1 b N k) ?_;generalize Y:wU (List.drop (i+1) L)=R at f;refine vm (vy (fun m s=>∃(j:Nat) (a:LJ) (G:LP),m=n.pairs.length-j/\j<=n.pairs.length/\wU L=a++((n.pairs.drop j).filter (pA L[i+1]?)++R)/\wh a=true/\s.tm 1=.ptr 0 0 0 0 2/\s.tm 4=.sl 1 a.length 0 a.length (2*a.length) 2/\s.tm 5=iv i/\s.tm 6=vJ q n.pairs/\s.tm 7=iv j/\s.df=[]/\s.H=.row 163 2 0 0 [wG p q bs L]::.row 92 2 a.length 0 (a.map pv)::G) (n:=n.pairs.length) ?_ ?_)
   .exact⟨0,a,_,rfl,by omega,f,o,zu h1,zu h4,zu b,zt,zt,rfl,rfl⟩
   .clear h1 h4 b f o;rintro m ⟨C,D,H⟩ ⟨j,a,G,rfl,hj,f,o,h1,h4,b,e,c,rfl,rfl⟩;dsimp only at *
    refine vu (zj e c) ?_ ?_
    .intro g;have g:j<n.pairs.length:=vM g;have P:=Zg g;rw[Zs g,List.filter_cons]at f;have v:(n.pairs.map pv)[j]?=some (pv n.pairs[j]):=vU P;generalize n.pairs[j]=x at *
     refine vD ?_;refine zB ?_;refine ur (Q:=fun y d=>y=.norm/\d.tm 1=.ptr 0 0 0 0 2/\d.tm 4=.sl 1 a.length 0 a.length (2*a.length) 2/\d.tm 5=iv i/\d.tm 6=vJ q n.pairs/\d.tm 7=iv j/\d.tm 48=.bool (!pA L[i+1]? x)/\d.df=[]/\d.H=.row 163 2 0 0 [wG p q bs L]::.row 92 2 a.length 0 (a.map pv)::G) (wV ?_) ?_
     .have w:((i:Int)+1)=((i+1:Nat):Int):=zo
      by_cases J:i+1<L.length
      .have u:((i+1:Nat):Int)<(L.length:Nat):=zo;have A:=Zg J;have S:(L.map (vl q))[i+1]?=some (vl q L[i+1]):=vU A;rw[A];generalize L[i+1]=z at *
       refine vj (kO h1 b e c w u S v g J) ?_;exact⟨h1,h4,b,e,c,by simp[pA]⟩
      .have u:¬((i+1:Nat):Int)<(L.length:Nat):=zo;have A:L[i+1]?=none:=zAB9 zo;rw[A];refine vj (ww h1 b e c w u g) ?_;exact⟨h1,h4,b,e,c,by simp[pA]⟩
     .clear h1 h4 b e c;rintro y ⟨C,D,H⟩ ⟨rfl,h1,h4,b,e,c,B,rfl,rfl⟩;dsimp only at *
      by_cases t:pA L[i+1]? x=true
      rotate_left
      .rw[if_neg t]at f;have t:pA L[i+1]? x=false:=by simpa using t
       refine pY B ?_ ?_
       .intro _;refine bL ?_;refine vp c ?_;refine⟨_,?m1,j+1,a,_,rfl,g,f,o,zu h1,zu h4,zu b,zu e,zu c,rfl,rfl⟩;omega
       .rw[t];intro h;cases h
      rw[if_pos t]at f;refine pY B ?_ ?_
      .rw[t];intro h;cases h
      intro _;refine vY ?_;refine vA h4 ?_;have ad:a.length<1000000:=by have:=congrArg List.length f;simp only[Zl]at this;omega
      refine ur (Q:=fun y d=>y=.norm/\d.tm 1=.ptr 0 0 0 0 2/\d.tm 4=.sl 1 a.length 0 a.length (2*a.length) 2/\d.tm 5=iv i/\d.tm 6=vJ q n.pairs/\d.tm 7=iv j/\d.tm 66=.bool (ng a x)/\d.df=[]/\d.H=.row 163 2 0 0 [wG p q bs L]::.row 92 2 a.length 0 (a.map pv)::G) (wV ?_) ?_
      .by_cases T:a.length=0
       .have u:¬(0:Int)<(a.length:Nat):=zo;have I:¬(0:Int)<=(a.length:Int)-1:=zo;refine vj (ww h4 e c u I g v) ?_;obtain rfl:a=[]:=Z6 T;exact⟨h1,h4,b,e,c,rfl⟩
       .have w:(a.length:Int)-1=((a.length-1:Nat):Int):=zo;have I:(0:Int)<=((a.length-1:Nat):Int):=zo;have Z:a.length-1<a.length:=zo;obtain⟨y,M⟩:∃y,a.getLast?=some y:=by
         grind
        have U:a[a.length-1]?=some y:=by rw[<- zAF9];exact M
        have V:(a.map pv)[a.length-1]?=some (pv y):=vU U;refine vj (pZ h4 e c w I Z V g v) ?_;exact⟨h1,h4,b,e,c,by simp[ng,M]⟩
      .clear h1 h4 b e c B;rintro y ⟨C,D,H⟩ ⟨rfl,h1,h4,b,e,c,K,rfl,rfl⟩;dsimp only at *
       by_cases r:ng a x=true
       .refine pY K ?_ ?_
        .intro _;refine zO ?_;exact Gq f (I6 r)
        .rw[r];intro h;cases h
       have r:ng a x=false:=by simpa using r
       refine pY K ?_ ?_
       .rw[r];intro h;cases h
       intro _;refine wK ?_;have X:(a.length+1)*17<=140737488355328:=zo;refine vp (wQ h4 e c v g X) ?_;refine vp c ?_;refine⟨_,?m3,j+1,a++[x],?G3,rfl,g,by grind,Li o r,zu h1,zt,zu b,zu e,zu c,zt,?H3⟩
       case m3=>omega
       case H3=>(try dsimp only);rw[ZG,Zl];rfl
    .intro g;have g:¬j<n.pairs.length:=vL g;obtain rfl:j=n.pairs.length:=zo;refine vp b ?_;rw[ZS,List.filter_nil,ZA,<- Y]at f;refine⟨_,?m9,i+1,a,G,rfl,k,f,o,zu h1,zu h4,zu b,rfl,rfl⟩;omega
  .intro k;have k:¬i<L.length:=vL k;obtain rfl:i=L.length:=zo;refine wm h4 ?_;rw[ZS,wU,zAG9]at f;unfold nh;rw[f,if_pos o];refine ze.tL ⟨?_,.bool _,trivial⟩;exact ze.wh (l:=a.map pv) rfl rfl (by simp) (by simp) uG bS
theorem Yz(w:LN)(b:Nat)(hw:vE w.length):FR 190 [wv p w,uv b] (.bool (decide (1<=b)&&decide (b<w.length/64))):=by
 refine zn (eG T190 func190) (.bool _) ?_;unfold vE at hw;have c:IntKind.u64.wrap (((w.length/64:Nat):Int))=((w.length/64:Nat):Int):=ku;have d:IntKind.i64.wrap ((w.length:Int)/64)=((w.length/64:Nat):Int):=wx;have e:IntKind.i64.wrap ((w.length:Int).tdiv 64)=((w.length/64:Nat):Int):=by rw[IntWalk.i64_quo _ _ zo];omega
 by_cases h:1<=b
 .have g:(1:Int)<=b:=zo
  by_cases h2:b<w.length/64
  .have a:(b:Int)<((w.length/64:Nat):Int):=zo;refine wm (vX g e d c a) ?_;exact ve.bool (by grind)
  .have a:¬(b:Int)<((w.length/64:Nat):Int):=zo;refine wm (vX g e d c a) ?_;exact ve.bool (by grind)
 .have g:¬(1:Int)<=b:=zo;refine wm g ?_;exact ve.bool (by simp[h])


def gK(w:LN)(lv:Int):Nat->LN->LN->LB->Nat->LN×LB×Bool
 | 0,_,bs,ns,b=>(bs,ns,decide (b=0) && !ns.isEmpty)
 | k+1,seen,bs,ns,b=>if b=0 then(bs,ns,!ns.isEmpty)else
  if decide (w.length/64<=b)||seen.contains b then(bs,ns,false)else
  if headB (zc w b)&&uE ns (headN (zc w b)) lv then gK w lv k (b::seen) (bs++[b]) (ns++[headN (zc w b)]) (headN (zc w b)).sib else(bs,ns,false)
variable {lv:Int}{w:LN}(p:Nat)(l:LN)
theorem JA:∀(k:Nat) (seen bs:LN) (ns:LB) (b:Nat),uP w lv k seen bs ns b=none->(gK w lv k seen bs ns b).2.2=false
 | 0,seen,bs,ns,b,h=>by
  rw[uP]at h;rw[gK]
  grind
 | k+1,seen,bs,ns,b,h=>by
  rw[uP]at h;rw[gK]
  split
  .grind
  .rename_i hb;rw[if_neg hb]at h
   split
   .rfl
   .rename_i h2;rw[if_neg h2]at h
    split
    .rename_i h3;rw[if_pos h3]at h;exact JA k _ _ _ _ h
    .rfl
theorem JB{r:LN×LN×LB}:∀(k:Nat) (seen bs:LN) (ns:LB) (b:Nat),uP w lv k seen bs ns b=some r->gK w lv k seen bs ns b=(r.2.1,r.2.2,!r.2.2.isEmpty)
 | 0,seen,bs,ns,b,h=>by
  rw[uP]at h;rw[gK]
  grind
 | k+1,seen,bs,ns,b,h=>by
  rw[uP]at h;rw[gK]
  split
  .grind
  .rename_i hb;rw[if_neg hb]at h
   split
   .grind
   .rename_i h2;rw[if_neg h2]at h
    split
    .rename_i h3;rw[if_pos h3]at h;exact JB k _ _ _ _ h
    simp_all
theorem CQ(b:Nat):(l.map fun(x:Nat)=>(x:Int)).contains (b:Int)=l.contains b:=by grind
theorem Az:(l.map fun(x:Nat)=>(x:Int)).map iv=l.map fun(b:Nat)=>iv (b:Int):=by simp_all
theorem oW(n:Nat)(hl:l.length<4611686018427387904):FR 123 [.list p 1 (l.map fun(b:Nat)=>iv (b:Int)),iv (n:Nat)] (.bool (l.contains n)):=by
 have:=tY p (l.map fun(x:Nat)=>(x:Int)) n (by grind);rw[Az,CQ]at this;exact this
theorem Tx(bs:LN)(ns:LB):Lb (wG 0 0 bs ns):=.agg fun x a=>by
 simp at a;rcases a with rfl|rfl
 .exact Lb.ivn _
 .exact Lb.nodes _
def uJ(z:PV)(bs:LN)(ns:LB)(G:LP):LP :=
 .row 163 2 0 0 [z]::.row 163 2 0 0 [.agg [.sl 2 bs.length 0 bs.length (2*bs.length) 1,.sl 3 ns.length 0 ns.length (2*ns.length) 6]]::.row 3 1 bs.length 0 (bs.map fun(b:Nat)=>iv (b:Int))::.row 143 6 ns.length 0 (ns.map (vl 0))::G
theorem Jy(z:PV)(bs:LN)(ns:LB)(G:LP)(lab:Nat):LF (uJ z bs ns G) lab [.sl 2 bs.length 0 bs.length (2*bs.length) 1,.sl 3 ns.length 0 ns.length (2*ns.length) 6] [.list lab 1 (bs.map fun(b:Nat)=>iv (b:Int)),.list lab 6 (ns.map (vl 0))] :=
  ⟨ze.wh (e:=3) (z':=1) (G:=bs.length) (l:=bs.map fun(b:Nat)=>iv (b:Int)) rfl rfl (by simp) (by simp) uG eu,
   ze.wh (e:=143) (z':=6) (G:=ns.length) (l:=ns.map (vl 0)) rfl rfl (by simp) (by simp) uG oR,trivial⟩
theorem rk{bs:LN}{ns:LB}{G:LP}{tm:Nat->PV}{b:Bool}{R:LN×LB×Bool}(h8:tm 8=.ptr 0 0 0 0 2)(h9:tm 9=.bool b)(hR:R=(bs,ns,b)):yG ET T132 (fun e' H=>ve H 0 e' (.ret (.tuple [wG 0 0 R.1 R.2.1,.bool R.2.2]))) .ret ⟨tm,[],uJ (.agg [.sl 2 bs.length 0 bs.length (2*bs.length) 1,.sl 3 ns.length 0 ns.length (2*ns.length) 6]) bs ns G⟩:=by
 subst hR;refine yd (vs:=[.agg [.sl 2 bs.length 0 bs.length (2*bs.length) 1,.sl 3 ns.length 0 ns.length (2*ns.length) 6],.bool b]) ?_ ?_
 .simp[T132,xT,zr,zC,h8,h9,zR,zF,zW,uJ,PV.cells]
 .exact ze.tL ⟨ze.aggL (Jy _ bs ns G 0),.bool _,trivial⟩


theorem xg{E:vZ}{caught:LD}{rnd:LA}{code:vP}{s:vn}{Q:FX->vn->Prop}(F:(Nat->PV)->Prop)(hF:F s.tm)(k:∀tm,F tm->W E caught rnd code ⟨tm,s.df,s.H⟩ Q):W E caught rnd code s Q:=k s.tm hF
theorem Ue(r:Nat)(w:LN)(hw:64<=w.length/\w.length<=131072)(b:Nat)(lv:Int)(sR seen:LN)(hs:∀x,x∈sR↔x∈seen)(hsl:sR.length<1000000)(R:LN×LB×Bool)(hR:gK w lv (w.length/64) seen [] [] b=R):
  FR 132 [wv p w,uv b,iv lv,.list r 1 (sR.map fun(b:Nat)=>iv (b:Int))] (.tuple [wG 0 0 R.1 R.2.1,.bool R.2.2]):=by
 refine zn (eG T132 func132) (Lb.two (Tx _ _) (.bool _)) ?_;refine zG ?_;refine cL 3 1 (id:=1) (v:=.agg [.nilsl,.nilsl]) (v':=.agg [.sl 2 0 0 0 0 1,.nilsl]) (e0:=163) (z0:=2) (G:=0) (M:=0) rfl rfl (fun k x y t C=>?_) ?_
 .match k with
  | 0=>injection t with t;injection C with C;subst t C;exact .inr ⟨rfl,by simp[uF]⟩
  | 1=>injection t with t;injection C with C;grind
  | k+2=>simp[PV.cells]at t
 simp only[zAJ9,zAH9,Zv,ZA];refine cL 143 6 (id:=1) (v:=.agg [.sl 2 0 0 0 0 1,.nilsl]) (v':=.agg [.sl 2 0 0 0 0 1,.sl 3 0 0 0 0 6]) (e0:=163) (z0:=2) (G:=0) (M:=0) rfl rfl (fun k x y t C=>?_) ?_
 .match k with
  | 0=>injection t with t;injection C with C;grind
  | 1=>injection t with t;injection C with C;subst t C;exact .inr ⟨rfl,by simp[uF]⟩
  | k+2=>simp[PV.cells]at t
 simp only[zAJ9,zAH9,Zv,ZA];have b7:w.length/64<=2048:=zo;have a7:vE w.length:=by unfold vE;omega
 refine vm (vy (fun m s=>∃(k:Nat) (S:LN) (bs:LN) (a:LB) (c:Nat) (G:LP),m=k/\pU (w.length/64) S<=k/\gK w lv k S bs a c=R/\bs.length=a.length/\bs.length+k<=2048/\(∀x,x∈S↔x∈sR\/x∈bs)/\(∀n∈a,lv<0\/(n.level:Int)=lv)/\c<2048+b+1/\s.tm 0=wv p w/\s.tm 1=uv c/\s.tm 2=iv lv/\s.tm 3=.list r 1 (sR.map fun(b:Nat)=>iv (b:Int))/\s.tm 8=.ptr 0 0 0 0 2/\s.tm 10=.ptr 1 0 0 0 2/\s.df=[]/\s.H=uJ (.agg [.nilsl,.nilsl]) bs a G) (n:=w.length/64) ?_ ?_)
 .exact⟨_,seen,[],[],b,[],rfl,Fk _ _,hR,rfl,by grind,fun x=>by grind,fun n hn=>by grind,by omega,zt,zt,zt,zt,zt,zt,rfl,rfl⟩
 .clear hR;rintro m ⟨o,df,H⟩ ⟨k,S,bs,a,c,G,rfl,ca,hR,cb,cc,hS,av,ch,l,h1,h2,h3,e,d,rfl,rfl⟩;dsimp only at *
  refine vu h1 ?_ ?_;rotate_left
  .intro J;have J:c=0:=by simpa using J
   subst J;have a8:R=(bs,a,!a.isEmpty):=by rw[<- hR];cases m<;>simp[gK]
   unfold uJ;refine vR ?_
   by_cases a0:a=[]
   .subst a0;refine vW (zj e d) ?_;refine bH ?_ (by simp(disch:=omega)only[go_sem]<;>rfl) (by first|exact trivial|simp only[go_sem]);refine wY ?_;simp only[go_sem];refine vw ?_;exact rk (by simp[zb,e]) (by simp[zb]) a8
   .have g:(0:Int)<(a.length:Nat):=by have:=zAI9.2 a0;omega
    refine vW (vh e d g) ?_;refine kM g ?_;refine wY ?_;simp only[go_sem];refine vw ?_;exact rk (b:=true) (by simp[zb,e]) (by simp[zb]) (by grind)
  intro J;have J:¬c=0:=by simpa using J
  refine vD ?_;refine zB ?_;have V:=Yz p w c a7;have a9:1<=c:=zo;rw[decide_eq_true a9,Z9]at V;refine ur (Q:=fun y j=>y=.norm/\j.tm 0=wv p w/\j.tm 1=uv c/\j.tm 2=iv lv/\j.tm 3=.list r 1 (sR.map fun(b:Nat)=>iv (b:Int))/\j.tm 8=.ptr 0 0 0 0 2/\j.tm 10=.ptr 1 0 0 0 2/\j.tm 32=.bool (decide (w.length/64<=c)||S.contains c)/\j.df=[]/\j.H=uJ (.agg [.nilsl,.nilsl]) bs a G) (wa ?_) ?_
  .by_cases a1:c<w.length/64
   rotate_left
   .rw[decide_eq_false a1]at V;refine vS (zj l h1) ?_;refine vo V ?_;refine zK ?_;exact⟨zt,l,h1,h2,h3,e,d,by simp[zb];omega,rfl,rfl⟩
   rw[decide_eq_true a1]at V;have P:IntKind.i64.wrap (c:Int)=(c:Int):=wx;have bb:=oW r sR c zo;have bm:=oW 1 bs c zo;have bo:S.contains c=(sR.contains c||bs.contains c):=by
    rw[zDJ9];simp[hS c]
   have bp:decide (w.length/64<=c)=false:=decide_eq_false zo;rw[bo,bp,zCS9];refine vS (zj l h1) ?_;refine vo V ?_;refine vS (vh h1 h3 P) ?_;refine vo bb ?_
   by_cases ab:sR.contains c=true
   .rw[ab,Bool.true_or];refine zK ?_;exact⟨zt,l,h1,h2,h3,e,d,zt,rfl,rfl⟩
   have ab:sR.contains c=false:=by simpa using ab
   rw[ab,zCS9];unfold uJ;refine vS (vh h1 d P) ?_;refine sv bm ?_ ?_
   .exact(Jy (.agg [.nilsl,.nilsl]) bs a G 1).1
   refine zK ?_;exact⟨zt,l,h1,h2,h3,e,d,zt,rfl,rfl⟩
  clear l h1 h2 h3 e d;rintro y ⟨o,df,H⟩ ⟨rfl,l,h1,h2,h3,e,d,X,rfl,rfl⟩;dsimp only at *
  by_cases K:(decide (w.length/64<=c)||S.contains c)=true
  .rw[K]at X;refine mN X ?_;unfold uJ;refine vA (zj e d) ?_;refine vw ?_;exact rk (b:=false) (by simp[zb,e]) (by simp[zb]) (by
    rw[<- hR]
    cases m with
    | zero=>rw[gK];grind
    | succ m=>rw[gK,if_neg J,if_pos K])
  have K:(decide (w.length/64<=c)||S.contains c)=false:=by simpa using K
  rw[K]at X;refine su X ?_;have a2:c<w.length/64:=by
   cases h:decide (w.length/64<=c)with
   | true=>grind
   | false=>grind
  have a3:¬S.contains c=true:=by intro h;rw[h,Bool.or_true]at K;cases K
  have ye:∃m',m=m'+1:=by
   cases m with
   | zero=>exact absurd (Fl _ c S zo a2) a3
   | succ m=>grind
  obtain⟨m',rfl⟩:=ye;rw[gK,if_neg J,if_neg (by omega)]at hR;have Y:=fc p (zc w c) (by unfold zc vE;simp;omega);have e1:IntKind.u64.wrap ((64:Int)*(c:Int))=((64*c:Nat):Int):=ku;have e2:IntKind.u64.wrap (((64*c:Nat):Int)+64)=((64*c+64:Nat):Int):=ku;have e3:64*c<=64*c+64:=zo;have e4:64*c+64<=w.length:=zo;have e6:0<w.length:=zo;have e5:List.drop (64*c) (List.take (64*c+64) (List.map uv w))=(zc w c).map uv:=by simp[zc,Z1,zAK9]
  refine yv ?_;refine vS (kQ l h1 e1 e2 e3 e4 e5 e6) ?_
  by_cases A:headB (zc w c)=true
  rotate_left
  .have A:headB (zc w c)=false:=by simpa using A
   rw[DW A]at Y;rw[A,zEE9,if_neg zy]at hR;refine vo Y ?_;unfold uJ;refine zN ?_;refine vA d ?_;refine xg (fun o=>o 8=.ptr 0 0 0 0 2/\o 10=.ptr 1 0 0 0 2/\o 12=iv 210) ⟨zu e,zu d,by simp[zb]⟩ ?_;clear e d;rintro o ⟨e,d,q⟩;refine(ur (Q:=fun y j=>y=.norm/\j.tm 8=.ptr 0 0 0 0 2/\j.tm 10=.ptr 1 0 0 0 2/\j.tm 95=.bool true/\j.df=[]/\∃G2,j.H=uJ (.agg [.nilsl,.nilsl]) bs a G2) (wV ?_) ?_)
   .have a6:¬(210:Int)=0:=by decide
    refine vj (zj q a6) ?_;exact⟨e,d,G++_,rfl⟩
   rintro y ⟨o,df,H⟩ ⟨rfl,e,d,L,rfl,G2,rfl⟩;dsimp only at e d L;refine mN L ?_;unfold uJ;refine vA (zj e d) ?_;refine vw ?_;exact rk (b:=false) (by simp[zb,e]) (by simp[zb]) hR.symm
  obtain⟨bx,a5,bw⟩:=eF A;rw[ba _ A]at Y;rw[A,Z9]at hR;generalize headN (zc w c)=nd at Y hR bx a5 bw;refine vo Y ?_;unfold uJ;refine zN ?_;refine vA d ?_;refine xg (fun o=>o 0=wv p w/\o 1=uv c/\o 2=iv lv/\o 3=.list r 1 (sR.map fun(b:Nat)=>iv (b:Int))/\o 8=.ptr 0 0 0 0 2/\o 10=.ptr 1 0 0 0 2/\o 11=.ptr (G.length+1+1+1+1) 0 0 0 6/\o 12=iv 0/\o 13=iv ((a.length:Int)-1)) ⟨zu l,zu h1,zu h2,zu h3,zu e,zu d,zt,zt,by simp[zb]⟩ ?_;clear l h1 h2 h3 e d X;rintro o ⟨l,h1,h2,h3,e,d,i,q,B⟩;refine(ur (Q:=fun y j=>y=.norm/\j.tm 0=wv p w/\j.tm 1=uv c/\j.tm 2=iv lv/\j.tm 3=.list r 1 (sR.map fun(b:Nat)=>iv (b:Int))/\j.tm 8=.ptr 0 0 0 0 2/\j.tm 10=.ptr 1 0 0 0 2/\j.tm 11=.ptr (G.length+1+1+1+1) 0 0 0 6/\j.tm 95=.bool (!uE a nd lv)/\j.df=[]/\j.H=uJ (.agg [.nilsl,.nilsl]) bs a (G++[.row 143 6 0 0 [vl 0 nd]])) (wV ?_) ?_)
  .skip
   by_cases u:(0:Int)<=lv
   .by_cases T:(nd.level:Int)=lv
    rotate_left
    .have a4:uE a nd lv=false:=by
      rw[uE]
      cases A:a.getLast? with
      | none=>grind
      | some z =>
       grind
     refine kK (ww h2 u T i q zyA zyB) ?_;refine wY ?_;simp only[go_sem];have f:uE a nd lv=!true:=(by grind)
     exact⟨l,h1,h2,h3,e,d,i,by first|(simp[f,uJ];done)|(simp[f,uJ];omega)⟩
    by_cases D:a=[]
    .have b0:a.length=0:=by rw[D];rfl
     have c0:(a.length:Int)-1<0:=zo;have c1:¬(0:Int)<=(a.length:Int)-1:=zo
     by_cases I:nd.low=0
     .have O:(nd.low:Int)=0:=zo;refine kK (xI h2 u T c0 c1 O i q B zyA zyB) ?_;refine wY ?_;simp only[go_sem];have f:uE a nd lv=!false:=(by rw[uE,D];grind)
      exact⟨l,h1,h2,h3,e,d,i,by first|(simp[f,uJ];done)|(simp[f,uJ];omega)⟩
     .have O:¬(nd.low:Int)=0:=zo;refine kK (kO h2 u T c0 O i q B zyA zyB) ?_;refine wY ?_;simp only[go_sem];have f:uE a nd lv=!true:=(by rw[uE,D];simp[I])
      exact⟨l,h1,h2,h3,e,d,i,by first|(simp[f,uJ];done)|(simp[f,uJ];omega)⟩
    have b3:0<a.length:=zAI9.2 D;obtain⟨z,I⟩:∃z,a.getLast?=some z:=by
     cases A:a.getLast? with
     | none=>grind
     | some z=>grind
    have Z:a[a.length-1]?=some z:=by rw[<- zAF9];exact I
    have N:(a.map (vl 0))[a.length-1]?=some (vl 0 z):=vU Z;have b4:=av z (Zj Z);have d0:(a.length:Int)-1=((a.length-1:Nat):Int):=zo;have d1:¬((a.length-1:Nat):Int)<0:=zo;have d2:(0:Int)<=((a.length-1:Nat):Int):=zo;have d3:a.length-1<a.length:=zo;have a4:uE a nd lv=(decide (z.low<nd.low)&&decide (nd.level=z.level)):=by rw[uE,I]
    by_cases b1:z.low<nd.low
    rotate_left
    .have d4:(nd.low:Int)<=z.low:=zo;refine kK (wP h2 u T d0 d1 d2 d3 d4 N d i (vz q B zyA zyB)) ?_;refine wY ?_;simp only[go_sem];have f:uE a nd lv=!true:=(by grind)
     exact⟨l,h1,h2,h3,e,d,i,by first|(simp[f,uJ];done)|(simp[f,uJ];omega)⟩
    have d4:¬(nd.low:Int)<=z.low:=zo
    by_cases b5:nd.level=z.level
    .have d5:(z.level:Int)=nd.level:=zo;refine kK (wP h2 u T d0 d1 d2 d3 d4 d5 N d (vX i q B zyA zyB)) ?_;refine wY ?_;simp only[go_sem];have f:uE a nd lv=!false:=(by grind)
     exact⟨l,h1,h2,h3,e,d,i,by first|(simp[f,uJ];done)|(simp[f,uJ];omega)⟩
    .have d5:¬(z.level:Int)=nd.level:=zo;refine kK (wP h2 u T d0 d1 d2 d3 d4 N d i (vz q B zyA zyB)) ?_;refine wY ?_;simp only[go_sem];omega
   .have u:¬(0:Int)<=lv:=u
    by_cases D:a=[]
    .have b0:a.length=0:=by rw[D];rfl
     have c0:(a.length:Int)-1<0:=zo;have c1:¬(0:Int)<=(a.length:Int)-1:=zo
     by_cases I:nd.low=0
     .have O:(nd.low:Int)=0:=zo;refine kK (kO h2 u c0 c1 O i q B zyA zyB) ?_;refine wY ?_;simp only[go_sem];have f:uE a nd lv=!false:=(by rw[uE,D];grind)
      exact⟨l,h1,h2,h3,e,d,i,by first|(simp[f,uJ];done)|(simp[f,uJ];omega)⟩
     .have O:¬(nd.low:Int)=0:=zo;refine kK (pZ h2 u c0 O i q B zyA zyB) ?_;refine wY ?_;simp only[go_sem];have f:uE a nd lv=!true:=(by rw[uE,D];simp[I])
      exact⟨l,h1,h2,h3,e,d,i,by first|(simp[f,uJ];done)|(simp[f,uJ];omega)⟩
    have b3:0<a.length:=zAI9.2 D;obtain⟨z,I⟩:∃z,a.getLast?=some z:=by
     cases A:a.getLast? with
     | none=>grind
     | some z=>grind
    have Z:a[a.length-1]?=some z:=by rw[<- zAF9];exact I
    have N:(a.map (vl 0))[a.length-1]?=some (vl 0 z):=vU Z;have b4:=av z (Zj Z);have d0:(a.length:Int)-1=((a.length-1:Nat):Int):=zo;have d1:¬((a.length-1:Nat):Int)<0:=zo;have d2:(0:Int)<=((a.length-1:Nat):Int):=zo;have d3:a.length-1<a.length:=zo;have a4:uE a nd lv=(decide (z.low<nd.low)&&decide (nd.level=z.level)):=by rw[uE,I]
    by_cases b1:z.low<nd.low
    rotate_left
    .have d4:(nd.low:Int)<=z.low:=zo;refine kK (wP h2 u d0 d1 d2 d3 d4 N d i q (vh B zyA zyB)) ?_;refine wY ?_;simp only[go_sem];have f:uE a nd lv=!true:=(by grind)
     exact⟨l,h1,h2,h3,e,d,i,by first|(simp[f,uJ];done)|(simp[f,uJ];omega)⟩
    have d4:¬(nd.low:Int)<=z.low:=zo
    by_cases b5:nd.level=z.level
    .have d5:(z.level:Int)=nd.level:=zo;refine kK (wP h2 u d0 d1 d2 d3 d4 d5 N d i (vz q B zyA zyB)) ?_;refine wY ?_;simp only[go_sem];have f:uE a nd lv=!false:=(by grind)
     exact⟨l,h1,h2,h3,e,d,i,by first|(simp[f,uJ];done)|(simp[f,uJ];omega)⟩
    .have d5:¬(z.level:Int)=nd.level:=zo;refine kK (wP h2 u d0 d1 d2 d3 d4 d5 N d i (vz q B zyA zyB)) ?_;refine wY ?_;simp only[go_sem];have f:uE a nd lv=!true:=(by grind)
     exact⟨l,h1,h2,h3,e,d,i,by first|(simp[f,uJ];done)|(simp[f,uJ];omega)⟩
  clear l h1 h2 h3 e d i q B;rintro y ⟨o,df,H⟩ ⟨rfl,l,h1,h2,h3,e,d,i,L,rfl,rfl⟩;dsimp only at *
  by_cases U:uE a nd lv=true
  rotate_left
  .have U:uE a nd lv=false:=by simpa using U
   rw[U]at hR L;rw[if_neg zy]at hR;refine mN L ?_;unfold uJ;refine vA (zj e d) ?_;refine vw ?_;exact rk (b:=false) (by simp[zb,e]) (by simp[zb]) hR.symm
  rw[U]at hR L;rw[if_pos rfl]at hR;refine su L ?_;unfold uJ;have ah:(bs.length+1)*9<=140737488355328:=zo;have ad:(a.length+1)*65<=140737488355328:=zo;have P:IntKind.i64.wrap (c:Int)=(c:Int):=wx;refine vR ?_;refine uY (wP h1 d i P ah ad y9 xj xk xa zyA zyB) ?_;refine uY (vX d ad y9 zyA zyB) ?_;refine uY (zj xk zyB) ?_;refine uY (wP d h1 i P ah ad y9 xj xk xa zyB zyA) ?_;refine kM (wP h1 d i P ah ad y9 xj xk xa zyB zyA) ?_;refine wY ?_;simp only[go_sem];refine zB ?_;refine xr (zj i zyA) ?_;refine yR ?_;refine⟨_,?m,m',c::S,bs++[c],a++[nd],nd.sib,?G,rfl,?hu,hR,?b1,?c,?sx,?b6,?nb,zu l,zt,zu h2,zu h3,zu e,zu d,zt,?H⟩
  case m=>omega
  case hu=>have:=Fj _ _ _ a2 a3;omega
  case b1=>grind
  case c=>grind
  case sx=>intro x;simp[hS x];constructor<;>(intro h;grind)
  case nb=>omega
  case b6 =>
   intro n hn;rcases ZW.1 hn with hn|hn
   .grind
   .obtain rfl:=ZI.1 hn;rw[uE]at U
    cases A:a.getLast? with
    | none=>grind
    | some z=>rw[A]at U;grind
  case H =>
   simp only[Zl,Zp,Zz,ZT,ZG,Z3,zAW9];rfl


def nj(w:LN):Nat->LN->List vO->Nat->Int->List vO×Bool
 | 0,_,_,_,_=>([],false)
 | d+1,seen,acc,b,lv=>match uP w lv (w.length/64) seen [] [] b with
  | none=>([],false)
  | some (_,_,[])=>([],false)
  | some (seen',bs,n::ns)=>if n.level=0 then(acc++[(bs,n::ns)],wh (wU (n::ns)))else nj w d seen' (acc++[(bs,n::ns)]) n.left ((n.level:Int)-1)
def xV(w:LN)(a:Nat):List vO×Bool:=nj w 14 [] [] (w.getD a 0) (-1)
theorem Jn:∀(d:Nat) (seen:LN) (acc:List vO) (b:Nat) (lv:Int),(nj w d seen acc b lv).2=(yg w d seen acc b lv).2/\((nj w d seen acc b lv).2=true->(nj w d seen acc b lv).1=(yg w d seen acc b lv).1)
 | 0,seen,acc,b,lv=>⟨rfl,fun h=>by cases h⟩
 | d+1,seen,acc,b,lv=>by
  rw[nj,yg]
  cases e:uP w lv (w.length/64) seen [] [] b with
  | none=>grind
  | some r =>
   obtain⟨f,bs,a⟩:=r
   cases a with
   | nil=>grind
   | cons n a =>
    simp only
    by_cases c:n.level=0
    .grind
    .rw[if_neg c,if_neg c];exact Jn d _ _ _ _
theorem sh(w:LN)(a:Nat):(xV w a).2=(wg w a).2/\((wg w a).2=true->(xV w a).1=(wg w a).1):=by
 have:=Jn (w:=w) 14 [] [] (w.getD a 0) (-1);exact⟨this.1,fun h=>this.2 (by rw[this.1];exact h)⟩
theorem Q5{T:List vO}:∀v∈(T.map fun L=>wG 0 0 L.1 L.2).flatMap PV.cells,vg v:=fun v a=>by
 obtain⟨y,b,a⟩:=ZF.1 a;obtain⟨L,_,rfl⟩:=Zu.1 b;simp[PV.cells]at a;rcases a with rfl|rfl<;>exact .list _ _ _
theorem Bw:∀(k:Nat) (seen bs:LN) (ns:LB) (b:Nat) (r:LN×LN×LB),uP w lv k seen bs ns b=some r->∃X,r.2.1=bs++X/\r.1=X.reverse++seen/\X.Nodup/\∀x∈X,x ∉ seen/\x≠0
 | 0,seen,bs,ns,b,r,h=>by
  rw[uP]at h
  split at h
  .cases h;simp_all
  grind
 | k+1,seen,bs,ns,b,r,h=>by
  rw[uP]at h
  split at h
  .cases h;simp_all
  rename_i e
  split at h
  .cases h
  rename_i d
  split at h
  rotate_left
  .cases h
  obtain⟨X,h1,h2,h3,h4⟩:=Bw k _ _ _ _ r h;have f:b ∉ seen:=fun a=>d (by simp[a]);refine⟨b::X,by rw[h1];simp,by rw[h2];simp,zBM9.2 ⟨fun a=>(h4 b a).1 (Zr ..),h3⟩,fun x c=>?_⟩;rcases ZD.1 c with rfl|c
  all_goals grind
theorem DC(w:LN)(hw:64<=w.length/\w.length<=131072)(a:Nat)(ha:a<w.length):FR 82 [wv p w,iv a] (.tuple [uV (xV w a).1,.bool (xV w a).2]):=by
 refine zn (eG T82 func82) (Lb.two (Ah _) (.bool _)) ?_;have ad:=xe ha;unfold xV;generalize w.getD a 0=b0 at *
 obtain⟨R,f⟩:∃R,nj w 14 [] [] b0 (-1)=R:=⟨_,rfl⟩
 rw[f];refine vA (zj ad ha) ?_;refine yD 163 2 (i:=6) rfl ?_;refine yD 3 1 (i:=7) rfl ?_;simp only[uF,Zp,Zz,ZT,Zv,ZA];refine vm (vy (fun m s=>∃(d:Nat) (seen:LN) (c:List vO) (b:Nat) (lv:Int) (j:LN) (g:Nat) (G:LP),m=d/\d<=14/\((0<=lv/\lv+1<=d)\/14<=d)/\nj w d seen c b lv=R/\(∀x,x∈j↔x∈seen)/\c.length+d=14/\j.length<=2048*c.length/\s.tm 0=wv p w/\s.tm 6=.sl 0 c.length 0 c.length (2*c.length) 2/\s.tm 7=.sl 1 g 0 j.length (2*j.length) 1/\s.tm 8=uv b/\s.tm 9=iv lv/\s.tm 10=iv ((14-d:Nat):Int)/\s.df=[]/\s.H=.row 163 2 c.length 0 (c.map fun L=>wG 0 0 L.1 L.2)::.row 3 1 g 0 (j.map fun(b:Nat)=>iv (b:Int))::G) (n:=14) ?_ ?_)
 .exact⟨14,[],[],b0,-1,[],0,[],rfl,Zi _,.inr (Zi _),f,fun x=>Iff.rfl,rfl,Zn _,zt,zt,zt,zt,zt,zt,rfl,rfl⟩
 .clear f;rintro m ⟨tm,df,H⟩ ⟨d,seen,c,b,lv,j,g,G,rfl,a2,hd,f,Z,a4,a5,z,A,u,K,M,C,rfl,rfl⟩;dsimp only at *
  obtain⟨d,rfl⟩:∃e,m=e+1:=⟨m-1,by omega⟩
  have ah:((14-(d+1):Nat):Int)<20:=zo;refine vu (zj C ah) ?_ ?_;rotate_left
  .intro h;cases h
  intro _;refine vD ?_;have o:=Ue p 1 w hw b lv j seen Z zo _ rfl;rw[nj]at f;have O:ze (.row 163 2 c.length 0 (c.map fun L=>wG 0 0 L.1 L.2)::.row 3 1 g 0 (j.map fun(b:Nat)=>iv (b:Int))::G) 1 (.sl 1 g 0 j.length (2*j.length) 1) (.list 1 1 (j.map fun(b:Nat)=>iv (b:Int))) :=
   ze.wh (e:=3) (z':=1) (l:=j.map fun(b:Nat)=>iv (b:Int)) rfl rfl (by simp) (by simp) uG eu
  cases q:uP w lv (w.length/64) seen [] [] b with
  | none =>
   rw[q]at f;have hf:=JA _ _ _ _ _ q;generalize gK w lv (w.length/64) seen [] [] b=R0 at o hf;rw[hf]at o;refine yv ?_;refine vS (vz z u K M) ?_;refine sv o ?_ ?_
   .exact O
   refine zN ?_;refine zS ?_;refine zO ?_;rw[<- f];exact vN
  | some r =>
   obtain⟨s',bs,v⟩:=r;rw[q]at f;rw[JB _ _ _ _ _ q]at o;obtain⟨X,P,x2,x3,x4⟩:=Bw _ _ _ _ _ _ q;obtain⟨y,S,av⟩:=rS (N:=2048) _ _ _ _ _ _ q (gV.nil w) (fun n B=>by grind) (by grind);dsimp only at P x2 y S av o;rw[ZA]at P;subst P
   cases v with
   | nil =>
    simp only[List.isEmpty_nil,zES9]at o;refine yv ?_;refine vS (vz z u K M) ?_;refine sv o ?_ ?_
    .exact O
    refine zN ?_;refine zS ?_;refine zO ?_;rw[<- f];exact vN
   | cons k v =>
    simp only[List.isEmpty_cons,Bool.not_false]at o;simp only at f;have ab:=y.len;obtain⟨a6,a7,a1⟩:=y.node (Zr ..);have a8:=S k rfl;refine yv ?_;refine vS (vz z u K M) ?_;refine sv o ?_ ?_
    .exact O
    refine zN ?_;refine zT ?_;refine vY ?_;have U:(c.length+1)*49<=140737488355328:=zo;have D:(j.length+bs.length)*9<=140737488355328:=zo;refine vR ?_;have T:¬bs.length=0:=by rw[ab];simp
    refine uY (xI A u U T D y9 xj xk xa zyA zyB) ?_;refine uY (vh T D zyB) ?_;refine kM (kO A u U D y9 xj xk xa zyB zyA) ?_;refine wY ?_;simp only[go_sem];have I:(List.map (vl 0) (k::v))[0]?=some (vl 0 k):=rfl;have a9:0<(k::v).length:=zAN9 _;generalize bb:k::v=NS at *
    have bm:=iC NS fun n B=>(y.node B).1;have a3:NS.length<=2048:=zo
    by_cases V:k.level=0
    .have Q:(k.level:Int)-1<0:=zo;rw[if_pos V]at f;(repeat(first|refine vq ?_|refine vC (vh I Q zyA) ?_));refine uQ ?_;have t:=Kv 0 0 bs NS zo (fun n B=>(y.node B).1) zo;unfold nh at t;have Y:∀(G:LP),ze (.row 163 2 (c.length+1) 0 ((c.map fun L=>wG 0 0 L.1 L.2)++[wG 0 0 bs NS])::G) 0 (.sl 0 (c.length+1) 0 (c.length+1) (2*(c.length+1)) 2) (uV (c++[(bs,NS)])):=fun G=>by
      have e:(c.map fun L=>wG 0 0 L.1 L.2)++[wG 0 0 bs NS]=(c++[(bs,NS)]).map fun L=>wG 0 0 L.1 L.2:=by simp
      rw[e];exact ze.wh rfl rfl (by simp) (by simp) uG Q5
     by_cases J:wh (wU NS)=true
     .rw[if_pos J]at t;refine yv ?_;refine vS zyA ?_;refine wD t ?_;refine wm A ?_;rw[<- f,J];exact ze.tL ⟨Y _,.bool _,trivial⟩
     .rw[if_neg J]at t;refine yv ?_;refine vS zyA ?_;refine wD t ?_;refine wm A ?_;rw[<- f,show wh (wU NS)=false by grind];exact ze.tL ⟨Y _,.bool _,trivial⟩
    .have Q:¬(k.level:Int)-1<0:=zo;rw[if_neg V]at f;(repeat(first|refine vq ?_|refine vC (vh I Q zyA) ?_));refine uq ?_;refine vY ?_;refine zB ?_;refine xr (zj I zyA) ?_;refine yR ?_;have a0:((14-(d+1):Nat):Int)+1=((14-d:Nat):Int):=zo;refine vp (zj C a0) ?_;refine⟨d,Z5 _,d,s',c++[(bs,NS)],k.left,(k.level:Int)-1,j++bs,g+1,?G,rfl,?c1,?c2,f,?c3,?c4,?c5,zu z,zt,zt,zt,zt,zu C,zt,?H⟩
     case c1=>omega
     case c2=>omega
     case c3=>intro x;rw[x2];simp[Z x,or_comm]
     case c4=>grind
     case c5=>grind
     case H=>simp only[Zl,Zp,Zz,ZT,ZG,Z3,zAW9];rfl


section mid2
variable {α:Type}
variable (G G2 l:List α)(a b c:α)
theorem Iu:(G++a::(G2++b::l))[G.length+(G2.length+1)]?=some b:=by grind
theorem Iv:(G++a::(G2++b::c::l))[G.length+(G2.length+1)+1]?=some c:=by grind
theorem Iw:(G++a::(G2++b::c::l))[G.length+(G2.length+1+1)]?=some c:=Iv G G2 l a b c
end mid2
variable (p r:Nat)(w:LN)(a:Int)
@[reducible] def kP (K:LJ):LQ:=K.map fun x=>uv x.2
@[reducible] def kL (K:LJ):LQ:=K.map fun x=>uv x.1
def oC(z:PV)(K:LJ)(G:LP):LP:=.row 163 2 0 0 [z]::.row 29 1 K.length 0 (kP K)::.row 29 1 K.length 0 (kL K)::G
theorem PO(q:Nat)(bs:LN)(L:LB)(hl:L.length<=3000)(hp:∀n∈L,n.pairs.length<=28):FR 215 [wG p q bs L] (.tuple [.list 0 1 (kP (L.flatMap wL)),.list 0 1 (kL (L.flatMap wL))]):=by
 have u:∀(f:Pr->Nat) (K:LJ),Lb (.list 0 1 (K.map fun x=>uv (f x))):=fun f K=>by
  have:(K.map fun x=>uv (f x))=(K.map f).map uv:=by rw[zBS9];rfl
  rw[this];exact Lb.uvs _
 refine zn (eG T215 func215) (Lb.two (u _ _) (u _ _)) ?_;refine zG ?_;refine yD 29 1 (i:=4) rfl ?_;refine yD 29 1 (i:=5) rfl ?_;simp only[uF,Zp,Zz,ZT,Zv,ZA];refine zG ?_;refine vm (vy (fun m s=>∃(i:Nat) (K:LJ) (G:LP),m=L.length-i/\i<=L.length/\K=(L.take i).flatMap wL/\s.tm 1=.ptr 0 0 0 0 2/\s.tm 4=.sl 1 K.length 0 K.length (2*K.length) 1/\s.tm 5=.sl 2 K.length 0 K.length (2*K.length) 1/\s.tm 6=iv i/\s.df=[]/\s.H=oC (wG p q bs L) K G) (n:=L.length) ?_ ?_)
 .exact⟨0,[],[],rfl,by omega,rfl,zt,zt,zt,zt,rfl,rfl⟩
 .rintro m ⟨O,P,H⟩ ⟨i,K,G,rfl,hi,hK,h1,h4,c,b,rfl,rfl⟩;dsimp only at *
  unfold oC;refine vu (zj h1 b) ?_ ?_;rotate_left
  .intro e;have e:¬i<L.length:=vL e;obtain rfl:i=L.length:=zo;rw[ZL]at hK;refine wm (zj h4 c) ?_;rw[<- hK];have B:∀(f:Pr->Nat),∀v∈(K.map fun x=>uv (f x)).flatMap PV.cells,vg v:=fun f v r=>by
    obtain⟨y,Q,r⟩:=ZF.1 r;obtain⟨x,_,rfl⟩:=Zu.1 Q;simp[PV.cells]at r;subst r;exact .int _ _
   refine ze.tL ⟨?_,?_,trivial⟩
   .exact ze.wh (l:=kP K) rfl rfl (by simp) (by simp) uG (B _)
   .exact ze.wh (l:=kL K) rfl rfl (by simp) (by simp) uG (B _)
  intro e;have e:i<L.length:=vM e;obtain⟨n,k⟩:=wX (l:=L) e;have D:(L.map (vl q))[i]?=some (vl q n):=vU k;have X:=hp n (Zj k);have Z:(L.take (i+1)).flatMap wL=(K++[(n.low,n.left)])++n.pairs:=by
   rw[ZE,k,zBC9,<- hK];simp[wL]
  have ab:K.length<=29*i:=by
   rw[hK];have:∀M:LB,(∀n∈M,n.pairs.length<=28)->(M.flatMap wL).length<=29*M.length:=fun M=>by
    induction M with
    | nil=>intro _;simp
    | cons z M R =>
     intro h;have h1:=h z (Zr ..);have h2:=R fun n k=>h n (Zo _ k);rw[ZZ,Zl,Zp];simp only[wL,Zp];omega
   have:=this (L.take i) fun n k=>hp n (ZU k);rw[ZC]at this;omega
  refine vD ?_;refine vA (vz h1 b D e) ?_;have g:(K.length+1)*9<=140737488355328:=zo;refine vR ?_;refine uY (xI h4 c g h1 b y9 xj xk xa zyA zyB) ?_;refine uY (vh g zyA zyB) ?_;refine kM (xI h1 h4 c b g y9 xj xk xa zyB zyA) ?_;refine wY ?_;simp only[go_sem];refine zG ?_;have I:K.length+1=(K++[(n.low,n.left)]).length:=by simp
  have J:kP K++[uv n.left]=kP (K++[(n.low,n.left)]):=by simp
  have N:kL K++[uv n.low]=kL (K++[(n.low,n.left)]):=by simp
  refine vm (vy (fun m s=>∃(j:Nat) (a:LJ) (G2:LP),m=n.pairs.length-j/\j<=n.pairs.length/\a=K++[(n.low,n.left)]++n.pairs.take j/\s.tm 1=.ptr 0 0 0 0 2/\s.tm 4=.sl 1 a.length 0 a.length (2*a.length) 1/\s.tm 5=.sl 2 a.length 0 a.length (2*a.length) 1/\s.tm 6=iv i/\s.tm 7=.ptr (G.length+1+1+1) 0 0 0 6/\s.tm 8=iv j/\s.df=[]/\s.H=oC (wG p q bs L) a (G++.row 143 6 0 0 [vl q n]::G2)) (n:=n.pairs.length) ?_ ?_)
  .refine⟨0,K++[(n.low,n.left)],?G0,rfl,Zn _,by simp,zu h1,zt,zt,zu b,zt,zt,rfl,?S⟩
   case S =>
    unfold oC;rw[<- I,<- J,<- N]
  .clear h1 h4 c b;rintro m ⟨O,P,H⟩ ⟨j,a,G2,rfl,hj,w,h1,h4,c,b,t,o,rfl,rfl⟩;dsimp only at *
   have Y:a.length<=100000:=by rw[w];simp;omega
   have g:(a.length+1)*9<=140737488355328:=zo;unfold oC;refine vu (vh t o zyA) ?_ ?_;rotate_left
   .intro d;have d:¬j<n.pairs.length:=vL d;obtain rfl:j=n.pairs.length:=zo;refine vp b ?_;refine⟨_,?m9,i+1,a,_,rfl,e,by grind,zu h1,zu h4,zu c,zu b,rfl,rfl⟩;omega
   intro d;have d:j<n.pairs.length:=vM d;obtain⟨x,C⟩:=wX (l:=n.pairs) d;have A:(n.pairs.map pv)[j]?=some (pv x):=vU C;refine vD ?_;refine vR ?_;refine aA ?_ (by simp(disch:=omega)only[go_sem,A,t,o,Iu,h4,c,g,il,ZK,Zl]<;>rfl) (by first|exact trivial|simp only[go_sem,A,d,t,o,Iu,Iv,Iw,h1,h4,c,b,g,y9,xj,xk,xa,il,tU,It,ZK,Zl]);refine aA ?_ (by simp(disch:=omega)only[go_sem,Iw,g,Zl]<;>rfl) (by first|exact trivial|simp only[go_sem,Zl]);refine kM (xI h1 h4 c b g y9 xj xk xa zyB zyA) ?_;refine wY ?_;simp only[go_sem];refine vp o ?_;refine⟨_,?T,j+1,a++[x],?G8,rfl,d,?U,zu h1,zt,zt,zu b,zu t,zu o,zt,?V⟩
   case T=>omega
   case U=>rw[w,ZE,C];simp
   case V =>
    simp only[Zl,Zp,Zz,ZT,ZG,Z3,zAW9];rfl


theorem f151:ET.funcs.get 151=some T151:=eG _ func151
theorem EJ(hw:vE w.length):FR 81 [wv p w,iv a] (.bool (uK w.length a)):=by
 refine zn (eG T81 func81) (.bool _) ?_
 by_cases h1:64<=w.length
 rotate_left
 .have b:¬(64:Int)<=w.length:=zo;refine wm b ?_;exact ve.bool (by simp[uK,h1])
 have b:(64:Int)<=w.length:=zo
 by_cases h2:w.length%64=0
 rotate_left
 .have c:¬(w.length:Int).tmod 64=0:=by rw[IntWalk.rem_in _ _ zo];omega
  refine wm (zj b c) ?_;exact ve.bool (by simp[uK,h1,h2])
 have c:(w.length:Int).tmod 64=0:=by rw[IntWalk.rem_in _ _ zo];omega
 by_cases h3:w.length<=131072
 rotate_left
 .have d:¬(w.length:Int)<=131072:=zo;refine wm (vh b c d) ?_;exact ve.bool (by simp[uK,h1,h2,h3])
 have d:(w.length:Int)<=131072:=zo
 by_cases h4:(0:Int)<=a
 rotate_left
 .refine wm (vz b c d h4) ?_;exact ve.bool (by simp[uK,h1,h2,h3,h4])
 refine wm (vz b c d h4) ?_;exact ve.bool (by simp[uK,h1,h2,h3,h4])
theorem U8(bs:LN)(ns:LB)(k:Nat)(h:ns.length<=k):xl w (bs.drop k) (ns.drop k)=true:=by
 rw[zDO9 h]
 cases bs.drop k<;>rfl
theorem Uh(T:List vO)(i:Nat)(L:vO)(hL:T[i]?=some L):yA w (T.drop i)=(xl w L.1 L.2&&(match T[i+1]? with|some M=>decide (L.2.flatMap wL=uI M)&&yA w (T.drop (i+1))|none=>true)):=by
 have c:=(Zh.1 hL).1;have e:T.drop i=L::T.drop (i+1):=by
  rw[Zs c];rw[Zg c]at hL;injection hL with hL;rw[hL]
 rw[e]
 cases a:T[i+1]? with
 | none=>rw[zDO9 (by grind)];simp[yA]
 | some M =>
  have b:=(Zh.1 a).1;have d:T.drop (i+1)=M::T.drop (i+2):=by
   rw[Zs b];rw[Zg b]at a;injection a with a;rw[a]
  rw[d,yA,Bool.and_assoc]
def rG(w:LN)(b:Nat)(n:zi)(z:Option zi):Bool:=decide (wd (zc w b)=0)&&pC n z
theorem PD(hw:64<=w.length/\w.length<=131072)(T:List vO)(hr:FR 81 [wv p w,iv a] (.bool true))(hl:FR 82 [wv p w,iv a] (.tuple [uV T,.bool true]))(f1:∀L∈T,gU w L)(f3:T ≠ [])(f5:T.length<=14):
  FR 151 [wv p w,iv a] (iv ((if kH w T=true then 0 else 220:Nat):Int)):=by
 refine zn f151 (.int _ _) ?_;obtain⟨r,R,rfl⟩:∃r R,T=r::R:=by
  cases T with
  | nil=>grind
  | cons a l=>grind
 have a3:(List.map (fun L=>wG 0 0 L.1 L.2) (r::R))[0]?=some (wG 0 0 r.1 r.2):=rfl;obtain⟨X,a4,b0⟩:∃X:zi,(r.2.map (vl 0))[0]?=some (vl 0 X)/\Fi (r::R)=decide (X.sib=0):=by
  have:=(f1 r (Zr ..)).ne;obtain⟨bs,ns⟩:=r
  cases ns with
  | nil=>grind
  | cons n ns=>exact⟨n,rfl,rfl⟩
 have a5:0<r.2.length:=zAI9.2 (f1 r (Zr ..)).ne;have a6:0<R.length+1:=zAN9 _;refine wl hr ?_;refine uq ?_;refine vY ?_;refine zM hl ?_
 by_cases bw:X.sib=0
 rotate_left
 .have g:¬(X.sib:Int)=0:=zo;refine wB (vX a3 a4 a5 a6 g) ?_;refine zO ?_;rw[if_neg (by unfold kH;grind)];exact ze.int _ _
 have g:(X.sib:Int)=0:=zo;refine xH (vX a3 a4 a5 a6 g) ?_;refine vY ?_;refine zG ?_;have bx:kH w (r::R)=yA w (r::R):=by unfold kH;rw[b0,bw];rfl
 rw[bx];clear bx b0 a3 a4 a5 a6 g bw;have b5:0<(r::R).length:=zAN9 _;have c4:(r::R).length=R.length+1:=rfl;generalize r::R=T at *
 have bad:∀H,yA w T=false->ve H 0 (.ret (iv 220)) (.ret (iv ((if yA w T=true then 0 else 220:Nat):Int))):=fun H h=>by rw[h];exact ze.int _ _
 have b7:yA w T=true->((if yA w T=true then 0 else 220:Nat):Int)=0:=fun h=>by grind
 refine vm (vy (fun m s=>∃(i:Nat) (H:LP),m=T.length-i/\i<T.length/\yA w T=yA w (T.drop i)/\s.tm 0=wv p w/\s.tm 5=uV T/\s.tm 7=iv i/\s.df=[]/\s.H=H) (n:=T.length) ?_ ?_)
 .exact⟨0,_,rfl,b5,rfl,zt,zt,zt,rfl,rfl⟩
 .rintro m ⟨v,df,H⟩ ⟨i,H',rfl,hlt,hls,o,f,d,rfl,rfl⟩;dsimp only at o f d;have g7:(i:Int)<(T.length:Nat):=zo;refine vu (vh f d g7) ?_ ?_;rotate_left
  .intro h;exact absurd h (by grind)
  intro _;obtain⟨L,hL⟩:=wX (l:=T) hlt;have O:(T.map fun L=>wG 0 0 L.1 L.2)[i]?=some (wG 0 0 L.1 L.2):=vU hL;have Z:=f1 L (Zj hL);rw[Uh w T i L hL]at hls;have c5:=Z.lv.len;have cx:=Z.few;refine vD ?_;refine zB ?_;refine zG ?_;refine vm (vy (fun m s=>∃(k:Nat) (H:LP),m=L.2.length-k/\k<=L.2.length/\xl w L.1 L.2=xl w (L.1.drop k) (L.2.drop k)/\s.tm 0=wv p w/\s.tm 5=uV T/\s.tm 7=iv i/\s.tm 8=iv k/\s.df=[]/\s.H=H) (n:=L.2.length) ?_ ?_)
  .exact⟨0,_,rfl,Zn _,rfl,zu o,zu f,zu d,zt,rfl,rfl⟩
  clear o f d;rintro m ⟨v,df,H⟩ ⟨k,H',rfl,hk,V,o,f,d,t,rfl,rfl⟩;dsimp only at *
  refine vu (vX f d t O hlt) ?_ ?_
  .intro I;have I:k<L.2.length:=vM I;obtain⟨n,hn⟩:=wX (l:=L.2) I;obtain⟨b,S⟩:∃b,L.1[k]?=some b:=⟨_,Zg zo⟩
   have cb:(L.2.map (vl 0))[k]?=some (vl 0 n):=vU hn;have ab:(L.1.map fun(b:Nat)=>iv (b:Int))[k]?=some (iv b):=vU S;have ca:k<L.1.length:=zo;have cc:=(Z.lv.each b (Zj S)).1;rw[J0 w L.1 L.2 k b n S hn]at V;have w1:IntKind.i64.wrap ((64:Int)*(b:Int))=((64*b:Nat):Int):=wx;refine vD ?_;refine vA (kO f d t O hlt cb ab I ca w1) ?_;have e2:((64*b:Nat):Int)+64=((64*b+64:Nat):Int):=zo;have e3:64*b<=64*b+64:=zo;have e4:64*b+64<=w.length:=zo;have e6:0<w.length:=zo;have e5:List.drop (64*b) (List.take (64*b+64) (List.map uv w))=(zc w b).map uv:=by simp[zc,Z1,zAK9]
   have hC:=tw p (zc w b) (by unfold zc vE;simp;omega);refine xg (fun v=>v 0=wv p w/\v 5=uV T/\v 7=iv i/\v 8=iv k/\v 9=iv (64*b:Nat)/\v 10=vJ 0 n.pairs) ⟨zu o,zu f,zu d,zu t,zt,by simp[zb]⟩ ?_;clear o f d t;rintro v ⟨o,f,d,t,Y,ad⟩;refine ur (Q:=fun y u=>y=.norm/\u.tm 0=wv p w/\u.tm 5=uV T/\u.tm 7=iv i/\u.tm 8=iv k/\u.tm 112=.bool (!rG w b n L.2[k+1]?)/\u.df=[]) (wV ?_) ?_
   .have A:(k:Int)+1=((k+1:Nat):Int):=zo;unfold rG;generalize wd (zc w b)=c at *
    refine wF (ww Y o e2 e3 e4 e5 e6) hC ?_
    by_cases hc:c=0
    rotate_left
    .have gc:¬(c:Int)=0:=zo;refine vj gc ?_
     grind
    have gc:(c:Int)=0:=zo;rw[decide_eq_true hc,Z9]
    by_cases a7:k+1<L.2.length
    rotate_left
    .have G:¬((k+1:Nat):Int)<(L.2.length:Nat):=zo;have U:L.2[k+1]?=none:=zAB9 zo;refine vj (xI gc G o f d t Y ad A O hlt) ?_;exact⟨o,f,d,t,by rw[U];unfold pC;grind⟩
    have G:((k+1:Nat):Int)<(L.2.length:Nat):=zo;obtain⟨z,U⟩:∃z,L.2[k+1]?=some z:=⟨_,Zg a7⟩
    have ah:(L.2.map (vl 0))[k+1]?=some (vl 0 z):=vU U;rw[U]
    by_cases a8:n.pairs=[]
    .have N:¬(0:Int)<(n.pairs.length:Nat):=by rw[a8];simp
     refine vj (wP gc G N o f d t Y ad A O hlt) ?_;have b1:pC n (some z)=true:=by unfold pC;rw[a8];rfl
     grind
    have c0:=(Z.lv.node (Zj hn)).1;have c6:0<n.pairs.length:=zAI9.2 a8;have N:(0:Int)<(n.pairs.length:Nat):=zo;obtain⟨q,hq⟩:∃q,n.pairs.getLast?=some q:=by
     cases hh:n.pairs.getLast? with
     | none=>rw[List.getLast?_eq_none_iff]at hh;grind
     | some q=>grind
    have ch:n.pairs[n.pairs.length-1]?=some q:=by rw[<- zAF9];exact hq
    have b2:(n.pairs.map pv)[n.pairs.length-1]?=some (pv q):=vU ch;have g3:(n.pairs.length:Int)-1=((n.pairs.length-1:Nat):Int):=zo;have g4:n.pairs.length-1<n.pairs.length:=zo;have b1:pC n (some z)=decide (q.1<z.low):=by unfold pC;rw[hq]
    rw[b1]
    by_cases c7:q.1<z.low
    .have g5:¬(z.low:Int)<=q.1:=zo;refine vj (wP gc G N g3 g4 g5 a7 ah b2 o f (ww d t Y ad A O hlt)) ?_
     grind
    .have g5:(z.low:Int)<=q.1:=zo;refine vj (wP gc G N g3 g4 g5 a7 ah b2 o f (ww d t Y ad A O hlt)) ?_
     grind
   clear o f d t Y ad;rintro y ⟨v,df,H⟩ ⟨rfl,o,f,d,t,a1,rfl⟩;dsimp only at *
   cases av:rG w b n L.2[k+1]? with
   | false =>
    rw[av]at a1;refine mN a1 ?_;refine zO ?_;exact bad _ (by rw[hls,V];unfold rG at av;grind)
   | true =>
    rw[av]at a1;refine cA a1 ?_;refine wK ?_;refine vp t ?_;unfold rG at av;refine⟨_,?m1,k+1,_,rfl,I,by rw[V,av,Z9],zu o,zu f,zu d,zu t,rfl,rfl⟩;omega
  .intro I;have I:¬k<L.2.length:=vL I;rw[U8 w L.1 L.2 k zo]at V;rw[V,Z9]at hls;have gT:(T.length:Int)-1=((T.length-1:Nat):Int):=zo
   by_cases P:i+1<T.length
   rotate_left
   .have G:(i:Int)=((T.length-1:Nat):Int):=zo;have hM:T[i+1]?=none:=zAB9 zo;rw[hM]at hls;refine wB (vz f d gT G) ?_;refine bL ?_;refine zO ?_;rw[b7 hls];exact ze.int _ _
   have G:¬(i:Int)=((T.length-1:Nat):Int):=zo;obtain⟨M,hM⟩:∃M,T[i+1]?=some M:=⟨_,Zg P⟩
   rw[hM]at hls;dsimp only at hls;have a0:(T.map fun L=>wG 0 0 L.1 L.2)[i+1]?=some (wG 0 0 M.1 M.2):=vU hM;have a9:=f1 M (Zj hM);have ck:=a9.lv.len;have cu:=a9.few;have b3:=PO 0 0 L.1 L.2 zo fun n hn=>(Z.lv.node hn).1;generalize L.2.flatMap wL=K at *
   have A:(i:Int)+1=((i+1:Nat):Int):=zo;refine xH (vz f d gT G) ?_;refine vY ?_;refine yv ?_;refine vS (vz f d O hlt) ?_;refine wD b3 ?_;have c3:(uI M).length=M.2.length:=by unfold uI;simp[ck]
   by_cases c8:K.length=M.2.length
   rotate_left
   .have N:¬(K.length:Int)=(M.2.length:Nat):=zo;refine wB (wQ f d A a0 P N) ?_;refine zO ?_;refine bad _ ?_
    grind
   have N:(K.length:Int)=(M.2.length:Nat):=zo;refine xH (wQ f d A a0 P N) ?_;refine vY ?_;refine zG ?_;refine vm (vy (fun m s=>∃(j:Nat) (H:LP),m=K.length-j/\j<=K.length/\(∀q,q<j->K[q]?=(uI M)[q]?)/\s.tm 0=wv p w/\s.tm 5=uV T/\s.tm 7=iv i/\s.tm 11=.list 0 1 (kP K)/\s.tm 12=.list 0 1 (kL K)/\s.tm 13=iv j/\s.df=[]/\s.H=H) (n:=K.length) ?_ ?_)
   .exact⟨0,_,rfl,Zn _,fun q hq=>absurd hq (Nat.not_lt_zero _),zu o,zu f,zu d,zt,zt,zt,rfl,rfl⟩
   clear o f d t V b3;rintro m ⟨v,df,H⟩ ⟨j,H',rfl,hj,b6,o,f,d,D,J,C,rfl,rfl⟩;dsimp only at *
   refine vu (zj D C) ?_ ?_;rotate_left
   .intro B;have B:¬j<K.length:=vL B;have cl:K=uI M:=zBD9 fun q=>by
     grind
    rw[decide_eq_true cl,Z9]at hls;refine vp (zj d A) ?_;refine⟨_,?m2,i+1,_,rfl,P,hls,zu o,zu f,zu d,rfl,rfl⟩;omega
   intro B;have B:j<K.length:=vM B;obtain⟨x,hx⟩:=wX (l:=K) B;obtain⟨z,U⟩:∃z,M.2[j]?=some z:=⟨_,Zg zo⟩
   obtain⟨b,bb⟩:∃b,M.1[j]?=some b:=⟨_,Zg zo⟩
   have bm:(kP K)[j]?=some (uv x.2):=by rw[Zt,hx];rfl
   have bo:(kL K)[j]?=some (uv x.1):=by rw[Zt,hx];rfl
   have ah:(M.2.map (vl 0))[j]?=some (vl 0 z):=vU U;have ab:(M.1.map fun(b:Nat)=>iv (b:Int))[j]?=some (iv b):=vU bb;have S:j<M.1.length:=zo;have b4:j<M.2.length:=zo;have cc:=(a9.lv.each b (Zj bb)).1;have w1:IntKind.u64.wrap (b:Int)=(b:Int):=ku;have dd:(uI M)[j]?=some (z.low,b):=by unfold uI;rw[zBN9];exact⟨by rw[Zt,U];rfl,bb⟩
   have cs:¬x=(z.low,b)->yA w T=false:=fun h=>by
    grind
   refine vD ?_;refine vq (ur (Q:=fun y u=>y=.norm/\u.tm 0=wv p w/\u.tm 5=uV T/\u.tm 7=iv i/\u.tm 11=.list 0 1 (kP K)/\u.tm 12=.list 0 1 (kL K)/\u.tm 13=iv j/\u.tm 173=.bool (!decide (x=(z.low,b)))/\u.df=[]) (wV ?_) ?_)
   .by_cases c1:x.2=b
    rotate_left
    .have d1:¬(x.2:Int)=b:=zo;refine vj (wP d1 f d D J C A a0 P bm bo (vz B ab S w1)) ?_;exact⟨o,f,d,D,J,C,by rw[decide_eq_false (fun e=>c1 (by rw[e]))];rfl⟩
    have d1:(x.2:Int)=b:=zo
    by_cases c2:x.1=z.low
    rotate_left
    .have d2:¬(x.1:Int)=z.low:=zo;refine vj (wP d1 d2 ah b4 f d D J C A a0 (ww P bm bo B ab S w1)) ?_;exact⟨o,f,d,D,J,C,by rw[decide_eq_false (fun e=>c2 (by rw[e]))];rfl⟩
    have d2:(x.1:Int)=z.low:=zo;refine vj (wP d1 d2 ah b4 f d D J C A a0 (ww P bm bo B ab S w1)) ?_
    grind
   clear o f d D J C;rintro y ⟨v,df,H⟩ ⟨rfl,o,f,d,D,J,C,a2,rfl⟩;dsimp only at *
   by_cases bp:x=(z.low,b)
   rotate_left
   .rw[decide_eq_false bp]at a2;refine mN a2 ?_;refine zO ?_;exact bad _ (cs bp)
   rw[decide_eq_true bp]at a2;refine cA a2 ?_;refine wK ?_;refine vp C ?_;refine⟨_,?m3,j+1,_,rfl,B,fun q hq=>?q3,zu o,zu f,zu d,zu D,zu J,zu C,rfl,rfl⟩
   case m3=>omega
   case q3 =>
    rcases zAO9 q j with h|h
    .exact b6 q h
    grind
theorem PE(hs:vE w.length):FR 151 [wv p w,iv a] (iv (fS w a:Nat)):=by
 have b:=EJ p w a hs;unfold fS
 by_cases h:uK w.length a=true
 rotate_left
 .rw[if_neg h];rw[show uK w.length a=false by grind]at b;refine zn f151 (.int _ _) ?_;refine wl b ?_;refine zU ?_;exact ze.int _ _
 rw[if_pos h];have d:=(dC _ _).1 h;rw[h]at b;obtain⟨n,rfl⟩:∃n:Nat,a=n:=⟨a.toNat,by omega⟩
 rw[Z4];have c:=DC p w ⟨d.1,d.2.2.1⟩ n zo;obtain⟨f,g⟩:=sh w n
 by_cases e:(wg w n).2=true
 rotate_left
 .rw[if_neg e];rw[f,show (wg w n).2=false by grind]at c;generalize (xV w n).1=T at c;refine zn f151 (.int _ _) ?_;refine wl b ?_;refine uq ?_;refine vY ?_;refine zM c ?_;refine zS ?_;refine zO ?_;exact ze.int _ _
 rw[if_pos e];rw[f,g e,e]at c;obtain⟨f1,f2,f3,f4,f5⟩:=dI (w:=w) (T:=(wg w n).1) zo n (by grind);exact PD p w n ⟨d.1,d.2.2.1⟩ _ b c f1 f3 f5


theorem f100:ET.funcs.get 100=some T100:=eG _ func100
def mD(n:Nat)(fr:LG)(i:Nat)(f:Int):Bool:=decide (1<=f)&&decide (f<n) && !(fr.take i).contains f
def mE(n:Nat)(fr:LG)(k:Nat):Bool:=(List.range k).all fun i=>mD n fr i (fr.getD i 0)
theorem Kf(n:Nat)(fr:LG)(k:Nat):mE n fr (k+1)=(mE n fr k&&mD n fr k (fr.getD k 0)):=by
 unfold mE;grind
theorem Ke(n:Nat)(fr:LG)(j:Nat):∀k,mE n fr (j+k)=true->mE n fr j=true
 | 0,h=>h
 | k+1,h=>by rw[<- zCI9,Kf,Zm]at h;exact Ke n fr j k h.1
def lC(L:vO)(fr:LG):Bool:=fr.all fun f=>!(L.1.map fun(b:Nat)=>(b:Int)).contains f
def aa(T:List vO)(fr:LG):Bool:=T.all fun L=>lC L fr
def mg(w:LN)(a:Nat)(fr:LG):Bool:=mE (w.length/64) fr fr.length&&(!(xV w a).2||aa (xV w a).1 fr)
theorem Rc(hw:64<=w.length/\w.length<=131072)(a:Nat)(ha:a<w.length)(fr:LG)(hfl:fr.length<1000000)(hT:(xV w a).1.length<=100)(hTb:∀L∈(xV w a).1,L.1.length<=100000):
  FR 150 [wv p w,iv a,.list r 1 (fr.map iv)] (.bool (mg w a fr)):=by
 refine zn (eG T150 func150) (.bool _) ?_;have R:=DC p w hw a ha;unfold mg;generalize (xV w a).1=T at *
 generalize (xV w a).2=fine at *
 refine zG ?_;refine vm (vy (fun m s=>∃(i:Nat) (H:LP),m=fr.length-i/\i<=fr.length/\mE (w.length/64) fr i=true/\s.tm 0=wv p w/\s.tm 1=iv a/\s.tm 2=.list r 1 (fr.map iv)/\s.tm 7=iv i/\s.df=[]/\s.H=H) (n:=fr.length) ?_ ?_)
 .exact⟨0,_,rfl,Zn _,rfl,zt,zt,zt,zt,rfl,rfl⟩
 rintro m ⟨K,M,H⟩ ⟨i,H',rfl,hi,P,q,h1,h2,e,rfl,rfl⟩;dsimp only at *
 refine vu (zj h2 e) ?_ ?_
 .intro c;have c:i<fr.length:=vM c;obtain⟨f,x⟩:=wX (l:=fr) c;have v:(fr.map iv)[i]?=some (iv f):=vU x;have X:fr.getD i 0=f:=by rw[Zq,x];rfl
  have z:=Kf (w.length/64) fr i;rw[P,Z9,X]at z;have N:IntKind.i64.wrap ((w.length:Int).tdiv 64)=((w.length/64:Nat):Int):=by rw[IntWalk.i64_quo _ _ zo];omega
  have hq:IntKind.i64.wrap ((w.length:Int)/64)=((w.length/64:Nat):Int):=wx;have Y:List.take i (fr.map iv)=(fr.take i).map iv:=by rw[zAK9]
  have U:i<=fr.length:=hi;have I:=tY r (fr.take i) f (by grind);refine vD ?_;refine zB ?_;refine ur (Q:=fun y A=>y=.norm/\A.tm 0=wv p w/\A.tm 1=iv a/\A.tm 2=.list r 1 (fr.map iv)/\A.tm 7=iv i/\A.tm 42=.bool (!mD (w.length/64) fr i f)/\A.df=[]) (wV ?_) ?_
  .unfold mD
   by_cases c1:(1:Int)<=f
   rotate_left
   .have d1:f<1:=zo;refine nO (by first|exact trivial|simp only[go_sem,d1,q,h2,e,v,c]) (by simp(disch:=omega)only[go_sem,d1,h2,e,v]<;>rfl) rfl (by simp only[go_sem,c]<;>rfl) (by simp only[go_sem]<;>rfl) ?_;refine vj e ?_
    grind
   have d1:¬f<1:=zo;rw[decide_eq_true c1,Z9]
   by_cases c2:f<((w.length/64:Nat):Int)
   rotate_left
   .have d2:((w.length/64:Nat):Int)<=f:=zo;refine nO (by first|exact trivial|simp only[go_sem,d1,d2,N,q,h2,e,v,c]) (by simp(disch:=omega)only[go_sem,d1,d2,N,q,h2,e,v]<;>rfl) rfl (by simp only[go_sem,c]<;>rfl) (by simp only[go_sem]<;>rfl) ?_;refine vj e ?_
    grind
   have d2:¬((w.length/64:Nat):Int)<=f:=zo;rw[decide_eq_true c2,Z9,Bool.not_not];refine wF (kO d1 d2 N Y U q h2 e v c) I ?_;refine vj e ?_
   grind
  clear q h1 h2 e;rintro y ⟨K,M,H⟩ ⟨rfl,q,h1,h2,e,B,rfl⟩;dsimp only at *
  cases S:mD (w.length/64) fr i f with
  | false =>
   rw[S]at B z;refine mN B ?_;refine zO ?_;refine ve.bool ?_
   cases O:mE (w.length/64) fr fr.length with
   | false=>rfl
   | true =>
    obtain⟨d,hd⟩:∃d,fr.length=i+1+d:=⟨fr.length-(i+1),by omega⟩
    rw[hd]at O;rw[Ke _ _ _ _ O]at z
    cases z
  | true =>
   rw[S]at B z;refine cA B ?_;refine wK ?_;refine vp e ?_;refine⟨_,?m1,i+1,_,rfl,c,z,zu q,zu h1,zu h2,zu e,rfl,rfl⟩;omega
 intro c;have c:¬i<fr.length:=vL c;obtain rfl:i=fr.length:=zo;rw[P,Z9];refine yv ?_;refine vS (zj q h1) ?_;refine wD R ?_;refine zG ?_;refine vm (vy (fun m s=>∃(j:Nat) (H:LP),m=T.length-j/\j<=T.length/\(fine=true->aa (T.take j) fr=true)/\(j=0\/fine=true)/\s.tm 2=.list r 1 (fr.map iv)/\s.tm 8=uV T/\s.tm 9=.bool fine/\s.tm 10=iv j/\s.df=[]/\s.H=H) (n:=T.length) ?_ ?_)
 .exact⟨0,_,rfl,Zn _,fun _=>rfl,.inl rfl,zu h2,zt,zt,zt,rfl,rfl⟩
 clear q h1 h2 e R;rintro m ⟨K,M,H⟩ ⟨j,H',rfl,hj,C,ah,h2,t,u,o,rfl,rfl⟩;dsimp only at *
 by_cases Z:j<T.length/\fine=true
 rotate_left
 .have V:(!fine||aa T fr)=true:=by
   cases fine with
   | false=>rfl
   | true =>
    grind
  rw[V]
  by_cases D:j<T.length
  .have g:(j:Int)<(T.length:Nat):=zo;obtain rfl:fine=false:=by grind
   refine vu (vz t u o g) ?_ ?_
   .intro h;cases h
   intro _;refine zO ?_;exact ze.bool _
  .have g:¬(j:Int)<(T.length:Nat):=zo;refine vu (vz t u o g) ?_ ?_
   .intro h;cases h
   intro _;refine zO ?_;exact ze.bool _
 obtain⟨D,rfl⟩:=Z;have C:=C rfl;have g:(j:Int)<(T.length:Nat):=zo;refine vu (vz t u o g) ?_ ?_;rotate_left
 .intro h;cases h
 intro _;obtain⟨L,J⟩:=wX (l:=T) D;have ab:(T.map fun L=>wG 0 0 L.1 L.2)[j]?=some (wG 0 0 L.1 L.2):=vU J;have av:=hTb L (Zj J);refine vD ?_;refine zG ?_;refine vm (vy (fun m s=>∃(k:Nat) (H:LP),m=fr.length-k/\k<=fr.length/\(∀f∈fr.take k,¬(L.1.map fun(b:Nat)=>(b:Int)).contains f=true)/\s.tm 2=.list r 1 (fr.map iv)/\s.tm 8=uV T/\s.tm 9=.bool true/\s.tm 10=iv j/\s.tm 11=iv k/\s.df=[]/\s.H=H) (n:=fr.length) ?_ ?_)
 .exact⟨0,_,rfl,Zn _,fun f x=>by grind,zu h2,zu t,zu u,zu o,zt,rfl,rfl⟩
 clear h2 t u o;rintro m ⟨K,M,H⟩ ⟨k,H',rfl,O,ad,h2,t,u,o,G,rfl,rfl⟩;dsimp only at *
 refine vu (zj h2 G) ?_ ?_;rotate_left
 .intro c;have c:¬k<fr.length:=vL c;obtain rfl:k=fr.length:=zo;rw[ZL]at ad;refine vp o ?_;refine⟨_,?m3,j+1,_,rfl,D,fun _=>?n3,.inr rfl,zu h2,zu t,zu u,zu o,rfl,rfl⟩
  case m3=>omega
  case n3 =>
   unfold aa at C⊢;rw[ZE,J,List.all_append,C,Z9];simp only[Option.toList_some,List.all_cons,List.all_nil,zDQ9];unfold lC
   grind
 intro c;have c:k<fr.length:=vM c;obtain⟨f,x⟩:=wX (l:=fr) c;have v:(fr.map iv)[k]?=some (iv f):=vU x;have I:=tY 0 (L.1.map fun(b:Nat)=>(b:Int)) f (by grind);rw[Az]at I;refine vD ?_;refine vR ?_;refine wF (kQ h2 t o G ab D v c) I ?_;refine vj h2 ?_
 cases hc:(L.1.map fun(b:Nat)=>(b:Int)).contains f with
 | true =>
  refine zU ?_;refine ve.bool ?_;rw[eq_comm];(first|(rw[Bool.or_eq_false_iff];refine⟨rfl,?_⟩)|skip);unfold aa;rw[List.all_eq_false];refine⟨L,Zj J,?_⟩;unfold lC
  grind
 | false =>
  refine zH ?_;refine vp G ?_;refine⟨_,?m4,k+1,_,rfl,c,?n4,zu h2,zu t,zu u,zu o,zu G,rfl,rfl⟩
  case m4=>omega
  case n4 =>
   intro g hg;rw[ZE,x]at hg
   grind


theorem Jm{w:LN}:∀(d:Nat) (seen:LN) (acc:List vO) (b:Nat) (lv:Int),(nj w d seen acc b lv).1=[]\/(nj w d seen acc b lv).1=(yg w d seen acc b lv).1
 | 0,seen,acc,b,lv=>.inl rfl
 | d+1,seen,acc,b,lv=>by
  rw[nj,yg]
  cases e:uP w lv (w.length/64) seen [] [] b with
  | none=>grind
  | some r =>
   obtain⟨f,bs,a⟩:=r
   cases a with
   | nil=>grind
   | cons n a =>
    simp only
    by_cases c:n.level=0
    .grind
    .rw[if_neg c,if_neg c];exact Jm d _ _ _ _
theorem YG{w:LN}(hw:w.length<=131072)(a:Nat):(∀L∈(xV w a).1,gU w L)/\(xV w a).1.length<=14:=by
 have b:=Bv w 14 [] [] (w.getD a 0) (-1);have c:=(Bu hw 14 [] [] (w.getD a 0) (-1) (fun L d=>by grind)).1;rcases Jm (w:=w) 14 [] [] (w.getD a 0) (-1)with h|h
 .unfold xV;grind
 .unfold xV;grind
def nR(w:LN)(a:Int)(fr:LG):Nat:=if uK w.length a=true then if mg w a.toNat fr=true then fS w a else 2 else 2
theorem O4(fr:LG)(hs:vE w.length)(hfl:fr.length<1000000):FR 100 [wv p w,iv a,.list r 1 (fr.map iv)] (iv (nR w a fr:Nat)):=by
 have b:=EJ p w a hs;have e:=PE p w a hs;unfold nR
 by_cases h:uK w.length a=true
 rotate_left
 .rw[if_neg h];rw[show uK w.length a=false by grind]at b;refine zn f100 (.int _ _) ?_;refine wl b ?_;refine zU ?_;exact ze.int _ _
 rw[if_pos h];have d:=(dC _ _).1 h;rw[h]at b;obtain⟨n,rfl⟩:∃n:Nat,a=n:=⟨a.toNat,by omega⟩
 rw[Z4];obtain⟨t1,t2⟩:=YG (w:=w) d.2.2.1 n;have c:=Rc p r w ⟨d.1,d.2.2.1⟩ n zo fr hfl zo fun L f=>by have:=t1 L f;have h1:=this.lv.len;have h2:=this.few;omega
 by_cases h2:mg w n fr=true
 rotate_left
 .rw[if_neg h2];rw[show mg w n fr=false by grind]at c;refine zn f100 (.int _ _) ?_;refine wI ?_;refine vo b ?_;refine wq ?_;refine wD c ?_;refine zU ?_;exact ze.int _ _
 rw[if_pos h2];rw[h2]at c;refine zn f100 (.int _ _) ?_;refine wI ?_;refine vo b ?_;refine wq ?_;refine wD c ?_;refine uq ?_;refine vY ?_;refine zI ?_;refine vo e ?_;refine zP ?_;exact ze.int _ _
structure om(w:LN)(b0 key:Nat)(ws:LN):Prop where
 first:ws[0]?=some b0
 inn:∀b∈ws,64*b+64<=w.length
 next:∀(i:Nat) (b c:Nat),ws[i]?=some b->ws[i+1]?=some c->yN (zc w b) key=(c,0)
 last:∀b,ws.getLast?=some b->¬(yN (zc w b) key).2=0
 few:ws.length<=20
theorem YY(p:Nat)(w:LN)(a key:Nat)(ws:LN)(hw:w.length<=131072)(ha:a<w.length)(hW:om w (w.getD a 0) key ws):FR 101 [wv p w,iv a,uv key] (.list 0 1 (ws.map fun(b:Nat)=>iv (b:Int))):=by
 refine zn (eG T101 func101) (Lb.ivn _) ?_;have q:=xe ha;obtain⟨h1,h2,h3,h4,S⟩:=hW;generalize w.getD a 0=b0 at *
 have r:0<ws.length:=(Zh.1 h1).1;have Q:=h2 b0 (Zj h1);have z:IntKind.i64.wrap (b0:Int)=(b0:Int):=wx;refine vA (vh q ha z) ?_;refine vm (vy (fun m s=>∃(i:Nat) (V:LN) (G:LP),m=ws.length-i/\i<ws.length/\V=ws.take (i+1)/\s.tm 0=wv p w/\s.tm 2=uv key/\s.tm 7=.sl 0 i 0 V.length (2*V.length) 1/\s.tm 8=iv i/\s.df=[]/\s.H=.row 3 1 i 0 (V.map fun(b:Nat)=>iv (b:Int))::G) (n:=ws.length) ?_ ?_)
 .refine⟨0,[b0],[],rfl,r,?A,zt,zt,zt,zt,rfl,rfl⟩
  case A=>rw[ZE,h1];rfl
 rintro m ⟨T,U,H⟩ ⟨i,V,G,rfl,B,d,t0,t2,t7,t8,rfl,rfl⟩;dsimp only at t0 t2 t7 t8;have R:V.length=i+1:=by rw[d,ZC];omega
 have g:(i:Int)<20:=zo;refine vu (zj t8 g) ?_ ?_;rotate_left
 .intro h;cases h
 intro _;obtain⟨b,f⟩:=wX (l:=ws) B;have t:=h2 b (Zj f);have u:V[i]?=some b:=by rw[d,ZY,if_pos zo];exact f
 have v:(V.map fun(b:Nat)=>iv (b:Int))[i]?=some (iv b):=vU u;have C:(V.length:Int)-1=(i:Int):=zo;have D:i<V.length:=zo;have I:IntKind.i64.wrap ((64:Int)*(b:Int))=((64*b:Nat):Int):=wx;have J:((64*b:Nat):Int)+64=((64*b+64:Nat):Int):=zo;have K:64*b<=64*b+64:=zo;have L:0<w.length:=zo;have M:List.drop (64*b) (List.take (64*b+64) (List.map uv w))=(zc w b).map uv:=by simp[zc,Z1,zAK9]
 have N:=PN p key (zc w b) (by unfold zc vE;simp;omega);refine vD ?_;refine zB ?_;refine vC (vz t7 C D v) ?_;refine vK (kQ t0 t2 I J K M L t) ?_;refine vo N ?_
 by_cases O:(yN (zc w b) key).2=0
 rotate_left
 .have P:¬(((yN (zc w b) key).2:Nat):Int)=0:=zo;refine zN ?_;refine wB P ?_;refine bL ?_;(repeat(first|refine vq ?_|refine vC t7 ?_));refine vw (wo ?_);have j:i+1=ws.length:=by
   rcases zAO9 (i+1) ws.length with h|h
   .have:=h3 i b _ f (Zg h)
    grind
   .omega
  have x:V=ws:=by rw[d,j,ZL]
  subst x;exact ze.wh (e:=3) (z':=1) (l:=V.map fun(b:Nat)=>iv (b:Int)) rfl rfl (by simp) (by simp) uG eu
 have j:i+1<ws.length:=by
  rcases zAO9 (i+1) ws.length with h|h
  .exact h
  .exact absurd O (h4 b (by rw[zAF9,show ws.length-1=i by omega];exact f))
 obtain⟨c,k⟩:∃c,ws[i+1]?=some c:=⟨_,Zg j⟩
 have y:=h3 i b c f k;rw[y];refine zN ?_;refine zT ?_;refine vY ?_;have o:(V.length+1)*9<=140737488355328:=zo;refine zB ?_;refine zB ?_;refine xr (zj t7 o) ?_;refine yR ?_;refine zB ?_;refine xr t8 ?_;refine yR ?_;refine⟨_,?m,i+1,V++[c],?G,rfl,j,?d,by simp[zb,t0],by simp[zb,t2],zt,by simp[zb],zt,?H⟩
 case m=>omega
 case d=>rw[ZE (i:=i+1),k,<- d];rfl
 case H=>(try dsimp only);rw[ZG];rfl


theorem N7{E:vZ}{caught:LD}{ops:List vB}{s:vn}{Q:FX->vn->Prop}(i n:Nat){w:PV}{o:za}(hn:s.H[n]?=some o)(hw:ze (gM n s.H) 0 (s.tm i) w)(k:WO E caught ops ⟨zb s.tm i w,s.df,s.H.set n .void⟩ Q):WO E caught ops s Q:=fun B c t b=>by
 have f:=(Zh.1 hn).1;obtain⟨m,h,g⟩:=b.hr.frz (H':=s.H.set n .void) (n:=n) (by simp) (by grind) (fun id o o' l a=>by
  by_cases d:n=id
  .subst d;simp[f]at a;subst a;exact .void _
  .rw[Zx d,l]at a;injection a with a;subst a;exact .same _ (Ne.symm d))
 obtain⟨r,x,p,q,v,y,z,A,C,fin⟩:=k B _ t ⟨h,fun j=>by
  dsimp only;unfold zb
  by_cases e:j=i
  .subst e;rw[if_pos rfl];rcases b.tm j with h2|⟨u,D,G⟩
   .rw[h2]at hw;cases hw
   .exact .inr ⟨u,D,g _ _ _ G (.inr hw)⟩
  .rw[if_neg e];exact(b.tm.mono m) j,b.df.mono m⟩
 exact⟨r,x,p,q,v,y,z,m.trans A,C,fin⟩
theorem fQ(x:Wk)(hfr:vg x.fr)(b:Nat)(hb:64*b+64<=x.W.length)(hW:x.W.length<=131072):FP ET 103 [vT x,iv b] (.ret (wv x.p (zc x.W b))):=by
 refine mO (eG T103 func103) ?_;have a:IntKind.i64.wrap ((64:Int)*(b:Int))=((64*b:Nat):Int):=wx;have c:((64*b:Nat):Int)+64=((64*b+64:Nat):Int):=zo;have d:64*b<=64*b+64:=zo;have e:0<x.W.length:=zo;have f:List.drop (64*b) (List.take (64*b+64) (List.map uv x.W))=(zc x.W b).map uv:=by simp[zc,Z1,zAK9]
 unfold vT;refine wm (wQ a c d f e hb) ?_;exact ze.list _ _ _
def yn(w:LN):zi:=if headB w=true then headN w else kN
variable (w:LN)(x:Wk)
theorem JP:∃no:Nat,xD w=.ret (.tuple [vl 0 (yn w),iv no]):=by
 unfold yn
 by_cases h:headB w=true
 .exact⟨0,by rw[ba _ h,if_pos h];rfl⟩
 .exact⟨210,by rw[DW (by grind),if_neg h];rfl⟩
theorem Kb:(yn w).level<=12/\(yn w).sib<2048/\(yn w).pairs.length<=28:=by
 unfold yn
 by_cases h:headB w=true
 .rw[if_pos h];have:=eF h;exact⟨this.1,this.2.1,yM w⟩
 .rw[if_neg h];decide
theorem kU(b:Nat)(h:64*b+64<=w.length):(zc w b).length=64:=by unfold zc;grind
theorem Rm(hfr:vg x.fr)(b:Nat)(hb:64*b+64<=x.W.length)(hW:x.W.length<=131072):FR 160 [vT x,iv b] (.bool (decide (27<=(yn (zc x.W b)).pairs.length))):=by
 refine zn (eG T160 func160) (.bool _) ?_;have a:=fQ x hfr b hb hW;have c:=fc x.p (zc x.W b) (by rw[kU _ _ hb];decide);obtain⟨f,d⟩:=JP (zc x.W b);rw[d]at c;have e:=(Kb (zc x.W b)).2.2;generalize yn (zc x.W b)=n at *
 have hid:=gG hfr;unfold vT at hid a⊢;refine wI ?_;refine nP (by first|rfl|(simp only[go_sem]<;>rfl)) (by simp only[go_sem]<;>rfl) a rfl ?_ ?_;(repeat(first|exact trivial|refine And.intro ?_ ?_|exact vg.int _ _|exact vg.bool _|exact vg.list _ _ _|exact vg.elem _|exact vg.nilsl|exact vg.str _|exact m7 _ _ _))
 .exact hid
 .exact bG
 refine wq ?_;refine wD c ?_;refine zO ?_;refine ve.bool ?_
 grind
def wJ(w:LN):LJ:=(List.range w.length).map fun i=>(i,w.getD i 0)
theorem HA(i:Nat)(h:i<w.length):(wJ w)[i]?=some (i,w.getD i 0):=by
 unfold wJ;grind
theorem aQ:(wJ w).length=w.length:=by unfold wJ;simp
theorem GH(hfr:vg x.fr)(b r:Nat)(w:LN)(hl:x.L.length+w.length<1000000)(hw:x.W.length<1000000)(hin:64*b+w.length<=x.W.length):FP ET 158 [vT x,iv b,wv r w] (.ret (vT (x.does (vx (64*b) (wJ w))))):=by
 refine mO (eG T158 func158) ?_;have hid:=gG hfr;refine zG ?_;refine yD 120 2 (i:=7) rfl ?_;simp only[uF,Zp,Zz,ZT,Zv,ZA];refine zG ?_;refine vm (vy (fun m s=>∃(i:Nat) (V:LJ) (G:LP),m=w.length-i/\i<=w.length/\V=(wJ w).take i/\s.tm 1=iv b/\s.tm 2=wv r w/\s.tm 3=.ptr 0 0 0 0 4/\s.tm 6=.ptr 1 0 0 0 4/\s.tm 7=.sl 2 i 0 V.length (2*V.length) 2/\s.tm 8=iv i/\s.df=[]/\s.H=.row 185 4 0 0 [vT x]::.row 185 4 0 0 [.agg [.nilsl,.nilsl,.nilsl,iv 0]]::.row 120 2 i 0 (V.map vd)::G) (n:=w.length) ?_ ?_)
 .exact⟨0,[],[],rfl,Zn _,by simp,zt,zt,zt,zt,zt,zt,rfl,rfl⟩
 rintro m ⟨d,v,H⟩ ⟨i,V,G,rfl,z,e,h1,h2,h3,f,g,h,rfl,rfl⟩;dsimp only at *
 have u:V.length=i:=by rw[e,ZC,aQ];omega
 refine vu (zj h2 h) ?_ ?_
 .intro a;have a:i<w.length:=vM a;have l:=xe a;have o:(V.length+1)*17<=140737488355328:=zo;refine vD ?_;refine vp (wQ h2 g h a l o) ?_;refine vp h ?_;refine⟨_,?m,i+1,V++[(i,w.getD i 0)],?G,rfl,a,?e,zu h1,zu h2,zu h3,zu f,zt,zu h,zt,?H⟩
  case m=>omega
  case e=>rw[ZE,HA _ _ a,<- e];rfl
  case H=>(try dsimp only);rw[ZG];rfl
 .intro a;have a:¬i<w.length:=vL a;obtain rfl:i=w.length:=zo;have p:V=wJ w:=by rw[e,<- aQ,ZL]
  subst p;clear e;have k:=oG x hfr (64*b) 0 (wJ w) (by omega) hw fun c q=>by
   unfold wJ at q
   grind
  have t:IntKind.i64.wrap ((64:Int)*(b:Int))=((64*b:Nat):Int):=wx;refine xg (fun d=>d 1=iv b/\d 3=.ptr 0 0 0 0 4/\d 6=.ptr 1 0 0 0 4/\d 7=.sl 2 w.length 0 (wJ w).length (2*(wJ w).length) 2) ⟨zu h1,zu h3,zu f,zu g⟩ ?_;clear h1 h2 h3 f g h;rintro d ⟨h1,h3,f,g⟩;refine sQ 7 2 (w:=.list 0 2 ((wJ w).map vd)) rfl (by
   dsimp only;rw[g];exact ze.wh (lI rfl) rfl (by simp) (by simp) uG mf) ?_
  simp only[zAJ9,zAH9];have j:vg (vT (x.does (vx (64*b) (wJ w)))):=gG (by rw[(xA _ x).2.2.1];exact hfr);generalize x.does (vx (64*b) (wJ w))=y at *
  unfold vT at k j hid⊢;refine yv ?_;refine vS (vh h1 h3 t) ?_;refine nP (by first|rfl|(simp only[go_sem]<;>rfl)) (by simp only[go_sem]<;>rfl) k rfl ?_ ?_;(repeat(first|exact trivial|refine And.intro ?_ ?_|exact vg.int _ _|exact vg.bool _|exact vg.list _ _ _|exact vg.elem _|exact vg.nilsl|exact vg.str _|exact m7 _ _ _))
  .exact hid
  .exact bG
  refine wN f ?_;refine vw ?_;refine yd (vs:=[vT y]) ?_ ?_
  .simp[T158,xT,zr,zC,zb,f,zR,zF,zW,PV.cells,vT]
  .unfold vT;exact j.frz


@[reducible] def wz (r:Nat) (fr:LN):PV:=.list r 1 (fr.map fun (b:Nat)=>iv (b:Int))
variable {w:LN}{x:Pr}(a:Nat)
def Wk.up(x:Wk):Wk:=⟨x.p,x.q,x.W,x.L,x.fr,x.used+1⟩
@[reducible] def bq (n:zi) (b to low:Nat):zi:=⟨n.level + 1,0,0,b,0,[(low,to)]⟩
def Wk.root(x:Wk)(fr:LN)(at' b to low:Nat):Wk×Nat×Nat×Nat :=
 if fr.length<=x.used then(x,0,0,221)else
 if 12<=(yn (zc x.W b)).level then(x.up,0,0,3)else
 ((x.up.does (vx (64*fr.getD x.used 0) (wJ (vI (bq (yn (zc x.W b)) b to low))))).does (vx 0 [(at',fr.getD x.used 0)]),to,low,0)
@[reducible] def mK (R:Wk × Nat × Nat × Nat):PV:=.tuple [vT R.1,iv (R.2.1:Nat),uv R.2.2.1,iv (R.2.2.2:Nat)]
theorem eA{H:LP}{y:Wk}(h:vg y.fr)(a b c:Nat):ze H 0 (.tuple [vT y,iv (a:Int),uv b,iv (c:Int)]) (mK (y,a,b,c)):=ze.tL ⟨(gG h).frz,.int _ _,.int _ _,.int _ _,trivial⟩
theorem Xh(x:Wk)(rr:Nat)(fr:LN)(hfr:x.fr=wz rr fr)(at' b to low:Nat)(hb:64*b+64<=x.W.length)(hW:x.W.length<=131072)(hat:at'<x.W.length)(hto:to<2048)(hfrN:∀f∈fr,64*f+64<=x.W.length)(hL:x.L.length+65<1000000)(hfl:fr.length<1000000) :
  FP ET 159 [vT x,iv b,iv to,uv low,iv at'] (.ret (mK (x.root fr at' b to low))):=by
 refine mO (eG T159 func159) ?_;have e:vg x.fr:=by rw[hfr];exact .list _ _ _
 have hid:vg (vT x):=gG e;have k:vg (vT x.up):=gG e;have u:=fQ x.up e b hb hW;have B:vT x=.agg [wv x.p x.W,.list x.q 2 (x.L.map vd),wz rr fr,iv x.used]:=by unfold vT;rw[hfr]
 have j:vT x.up=.agg [wv x.p x.W,.list x.q 2 (x.L.map vd),wz rr fr,iv ((x.used+1:Nat):Int)]:=by rw[<- hfr];rfl
 rw[B];unfold Wk.root
 by_cases C:fr.length<=x.used
 .rw[if_pos C];have g:(fr.length:Int)<=(x.used:Nat):=zo;refine wB g ?_;refine zG ?_;refine vw ?_;refine yd (vs:=[vT x,iv 0,uv 0,iv 221]) ?_ ?_
  .rw[B];simp[T159,xT,zr,zC,zb,zR,zF,zW,PV.cells]
  .exact eA e 0 0 221
 rw[if_neg C];have g:¬(fr.length:Int)<=(x.used:Nat):=zo;have m:x.used<fr.length:=zo;obtain⟨f,r⟩:∃f,fr[x.used]?=some f:=⟨_,Zg m⟩
 have G:(fr.map fun(b:Nat)=>iv (b:Int))[x.used]?=some (iv f):=vU r;have P:fr.getD x.used 0=f:=by rw[Zq,r];rfl
 have Q:=hfrN f (Zj r);rw[P];refine xH (vh g m G) ?_;refine vY ?_;have Z:(x.used:Int)+1=((x.used+1:Nat):Int):=zo;refine zB ?_;refine vC (vh g m G) ?_;refine zB ?_;refine vC Z ?_;rw[<- j];have N:=fc x.up.p (zc x.up.W b) (by rw[show (zc x.up.W b).length=64 from kU _ _ hb];decide);obtain⟨no,R⟩:=JP (zc x.up.W b);rw[R]at N;have ab:=Kb (zc x.up.W b);have O:yn (zc x.W b)=yn (zc x.up.W b):=rfl;rw[O];generalize yn (zc x.up.W b)=n at *
 refine xg (fun a=>a 1=iv b/\a 2=iv to/\a 3=uv low/\a 4=iv at'/\a 5=.ptr 0 0 0 0 4/\a 10=.ptr 1 0 0 0 4/\a 11=iv 0/\a 12=uv 0/\a 13=iv 0/\a 14=iv f) ⟨zt,zt,zt,zt,zt,zt,zt,zt,zt,by simp[zb]⟩ ?_;rintro a ⟨h1,h2,h3,h4,d,h,S,T,U,i⟩;rw[j]at k u⊢;refine vK (zj h1 d) ?_;refine nP (by first|rfl|(simp only[go_sem]<;>rfl)) (by simp only[go_sem]<;>rfl) u rfl ?_ ?_;(repeat(first|exact trivial|refine And.intro ?_ ?_|exact vg.int _ _|exact vg.bool _|exact vg.list _ _ _|exact vg.elem _|exact vg.nilsl|exact vg.str _|exact m7 _ _ _))
 .exact k
 .exact bG
 refine wq ?_;refine wD N ?_
 by_cases A:12<=n.level
 .rw[if_pos A];have s:(12:Int)<=(n.level:Nat):=zo;refine wB s ?_;refine vA (zj d h) ?_;refine vw ?_;refine yd (vs:=[vT x.up,iv 0,uv 0,iv 3]) ?_ ?_
  .rw[j];simp[T159,xT,zr,zC,zb,h,zR,zF,zW,PV.cells]
  .exact eA (y:=x.up) e 0 0 3
 rw[if_neg A];have s:¬(12:Int)<=(n.level:Nat):=zo;refine xH s ?_;refine vY ?_;have w3:(n.level:Int)+1=((n.level+1:Nat):Int):=zo;have w4:IntKind.u64.wrap (b:Int)=(b:Int):=ku;have w5:IntKind.u64.wrap (to:Int)=(to:Int):=ku;have V:=Fp 1 (bq n b to low) (by grind) (by grind) (Zn _) (by simp);have I:=GH x.up e f 0 (vI (bq n b to low)) (by rw[kb];show x.L.length+64<1000000;omega) (by show x.W.length<1000000;omega) (by rw[kb];exact Q);rw[j]at I;have J:vg (vT (x.up.does (vx (64*f) (wJ (vI (bq n b to low)))))):=gG (by rw[(xA _ x.up).2.2.1];exact e);have o:=xA (vx (64*f) (wJ (vI (bq n b to low)))) x.up;have X:(vx (64*f) (wJ (vI (bq n b to low)))).length=64:=by unfold vx;rw[ZB,aQ,kb]
 generalize vI (bq n b to low)=LW at *
 generalize vx (64*f) (wJ LW)=D at *
 generalize ad:x.up.does D=y at *
 refine vR ?_;refine No V ?_ ?_ (by simp(disch:=omega)only[go_sem,h1,h2,h3,d,i,w3,w4,w5]<;>rfl);(repeat(first|exact trivial|refine And.intro ?_ ?_|exact .int _ _|exact .bool _|exact .list _ _ _|exact .elem _|exact .nilsl|exact .nil _ _|exact .str _|refine ze.aggL ?_|refine ze.fnL ?_|refine ze.tL ?_|refine .iface ?_|exact gE rfl rfl (by assumption)));(exact ze.wh (l:=[pv (low,to)]) rfl rfl rfl (Zi _) (fun v t=>by obtain rfl:=ZI.1 t;rfl) (bS (l:=[(low,to)]));exact trivial;exact trivial);refine dL I ⟨k,.int _ _,.list _ _ _,trivial⟩ ?_ (by simp(disch:=omega)only[go_sem,i]<;>rfl);refine vW d ?_;refine vj d ?_;have K:vg y.fr:=by rw[o.2.2.1];exact e
 have ah:y.W.length=x.W.length:=o.1;have M:=oG y K 0 0 [(at',f)] (by rw[o.2.1,X];show x.L.length+64+1<1000000;omega) zo fun c hc=>by
  grind
 have Y:vg (y.does (vx 0 [(at',f)])).fr:=by rw[(xA _ y).2.2.1];exact K
 have w6:IntKind.u64.wrap (f:Int)=(f:Int):=ku;generalize y.does (vx 0 [(at',f)])=z at *
 unfold vT at M J⊢;refine xg (fun a=>a 2=iv to/\a 3=uv low/\a 4=iv at'/\a 5=.ptr 0 0 0 0 4/\a 10=.ptr 1 0 0 0 4/\a 14=iv f) ⟨zu h2,zu h3,zu h4,zu d,zu h,zu i⟩ ?_;clear h1 h2 h3 h4 d h S T U i;rintro a ⟨h2,h3,h4,d,h,i⟩;refine yv ?_;refine vS (vz h4 d i w6) ?_;refine N7 65 4 (w:=.list 0 2 ([(at',f)].map vd)) rfl (ze.wh (l:=[vd (at',f)]) (lI rfl) rfl rfl (Zi _) (fun v t=>by obtain rfl:=ZI.1 t;rfl) (mf (l:=[(at',f)]))) ?_;simp only[zAJ9,zAH9];refine nP (by first|rfl|(simp only[go_sem]<;>rfl)) (by simp only[go_sem]<;>rfl) M rfl ?_ ?_;(repeat(first|exact trivial|refine And.intro ?_ ?_|exact vg.int _ _|exact vg.bool _|exact vg.list _ _ _|exact vg.elem _|exact vg.nilsl|exact vg.str _|exact m7 _ _ _))
 .exact J
 .exact bG
 refine wN (vh h2 h3 h) ?_;refine vw ?_;refine yd (vs:=[vT z,iv to,uv low,iv 0]) ?_ ?_
 .unfold vT;simp[zr,zC,zb,h,zR,zF,zW,PV.cells]
 .exact eA Y to low 0


theorem M9(l:LJ)(i:Nat):∀m,(xq l i m).length<=2*m/\∀y∈xq l i m,y.1<=2*m+1
 | 0=>⟨Zi _,fun y a=>by simp[xq]at a⟩
 | m+1=>by
  have b:=M9 l i m;rw[xq]
  grind
theorem Lw{left:Nat}(hw:w.length=56)(h:(uk left w x).2=0):(uk left w x).1.length<=70/\∀y∈(uk left w x).1,y.1<56:=by
 unfold uk at h⊢
 by_cases b:uW left w x=0
 rotate_left
 .grind
 rw[if_pos b]at h⊢
 by_cases c:yq (vG left w) x.1=true
 .grind
 rw[if_neg c]at h⊢
 split at h
 .cases h
 rename_i a;rw[if_neg a];have d:=BF (vG left w) x.1;generalize vG left w=L at *
 generalize yI L x.1=i at *
 have e:=M9 L i L.length;unfold dH
 grind
theorem PH{v no:Nat}{r:LJ×Nat}(h:r.2=0->r.1.length<=70/\∀y∈r.1,y.1<56):(mc w v no r).1.length<=71/\∀c∈(mc w v no r).1,c.1<64:=by
 unfold mc
 split
 .split
  .rename_i h2;obtain⟨d,e⟩:=h h2;have b:(mJ w v).length<=1:=by unfold mJ;grind
   refine⟨by simp[y7];omega,fun c a=>?_⟩;rcases ZW.1 a with a|a
   .unfold mJ at a
    grind
   .unfold y7 at a
    grind
  grind
 grind
theorem b9(hw:w.length=64):(wj w x).1.length<=71/\∀c∈(wj w x).1,c.1<64:=PH fun h=>Lw (by simp[hw]) h
theorem Hp(m:Nat):∀k,(yF m k).length<=k/\∀c∈yF m k,c.1<8+2*k
 | 0=>⟨Zi _,fun c a=>by simp[yF]at a⟩
 | k+1=>by
  have b:=Hp m k;rw[yF]
  grind
theorem l7{n:zi}(h:n.pairs.length<=28):(yh n a).length<=29/\∀c∈yh n a,c.1<64:=by
 have:=Hp (n.pairs.length/2) n.pairs.length;unfold yh
 grind
theorem QB(hw:w.length=64):(wJ w).length=64/\∀c∈wJ w,c.1<64:=by
 refine⟨by rw[aQ];exact hw,fun c a=>?_⟩;unfold wJ at a
 grind
theorem gq:∀(l:LJ) (x:Wk),(x.does l).W=vH x.W l
 | [],_=>rfl
 | c::l,x=>gq l (x.one c)
theorem CC(c:Nat):∀(l:LJ) (w:LN),(∀s∈l,s.1<64*c\/64*c+64<=s.1)->zc (vH w l) c=zc w c
 | [],_,_=>rfl
 | s::l,w,h=>by
  have h1:=h s (Zr ..);have a:=CC c l (w.set s.1 s.2) fun t b=>h t (Zo _ b);have e:vH w (s::l)=vH (w.set s.1 s.2) l:=rfl;rw[e,a];unfold zc
  apply zBD9
  intro j;rw[zAA9,zAA9,ZY,ZY]
  grind
theorem tj{b c:Nat}(hbc:b≠c)(l:LJ)(w:LN)(h:∀s∈l,s.1<64):zc (vH w (vx (64*b) l)) c=zc w c :=
 CC c _ w fun s a=>by
  unfold vx at a
  grind
theorem dv(l:LJ):(vx a l).length=l.length:=by unfold vx;simp
structure mQ(fr:LN)(rr:Nat)(x:Wk)(way:LN):Prop where
 hfr:x.fr=wz rr fr
 hN:x.W.length<=131072
 inn:∀c∈way,64*c+64<=x.W.length
 nd:way.Nodup
 chk:∀c∈way,wd (zc x.W c)=0
 ful:∀b,way.head?=some b->27<=(headN (zc x.W b)).pairs.length
 frN:∀f∈fr,1<=f/\64*f+64<=x.W.length
 out:∀f∈fr,f ∉ way
 few:way.length<=20
 hL:x.L.length+300*way.length<900000
 hu:x.used<=fr.length
 fl:fr.length<100000
variable {b f:Nat}{fr:LN}{n:zi}{rr:Nat}{x:Wk}
def Wk.cut(x:Wk)(b to:Nat):Wk:=(x.up.does (vx (64*to) (wJ (vI (vF (headN (zc x.W b))))))).does (vx (64*b) (yh (headN (zc x.W b)) to))
def Wk.fin(y:Wk)(ab to low:Nat):Wk×Nat×Nat×Nat:=(y.does (vx (64*ab) (wj (zc y.W ab) (low,to)).1),to,low,0)
def Wk.split(fr:LN)(at':Nat):LN->Wk->Wk×Nat×Nat×Nat
 | [],x=>(x,0,0,0)
 | [b],x=>if fr.length<=x.used then(x,0,0,221)else(x.cut b (fr.getD x.used 0)).root fr at' b (fr.getD x.used 0) ((vI (vF (headN (zc x.W b)))).getD 2 0)
 | b::above::up,x=>if fr.length<=x.used then(x,0,0,221)else
  if 27<=(yn (zc (x.cut b (fr.getD x.used 0)).W above)).pairs.length then
   (if(Wk.split fr at' (above::up) (x.cut b (fr.getD x.used 0))).2.2.2=0 then
    (Wk.split fr at' (above::up) (x.cut b (fr.getD x.used 0))).1.fin (if(Wk.split fr at' (above::up) (x.cut b (fr.getD x.used 0))).2.2.1<=(vI (vF (headN (zc x.W b)))).getD 2 0 then(Wk.split fr at' (above::up) (x.cut b (fr.getD x.used 0))).2.1 else above) (fr.getD x.used 0) ((vI (vF (headN (zc x.W b)))).getD 2 0)
   else(x.cut b (fr.getD x.used 0),0,0,(Wk.split fr at' (above::up) (x.cut b (fr.getD x.used 0))).2.2.2))
  else(x.cut b (fr.getD x.used 0)).fin above (fr.getD x.used 0) ((vI (vF (headN (zc x.W b)))).getD 2 0)
theorem rJ(h:wd w=0):yn w=headN w:=by unfold yn;rw[if_pos (n8 h)]


structure FA(fr:LN)(x y:Wk)(b to:Nat):Prop where
 W:y.W.length=x.W.length
 fr':y.fr=x.fr
 used:y.used=x.used+1
 L:y.L.length<=x.L.length+93
 blk:∀c,c≠b->c≠to->zc y.W c=zc x.W c
theorem aK(fr:LN)(x:Wk)(b to:Nat)(hp:(headN (zc x.W b)).pairs.length<=28):FA fr x (x.cut b to) b to:=by
 have a:=QB (kb (vF (headN (zc x.W b))));have d:=l7 (n:=headN (zc x.W b)) to hp;unfold Wk.cut;generalize wJ (vI (vF (headN (zc x.W b))))=A at *
 generalize yh (headN (zc x.W b)) to=B at *
 have d1:=xA (vx (64*to) A) x.up;have d2:=xA (vx (64*b) B) (x.up.does (vx (64*to) A));rw[dv]at d1 d2;refine⟨d2.1.trans d1.1,d2.2.2.1.trans d1.2.2.1,d2.2.2.2.trans d1.2.2.2,?_,fun c h1 h2=>?_⟩
 .rw[d2.2.1,d1.2.1];show x.L.length+A.length+B.length<=_;omega
 .rw[gq,gq,tj (Ne.symm h1) _ _ d.2,tj (Ne.symm h2) _ _ a.2];rfl
theorem mQ.to{way:LN}(h:mQ fr rr x way)(hu:x.used<fr.length):fr.getD x.used 0∈fr:=by grind
theorem mQ.cut{above:Nat}{up:LN}(h:mQ fr rr x (b::above::up))(hu:x.used<fr.length)(hf:27<=(yn (zc (x.cut b (fr.getD x.used 0)).W above)).pairs.length):mQ fr rr (x.cut b (fr.getD x.used 0)) (above::up):=by
 have c:=aK fr x b (fr.getD x.used 0) (yM _);have j:=h.to hu;generalize x.cut b (fr.getD x.used 0)=y at *
 have g:=zBM9.1 h.nd;have i:∀k∈above::up,zc y.W k=zc x.W k:=fun k a=>c.blk k (fun e=>g.1 (e ▸ a)) fun e=>h.out _ j (e ▸ Zo _ a);have d:∀k∈above::up,wd (zc y.W k)=0:=fun k a=>by rw[i k a];exact h.chk k (Zo _ a)
 refine⟨c.fr'.trans h.hfr,by rw[c.W];exact h.hN,fun k a=>by rw[c.W];exact h.inn k (Zo _ a),g.2,d,fun k a=>?_,fun f hf=>by rw[c.W];exact h.frN f hf,fun f hf a=>h.out f hf (Zo _ a),?_,?_,?_,h.fl⟩
 .simp at a;subst a;rw[<- rJ (d _ (Zr ..))];exact hf
 .have:=h.few;grind
 .have h1:=h.hL;have h2:=c.L;grind
 .rw[c.used];omega
structure Cb(fr:LN)(x:Wk)(k:Nat)(R:Wk×Nat×Nat×Nat):Prop where
 W:R.1.W.length=x.W.length
 fr':R.1.fr=x.fr
 L:R.1.L.length<=x.L.length+300*k
 used:R.1.used<=fr.length
 inn:R.2.2.2=0->64*R.2.1+64<=x.W.length
theorem Ll(at' b to low:Nat)(hu:x.used<=fr.length)(hto:64*to+64<=x.W.length):(x.root fr at' b to low).1.W.length=x.W.length/\(x.root fr at' b to low).1.fr=x.fr/\(x.root fr at' b to low).1.L.length<=x.L.length+65/\(x.root fr at' b to low).1.used<=fr.length/\((x.root fr at' b to low).2.2.2=0->64*(x.root fr at' b to low).2.1+64<=x.W.length):=by
 unfold Wk.root
 split
 .grind
 rename_i h1
 split
 .exact⟨rfl,rfl,by show x.L.length<=_;omega,by show x.used+1<=_;omega,fun h=>by cases h⟩
 have d1:=xA (vx (64*fr.getD x.used 0) (wJ (vI (bq (yn (zc x.W b)) b to low)))) x.up;have d2:=xA (vx 0 [(at',fr.getD x.used 0)]) (x.up.does (vx (64*fr.getD x.used 0) (wJ (vI (bq (yn (zc x.W b)) b to low)))));rw[dv]at d1 d2;rw[aQ,kb]at d1;refine⟨d2.1.trans d1.1,d2.2.2.1.trans d1.2.2.1,?_,?_,fun _=>hto⟩
 .rw[d2.2.1,d1.2.1];show x.L.length+64+1<=_;omega
 .rw[d2.2.2.2,d1.2.2.2];show x.used+1<=_;omega
theorem HS{y:Wk}(ab to low:Nat)(hab:64*ab+64<=y.W.length):(y.fin ab to low).1.W.length=y.W.length/\(y.fin ab to low).1.fr=y.fr/\(y.fin ab to low).1.L.length<=y.L.length+71/\(y.fin ab to low).1.used=y.used:=by
 have n:=b9 (x:=(low,to)) (kU y.W ab hab);unfold Wk.fin;have d:=xA (vx (64*ab) (wj (zc y.W ab) (low,to)).1) y;rw[dv]at d
 grind
theorem sd{fr:LN}{at':Nat}:∀(up:LN) (b:Nat) (x:Wk),mQ fr rr x (b::up)->Cb fr x (up.length+1) (Wk.split fr at' (b::up) x)
 | [],b,x,h=>by
  unfold Wk.split
  split
  .exact⟨rfl,rfl,zDT9 _ _,h.hu,fun h=>by cases h⟩
  rename_i a;have a:x.used<fr.length:=zo;have c:=aK fr x b (fr.getD x.used 0) (yM _);have e:=(h.frN _ (h.to a)).2;generalize x.cut b (fr.getD x.used 0)=y at *
  have r:=Ll (fr:=fr) (x:=y) at' b (fr.getD x.used 0) ((vI (vF (headN (zc x.W b)))).getD 2 0) (by rw[c.used];omega) (by rw[c.W];exact e);exact⟨r.1.trans c.W,r.2.1.trans c.fr',by have:=r.2.2.1;have:=c.L;omega,r.2.2.2.1,fun h=>by rw[<- c.W];omega⟩
 | above::up,b,x,h=>by
  unfold Wk.split
  split
  .exact⟨rfl,rfl,zDT9 _ _,h.hu,fun h=>by cases h⟩
  rename_i a;have a:x.used<fr.length:=zo;have c:=aK fr x b (fr.getD x.used 0) (yM _);have e:=(h.frN _ (h.to a)).2;have g:=h.inn above (by simp)
  split
  .rename_i hf;have d:=sd (at':=at') up above _ (h.cut a hf);generalize x.cut b (fr.getD x.used 0)=y at *
   generalize Wk.split fr at' (above::up) y=R at *
   have l:=d.L;have j:=c.L
   split
   .rename_i h0;generalize k:(if R.2.2.1<=(vI (vF (headN (zc x.W b)))).getD 2 0 then R.2.1 else above)=ab;have i:64*ab+64<=R.1.W.length:=by
     rw[d.W];subst k
     split
     .exact d.inn h0
     .rw[c.W];exact g
    have f:=HS (y:=R.1) ab (fr.getD x.used 0) ((vI (vF (headN (zc x.W b)))).getD 2 0) i;exact⟨f.1.trans (d.W.trans c.W),f.2.1.trans (d.fr'.trans c.fr'),by grind,by rw[f.2.2.2];exact d.used,fun _=>e⟩
   .rename_i h0;exact⟨c.W,c.fr',by grind,by rw[c.used];omega,fun h=>absurd h h0⟩
  .generalize x.cut b (fr.getD x.used 0)=y at *
   have f:=HS (y:=y) above (fr.getD x.used 0) ((vI (vF (headN (zc x.W b)))).getD 2 0) (by rw[c.W];exact g);have j:=c.L;exact⟨f.1.trans c.W,f.2.1.trans c.fr',by omega,by rw[f.2.2.2,c.used];omega,fun _=>e⟩


theorem Yd(h1:1<=f)(h2:f<=2047)(h3:2<=n.pairs.length):pR n f=.ret (.tuple [wv 0 (vI (vF n)),.list 0 2 ((yh n f).map vd),iv 0]):=by
 unfold pR;rw[if_pos (by unfold nC;grind),Z4]
theorem DZ(hn:headN w=n)(hc:wd w=0)(h1:1<=f)(h2:f<=2047)(h3:2<=n.pairs.length):iH w f=.ret (.tuple [wv 0 (vI (vF n)),.list 0 2 ((yh n f).map vd),iv 0]):=by
 unfold iH;rw[if_pos hc,hn];exact Yd h1 h2 h3


@[reducible] def pm (ws:LN):LQ:=ws.map fun (b:Nat)=>iv (b:Int)
theorem My{at':Nat}{up:LN}(h:fr.length<=x.used):Wk.split fr at' (b::up) x=(x,0,0,221):=by
 cases up<;>(unfold Wk.split;grind)
structure FT(fr:LN)(rr at':Nat)(N:Nat)(z:Wk)(R:Wk×Nat×Nat×Nat)(f low:Nat)(above:Nat)(up':LN)(fb:Bool):Prop where
 inn:64*above+64<=N
 full:FR 160 [vT z,iv above] (.bool fb)
 no:fb=false->R=z.fin above f low
 yes:fb=true->∃S,R=(if S.2.2.2=0 then S.1.fin (if S.2.2.1<=low then S.2.1 else above) f low else(z,0,0,S.2.2.2))/\Cb fr z (up'.length+1) S/\∀r,FP ET 104 [vT z,.list r 1 (pm (up'.reverse++[above])),iv at'] (.ret (mK S))
theorem Ym(fr:LN)(rr at' r:Nat)(up:LN)(b f:Nat)(x y z:Wk)(R:Wk×Nat×Nat×Nat)(p:Nat)(blk LW:LN)(D:LJ)(hfr:x.fr=wz rr fr)(hN:x.W.length<=131072)(hat:at'<x.W.length)(hfew:up.length+1<=20)(hLb:x.L.length+300*(up.length+1)<900000)(hfl:fr.length<100000)(hul:x.used<fr.length)(hf:fr[x.used]?=some f)(hfb:64*f+64<=x.W.length)(hbin:64*b+64<=x.W.length)
  (hat48:FP ET 103 [vT x.up,iv b] (.ret (wv p blk))) (hSp:FR 157 [wv p blk,iv f] (.tuple [wv 0 LW,.list 0 2 (D.map vd),iv 0])) (hLW:LW.length=64) (hbk:FP ET 158 [vT x.up,iv f,wv 0 LW] (.ret (vT y))) (hyf:y.fr=wz rr fr) (hdo:FP ET 105 [vT y,iv (64*b:Nat),.list 0 2 (D.map vd)] (.ret (vT z))) (hzf:z.fr=wz rr fr) (c1:z.W.length=x.W.length) (c4:z.L.length<=x.L.length+93) (c3:z.used<=fr.length) (hfrN:∀g∈fr,64*g+64<=x.W.length)
  (hRn:up=[]->R=z.root fr at' b f (LW.getD 2 0)) (hRc:∀above up',up=above::up'->∃fb,FT fr rr at' x.W.length z R f (LW.getD 2 0) above up' fb) :
  FP ET 104 [vT x,.list r 1 (pm (up.reverse++[b])),iv at'] (.ret (mK R)):=by
 refine mO (eG T104 func104) ?_;have a9:vg x.fr:=by rw[hfr];exact .list _ _ _
 have I:vg (vT x.up):=gG a9;have bp:vT x=.agg [wv x.p x.W,.list x.q 2 (x.L.map vd),wz rr fr,iv x.used]:=by unfold vT;rw[hfr]
 have V:vT x.up=.agg [wv x.p x.W,.list x.q 2 (x.L.map vd),wz rr fr,iv ((x.used+1:Nat):Int)]:=by rw[<- hfr];rfl
 rw[bp];obtain⟨l,A⟩:∃l,l=pm (up.reverse++[b]):=⟨_,rfl⟩
 have s:l.length=up.length+1:=by rw[A];simp
 have a4:l[up.length]?=some (iv b):=by rw[A,Zt,ZH (by simp)];simp
 have J:l.take up.length=pm up.reverse:=by rw[A];simp
 have X:((up.length+1:Nat):Int)-1=(up.length:Nat):=zo;have a5:up.length<up.length+1:=Z5 _;rw[<- A];clear A;have g:¬(fr.length:Int)<=(x.used:Nat):=zo;have Y:(fr.map fun(b:Nat)=>iv (b:Int))[x.used]?=some (iv f):=vU hf;refine xH (vX g s a4 X a5) ?_;refine vY ?_;have w2:(x.used:Int)+1=((x.used+1:Nat):Int):=zo;refine zB ?_;refine vC (vh g hul Y) ?_;refine zB ?_;refine vC w2 ?_;have bs:vg y.fr:=by rw[hyf];exact .list _ _ _
 have a1:vg (vT y):=gG bs;have O:vg z.fr:=by rw[hzf];exact .list _ _ _
 have w:vg (vT z):=gG O;rw[<- V];have w1:IntKind.i64.wrap ((64:Int)*(b:Int))=((64*b:Nat):Int):=wx;refine xg (fun d=>d 1=.list r 1 l/\d 2=iv at'/\d 3=.ptr 0 0 0 0 4/\d 6=.ptr 1 0 0 0 4/\d 10=iv b/\d 11=iv f) ⟨zt,zt,zt,zt,zt,by simp[zb]⟩ ?_;rintro d ⟨h1,h2,h3,e,k,h⟩;rw[V]at I hat48 hbk⊢;refine vK (vh h3 k h) ?_;refine nP (by first|rfl|(simp only[go_sem]<;>rfl)) (by simp only[go_sem]<;>rfl) hat48 rfl ?_ ?_;(repeat(first|exact trivial|refine And.intro ?_ ?_|exact vg.int _ _|exact vg.bool _|exact vg.list _ _ _|exact vg.elem _|exact vg.nilsl|exact vg.str _|exact m7 _ _ _))
 .exact I
 .exact bG
 refine vS h ?_;refine wD hSp ?_;unfold vT at hbk hdo a1;rw[hzf]at hdo
 have t:vT z=.agg [wv z.p z.W,.list z.q 2 (z.L.map vd),wz rr fr,iv z.used]:=by unfold vT;rw[hzf]
 refine vK (vz h3 k h w1) ?_;refine nP (by first|rfl|(simp only[go_sem]<;>rfl)) (by simp only[go_sem]<;>rfl) hbk rfl ?_ ?_;(repeat(first|exact trivial|refine And.intro ?_ ?_|exact vg.int _ _|exact vg.bool _|exact vg.list _ _ _|exact vg.elem _|exact vg.nilsl|exact vg.str _|exact m7 _ _ _))
 .exact I
 .exact bG
 refine vS (zj k w1) ?_;refine nP (by first|rfl|(simp only[go_sem]<;>rfl)) (by simp only[go_sem]<;>rfl) hdo rfl ?_ ?_;(repeat(first|exact trivial|refine And.intro ?_ ?_|exact vg.int _ _|exact vg.bool _|exact vg.list _ _ _|exact vg.elem _|exact vg.nilsl|exact vg.str _|exact m7 _ _ _))
 .exact a1
 .exact bG
 refine wN h3 ?_;refine xg (fun d=>d 1=.list r 1 l/\d 2=iv at'/\d 3=.ptr 0 0 0 0 4/\d 6=.ptr 1 0 0 0 4/\d 10=iv b/\d 11=iv f/\d 12=wv 0 LW) ⟨zu h1,zu h2,zu h3,zu e,zu k,zu h,by simp[zb]⟩ ?_;clear h1 h2 h3 e k h hbk hdo hSp hat48 I V;rintro d ⟨h1,h2,h3,e,k,h,i⟩;have K:2<LW.length:=zo;have o:=xe K;have P:∃low,LW.getD 2 0=low:=⟨_,rfl⟩
 obtain⟨low,P⟩:=P;rw[P]at o hRn hRc;have bb:f<2048:=zo
 cases up with
 | nil =>
  have s:l.length=1:=s;have C:=Xh z rr fr hzf at' b f low zo zo zo bb (fun g hg=>by grind) zo zo;have Z:=Ll (fr:=fr) (x:=z) at' b f low zo zo;rw[hRn rfl];generalize z.root fr at' b f low=RR at *
  obtain⟨j,R2,R3,R4⟩:=RR;have bw:vg j.fr:=by rw[show j.fr=z.fr from Z.2.1];exact O
  have a2:vT j=.agg [wv j.p j.W,.list j.q 2 (j.L.map vd),wz rr fr,iv j.used]:=by unfold vT;rw[show j.fr=z.fr from Z.2.1,hzf]
  clear hRn hRc Z;unfold mK at C;dsimp only at C;rw[a2,t]at C;rw[t]at w;refine wB (zj h1 s) ?_;refine vR ?_;refine dL C ⟨w,.int _ _,.int _ _,.int _ _,.int _ _,trivial⟩ ?_ (by simp(disch:=omega)only[go_sem,h2,h3,k,h,i,o]<;>rfl);refine vW e ?_;refine vj e ?_;refine vw ?_;refine yd (vs:=[vT j,iv R2,uv R3,iv R4]) ?_ ?_
  .rw[a2];simp[zr,zC,zb,e,zR,zF,zW,PV.cells]
  .exact eA bw R2 R3 R4
 | cons above up' =>
  obtain⟨fb,hU⟩:=hRc above up' rfl;obtain⟨u1,u2,u3,u4⟩:=hU;clear hRn hRc;simp only[Zp]at s a4 J X a5 hfew hLb;rw[zCV9]at J;have g1:¬((up'.length+1+1:Nat):Int)=1:=zo;have bx:up'.length+1<=up'.length+1+1:=zo;obtain⟨N,M⟩:∃N,N=pm (up'.reverse++[above]):=⟨_,rfl⟩
  have b0:N.length=up'.length+1:=by rw[M];simp
  have b1:N[up'.length]?=some (iv above):=by rw[M,Zt,ZH (by simp)];simp
  have b2:((up'.length+1:Nat):Int)-1=(up'.length:Nat):=zo;have b3:up'.length<up'.length+1:=Z5 _;rw[<- M]at J u4;clear M;refine xH (vh h1 s g1) ?_;refine vY ?_;refine vA (vX h1 s J X bx) ?_;refine vA (vz b0 b1 b2 b3) ?_;rw[t]at u2 w;refine vK h3 ?_;refine wD u2 ?_;have ca:64*above+64<=z.W.length:=zo;refine zB ?_;refine ur (Q:=fun yy m=>(yy=.norm/\∃(v:Wk) (a:Nat) (G:LP),R=v.fin a f low/\v.fr=wz rr fr/\v.W.length=x.W.length/\v.L.length<=899900/\64*a+64<=x.W.length/\m.tm 3=.ptr 0 0 0 0 4/\m.tm 6=.ptr 1 0 0 0 4/\m.tm 11=iv f/\m.tm 12=wv 0 LW/\m.tm 16=iv a/\m.df=[]/\m.H=.row 185 4 0 0 [.agg [wv v.p v.W,.list v.q 2 (v.L.map vd),wz rr fr,iv v.used]]::.row 185 4 0 0 [.agg [.nilsl,.nilsl,.nilsl,iv 0]]::G)\/(yy=.ret/\yG ET T104 (fun e' H=>ve H 0 e' (.ret (mK R))) .ret m)) ?_ ?_
  .cases fb with
   | false =>
    refine zH ?_;refine .inl ⟨rfl,z,above,[],u3 rfl,hzf,c1,by omega,u1,zu h3,zu e,zu h,zu i,zt,rfl,rfl⟩
   | true =>
    obtain⟨S,n,b4,u⟩:=u4 rfl;have u:=u r;obtain⟨S1,S2,S3,B⟩:=S;obtain⟨o1,o2,o3,o4,o5⟩:=b4;dsimp only at o1 o2 o3 o4 o5 n;have bm:vT S1=.agg [wv S1.p S1.W,.list S1.q 2 (S1.L.map vd),wz rr fr,iv S1.used]:=by unfold vT;rw[o2,hzf]
    unfold mK at u;dsimp only at u;rw[bm,t]at u;refine uQ ?_;refine vK (zj h2 h3) ?_;refine nP (by first|rfl|(simp only[go_sem]<;>rfl)) (by simp only[go_sem]<;>rfl) u rfl ?_ ?_;(repeat(first|exact trivial|refine And.intro ?_ ?_|exact vg.int _ _|exact vg.bool _|exact vg.list _ _ _|exact vg.elem _|exact vg.nilsl|exact vg.str _|exact m7 _ _ _))
    .exact w
    .exact bG
    refine zN ?_
    by_cases h0:B=0
    rotate_left
    .have g2:¬(B:Int)=0:=zo;rw[if_neg h0]at n;refine wB g2 ?_;refine vA (zj h3 e) ?_;refine vw ?_;refine .inr ⟨rfl,?_⟩;refine yd (vs:=[vT z,iv 0,uv 0,iv B]) ?_ ?_
     .rw[t];simp[T104,xT,zr,zC,zb,e,zR,zF,zW,PV.cells]
     .rw[n];exact eA O 0 0 B
    have g2:(B:Int)=0:=zo;rw[if_pos h0]at n;refine xH g2 ?_;refine vY ?_;have b7:=o5 h0
    by_cases a6:S3<=low
    .have g3:(S3:Int)<=(low:Nat):=zo;rw[if_pos a6]at n;refine wB (vX h3 i o K g3) ?_;refine zJ ?_;refine .inl ⟨rfl,S1,S2,_,n,by grind,by omega,by omega,by omega,zu h3,zu e,zu h,zu i,zt,rfl,rfl⟩
    .have g3:¬(S3:Int)<=(low:Nat):=zo;rw[if_neg a6]at n;refine kp (vX h3 i o K g3) ?_;refine .inl ⟨rfl,S1,above,_,n,by grind,by omega,by omega,by omega,zu h3,zu e,zu h,zu i,zt,rfl,rfl⟩
  clear h1 h2 h3 e k h i u2 u3 u4 w t;rintro yy ⟨d,df,H⟩ (⟨rfl,v,a,G,hR,ad,cb,cc,ch,h3,e,h,i,ah,rfl,rfl⟩|⟨rfl,bo⟩);rotate_left
  ·(try simp only[xU,reduceIte]);exact bo
  dsimp only at *
  have av:vg v.fr:=by rw[ad];exact .list _ _ _
  have b5:vT v=.agg [wv v.p v.W,.list v.q 2 (v.L.map vd),wz rr fr,iv v.used]:=by unfold vT;rw[ad]
  have T:=gG av;have a3:=fQ v av a zo zo;have a0:=kU v.W a zo;have b6:=Es v.p (zc v.W a) (low,f) (by rw[a0];decide);have ck:=b9 (x:=(low,f)) a0;have U:=oG v av (64*a) 0 (wj (zc v.W a) (low,f)).1 zo zo fun c hc=>by grind
  have Y:v.fin a f low=(v.does (vx (64*a) (wj (zc v.W a) (low,f)).1),f,low,0):=rfl;rw[Y]at hR;have a7:(v.does (vx (64*a) (wj (zc v.W a) (low,f)).1)).fr=wz rr fr:=(xA _ v).2.2.1.trans ad;generalize v.does (vx (64*a) (wj (zc v.W a) (low,f)).1)=q at *
  have a8:vT q=.agg [wv q.p q.W,.list q.q 2 (q.L.map vd),wz rr fr,iv q.used]:=by unfold vT;rw[a7]
  generalize wj (zc v.W a) (low,f)=pr at *
  have w3:IntKind.u64.wrap (f:Int)=(f:Int):=ku;have w4:IntKind.i64.wrap ((64:Int)*(a:Int))=((64*a:Nat):Int):=wx;rw[b5]at a3 T U;rw[a8]at U;refine vR ?_;refine dL a3 ⟨T,.int _ _,trivial⟩ ?_ (by simp(disch:=omega)only[go_sem,h3,h,i,ah,o,w3]<;>rfl);refine wF (ww h3 h i ah o K w3) b6 ?_;refine vj h3 ?_;refine vR ?_;refine dL U ⟨T,.int _ _,.list _ _ _,trivial⟩ ?_ (by simp(disch:=omega)only[go_sem,h3,h,i,ah,o,w4]<;>rfl);refine vW (zj e i) ?_;refine vj e ?_;refine vw ?_;refine yd (vs:=[vT q,iv f,uv low,iv 0]) ?_ ?_
  .rw[a8];simp[zr,zC,zb,e,zR,zF,zW,PV.cells]
  .rw[hR];exact eA (by rw[a7];exact .list _ _ _) f low 0
end Fv
end Go.Proofs.YtkeknmgnoceogaaGreat
