/- part 7 of the proof of dir_swaps. -/
import Derived.Test.YtkeknmgnoceogaaGreatDS6
set_option linter.unusedSimpArgs false
set_option linter.unusedVariables false
set_option linter.defProp false
set_option maxRecDepth 100000
set_option maxHeartbeats 4000000
namespace Go.Proofs.YtkeknmgnoceogaaGreat
open Tryz
namespace Fv
open Tw


def zeM(H H':LP):Prop:=∀(id:Nat) (o:zc),H[id]?=some o->H'[id]?=some o
variable {H Hc:LP}{a:Nat}{α:Type}{l:List α}
theorem zeM.refl(H:LP):zeM H H:=fun _ _ h=>h
theorem zeM.app(h:zeM H Hc)(X:LP):zeM H (Hc++X):=fun id o ho=>by
 have:=h id o ho
 grind
theorem zeM.set(h:zeM H Hc)(ha:H.length<=a)(o':zc):zeM H (Hc.set a o'):=fun id o ho=>by
 have hlt:=(zAB9.1 ho).1;rw[zAS9 zo];exact h id o ho
theorem zbS{X:List α}{i:Nat}{x:α}(h:l[i]?=some x):(l++X)[i]?=some x:=by grind
theorem Lvl.other{vs ps:LQ}{nodes:LB}(h:Lvl H vs ps nodes){o o':zc}(ha:H[a]?=some o)(ho:¬isP o)(X:LP):Lvl ((H++X).set a o') vs ps nodes :=
 h.keep fun id q hq hi=>by grind
theorem zlh(h:l ≠ []):∃f x,l=f++[x]:=⟨l.dropLast,l.getLast h,(List.dropLast_concat_getLast h).symm⟩
theorem zjT{n:Nat}(h:l.length=n+1):∃f x,l=f++[x]/\f.length=n:=by
 obtain⟨f,x,rfl⟩:=zlh (l:=l) (by grind)
 grind
theorem zy9{lv:Nat}{ks:LK}{n:zZ}(h:n∈zdr lv ks):n.pairs.length<=18:=by
 unfold zdr at h;obtain⟨i,_,rfl⟩:=zAJ9.1 h;show (((ks.drop (19*i)).take 19).drop 1).length<=18
 grind
theorem zw4(H:LP)(i8 g8 M8 i13 g13:Nat)(vs8 ps8:LQ)(l:LB)(bs:LN)(lv:Nat)(hr8:H[i8]?=some (.row 143 6 g8 M8 vs8))(hM8:M8<=g8)(hlv:Lvl H vs8 ps8 l)(hr13:H[i13]?=some (.row 3 1 g13 0 (bfl bs)))(hlen:bs.length=l.length)(hl:l.length<=1000)(hl0:∀n∈l,n.level=lv)(hlv12:lv<=12)(hb:∀b∈bs,b<2048) :
  FO ET 76 [.sl i8 g8 0 l.length (2*l.length) 6,.sl i13 g13 0 l.length (2*l.length) 1] H false (fun e H'=>zeM H H'/\∃idL g M vs ps,e=.ret (.sl idL g 0 vs.length (2*vs.length) 6)/\M<=g/\H.length<=idL/\H'[idL]?=some (.row 143 6 g M vs)/\Lvl H' vs ps (zdr (lv+1) ((l.map zZ.low).zip bs))/\∀p∈ps,∀a,zfi p=some a->H.length<=a):=by
 refine zro (eG T76 func76) ?_;have hkl:((l.map zZ.low).zip bs).length=l.length:=by simp[hlen]
 generalize hks:(l.map zZ.low).zip bs=ks at *
 refine zG ?_;refine zc2 143 6 (i:=5) rfl ?_;simp only[lzy];refine zay (zbE (fun m s=>∃(i:Nat) (Hc:LP) (idL g M:Nat) (vs ps:LQ),m=l.length-i/\i<=l.length/\zeM H Hc/\M<=g/\Hc[idL]?=some (.row 143 6 g M vs)/\H.length<=idL/\Lvl Hc vs ps (zdr (lv+1) (ks.take i))/\(∀p∈ps,∀a,zfi p=some a->H.length<=a)/\s.tm 0=.sl i8 g8 0 l.length (2*l.length) 6/\s.tm 1=.sl i13 g13 0 l.length (2*l.length) 1/\s.tm 5=.sl idL g 0 vs.length (2*vs.length) 6/\s.tm 6=iv i/\s.df=[]/\s.H=Hc) (n:=l.length) ?_ ?_)
 .exact⟨0,_,H.length,0,0,[],[],rfl,zAG9 _,(zeM.refl H).app _,zAC9 _,by simp,zAC9 _,(by rw[List.take_zero];exact Lvl.nil _),fun p hp=>by simp at hp,zt,zt,zt,zt,rfl,rfl⟩
 .rintro m ⟨tm,df,Hc⟩ ⟨i,Hc',idL,g,M,vs,ps,rfl,hi,hst,hM,hL,hidL,hlvl,hids,h0,h1,h5,h6,rfl,rfl⟩;dsimp only at *
  refine zLh (zr2 h0 h6) ?_ ?_;rotate_left
  .intro hlt;have hlt:¬i<l.length:=zfd hlt;obtain rfl:i=l.length:=zo;refine zOF h5 ?_;rw[<- hkl,zBE9]at hlvl;exact⟨hst,idL,g,M,vs,ps,rfl,hM,hidL,hL,hlvl,hids⟩
  intro hlt;have hlt:i<l.length:=ztd hlt;obtain⟨x,hx⟩:=zex (l:=l) hlt;obtain⟨b,hbb⟩:∃b,bs[i]?=some b:=⟨_,zAA9 zo⟩
  obtain⟨px,hpx⟩:∃px,ps8[i]?=some px:=⟨_,zAA9 (by rw[hlv.lenP];exact hlt)⟩
  have hv8:=(hlv.val i x px hx hpx).1;have hbv:(bfl bs)[i]?=some (iv b):=by rw[zAT9,hbb];rfl
  have hbm:=hb b (zAE9 hbb);have hxl:=hl0 x (zAE9 hx);have hkx:ks.getD i (0,0)=(x.low,b):=by
   have:ks[i]?=some (x.low,b):=by rw[<- hks,zDT9];exact⟨by grind,hbb⟩
   exact getD_some this
  have hstep:=zxc (lv+1) ks i zo;rw[hkx]at hstep;have h8:=hst i8 _ hr8;have h13:=hst i13 _ hr13;have hblen:(bfl bs).length=l.length:=by rw[zAW9,hlen]
  have r1:(i:Int).tmod 19=((i%19:Nat):Int):=rfl;have hal:(zdr (lv+1) (ks.take i)).length<=1000:=by rw[zfq,zAU9];omega
  have hvl:=hlvl.lenV;refine zBb ?_
  by_cases hm:i%19=0
  .have g1:((i%19:Nat):Int)=0:=zo;have hl1:IntKind.i64.wrap ((x.level:Int)+1)=((lv+1:Nat):Int):=zwi;have hbb2:(vs.length+1)*65<=140737488355328:=zo;have hLX:∀X,(Hc++X)[idL]?=some (.row 143 6 g M vs):=fun X=>zbS hL;unfold zpa at hstep;rw[if_pos hm]at hstep;refine zB ?_;refine zB ?_;refine zbO (zr3 h6 r1 g1) ?_;refine zct ?_;refine zBd ?_;refine zb3 (zb0 h0 h1 h5 h6 h8 h13 hL hLX hv8 hbv hlt (zr3 hM8 hl1 hbb2)) ?_;refine zQF h0 ?_;refine zho ?_;refine zJF h6 ?_;refine⟨_,?m,i+1,_,idL,g+1,M,vs++[zc4 ⟨lv+1,0,x.low,b,0,[]⟩ .nilsl],ps++[.nilsl],rfl,hlt,(hst.app _).set hidL _,by omega,zAY9 (by grind),hidL,?L,?I,zu h0,zu h1,zt,zu h6,rfl,rfl⟩
   case m=>omega
   case L=>rw[hstep];exact(hlvl.snoc _ rfl).other hL (fun h=>absurd (show (143:Nat)=92 from h) zy) _
   case I =>
    intro p hp a ha;rcases zBK9.1 hp with hp|hp
    .grind
    .obtain rfl:=zBI9.1 hp;cases ha
  .have g1:¬((i%19:Nat):Int)=0:=zo;have hne:(zdr (lv+1) (ks.take i)).length≠0:=by rw[zfq,zAU9];omega
   obtain⟨front,nd,hfr⟩:=zlh (l:=zdr (lv+1) (ks.take i)) (fun e=>hne (by grind));rw[hfr]at hlvl hstep hal;have hvl:=hlvl.lenV;have hpl:=hlvl.lenP;rw[zAF9]at hvl hpl;obtain⟨vf,v,rfl,hvf⟩:=zjT hvl;obtain⟨pf,p,rfl,hpf⟩:=zjT hpl;have hat:=hlvl.val front.length nd p (by simp) (by simp_all);have hv:v=zc4 nd p:=by
    have h:=hat.1;rw[<- hvf,zBC9 (zAC9 _),Nat.sub_self]at h;injection h
   subst hv;have hpa:=hat.2;have hpid:=hids p (zET9 _ (zBI9.2 rfl));unfold zpa at hstep;rw[if_neg hm]at hstep;simp only[zEJ9,zDU9]at hstep;have hvfl:vf.length<=1000:=by rw[zAF9]at hal;omega
   have hsub:IntKind.i64.wrap (((vf.length+1:Nat):Int)-1)=(vf.length:Int):=zwi;have hvv:(vf++[zc4 nd p]).length=vf.length+1:=by simp
   have hvi:vf.length<vf.length+1:=zCJ9 _;have hvg:(vf++[zc4 nd p])[vf.length]?=some (zc4 nd p):=by simp
   have hvs:∀y,(vf++[zc4 nd p]).set vf.length y=vf++[y]:=fun y=>by simp
   have hLX:∀X,(Hc++X)[idL]?=some (.row 143 6 g M (vf++[zc4 nd p])):=fun X=>zbS hL;rw[hvv]at h5;refine zB ?_;refine zB ?_;refine zbO (zr3 h6 r1 g1) ?_;refine zcf ?_;refine zSk ?_;refine zB ?_;refine zB ?_;refine zbO (zr2 h5 hsub) ?_;refine zBd ?_;rcases hpa with⟨rfl,hnp⟩|⟨idp,gp,rfl,hrp⟩
   .have hbb2:1*17<=140737488355328:=zo;have hLXY:∀X Y,(Hc++X++Y)[idL]?=some (.row 143 6 g M (vf++[zc4 nd .nilsl])):=fun X Y=>zbS (zbS hL);refine zb3 (zb0 h0 h1 h5 h6 h8 h13 hL hLX hM hv8 hbv (zr4 hlt hM8 hvg hvi)) ?_;refine zb3 (zel h0 h1 h5 h6 hL hLX hLXY hM hvg hvi hvs) ?_;refine zQF h0 ?_;refine zJF h6 ?_;have hlc:idL<Hc.length:=(zAB9.1 hL).1;refine⟨_,?m,i+1,_,idL,g,g,vf++[zc4 (zdU nd (nd.pairs++[(x.low,b)])) (.sl (Hc.length+1) 0 0 1 2 2)],pf++[.sl (Hc.length+1) 0 0 1 2 2],rfl,hlt,((hst.app _).app _).set hidL _,zAC9 _,?G,hidL,?L,?I,zu h0,zu h1,zu h5,zu h6,rfl,rfl⟩
    case m=>omega
    case G =>
     rw[zAY9 (by simp only[zAF9,zAH9,zAP9];omega)];simp[zdU]
    case L =>
     rw[hstep];refine hlvl.last hvf hpf ?_ (fun a ha=>?_) (fun id o ho hi=>?_)
     .refine .inr ⟨Hc.length+1,0,by simp[zdU,hnp],?_⟩;rw[zAS9 zo];simp[zdU,hnp]
     .right
      have:Hc.length+1=a:=by simpa[zfi]using ha
      grind
     .left
      have hne:idL≠id:=fun e=>by subst e;rw[hL]at hi;cases hi;exact absurd (show (143:Nat)=92 from ho) zy
      rw[zAS9 hne];exact zbS (zbS hi)
    case I =>
     intro p hp a ha;rcases zBK9.1 hp with hp|hp
     .exact hids p (zEX9 _ hp) a ha
     .obtain rfl:=zBI9.1 hp;have:Hc.length+1=a:=by simpa[zfi]using ha
      omega
   .have hkl2:nd.pairs.length<=18:=zy9 (n:=nd) (by rw[hfr];simp);have hbb2:(nd.pairs.length+1)*17<=140737488355328:=zo;have hrX:∀X,(Hc++X)[idp]?=some (.row 92 2 gp 0 (nd.pairs.map pv)):=fun X=>zbS hrp;have hipl:idp<Hc.length:=(zAB9.1 hrp).1;have hidp:H.length<=idp:=hpid idp rfl;have d1:idL≠idp:=fun e=>by grind
    have d2:i8≠idp:=by have:=(zAB9.1 hr8).1;omega
    have d3:i13≠idp:=by have:=(zAB9.1 hr13).1;omega
    have d4:Hc.length≠idp:=zo;have b1:(idL==idp)=false:=by simpa using d1
    have b2:(i8==idp)=false:=by simpa using d2
    have b3:(i13==idp)=false:=by simpa using d3
    have b4:(Hc.length==idp)=false:=by simpa using d4
    have b1':(idp==idL)=false:=by simpa using d1.symm
    have b2':(idp==i8)=false:=by simpa using d2.symm
    have b3':(idp==i13)=false:=by simpa using d3.symm
    have b4':(idp==Hc.length)=false:=by simpa using d4.symm
    have hLS:∀X y,((Hc++X).set idp y)[idL]?=some (.row 143 6 g M (vf++[zc4 nd (.sl idp gp 0 nd.pairs.length (2*nd.pairs.length) 2)])):=fun X y=>by rw[zAS9 (fun e=>d1 e.symm)];exact zbS hL
    refine zb3 (zb0 h0 h1 h5 h6 h8 h13 hL hLX hM hv8 hbv (zr6 hlt hM8 hvg hvi hrX hbb2)) ?_;refine zdb (zr9 hLS hvg hvi hvs b1 b2 b3 b4 b4') ?_;refine zQF h0 ?_;refine zJF h6 ?_;have hlc:idL<Hc.length:=(zAB9.1 hL).1;refine⟨_,?m,i+1,_,idL,g,g,vf++[zc4 (zdU nd (nd.pairs++[(x.low,b)])) (.sl idp (gp+1) 0 (nd.pairs.length+1) (2*(nd.pairs.length+1)) 2)],pf++[.sl idp (gp+1) 0 (nd.pairs.length+1) (2*(nd.pairs.length+1)) 2],rfl,hlt,((hst.app _).set hidp _).set hidL _,zAC9 _,?G,hidL,?L,?I,zu h0,zu h1,zu h5,zu h6,rfl,rfl⟩
    case m=>omega
    case G =>
     rw[zAY9 (by simp only[zBW9,zAF9,zAH9,zAP9];omega)];simp[zdU]
    case L =>
     rw[hstep];refine hlvl.last hvf hpf ?_ (fun a ha=>?_) (fun id o ho hi=>?_)
     .refine .inr ⟨idp,gp+1,by simp[zdU],?_⟩;rw[zAS9 d1,zAY9 (by simp only[zAF9,zAH9,zAP9];omega)];simp[zdU]
     .left
      exact ha
     .by_cases he:idp=id
      .right;rw[<- he];rfl
      .left
       have hne:idL≠id:=fun e=>by subst e;rw[hL]at hi;cases hi;exact absurd (show (143:Nat)=92 from ho) zy
       rw[zAS9 hne,zAS9 he];exact zbS hi
    case I =>
     intro p hp a ha;rcases zBK9.1 hp with hp|hp
     .exact hids p (zEX9 _ hp) a ha
     .obtain rfl:=zBI9.1 hp;have:idp=a:=by simpa[zfi]using ha
      omega


def zcP(a:Nat)(H H':LP):Prop:=∀(id:Nat) (o:zc),id≠a->H[id]?=some o->H'[id]?=some o
variable {H':LP}{Q:FX->FSt->Prop}{o o':zc}{ps vs:LQ}(p left:Nat)(bs:LN)(q n:Nat)(w:LN)(l:LK)
theorem zcP.refl(a:Nat)(H:LP):zcP a H H:=fun _ _ _ h=>h
theorem zcP.app(h:zcP a H Hc)(X:LP):zcP a H (Hc++X):=fun id o hi ho=>zbS (h id o hi ho)
theorem zcP.set(h:zcP a H Hc)(o':zc):zcP a H (Hc.set a o'):=fun id o hi ho=>by
 rw[zAS9 (fun e=>hi e.symm)];exact h id o hi ho
theorem zcP.trans{H'':LP}(h:zcP a H H')(k:zcP a H' H''):zcP a H H'':=fun id o hi ho=>k id o hi (h id o hi ho)
theorem zh0{X:LP}(h:H[a]?=some o):((H++X).set a o')[a]?=some o':=by grind
theorem zCi(free:LN)(used n:Nat)(hfl:free.length<1000000)(hul:used+n<=free.length)(tm:Nat->PV)(H:LP)(idL g:Nat)(z8:Nat)(idA:Nat)(hA:H[idA]?=some (.row 3 1 0 0 []))(h1:tm 1=.list q 1 (bfl free))(h8:tm 8=.sl idL g 0 n z8 6)(h12:tm 12=iv used)(h13:tm 13=.sl idA 0 0 0 0 1)(h14:tm 14=iv 0)(hQ:∀(tm':Nat->PV) (H':LP),zcP idA H H'->H'[idA]?=some (.row 3 1 n 0 (bfl ((free.drop used).take n)))->(∀k,k≠13->k≠14->(k<74\/88<k)->tm' k=tm k)->tm' 13=.sl idA n 0 n (2*n) 1->Q .norm ⟨tm',[],H'⟩):
  W ET ET.caught none c36_4 ⟨tm,[],H⟩ Q:=by
 unfold c36_4 xC;have hbg:∀i,i<n->((free.drop used).take n)[i]?=some (free.getD (used+i) 0):=fun i hi=>by
  grind
 have hbl:((free.drop used).take n).length=n:=by rw[zAU9,zBP9];omega
 generalize hbs:(free.drop used).take n=bs at *
 refine zay (zbE (fun m s=>∃(i:Nat) (Hc:LP),m=n-i/\i<=n/\zcP idA H Hc/\Hc[idA]?=some (.row 3 1 i 0 (bfl (bs.take i)))/\(∀k,k≠13->k≠14->(k<74\/88<k)->s.tm k=tm k)/\s.tm 13=.sl idA i 0 i (2*i) 1/\s.tm 14=iv i/\s.df=[]/\s.H=Hc) (n:=n) ?_ ?_)
 .exact⟨0,H,rfl,zAG9 _,.refl _ _,hA,fun k _ _ _=>rfl,h13,h14,rfl,rfl⟩
 .rintro m ⟨tn,df,Hc⟩ ⟨i,Hc',rfl,hi,hst,hr,hf,h13',h14',rfl,rfl⟩;dsimp only at hf h13' h14';have h1':=(hf 1 zy zy zy).trans h1;have h8':=(hf 8 zy zy zy).trans h8;have h12':=(hf 12 zy zy zy).trans h12;refine zLh (zr2 h8' h14') ?_ ?_
  .intro hlt;have hlt:i<n:=ztd hlt;have hfi:used+i<free.length:=zo;have hfv:(bfl free)[used+i]?=some (iv (free.getD (used+i) 0:Nat)):=by rw[zAT9,zAA9 hfi,zAQ9,zAA9 hfi];rfl
   have e1:((used:Int)+(i:Int))=((used+i:Nat):Int):=zo;have hb2:(i+1)*9<=140737488355328:=zo;have hlen:(bfl (bs.take i)).length=i:=by rw[zAW9,zAU9];omega
   have hX:∀X,(Hc++X)[idA]?=some (.row 3 1 i 0 (bfl (bs.take i))):=fun X=>zbS hr;have hstep:bfl (bs.take (i+1))=bfl (bs.take i)++[iv (free.getD (used+i) 0:Nat)]:=by
    rw[zAZ9,hbg i hlt];simp
   generalize free.getD (used+i) 0=b at *
   refine zBb ?_;refine zB ?_;refine zJF (zfM h1' h12' h13' h14' e1 hfi hfv hb2 hlen hX) ?_;refine zJF h14' ?_;refine⟨_,?m,i+1,_,rfl,hlt,(hst.app _).set _,?G,fun k k1 k2 k3=>?_,zt,zu h14',rfl,rfl⟩
   case m=>omega
   case G=>grind
   .simp(disch:=omega)only[zcZ];grind
  .intro hlt;have hlt:¬i<n:=zfd hlt;obtain rfl:i=n:=zo;refine hQ _ Hc hst (by grind) (fun k k1 k2 k3=>?_) (by simp[upd,h13']);simp(disch:=omega)only[zcZ]
   grind
theorem zAL(ws:LN)(i b:Nat)(hb:bs[i]?=some b)(hbm:b<2048)(hws:ws.length=64)(hbs:bs.length<1000000)(tm:Nat->PV)(H:LP)(idO:Nat)(V0:LQ)(hV0:V0.length<1000000)(idA gA:Nat)(hne:idA≠idO)(hO:H[idO]?=some (.row 120 2 V0.length 0 V0))(hA:H[idA]?=some (.row 3 1 gA 0 (bfl bs)))(h11:tm 11=.sl idO V0.length 0 V0.length (2*V0.length) 2)(h13:tm 13=.sl idA gA 0 bs.length (2*bs.length) 1)(h15:tm 15=iv i)(h16:tm 16=wv 0 ws)(h17:tm 17=iv 0)(hQ:∀(tm':Nat->PV) (H':LP) (V:LQ),V=V0++(zlb b ws).map zbP->zcP idO H H'->H'[idO]?=some (.row 120 2 V.length 0 V)->(∀k,k≠11->k≠17->(k<114\/132<k)->tm' k=tm k)->tm' 11=.sl idO V.length 0 V.length (2*V.length) 2->Q .norm ⟨tm',[],H'⟩):
  W ET ET.caught none c36_8 ⟨tm,[],H⟩ Q:=by
 unfold c36_8 xC;refine zay (zbE (fun m s=>∃(j:Nat) (V:LQ) (Hc:LP),m=64-j/\j<=64/\V=V0++((List.range j).map fun k=>(64*b+k,ws.getD k 0)).map zbP/\zcP idO H Hc/\Hc[idO]?=some (.row 120 2 V.length 0 V)/\(∀k,k≠11->k≠17->(k<114\/132<k)->s.tm k=tm k)/\s.tm 11=.sl idO V.length 0 V.length (2*V.length) 2/\s.tm 17=iv j/\s.df=[]/\s.H=Hc) (n:=64) ?_ ?_)
 .exact⟨0,V0,H,rfl,zAG9 _,by simp,.refl _ _,hO,fun k _ _ _=>rfl,h11,h17,rfl,rfl⟩
 .rintro m ⟨tn,df,Hc⟩ ⟨j,V,Hc',rfl,hj,hV,hst,hr,hf,h11',h17',rfl,rfl⟩;dsimp only at hf h11' h17';have h13':=(hf 13 zy zy zy).trans h13;have h15':=(hf 15 zy zy zy).trans h15;have h16':=(hf 16 zy zy zy).trans h16;have hVl:V.length=V0.length+j:=by rw[hV];simp
  refine zLh h17' ?_ ?_
  .intro hlt;have hlt:j<64:=ztd hlt;have hA':=hst idA _ hne hA;have hbv:(bfl bs)[i]?=some (iv b):=by rw[zAT9,hb];rfl
   have hib:i<bs.length:=(zAB9.1 hb).1;have hlt2:j<ws.length:=zo;have hqv:(ws.map uv)[j]?=some (uv (ws.getD j 0)):=by rw[zAT9,zAA9 hlt2,zAQ9,zAA9 hlt2];rfl
   have hb2:(V.length+1)*17<=140737488355328:=zo;have hV2:V++[zbP (64*b+j,ws.getD j 0)]=V0++((List.range (j+1)).map fun k=>(64*b+k,ws.getD k 0)).map zbP:=by rw[zDK9,hV];simp
   have e1:IntKind.i64.wrap (64*(b:Int))=((64*b:Nat):Int):=zwi;have e2:IntKind.i64.wrap (((64*b:Nat):Int)+(j:Int))=((64*b+j:Nat):Int):=zwi;have hX:∀X,(Hc++X)[idO]?=some (.row 120 2 V.length 0 V):=fun X=>zbS hr;refine zBb ?_;refine zBd ?_;refine zb3 (zb0 h11' h13' h15' h16' h17' hA' hbv hib hlt2 hqv e1 (zr3 e2 hb2 hX)) ?_;refine zQF h15' ?_;refine zJF h17' ?_;refine⟨_,?m,j+1,V++[zbP (64*b+j,ws.getD j 0)],_,rfl,hlt,hV2,(hst.app _).set _,?G,fun k k1 k2 k3=>?_,zt,zu h17',rfl,rfl⟩
   case m=>omega
   case G=>rw[zh0 hr,zAF9];rfl
   .simp(disch:=omega)only[zcZ];grind
  .intro hlt;have hlt:¬j<64:=zfd hlt;obtain rfl:j=64:=zo;refine hQ _ Hc V (by rw[hV,zlb,hws]) hst hr (fun k k1 k2 k3=>?_) (by simp[upd,h11']);simp(disch:=omega)only[zcZ]
   grind


theorem ztz{l:LK}{n:zZ}(h:n∈zcQ l):n.pairs.length<=18:=by
 rw[ziP]at h;obtain⟨i,_,rfl⟩:=zAJ9.1 h;show ((l.drop (18*i)).take 18).length<=18
 grind
theorem zAJ(hl:l.length<=500)(tm:Nat->PV)(H:LP)(idL g0 M0:Nat)(vs0 ps0:LQ)(hM0:M0<=g0)(hL0:H[idL]?=some (.row 143 6 g0 M0 vs0))(hlv0:Lvl H vs0 ps0 (zcQ []))(h0:tm 0=psv p l)(h8:tm 8=.sl idL g0 0 vs0.length (2*vs0.length) 6)(h9:tm 9=iv 0)(hQ:∀(tm':Nat->PV) (H':LP) (g M:Nat) (vs ps:LQ),M<=g->H'[idL]?=some (.row 143 6 g M vs)->Lvl H' vs ps (zcQ l)->(∀k,k≠8->k≠9->k≠10->(k<34\/73<k)->tm' k=tm k)->tm' 8=.sl idL g 0 vs.length (2*vs.length) 6->Q .norm ⟨tm',[],H'⟩):
  W ET ET.caught none c36_0 ⟨tm,[],H⟩ Q:=by
 unfold c36_0 xC;refine zay (zbE (fun m s=>∃(i:Nat) (Hc:LP) (g M:Nat) (vs ps:LQ),m=l.length-i/\i<=l.length/\M<=g/\Hc[idL]?=some (.row 143 6 g M vs)/\Lvl Hc vs ps (zcQ (l.take i))/\(∀k,k≠8->k≠9->k≠10->(k<34\/73<k)->s.tm k=tm k)/\s.tm 8=.sl idL g 0 vs.length (2*vs.length) 6/\s.tm 9=iv i/\s.df=[]/\s.H=Hc) (n:=l.length) ?_ ?_)
 .exact⟨0,H,g0,M0,vs0,ps0,rfl,zAG9 _,hM0,hL0,by rw[List.take_zero];exact hlv0,fun k _ _ _ _=>rfl,h8,h9,rfl,rfl⟩
 .rintro m ⟨tn,df,Hc⟩ ⟨i,Hc',g,M,vs,ps,rfl,hi,hM,hL,hlvl,hf,h8',h9',rfl,rfl⟩;dsimp only at hf h8' h9';have h0':=(hf 0 zy zy zy zy).trans h0;refine zLh (zr2 h0' h9') ?_ ?_;rotate_left
  .intro hlt;have hlt:¬i<l.length:=zfd hlt;obtain rfl:i=l.length:=zo;rw[zBE9]at hlvl;refine hQ _ Hc g M vs ps hM hL hlvl (fun k k1 k2 k3 k4=>?_) (by simp[upd,h8']);simp(disch:=omega)only[zcZ]
   grind
  intro hlt;have hlt:i<l.length:=ztd hlt;obtain⟨x,hx⟩:=zex (l:=l) hlt;have hxv:(l.map pv)[i]?=some (pv x):=zmg hx;have hstep:=zyd l i hlt;rw[getD_some hx]at hstep;have r1:(i:Int).tmod 18=((i%18:Nat):Int):=rfl;have hnl:(zcQ (l.take i)).length<=28:=by rw[zfH,zAU9];omega
  have hvl:=hlvl.lenV;have hfew:∀n∈zhe i x (zcQ (l.take i)),n.pairs.length<=18:=by
   intro n hn;unfold zhe at hn
   split at hn
   .rcases zBK9.1 hn with hn|hn
    .exact ztz hn
    grind
   .exact ztz hn
  have hnz:zhe i x (zcQ (l.take i)) ≠ []:=by
   unfold zhe
   split
   .simp
   .intro e;have:=congrArg List.length e;rw[zfH]at this;grind
  have hnw:(zhe i x (zcQ (l.take i))).length<=29:=by
   unfold zhe
   split
   .grind
   .omega
  generalize hnodes:zhe i x (zcQ (l.take i))=nodes at hstep hfew hnz hnw;refine zBb ?_;refine zbG (zcF (Q:=fun y s'=>y=.norm/\∃(g M:Nat) (vs ps:LQ),M<=g/\s'.H[idL]?=some (.row 143 6 g M vs)/\Lvl s'.H vs ps nodes/\(∀k,k≠8->k≠9->k≠10->(k<34\/73<k)->s'.tm k=tn k)/\s'.tm 8=.sl idL g 0 vs.length (2*vs.length) 6/\s'.tm 9=iv i/\s'.df=[]) ?_ ?_)
  .by_cases hm:0<i/\i%18=0
   .have g1:((i%18:Nat):Int)=0:=zo;have g0:(0:Int)<(i:Int):=zo;have hbb2:(vs.length+1)*65<=140737488355328:=zo;have hLX:∀X,(Hc++X)[idL]?=some (.row 143 6 g M vs):=fun X=>zbS hL;unfold zhe at hnodes;rw[if_pos hm]at hnodes;refine zB ?_;refine zB ?_;refine zbO (zr4 h9' r1 g1 g0) ?_;refine zct ?_;refine zbF ?_;refine zKF (zr7 h0' h8' h9' hxv hlt hbb2 hLX) ?_;refine⟨rfl,g+1,M,vs++[zc4 ⟨0,0,x.1,9223372036854775808,0,[]⟩ .nilsl],ps++[.nilsl],by omega,zh0 hL,?_,fun k k1 k2 k3 k4=>?_,zt,zu h9',rfl⟩
    .rw[<- hnodes];exact(hlvl.snoc _ rfl).other hL (fun h=>absurd (show (143:Nat)=92 from h) zy) _
    .simp(disch:=omega)only[zcZ]
   .unfold zhe at hnodes;rw[if_neg hm]at hnodes
    by_cases g0:0<i
    .have g0':(0:Int)<(i:Int):=zo;have g1:¬((i%18:Nat):Int)=0:=zo;refine zB ?_;refine zB ?_;refine zbO (zr4 h9' r1 g1 g0') ?_;refine zcf ?_;refine zbX ⟨rfl,g,M,vs,ps,hM,hL,by rw[<- hnodes];exact hlvl,fun k k1 k2 k3 k4=>?_,zu h8',zu h9',rfl⟩;simp(disch:=omega)only[zcZ]
    .obtain rfl:i=0:=zo;refine zB ?_;refine zB ?_;refine zbO h9' ?_;refine zcf ?_;refine zbX ⟨rfl,g,M,vs,ps,hM,hL,by rw[<- hnodes];exact hlvl,fun k k1 k2 k3 k4=>?_,zu h8',zu h9',rfl⟩;simp(disch:=omega)only[zcZ]
  clear hM hL hlvl hvl h8' h9';rintro y ⟨tq,df,Hc⟩ ⟨rfl,g,M,vs,ps,hM,hL,hlvl,hf2,h8',h9',rfl⟩;dsimp only at hM hL hlvl hf2 h8' h9';have h0q:=(hf2 0 zy zy zy zy).trans h0';obtain⟨front,nd,hfr⟩:=zlh (l:=nodes) hnz;subst hfr;have hvl:=hlvl.lenV;have hpl:=hlvl.lenP;rw[zAF9]at hvl hpl;obtain⟨vf,v,rfl,hvf⟩:=zjT hvl;obtain⟨pf,p',rfl,hpf⟩:=zjT hpl;have hat:=hlvl.val front.length nd p' (by simp) (by rw[<- hpf];simp);have hv:v=zc4 nd p':=by
   have h:=hat.1;rw[<- hvf,zBC9 (zAC9 _),Nat.sub_self]at h;injection h
  subst hv;have hpa:=hat.2;have hkl2:nd.pairs.length<=18:=hfew nd (zET9 _ (zBI9.2 rfl));unfold zsn at hstep;simp only[zEJ9,zDU9]at hstep;have hvfl:vf.length<=1000:=by rw[zAF9]at hnw;omega
  have hsub:IntKind.i64.wrap (((vf.length+1:Nat):Int)-1)=(vf.length:Int):=zwi;have hvv:(vf++[zc4 nd p']).length=vf.length+1:=by simp
  have hvi:vf.length<vf.length+1:=zCJ9 _;have hvg:(vf++[zc4 nd p'])[vf.length]?=some (zc4 nd p'):=by simp
  have hvs:∀y,(vf++[zc4 nd p']).set vf.length y=vf++[y]:=fun y=>by simp
  have hLX:∀X,(Hc++X)[idL]?=some (.row 143 6 g M (vf++[zc4 nd p'])):=fun X=>zbS hL;rw[hvv]at h8';refine zB ?_;refine zB ?_;refine zbO (zr2 h8' hsub) ?_;refine zBd ?_;rcases hpa with⟨rfl,hnp⟩|⟨idp,gp,rfl,hrp⟩
  .have hLXY:∀X Y,(Hc++X++Y)[idL]?=some (.row 143 6 g M (vf++[zc4 nd .nilsl])):=fun X Y=>zbS (zbS hL);refine zb3 (zfM h0q h8' h9' hL hLX hM hxv hlt hvg hvi) ?_;refine zb3 (zfM h0q h8' h9' hL hLX hLXY hM hvg hvi hvs) ?_;refine zQF h0q ?_;refine zJF h9' ?_;have hlc:idL<Hc.length:=(zAB9.1 hL).1;refine⟨_,?m,i+1,_,g,g,vf++[zc4 (zdU nd (nd.pairs++[x])) (.sl (Hc.length+1) 0 0 1 2 2)],pf++[.sl (Hc.length+1) 0 0 1 2 2],rfl,hlt,zAC9 _,?G,?L,fun k k1 k2 k3 k4=>?_,zu h8',zu h9',rfl,rfl⟩
   case m=>omega
   case G =>
    rw[zAY9 (by simp only[zAF9,zAH9,zAP9];omega)];simp[zdU]
   case L =>
    rw[hstep];refine hlvl.last hvf hpf ?_ (fun a ha=>?_) (fun id o ho hi=>?_)
    .refine .inr ⟨Hc.length+1,0,by simp[zdU,hnp],?_⟩;rw[zAS9 zo];simp[zdU,hnp]
    .right
     have:Hc.length+1=a:=by simpa[zfi]using ha
     omega
    .left
     have hne:idL≠id:=fun e=>by subst e;rw[hL]at hi;cases hi;exact absurd (show (143:Nat)=92 from ho) zy
     rw[zAS9 hne];exact zbS (zbS hi)
   .simp(disch:=omega)only[zcZ];exact(hf2 k k1 k2 k3 k4).trans (hf k k1 k2 k3 k4)
  .have hbb2:(nd.pairs.length+1)*17<=140737488355328:=zo;have hrX:∀X,(Hc++X)[idp]?=some (.row 92 2 gp 0 (nd.pairs.map pv)):=fun X=>zbS hrp;have hipl:idp<Hc.length:=(zAB9.1 hrp).1;have d1:idL≠idp:=fun e=>by grind
   have d4:Hc.length≠idp:=zo;have b1:(idL==idp)=false:=by simpa using d1
   have b4:(Hc.length==idp)=false:=by simpa using d4
   have b1':(idp==idL)=false:=by simpa using d1.symm
   have b4':(idp==Hc.length)=false:=by simpa using d4.symm
   have hLS:∀X y,((Hc++X).set idp y)[idL]?=some (.row 143 6 g M (vf++[zc4 nd (.sl idp gp 0 nd.pairs.length (2*nd.pairs.length) 2)])):=fun X y=>by rw[zAS9 (fun e=>d1 e.symm)];exact zbS hL
   refine zb3 (zb0 h0q h8' h9' hL hLX hM hxv hlt hvg hvi hrX hbb2) ?_;refine zdb (zr7 hLS hvg hvi hvs b1 b4 b4') ?_;refine zQF h0q ?_;refine zJF h9' ?_;have hlc:idL<Hc.length:=(zAB9.1 hL).1;refine⟨_,?m,i+1,_,g,g,vf++[zc4 (zdU nd (nd.pairs++[x])) (.sl idp (gp+1) 0 (nd.pairs.length+1) (2*(nd.pairs.length+1)) 2)],pf++[.sl idp (gp+1) 0 (nd.pairs.length+1) (2*(nd.pairs.length+1)) 2],rfl,hlt,zAC9 _,?G,?L,fun k k1 k2 k3 k4=>?_,zu h8',zu h9',rfl,rfl⟩
   case m=>omega
   case G =>
    rw[zAY9 (by simp only[zBW9,zAF9,zAH9,zAP9];omega)];simp[zdU]
   case L =>
    rw[hstep];refine hlvl.last hvf hpf ?_ (fun a ha=>?_) (fun id o ho hi=>?_)
    .refine .inr ⟨idp,gp+1,by simp[zdU],?_⟩;rw[zAS9 d1,zAY9 (by simp only[zAF9,zAH9,zAP9];omega)];simp[zdU]
    .left
     exact ha
    .by_cases he:idp=id
     .right;rw[<- he];rfl
     .left
      have hne:idL≠id:=fun e=>by subst e;rw[hL]at hi;cases hi;exact absurd (show (143:Nat)=92 from ho) zy
      rw[zAS9 hne,zAS9 he];exact zbS hi
   .simp(disch:=omega)only[zcZ];exact(hf2 k k1 k2 k3 k4).trans (hf k k1 k2 k3 k4)


theorem Lvl.setNode{nodes:LB}(h:Lvl H vs ps nodes){q:Nat}{n n':zZ}{p:PV}(hn:nodes[q]?=some n)(hp:ps[q]?=some p)(he:n'.pairs=n.pairs):Lvl H (vs.set q (zc4 n' p)) ps (nodes.set q n'):=by
 have hq:q<nodes.length:=(zAB9.1 hn).1;refine⟨by simp[h.lenV],by simp[h.lenP],fun r m x hm hx=>?_,h.dist⟩
 by_cases hr:r=q
 .subst hr;rw[zAY9 hq]at hm;rw[zAY9 (by rw[h.lenV];exact hq)]
  cases hm
  rw[hp]at hx;cases hx
  exact⟨rfl,by rw[he];exact(h.val r n p hn hp).2⟩
 .rw[zAS9 (fun e=>hr e.symm)]at hm⊢;exact h.val r m x hm hx
theorem Lvl.but{nodes:LB}(h:Lvl H vs ps nodes)(ha:H[a]?=some o)(ho:¬isP o)(k:zcP a H H'):Lvl H' vs ps nodes :=
 h.keep fun id q hq hi=>k id q (fun e=>by grind) hi
theorem Lvl.set0{nodes:LB}(h:Lvl H vs ps nodes)(ha:H[a]?=some o)(ho:¬isP o):Lvl (H.set a o') vs ps nodes :=
 h.but ha ho ((zcP.refl a H).set o')
theorem zhW.frz{p:PV}{ps:LK}(h:zhW H p ps):Frz H 1 p (psv 1 ps):=by
 rcases h with⟨rfl,rfl⟩|⟨id,g,rfl,h2⟩
 .exact .nil _ _
 .exact Frz.wh h2 rfl (by simp) (by simp) zmm zgZ
def zhO(bs:LN)(q:Nat)(n:zZ):zZ:={ n with sib:=bs.getD (q+1) 0 }
theorem zAx(nl:LB)(hbl:bs.length=nl.length)(hnl:nl.length<=100)(hbm:∀b∈bs,b<2048)(hg:∀n∈nl,zdN n/\n.sib=0)(tm:Nat->PV)(H:LP)(idL idA idO g M0 gA:Nat)(vs0 ps V0:LQ)(hV0:V0.length<900000)(hM0:M0<=g)(hL0:H[idL]?=some (.row 143 6 g M0 vs0))(hlv0:Lvl H vs0 ps nl)(hA0:H[idA]?=some (.row 3 1 gA 0 (bfl bs)))(hO0:H[idO]?=some (.row 120 2 V0.length 0 V0))(h8:tm 8=.sl idL g 0 nl.length (2*nl.length) 6)(h11:tm 11=.sl idO V0.length 0 V0.length (2*V0.length) 2)(h13:tm 13=.sl idA gA 0 bs.length (2*bs.length) 1)(h15:tm 15=iv 0)(hQ:∀(tm':Nat->PV) (H':LP) (M:Nat) (vs V:LQ),M<=g->H'[idL]?=some (.row 143 6 g M vs)->Lvl H' vs ps (zb6 bs nl)->H'[idA]?=some (.row 3 1 gA 0 (bfl bs))->H'[idO]?=some (.row 120 2 V.length 0 V)->V=V0++(zkI bs (zb6 bs nl)).map zbP->(∀k,k<11\/(11<k/\k<15)\/132<k->tm' k=tm k)->tm' 11=.sl idO V.length 0 V.length (2*V.length) 2->Q .norm ⟨tm',[],H'⟩):
  W ET ET.caught none c36_6 ⟨tm,[],H⟩ Q:=by
 unfold c36_6 xC;have hll:=zfk bs nl hbl;have hVl:∀i,(((bs.zip (zb6 bs nl)).take i).flatMap fun x=>zlb x.1 (zdA x.2)).length<=64*i:=fun i=>by
  rw[zof,zAU9];omega
 refine zay (zbE (fun m s=>∃(i:Nat) (Hc:LP) (M:Nat) (vs V:LQ) (nodes:LB),m=nl.length-i/\i<=nl.length/\M<=g/\Hc[idL]?=some (.row 143 6 g M vs)/\Lvl Hc vs ps nodes/\nodes.length=nl.length/\(∀(q:Nat) (n:zZ),nl[q]?=some n->nodes[q]?=some (if q<i then zhO bs q n else n))/\Hc[idA]?=some (.row 3 1 gA 0 (bfl bs))/\Hc[idO]?=some (.row 120 2 V.length 0 V)/\V=V0++(((bs.zip (zb6 bs nl)).take i).flatMap fun x=>zlb x.1 (zdA x.2)).map zbP/\(∀k,k<11\/(11<k/\k<15)\/132<k->s.tm k=tm k)/\s.tm 11=.sl idO V.length 0 V.length (2*V.length) 2/\s.tm 15=iv i/\s.df=[]/\s.H=Hc) (n:=nl.length) ?_ ?_)
 .exact⟨0,H,M0,vs0,V0,nl,rfl,zAG9 _,hM0,hL0,hlv0,rfl,fun q n hn=>by grind,hA0,hO0,by simp,fun k _=>rfl,h11,h15,rfl,rfl⟩
 .rintro m ⟨tn,df,Hc⟩ ⟨i,Hc',M,vs,V,nodes,rfl,hi,hM,hL,hlvl,hnlen,hnode,hA,hO,hV,hf,h11',h15',rfl,rfl⟩;dsimp only at hf h11' h15';have h8':=(hf 8 zy).trans h8;have h13':=(hf 13 zy).trans h13;have hVli:=hVl i;have hVlen:V.length<=V0.length+64*i:=by rw[hV,zAF9,zAW9];omega
  refine zLh (zr2 h8' h15') ?_ ?_;rotate_left
  .intro hlt;have hlt:¬i<nl.length:=zfd hlt;obtain rfl:i=nl.length:=zo;have hnl2:nodes=zb6 bs nl:=by
    apply zFL9
    intro q;rcases zCY9 q nl.length with hq|hq
    .have hn:=zAA9 hq;rw[hnode q _ hn,if_pos hq,zgg bs nl q _ hbl hn];rfl
    .grind
   rw[hnl2]at hlvl;refine hQ _ Hc M vs V hM hL hlvl hA hO ?_ (fun k k1=>?_) (by simp[upd,h11'])
   .rw[hV,zBL9 (by simp;omega)];rfl
   .simp(disch:=omega)only[zcZ];exact hf k k1
  intro hlt;have hlt:i<nl.length:=ztd hlt;obtain⟨x,hx⟩:=zex (l:=nl) hlt;obtain⟨b,hb⟩:∃b,bs[i]?=some b:=⟨_,zAA9 zo⟩
  obtain⟨p,hp⟩:∃p,ps[i]?=some p:=⟨_,zAA9 (by rw[hlvl.lenP];omega)⟩
  have hxn:nodes[i]?=some x:=by have:=hnode i x hx;rwa [if_neg (Nat.lt_irrefl _)]at this
  have hvx:=(hlvl.val i x p hxn hp).1;have hgx:=hg x (zAE9 hx);have hli:=zgg bs nl i x hbl hx;change (zb6 bs nl)[i]?=some (zhO bs i x)at hli;have hbmb:=hbm b (zAE9 hb);have hsib:bs.getD (i+1) 0<2048:=by
   rcases zCY9 (i+1) bs.length with h|h
   .rw[zAQ9,zAA9 h];exact hbm _ (zBJ9 _)
   .rw[zAQ9,zCF9 zo];decide
  have hgx':zdN (zhO bs i x):=hgx.1.setSib hsib;have dLO:idO≠idL:=fun e=>by grind
  have dLA:idA≠idL:=fun e=>by grind
  have dAO:idA≠idO:=fun e=>by grind
  have e2:((i:Int)+1)=((i+1:Nat):Int):=zo;have hvsl:i<vs.length:=by rw[hlvl.lenV];omega
  refine zBb ?_;refine zbG (zcF (Q:=fun y s'=>y=.norm/\∃(M:Nat) (vs:LQ) (nodes:LB),M<=g/\s'.H[idL]?=some (.row 143 6 g M vs)/\Lvl s'.H vs ps nodes/\nodes.length=nl.length/\(∀(q:Nat) (n:zZ),nl[q]?=some n->nodes[q]?=some (if q<i+1 then zhO bs q n else n))/\s'.H[idA]?=some (.row 3 1 gA 0 (bfl bs))/\s'.H[idO]?=some (.row 120 2 V.length 0 V)/\(∀k,k<15\/132<k->s'.tm k=tn k)/\s'.tm 15=iv i/\s'.df=[]) ?_ ?_)
  .by_cases hi1:i+1<nl.length
   .have g1:((i+1:Nat):Int)<(nl.length:Nat):=zo;have hi1b:i+1<bs.length:=zo;have hbv:(bfl bs)[i+1]?=some (iv (bs.getD (i+1) 0:Nat)):=by rw[zAT9,zAA9 hi1b,zAQ9,zAA9 hi1b];rfl
    refine zB ?_;refine zB ?_;refine zbO (zr4 h8' h15' e2 g1) ?_;refine zct ?_;refine zbF ?_;refine zKF (zel h8' h13' h15' e2 hi1b hbv hA hL hM hvx hlt) ?_;refine⟨rfl,g,vs.set i (zc4 (zhO bs i x) p),nodes.set i (zhO bs i x),zAC9 _,?G,?L,by simp[hnlen],?N,?A,?O,fun k k1=>?_,zu h15',rfl⟩
    case G=>rw[zAY9 (zAB9.1 hL).1];rfl
    case L=>exact(hlvl.setNode (n':=zhO bs i x) hxn hp rfl).set0 hL (fun h=>absurd (show (143:Nat)=92 from h) zy)
    case N =>
     intro q n hn
     by_cases hq:q=i
     .subst hq;rw[zAY9 zo,if_pos (zCJ9 _)]
      grind
     .rw[zAS9 (fun e=>hq e.symm),hnode q n hn]
      by_cases h1:q<i
      .grind
      .rw[if_neg h1,if_neg zo]
    case A=>rw[zAS9 (fun e=>dLA e.symm)];exact hA
    case O=>rw[zAS9 (fun e=>dLO e.symm)];exact hO
    .simp(disch:=omega)only[zcZ]
   .have g1:¬((i+1:Nat):Int)<(nl.length:Nat):=zo;refine zB ?_;refine zB ?_;refine zbO (zr4 h8' h15' e2 g1) ?_;refine zcf ?_;refine zbX ⟨rfl,M,vs,nodes,hM,hL,hlvl,hnlen,?_,hA,hO,fun k k1=>?_,zu h15',rfl⟩
    .intro q n hn;rw[hnode q n hn]
     by_cases h1:q<i
     .grind
     .by_cases hq:q=i
      .subst hq;rw[if_neg h1,if_pos (zCJ9 _)];rw[hx]at hn;cases hn
       have h0:=hgx.2;unfold zhO;rw[zAQ9,zCF9 (show bs.length<=q+1 by omega)];obtain⟨a1,a2,a3,a4,a5,a6⟩:=x;dsimp only at h0;rw[h0];rfl
      .rw[if_neg h1,if_neg zo]
    .simp(disch:=omega)only[zcZ]
  clear hM hL hlvl hA hO hnlen hnode hxn hvx h15' hvsl;rintro y ⟨tq,df,Hc⟩ ⟨rfl,M,vs,nodes,hM,hL,hlvl,hnlen,hnode,hA,hO,hf2,h15',rfl⟩;dsimp only at hM hL hlvl hA hO hf2 h15';have hxn:nodes[i]?=some (zhO bs i x):=by have:=hnode i x hx;rwa [if_pos (zCJ9 _)]at this
  have hvx:=hlvl.val i _ p hxn hp;have h8q:=(hf2 8 zy).trans h8';have h11q:=(hf2 11 zy).trans h11';have h13q:=(hf2 13 zy).trans h13';have hw:=zwN 1 (zhO bs i x) hgx'.level hgx'.sib hgx'.way hgx'.few;have hfz:Frz Hc 1 (zc4 (zhO bs i x) p) (zbJ 1 (zhO bs i x)):=Frz.aggL ⟨.int _ _,.int _ _,.int _ _,.int _ _,.int _ _,hvx.2.frz,trivial⟩;have hvv:=hvx.1;generalize hx':zhO bs i x=x' at *
  refine zBr ?_;refine zbV (zr6 h8q h15' hL hM hvv hlt) ?_;refine zdq (caps:=?_) (vs:=?_) ?_ ?_ hw ?_ ?_;rotate_left 2;(first|rfl|(simp only[zau,zaA,go_sem]<;>rfl));(simp only[go_sem]<;>rfl)
  .exact⟨hfz,trivial⟩
  refine zN ?_;refine zB ?_;refine zI ?_;refine zb8 ?_;refine zAL bs (zdA x') i b hb hbmb (zmF _) zo _ Hc idO V zo idA gA dAO hO hA (by simp[upd,h11q]) (by simp[upd,h13q]) (by simp[upd,h15']) (by simp[upd]) (by simp[upd]) (fun tm2 H2 V2 hV2 hst hO2 hfr h11x=>?_);have h15x:tm2 15=iv i:=(hfr 15 zy zy zy).trans (by simp[upd,h15']);refine zJF h15x ?_;refine⟨_,?m,i+1,H2,M,vs,V2,nodes,rfl,hlt,hM,hst idL _ dLO.symm hL,hlvl.but hO (fun h=>absurd (show (120:Nat)=92 from h) zy) hst,hnlen,hnode,hst idA _ dAO hA,hO2,?_,fun k k1=>?_,by simp[upd,h11x],by simp[upd],rfl,rfl⟩
  case m=>omega
  .rw[hV2,hV,zBF hb hli];simp
  .simp(disch:=omega)only[zcZ];rw[hfr k zo zo zo];simp(disch:=omega)only[zcZ];exact(hf2 k zo).trans (hf k k1)


theorem zn8:Frz H 0 (.tuple [iv 0,.nilsl,iv 0,iv n]) (.tuple [iv 0,.list 0 2 (([]:LK).map zbP),iv 0,iv n]):=Frz.tL ⟨.int _ _,.nil _ _,.int _ _,.int _ _,trivial⟩
theorem zyb(fr:LM)(hl:l.length<=500)(hfr:fr.length<=2000):FN ET 36 [psv p l,.list q 1 (fr.map iv)] (zf6 l fr):=by
 refine zfn (eG T36 func36) (zBS l fr) ?_;refine zG ?_;refine zBr ?_;have hris:=zul p l zo;have hblk:=zu2 q fr zo
 by_cases hokP:okP l=true
 rotate_left
 .have hokP:okP l=false:=by simpa using hokP
  have he:zf6 l fr=zte 2:=by unfold zf6;rw[hokP];rfl
  rw[hokP]at hris;refine zfx ?_;refine zCN hris ?_;refine zU ?_;rw[he];exact zn8 2
 rw[hokP]at hris
 by_cases hokI:okI [] fr=true
 rotate_left
 .have hokI:okI [] fr=false:=by simpa using hokI
  have he:zf6 l fr=zte 2:=by unfold zf6;rw[hokI,Bool.and_false];rfl
  rw[hokI]at hblk;refine zfx ?_;refine zca hris ?_;refine zfx ?_;refine zCN hblk ?_;refine zU ?_;rw[he];exact zn8 2
 rw[hokI]at hblk;refine zfx ?_;refine zca hris ?_;refine zfx ?_;refine zCN hblk ?_;refine zcf ?_;refine zSk ?_;obtain⟨free,rfl,hokF⟩:=zsr hokI;have hff:=(zjh free).1 hokF;have hfree:(free.map fun(b:Nat)=>(b:Int)).map Int.toNat=free:=by rw[zDV9];exact List.map_id free
 have hbE:zf6 l (free.map fun(b:Nat)=>(b:Int))=match zgw l free with
   | none=>zte 221
   | some T=>bOk T:=by unfold zf6;rw[hokP,hokI,hfree];rfl
 have hfv:(free.map fun(b:Nat)=>(b:Int)).map iv=bfl free:=by rw[zDV9];rfl
 have hfl:free.length<=2000:=by simpa using hfr
 rw[hbE,hfv];have hfbl:(bfl free).length=free.length:=by rw[zAW9]
 refine zBr ?_;refine zfx ?_;refine zca (zAA l.length hl) ?_
 by_cases hsp:free.length<ziw l.length
 .have g:((free.length:Nat):Int)<(ziw l.length:Nat):=zo;have hn:=(znB (free:=free) hl).2 hsp;refine zNF g ?_;refine zU ?_;rw[hn];exact zn8 221
 have g:¬((free.length:Nat):Int)<(ziw l.length:Nat):=zo;refine zNF g ?_;refine zcf ?_;refine zSk ?_;obtain⟨TT,hTT⟩:∃TT,zgw l free=some TT:=by
  cases h:zgw l free with
  | none=>exact absurd ((znB (free:=free) hl).1 h) hsp
  | some TT=>grind
 rw[hTT];refine zG ?_;refine zAJ p l hl _ _ 0 0 0 [zc4 ⟨0,0,0,9223372036854775808,0,[]⟩ .nilsl] [.nilsl] (zAC9 _) rfl ((Lvl.nil _).snoc ⟨0,0,0,9223372036854775808,0,[]⟩ rfl) (by simp[upd,zD]) (by simp[upd]) (by simp[upd]) (fun tm1 H1 g1 M1 vs1 ps1 hM1 hL1 hlv1 hf1 h81=>?_);have k1:tm1 1=.list q 1 (bfl free):=(hf1 1 zy zy zy zy).trans (by simp[upd,zD]);clear hf1;refine zG ?_;refine zc2 120 2 (i:=11) (by simp[upd]) ?_;simp only[lzy];have hO1:(H1++[zc.row 120 2 0 0 []])[H1.length]?=some (.row 120 2 0 0 []):=by simp
 have hL1':(H1++[zc.row 120 2 0 0 []])[0]?=some (.row 143 6 g1 M1 vs1):=zbS hL1;have hlv1':Lvl (H1++[zc.row 120 2 0 0 []]) vs1 ps1 (zcQ l):=hlv1.keep fun id o _ h=>zbS h;refine zay (zbE (fun m s=>∃(k:Nat) (nl:LB) (used:Nat) (T:LG) (Hc:LP) (idL g M idO:Nat) (vs ps V:LQ),m=k/\1<=k/\3<=k+T.length/\zmh l free nl used T/\zkd free k nl used T=some TT/\used=(T.reverse.flatMap Prod.fst).length/\V=(zeR T.reverse).map zbP/\V.length=64*used/\M<=g/\Hc[idL]?=some (.row 143 6 g M vs)/\Lvl Hc vs ps nl/\Hc[idO]?=some (.row 120 2 V.length 0 V)/\s.tm 1=.list q 1 (bfl free)/\s.tm 8=.sl idL g 0 vs.length (2*vs.length) 6/\s.tm 11=.sl idO V.length 0 V.length (2*V.length) 2/\s.tm 12=iv used/\s.df=[]/\s.H=Hc) (n:=4) ?_ ?_)
 .exact⟨4,zcQ l,0,[],_,0,g1,M1,H1.length,vs1,ps1,[],rfl,by decide,by decide,zpx free hokP hl,hTT,rfl,rfl,rfl,hM1,hL1',hlv1',hO1,by simp[upd,k1],zu h81,zt,zt,rfl,rfl⟩
 .clear hM1 hL1 hlv1 hL1' hlv1' hO1 k1 h81;rintro m ⟨tm,df,Hc⟩ ⟨k,nl,used,T,Hc',idL,g,M,idO,vs,ps,V,rfl,hk1,hk3,hI,hbd,hus,hV,hVl,hM,hL,hlvl,hO,h1,h8,h11,h12,rfl,rfl⟩;dsimp only at *
  obtain⟨k,rfl⟩:∃k,m=k+1:=⟨m-1,by omega⟩
  have hnl0:0<nl.length:=zCD9.2 hI.ok.ne;have hnlb:nl.length<=28:=by
   have:=hI.bndL;have hb:∀t,bndL t<=28:=fun t=>by match t with|0=>decide|1=>decide|t+2=>exact(show 1<=28 by decide)
   exact zBO9 this (hb _)
  rw[zkd]at hbd;have hul:=hI.used
  by_cases hsp2:free.length<used+nl.length
  .rw[if_pos hsp2]at hbd;cases hbd
  rw[if_neg hsp2]at hbd;have hvn:=hlvl.lenV;rw[hvn]at h8;refine zBb ?_;refine zG ?_;refine zc2 3 1 (i:=13) (by simp[upd]) ?_;simp only[lzy];have hlc:idL<Hc.length:=(zAB9.1 hL).1;have hoc:idO<Hc.length:=(zAB9.1 hO).1;refine zCi q free used nl.length zo zo _ _ idL g _ Hc.length (by simp) (by simp[upd,h1]) (by simp[upd,h8];rfl) (by simp[upd,h12]) (by simp[upd]) (by simp[upd]) (fun tm2 H2 hst2 hA2 hf2 h13=>?_);obtain⟨v1,v2,v3,v4,v5,v6,v7,v8⟩:=hI.level hokF hsp2;have hnx:=hI.next hokF hsp2;have hlvl3:=hI.lvl;have hL2:H2[idL]?=some (.row 143 6 g M vs):=hst2 idL _ zo (zbS hL);have hO2:H2[idO]?=some (.row 120 2 V.length 0 V):=hst2 idO _ zo (zbS hO);have hlv2:Lvl H2 vs ps nl:=hlvl.keep fun id o _ h=>hst2 id o (by grind) (zbS h);have x1:tm2 1=.list q 1 (bfl free):=(hf2 1 zy zy zy).trans (by simp[upd,h1]);have x8:tm2 8=.sl idL g 0 nl.length (2*nl.length) 6:=(hf2 8 zy zy zy).trans (by simp[upd,h8]);have x11:tm2 11=.sl idO V.length 0 V.length (2*V.length) 2:=(hf2 11 zy zy zy).trans (by simp[upd,h11]);have x12:tm2 12=iv used:=(hf2 12 zy zy zy).trans (by simp[upd,h12]);clear hf2 hst2 h1 h8 h11 h12;generalize hbs:(free.drop used).take nl.length=bs at *
  refine zG ?_;refine zAx bs nl v1 zo (fun b hb=>(v4 b hb).2) (fun n hn=>⟨(hI.ok.each n hn).1,(hI.ok.each n hn).2.2⟩) _ H2 idL Hc.length idO g M nl.length vs ps V zo hM hL2 hlv2 hA2 hO2 (by simp[upd,x8]) (by simp[upd,x11]) (by simp[upd,h13,v1]) (by simp[upd]) (fun tm3 H3 M3 vs3 V3 hM3 hL3 hlv3 hA3 hO3 hV3 hf3 h11=>?_);have y1:tm3 1=.list q 1 (bfl free):=(hf3 1 zy).trans (by simp[upd,x1]);have y8:tm3 8=.sl idL g 0 nl.length (2*nl.length) 6:=(hf3 8 zy).trans (by simp[upd,x8]);have y12:tm3 12=iv used:=(hf3 12 zy).trans (by simp[upd,x12]);have y13:tm3 13=.sl Hc.length nl.length 0 nl.length (2*nl.length) 1:=(hf3 13 zy).trans (by simp[upd,h13]);clear hf3 x1 x8 x11 x12;have hpl:(zkI bs (zb6 bs nl)).length=64*nl.length:=by
   unfold zkI;rw[zof];simp[v1,zfk bs nl v1]
  have hV4:V3=(zeR ((bs,zb6 bs nl)::T).reverse).map zbP:=by
   rw[hV3,hV,zGO9,zeR,zeR,zDI9];simp
  have hV3l:V3.length=64*(used+nl.length):=by rw[hV3,zAF9,zAW9,hpl];omega
  have hus2:used+nl.length=(((bs,zb6 bs nl)::T).reverse.flatMap Prod.fst).length:=by
   rw[zGO9,zDI9,zAF9,<- hus];simp[v1]
  have hw:IntKind.i64.wrap ((used:Int)+(nl.length:Int))=((used+nl.length:Nat):Int):=zwi
  by_cases ho:nl.length=1
  .rw[if_pos ho]at hbd
   cases hbd
   have g1:((nl.length:Nat):Int)=1:=zo;obtain⟨b0,hb0⟩:=zER9.1 (v1.trans ho);have hA0:(bfl bs)[0]?=some (iv b0):=by rw[hb0];rfl
   have hgA:0<=nl.length:=zAG9 _;refine zB ?_;refine zB ?_;refine zbO (zr3 y8 y12 hw) ?_;refine zB ?_;refine zB ?_;refine zbO (zr2 y8 g1) ?_;refine zct ?_;refine zB ?_;refine zB ?_;refine zbO (zr6 y13 h11 hA3 hA0 hnl0 hgA) ?_;refine zbK (zfr ?_);have hroot:zpL ((bs,zb6 bs nl)::T)=b0:=by rw[hb0];rfl
   refine Frz.tL ⟨?_,?_,?_,.int _ _,trivial⟩
   .rw[hroot];exact .int _ _
   .rw[<- hV4];refine Frz.wh hO3 rfl rfl (zAC9 _) (fun v hv=>?_) (fun v hv=>?_)
    .rw[hV4]at hv;obtain⟨x,_,rfl⟩:=zAJ9.1 hv;rfl
    .rw[hV4]at hv;obtain⟨x,hx,hv⟩:=zBB9.1 hv;obtain⟨y,_,rfl⟩:=zAJ9.1 hx;simp[PV.cells]at hv;rcases hv with rfl|rfl<;>exact .int _ _
   .rw[<- hus2];exact .int _ _
  .rw[if_neg ho]at hbd;have g1:¬((nl.length:Nat):Int)=1:=zo;have hnx:=hnx ho;have hT1:T.length<=1:=by
    have:=hnx.lvl;simp at this;omega
   obtain⟨w1,w2,w3⟩:=zf2 bs nl v1;have hll:=zfk bs nl v1;have hlevs:∀n∈zb6 bs nl,n.level=T.length:=by
    intro n hn;obtain⟨j,hj⟩:=zDR9.1 hn;have hjl:j<nl.length:=by rw[<- hll];exact(zAB9.1 hj).1
    have e:=zgg bs nl j _ v1 (zAA9 hjl);rw[hj]at e;cases e
    exact(hI.ok.each _ (zBJ9 _)).2.1
   have hab:=zw4 H3 idL g M3 Hc.length nl.length vs3 ps (zb6 bs nl) bs T.length hL3 hM3 hlv3 hA3 (by omega) zo hlevs zo (fun b hb=>(v4 b hb).2);rw[hll,w2]at hab;refine zB ?_;refine zB ?_;refine zbO (zr3 y8 y12 hw) ?_;refine zB ?_;refine zB ?_;refine zbO (zr2 y8 g1) ?_;refine zcf ?_;refine zSk ?_;refine zBr ?_;refine zbV (zr2 y8 y13) ?_;refine zmc (caps:=?caps) (vs:=?vs) ?a1 ?a2 hab ?a3 ?a4 ?a5
   case a1=>first|rfl|(simp only[zau,zaA,go_sem]<;>rfl)
   case a2=>simp only[go_sem]<;>rfl
   case a3=>rfl
   case a4=>rfl
   rintro e H4 ⟨hst4,idL4,g4,M4,vs4,ps4,rfl,hM4,_,hL4,hlv4,_⟩;refine zK ?_;refine⟨k,zCJ9 _,k,_,used+nl.length,(bs,zb6 bs nl)::T,H4,idL4,g4,M4,idO,vs4,ps4,V3,rfl,by omega,?_,hnx,hbd,hus2,hV4,hV3l,hM4,hL4,hlv4,hst4 idO _ hO3,by simp[upd,y1],zt,zu h11,zt,rfl,rfl⟩;simp;omega


theorem zl8:∀X:LG,(∀M∈X,M.1.length=M.2.length)->(zeR X).length=64*(X.flatMap Prod.fst).length
 | [],_=>rfl
 | M::X,h=>by
  have h1:=zl8 X fun K hK=>h K (zAO9 _ hK);have h2:=h M (zAM9 ..);unfold zeR at h1⊢;rw[zBR9,zAF9,h1,zBR9,zAF9];unfold zkI;rw[zof,List.length_zip];omega


theorem zwr:zcb left n=(decide (left≠0)&&decide (n%2=0)&&decide (4<=n)&&decide (n<=56)):=by
 rw[zFI9];simp only[zcb,zAI9,decide_eq_true_eq];omega
theorem znC(hw:zbL w.length):FR 277 [uv left,wv p w] (.bool (zcb left w.length)):=by
 refine zfn (eG T277 func277) (.bool _) ?_;have r1:(w.length:Int).tmod 2=((w.length%2:Nat):Int):=rfl;rw[zwr]
 by_cases b1:left=0
 .have a1:(left:Int)=0:=zo;refine zOF a1 ?_;exact zbo.bool (by simp[b1])
 have a1:¬(left:Int)=0:=zo
 by_cases b2:w.length%2=0
 rotate_left
 .have a2:¬((w.length%2:Nat):Int)=0:=zo;refine zOF (zr3 a1 r1 a2) ?_;exact zbo.bool (by grind)
 have a2:((w.length%2:Nat):Int)=0:=zo
 by_cases b3:4<=w.length
 rotate_left
 .have a3:¬(4:Int)<=(w.length:Nat):=zo;refine zOF (zr4 a1 r1 a2 a3) ?_;exact zbo.bool (by simp[b3])
 have a3:(4:Int)<=(w.length:Nat):=zo
 by_cases b4:w.length<=56
 .have a4:((w.length:Nat):Int)<=56:=zo;refine zOF (zr5 a1 r1 a2 a3 a4) ?_;exact zbo.bool (by grind)
 .have a4:¬((w.length:Nat):Int)<=56:=zo;refine zOF (zr5 a1 r1 a2 a3 a4) ?_;exact zbo.bool (by simp[b4])
theorem zdZ{w:LN}{i:Nat}(h:i<w.length):(w.map uv)[i]?=some (uv (w.getD i 0)):=by grind
theorem zu6(j:Nat)(hw:zbL w.length)(h:2*j<w.length+1):FR 219 [uv left,wv p w,iv j] (uv (zdL left w j)):=by
 refine zfn (eG T219 func219) (.int _ _) ?_;unfold zdL;refine zG ?_;refine zfc ?_ ?_
 .intro hj;obtain rfl:j=0:=ztd hj;refine zO ?_;exact Frz.int _ _
 .intro hj;have hj:¬j=0:=zfd hj;rw[if_neg hj];refine zSk ?_;have w1:IntKind.i64.wrap (2*(j:Int))=((2*j:Nat):Int):=zwi;have w2:IntKind.i64.wrap (((2*j:Nat):Int)-1)=((2*(j-1)+1:Nat):Int):=zwi;have c1:2*(j-1)+1<w.length:=zo;have z1:=zdZ c1;refine zOF (zr4 w1 w2 c1 z1) ?_;exact Frz.int _ _
theorem zrL(hw:zbL w.length):FR 279 [wv p w] (iv (zb7 w:Nat)):=by
 refine zfn (eG T279 func279) (.int _ _) ?_;have e0:IntKind.i64.wrap ((w.length:Int).tdiv 2)=((w.length/2:Nat):Int):=by rw[IntWalk.i64_quo _ _ zo];omega
 refine zG ?_;refine zay (zbE (fun m s=>∃i:Nat,m=w.length-i/\2*i<=w.length/\zb7 w=i+zb7 (w.drop (2*i))/\s.tm 0=wv p w/\s.tm 3=iv i/\s.df=[]/\s.H=[]) (n:=w.length) ?_ ?_)
 .exact⟨0,by simp[upd,zD]⟩
 .rintro m ⟨tm,df,H⟩ ⟨i,rfl,hi,hc,h0,h3,rfl,rfl⟩;dsimp only at h0 h3
  by_cases hlt:i<w.length/2
  .have g1:(i:Int)<((w.length/2:Nat):Int):=zo;have w1:IntKind.i64.wrap (2*(i:Int))=((2*i:Nat):Int):=zwi;have w2:IntKind.i64.wrap (((2*i:Nat):Int)+1)=((2*i+1:Nat):Int):=zwi;have c1:2*i+1<w.length:=zo;have z1:=zdZ c1;have hd:=zpt w i c1;have hx:w[2*i+1]=w.getD (2*i+1) 0:=by rw[zAQ9,zAA9 c1];rfl
   rw[hx]at hd;generalize w.getD (2*i+1) 0=x at *
   by_cases hz:x=0
   .have gx:(x:Int)=0:=zo;refine zLh (zr9 h0 h3 e0 g1 w1 w2 c1 z1 gx) ?_ ?_
    .intro h;cases h
    .intro _;refine zOF h3 ?_;rw[hc,hd,zb7,if_pos hz];exact Frz.int _ _
   .have gx:¬(x:Int)=0:=zo;refine zLh (zr9 h0 h3 e0 g1 w1 w2 c1 z1 gx) ?_ ?_
    .intro _;refine zay ?_;refine zJF h3 ?_;refine⟨_,?m,i+1,rfl,by omega,?_,zu h0,zu h3,zt,zt⟩
     case m=>omega
     rw[hc,hd,zb7,if_neg hz];omega
    .intro h;cases h
  .have g1:¬(i:Int)<((w.length/2:Nat):Int):=zo;refine zLh (zr4 h0 h3 e0 g1) ?_ ?_
   .intro h;cases h
   .intro _;refine zOF h3 ?_;rw[hc,zo8 (by grind)];exact Frz.int _ _
def zeU(l:LK)(x:Nat):Bool:=(l.map Prod.snd).contains x
theorem zrF(x:Nat)(hl:zbL l.length):FR 278 [psv p l,uv x] (.bool (zeU l x)):=by
 refine zfn (eG T278 func278) (.bool _) ?_;refine zG ?_;refine zay (zbE (fun m s=>∃i:Nat,m=l.length-i/\i<=l.length/\zeU l x=zeU (l.drop i) x/\s.tm 0=psv p l/\s.tm 1=uv x/\s.tm 5=iv i/\s.df=[]/\s.H=[]) (n:=l.length) ?_ ?_)
 .exact⟨0,by simp[upd,zD]⟩
 .rintro m ⟨tm,df,H⟩ ⟨i,rfl,hi,hc,h0,h1,h5,rfl,rfl⟩;dsimp only at h0 h1 h5;refine zLh (zr2 h0 h5) ?_ ?_
  .intro hlt;have hlt:i<l.length:=ztd hlt;obtain⟨q,hq⟩:=zex (l:=l) hlt;have hqv:(l.map pv)[i]?=some (pv q):=zmg hq;have hdr:l.drop i=q::l.drop (i+1):=zdc hq;refine zBb ?_
   by_cases he:q.2=x
   .have g1:(q.2:Int)=x:=zo;refine zB ?_;refine zbO (zr6 h0 h1 h5 hqv hlt g1) ?_;refine zU ?_;exact zbo.bool (by rw[hc,hdr];simp[zeU,he])
   .have g1:¬(q.2:Int)=x:=zo;refine zB ?_;refine zbO (zr6 h0 h1 h5 hqv hlt g1) ?_;refine zH ?_;refine zJF h5 ?_;refine⟨_,?m,i+1,rfl,hlt,?_,zu h0,zu h1,zu h5,zt,zt⟩
    case m=>omega
    rw[hc,hdr];simp[zeU,Ne.symm he]
  .intro hlt;have hlt:¬i<l.length:=zfd hlt;obtain rfl:i=l.length:=zo;refine zO ?_;exact zbo.bool (by rw[hc,zBH9];rfl)
theorem zlf:∀(l:LN) (j prev:Nat),2*(zcK j prev l).length<=l.length
 | [],_,_=>by simp[zcK]
 | [_],_,_=>by simp[zcK]
 | _::p::l,j,prev=>by
  have:=zlf l (j+1) p;rw[zcK]
  grind
theorem zu0{l:LN}(h:zb7 l=0)(j prev:Nat):zcK j prev l=[]:=by
 match l,h with
 | [],_=>simp[zcK]
 | [_],_=>simp[zcK]
 | a::b::l,h =>
  rw[zb7]at h
  by_cases hb:b=0
  .rw[zcK,if_pos hb]
  grind
theorem ziN(hw:w.length<1000000):FR 217 [uv left,wv p w] (.tuple [psv 0 (zbQ left w),.list 0 1 ((zcK 0 left w).map fun x=>iv (x.1:Nat))]):=by
 refine zfn (eG T217 func217) (Lb.two (Lb.pvs _) ?_) ?_
 .have:=Lb.ivs (z:=1) ((zcK 0 left w).map fun x=>(x.1:Int));rw[zDV9]at this;exact this
 refine zG ?_;refine zc2 92 2 (i:=6) rfl ?_;refine zc2 3 1 (i:=7) rfl ?_;simp only[lzy,zAH9,zAP9,zBN9,zAN9,zAV9];refine zay (zbE (fun m s=>∃(j:Nat) (V1 V2:LQ) (I:List (Nat×Pr)) (G:LP),m=w.length-j/\j<=zb7 w/\zb7 w=j+zb7 (w.drop (2*j))/\zcK 0 left w=I++zcK j (zdL left w j) (w.drop (2*j))/\V1=I.map (fun x=>pv x.2)/\V2=I.map (fun x=>iv (x.1:Nat))/\s.tm 0=uv left/\s.tm 1=wv p w/\s.tm 6=.sl 0 V1.length 0 V1.length (2*V1.length) 2/\s.tm 7=.sl 1 V2.length 0 V2.length (2*V2.length) 1/\s.tm 8=iv j/\s.df=[]/\s.H=.row 92 2 V1.length 0 V1::.row 3 1 V2.length 0 V2::G) (n:=w.length) ?_ ?_)
 .exact⟨0,[],[],[],[],rfl,zAG9 _,by simp,by simp[zdL],rfl,rfl,zt,zt,zt,zt,zt,rfl,rfl⟩
 .rintro m ⟨tm,df,H⟩ ⟨j,V1,V2,I,G,rfl,hj,hraw,hit,hV1,hV2,h0,h1,h6,h7,h8,rfl,rfl⟩;dsimp only at *
  have hrl:=zqw w;have hIl:I.length<=w.length:=by have:=zlf w 0 left;rw[hit,zAF9]at this;omega
  have hl1:V1.length=I.length:=by rw[hV1,zAW9]
  have hl2:V2.length=I.length:=by rw[hV2,zAW9]
  refine zjA ?_;refine zIF (zr2 h1 h8) ?_;refine zCN (zrL p w zo) ?_;refine zwh ?_ ?_
  .intro hlt;have hlt:j<zb7 w:=ztd hlt;have w1:IntKind.i64.wrap (2*(j:Int))=((2*j:Nat):Int):=zwi;have w2:IntKind.i64.wrap (((2*j:Nat):Int)+1)=((2*j+1:Nat):Int):=zwi;have c0:2*j<w.length:=zo;have c1:2*j+1<w.length:=zo;have z0:=zdZ c0;have z1:=zdZ c1;have hd:=zpt w j c1;have hx0:w[2*j]=w.getD (2*j) 0:=by rw[zAQ9,zAA9 c0];rfl
   have hx1:w[2*j+1]=w.getD (2*j+1) 0:=by rw[zAQ9,zAA9 c1];rfl
   have han:zdL left w (j+1)=w.getD (2*j+1) 0:=by unfold zdL;rw[if_neg zo,zGJ9]
   have hah:=zu6 p left w j zo zo;rw[hx0,hx1]at hd;generalize w.getD (2*j) 0=k at *
   generalize w.getD (2*j+1) 0=x at *
   generalize zdL left w j=a at *
   have hxz:x≠0:=by
    intro e;rw[hraw,hd,zb7,if_pos e]at hlt;omega
   rw[hd,zb7,if_neg hxz]at hraw;rw[hd,zcK,if_neg hxz]at hit;refine zBb ?_;refine zBd ?_
   by_cases he:x=a
   .have g1:(x:Int)=a:=zo;rw[if_pos he]at hit;refine zcw (zr7 h0 h1 h8 w1 w2 c1 z1) hah ?_;refine zQF (zr2 h0 g1) ?_;refine zfc ?_ ?_
    .intro h;simp at h
    intro _;refine zbX ?_;refine zJF h8 ?_;refine⟨_,?m1,j+1,V1,V2,I,G,rfl,hlt,by omega,(by grind),hV1,hV2,zu h0,zu h1,zu h6,zu h7,zu h8,rfl,rfl⟩;omega
   .have g1:¬(x:Int)=a:=zo;rw[if_neg he]at hit;refine zcw (zr7 h0 h1 h8 w1 w2 c1 z1) hah ?_;refine zQF (zr2 h0 g1) ?_;refine zfc ?_ ?_;rotate_left
    .intro h;simp at h
    intro _;have hb1:(V1.length+1)*17<=140737488355328:=zo;have hb2:(V2.length+1)*9<=140737488355328:=zo;refine zBd ?_;refine zb3 (zb0 h0 h1 h6 h7 h8 w1 w2 c0 c1 z0 z1 hb1) ?_;refine zQF h0 ?_;refine zJF (zr3 h7 h8 hb2) ?_;refine zJF h8 ?_;refine⟨_,?m2,j+1,V1++[pv (k,x)],V2++[iv (j:Nat)],I++[(j,(k,x))],?G2,rfl,hlt,by omega,(by grind),(by grind),(by grind),zu h0,zu h1,zt,zt,zu h8,zt,?H⟩
    case m2=>omega
    case H=>simp only[zAF9,zAH9,zAP9,zAR9,zAN9];rfl
  .intro hlt;have hlt:¬j<zb7 w:=zfd hlt;rw[zu0 (l:=w.drop (2*j)) zo,zCL9]at hit;refine zOF (zr2 h6 h7) ?_;have e1:zbQ left w=I.map (fun x=>x.2):=by rw[<- zf0 w 0 left,hit]
   have e2:(I.map (fun x=>x.2)).map pv=V1:=by rw[hV1,zDV9];rfl
   rw[e1,hit];refine Frz.tL ⟨?_,?_,trivial⟩
   .show Frz _ _ _ (.list 0 2 ((I.map fun x=>x.2).map pv));rw[e2];exact Frz.wh (l:=V1) rfl rfl rfl (zAC9 _) (fun v hv=>by rw[hV1]at hv;obtain⟨x,_,rfl⟩:=zAJ9.1 hv;rfl) (by rw[<- e2];exact zgZ)
   .rw[<- hV2];have e3:V2=(I.map fun x=>(x.1:Int)).map iv:=by rw[hV2,zDV9];rfl
    exact Frz.wh (l:=V2) rfl rfl rfl (zAC9 _) (fun v hv=>by rw[hV2]at hv;obtain⟨x,_,rfl⟩:=zAJ9.1 hv;rfl) (by rw[e3];exact zvw)


def zgu(left:Nat)(l:LK)(i:Nat):Bool :=
 (decide (i=0)||decide ((l.getD (i-1) (0,0)).1<(l.getD i (0,0)).1)) && !zeU (l.take i) (l.getD i (0,0)).2 && !decide ((l.getD i (0,0)).2=left)
def ziU(left:Nat)(l:LK):Bool:=zbT l&&zdO [left] l
theorem ztV:ziU left l=true↔∀i,i<l.length->zgu left l i=true:=by
 unfold ziU;rw[zAI9,zfe,zge];have hget:∀i,i<l.length->l[i]?=some (l.getD i (0,0)):=fun i hi=>get_lt l hi
 constructor
 .rintro ⟨h1,h2,h3⟩ i hi;unfold zgu;simp only[zAI9,zFH9,zDN9,decide_eq_true_eq,decide_eq_false_iff_not];refine⟨⟨?_,?_⟩,?_⟩
  .by_cases h0:i=0
   .omega
   .right
    refine h1 (i-1) _ _ (hget _ zo) ?_;rw[show i-1+1=i by omega];grind
  .unfold zeU;rw[<- zEY9,zFQ9];intro hm;obtain⟨q,hq,e⟩:=zAJ9.1 hm;obtain⟨k,hk,hkq⟩:=zBG9.1 hq;rw[zAU9]at hk;rw[zGP9]at hkq;have hp:=zEK9.1 h2 k i (by grind) (by grind) zo
   grind
  grind
 .intro h;have k:∀i,i<l.length->(i=0\/(l.getD (i-1) (0,0)).1<(l.getD i (0,0)).1)/\zeU (l.take i) (l.getD i (0,0)).2=false/\¬(l.getD i (0,0)).2=left:=fun i hi=>by
   have:=h i hi;unfold zgu at this
   grind
  refine⟨fun i x y hx hy=>?_,?_,fun p hp hm=>?_⟩
  .grind
  .show List.Pairwise (fun x y=>x≠y) (l.map Prod.snd);rw[zEK9];intro i j hi hj hij e;rw[zAW9]at hi hj;rw[List.getElem_map,List.getElem_map]at e;have h2:=(k j hj).2.1;unfold zeU at h2;rw[<- zEY9,zFQ9]at h2
   apply h2
   rw[zAQ9,zAA9 hj];show l[j].2∈_;rw[<- e];exact List.mem_map_of_mem (zBG9.2 ⟨i,by grind,zGP9⟩)
  .obtain⟨i,hi,e⟩:=zBG9.1 hp
   grind
theorem zwZ(hl:l.length<1000000):FR 301 [uv left,psv p l] (.bool (ziU left l)):=by
 refine zfn (eG T301 func301) (.bool _) ?_;refine zG ?_;have bad:∀i,i<l.length->zgu left l i=false->ziU left l=false:=fun i hi h=>by
  cases hf:ziU left l with
  | false=>rfl
  | true=>rw[(ztV left l).1 hf i hi]at h;cases h
 refine zay (zbE (fun m s=>∃i:Nat,m=l.length-i/\i<=l.length/\(∀j,j<i->zgu left l j=true)/\s.tm 0=uv left/\s.tm 1=psv p l/\s.tm 5=iv i/\s.df=[]/\s.H=[]) (n:=l.length) ?_ ?_)
 .exact⟨0,rfl,zAG9 _,fun j hj=>by omega,zt,zt,zt,rfl,rfl⟩
 .rintro m ⟨tm,df,H⟩ ⟨i,rfl,hi,hok,h0,h1,h5,rfl,rfl⟩;dsimp only at h0 h1 h5;refine zLh (zr2 h1 h5) ?_ ?_;rotate_left
  .intro hlt;have hlt:¬i<l.length:=zfd hlt;obtain rfl:i=l.length:=zo;refine zO ?_;exact zbo.bool ((ztV left l).2 hok).symm
  intro hlt;have hlt:i<l.length:=ztd hlt;have hxv:(l.map pv)[i]?=some (pv (l.getD i (0,0))):=by rw[zAT9,get_lt l hlt];rfl
  have htk:(l.map pv).take i=(l.take i).map pv:=by rw[zCH9]
  have hle:i<=l.length:=hi;have hhas:=zrF p (l.take i) (l.getD i (0,0)).2 (by rw[zAU9];omega);have hfa:zgu left l i=((decide (i=0)||decide ((l.getD (i-1) (0,0)).1<(l.getD i (0,0)).1)) && !zeU (l.take i) (l.getD i (0,0)).2 && !decide ((l.getD i (0,0)).2=left)):=rfl;refine zBb ?_;refine zB ?_;refine zcF (Q:=fun y s'=>y=.norm/\s'.tm 47=.bool (!zgu left l i)/\s'.tm 0=uv left/\s'.tm 1=psv p l/\s'.tm 5=iv i/\s'.df=[]/\s'.H=[]) (zbU ?_) ?_
  .generalize zeU (l.take i) (l.getD i (0,0)).2=hp at *
   generalize zgu left l i=fa at *
   by_cases b0:i=0
   .have g0:¬(0:Int)<(i:Int):=zo
    cases hp with
    | true =>
     refine zcw (zr7 h1 h5 g0 hxv hlt hle htk) hhas ?_;refine zQF (zr3 h0 h1 h5) ?_
     grind
    | false =>
     by_cases b2:(l.getD i (0,0)).2=left
     .have g2:((l.getD i (0,0)).2:Int)=left:=zo;refine zcw (zr7 h1 h5 g0 hxv hlt hle htk) hhas ?_;refine zQF (zr6 h0 h1 h5 hxv hlt g2) ?_
      grind
     .have g2:¬((l.getD i (0,0)).2:Int)=left:=zo;refine zcw (zr7 h1 h5 g0 hxv hlt hle htk) hhas ?_;refine zQF (zr6 h0 h1 h5 hxv hlt g2) ?_
      grind
   have g0:(0:Int)<(i:Int):=zo;have hi1:IntKind.i64.wrap ((i:Int)-1)=((i-1:Nat):Int):=zwi;have hil:i-1<l.length:=zo;have hpv:(l.map pv)[i-1]?=some (pv (l.getD (i-1) (0,0))):=by rw[zAT9,get_lt l hil];rfl
   generalize l.getD (i-1) (0,0)=pr at *
   generalize l.getD i (0,0)=x at *
   by_cases b1:pr.1<x.1
   rotate_left
   .have hkey:((x.1:Nat):Int)<=(pr.1:Nat):=zo;refine ze6 (by first|exact trivial|simp only[go_sem,h0,h1,h5,g0,hi1,hil,hpv,hxv,hlt,hle,hkey]) (by simp(disch:=omega)only[go_sem,h1,h5,g0,hi1,hpv,hxv,hkey]<;>rfl) rfl (by simp only[go_sem,hkey]<;>rfl) (by simp only[go_sem]<;>rfl) ?_;refine zQF (zel h0 h1 h5 g0 hi1 hil hpv hxv hlt hle hkey) ?_
    grind
   have hkey:¬((x.1:Nat):Int)<=(pr.1:Nat):=zo
   cases hp with
   | true =>
    refine zcw (zel h1 h5 g0 hi1 hil hpv hxv hlt hle htk hkey) hhas ?_;refine zQF (zr3 h0 h1 h5) ?_;exact⟨by rw[hfa];simp,h0,h1,h5⟩
   | false =>
    by_cases b2:x.2=left
    .have g2:(x.2:Int)=left:=zo;refine zcw (zel h1 h5 g0 hi1 hil hpv hxv hlt hle htk hkey) hhas ?_;refine zQF (zr6 h0 h1 h5 hxv hlt g2) ?_;exact⟨by rw[hfa];simp[b2],h0,h1,h5⟩
    .have g2:¬(x.2:Int)=left:=zo;refine zcw (zel h1 h5 g0 hi1 hil hpv hxv hlt hle htk hkey) hhas ?_;refine zQF (zr6 h0 h1 h5 hxv hlt g2) ?_;exact⟨by rw[hfa];simp[b1,b2],h0,h1,h5⟩
  clear h0 h1 h5;rintro y ⟨tm,df,H⟩ ⟨rfl,h47,h0,h1,h5,rfl,rfl⟩;dsimp only at *
  by_cases hfi:zgu left l i=true
  rotate_left
  .have hfi:zgu left l i=false:=by simpa using hfi
   refine zgP h47 ?_ ?_
   .intro _;refine zO ?_;exact zbo.bool (bad i hlt hfi).symm
   .rw[hfi];intro h;cases h
  refine zgP h47 ?_ ?_
  .rw[hfi];intro h;cases h
  intro _;refine zbX ?_;refine zJF h5 ?_;refine⟨_,?m,i+1,rfl,hlt,fun j hj=>?_,zu h0,zu h1,zu h5,zt,zt⟩
  case m=>omega
  rcases zCY9 j i with h|h
  .exact hok j h
  .rw[show j=i by omega];exact hfi
theorem znZ(hw:w.length<1000000):FR 231 [uv left,wv p w] (iv (zcs left w:Nat)):=by
 refine zfn (eG T231 func231) (.int _ _) ?_;have hR:=znC p left w zo;have hRd:=ziN p left w hw;have hRaw:=zrL p w zo;have e0:IntKind.i64.wrap ((w.length:Int).tdiv 2)=((w.length/2:Nat):Int):=by rw[IntWalk.i64_quo _ _ zo];omega
 refine zMG hR ?_
 by_cases hr:zcb left w.length=true
 rotate_left
 .have hr:zcb left w.length=false:=by simpa using hr
  rw[hr];refine zU ?_;have:zcs left w=2:=by unfold zcs;rw[hr];rfl
  rw[this];exact Frz.int _ _
 rw[hr];refine zcf ?_;refine zSk ?_;refine zM hRd ?_;have hsr:zcr left w=zbQ left w:=by unfold zcr;rw[if_pos hr]
 have hrl:=zff left w;have hset:zdt left w=(ziU left (zbQ left w)&&decide ((zbQ left w).length=zb7 w)&&decide ((zbQ left w).length<w.length/2)&&zgh (w.drop (2*(zbQ left w).length))):=by unfold zdt ziU;rw[hsr]
 have hck:zcs left w=if zdt left w=true then 0 else 190:=by unfold zcs;rw[if_pos hr]
 rw[hsr]at hrl;generalize zbQ left w=L at *
 have hF:=zwZ 0 left L zo;have bad:zdt left w=false->zbo [] 0 (.ret (iv 190)) (.ret (iv (zcs left w:Nat))):=fun h=>by rw[hck,h];exact Frz.int _ _
 refine zI ?_;refine zca hF ?_
 by_cases hf:ziU left L=true
 rotate_left
 .have hf:ziU left L=false:=by simpa using hf
  rw[hf];refine zN ?_;refine zU ?_;exact bad (by grind)
 rw[hf];refine zfx ?_;refine zca hRaw ?_
 by_cases hq:L.length=zb7 w
 rotate_left
 .have g1:¬(L.length:Int)=(zb7 w:Nat):=zo;refine zNF g1 ?_;refine zU ?_;exact bad (by grind)
 have g1:(L.length:Int)=(zb7 w:Nat):=zo
 by_cases hlt:L.length<w.length/2
 rotate_left
 .have g2:((w.length/2:Nat):Int)<=(L.length:Nat):=zo;have g2':((w.length/2:Nat):Int)<=(zb7 w:Nat):=zo;refine zNF (zr4 g1 g2 g2' e0) ?_;refine zU ?_;exact bad (by grind)
 have g2:¬((w.length/2:Nat):Int)<=(L.length:Nat):=zo;have g2':¬((w.length/2:Nat):Int)<=(zb7 w:Nat):=zo;refine zNF (zr4 g1 g2 g2' e0) ?_;refine zcf ?_;refine zSk ?_;refine zG ?_;have hset2:zdt left w=zgh (w.drop (2*L.length)):=by rw[hset,hf];simp[hq];omega
 clear hset g1 g2 g2';refine zay (zbE (fun m s=>∃i:Nat,m=w.length-i/\L.length<=i/\i<=w.length/2/\zdt left w=zgh (w.drop (2*i))/\s.tm 1=wv p w/\s.tm 7=iv i/\s.df=[]/\s.H=[]) (n:=w.length-L.length) ?_ ?_)
 .exact⟨L.length,rfl,zAC9 _,by omega,hset2,zt,by simp[upd];try omega,rfl,rfl⟩
 .rintro m ⟨tm,df,H⟩ ⟨i,rfl,hli,hi,hz,h1,h7,rfl,rfl⟩;dsimp only at h1 h7;refine zLh (zr3 h1 h7 e0) ?_ ?_
  .intro hlt;have hlt:i<w.length/2:=ztd hlt;have w1:IntKind.i64.wrap (2*(i:Int))=((2*i:Nat):Int):=zwi;have w2:IntKind.i64.wrap (((2*i:Nat):Int)+1)=((2*i+1:Nat):Int):=zwi;have c1:2*i+1<w.length:=zo;have z1:=zdZ c1;have hst:=zpX w i c1;have hx:w[2*i+1]=w.getD (2*i+1) 0:=by rw[zAQ9,zAA9 c1];rfl
   rw[hx]at hst;generalize w.getD (2*i+1) 0=x at *
   refine zBb ?_
   by_cases hx0:x=0
   .have gx:(x:Int)=0:=zo;refine zB ?_;refine zbO (zr7 h1 h7 w1 w2 c1 z1 gx) ?_;refine zH ?_;refine zJF h7 ?_;refine⟨_,?m,i+1,rfl,by omega,by omega,by grind,zu h1,zu h7,zt,zt⟩;omega
   .have gx:¬(x:Int)=0:=zo;refine zB ?_;refine zbO (zr7 h1 h7 w1 w2 c1 z1 gx) ?_;refine zU ?_;exact bad (by grind)
  .intro hlt;have hlt:¬i<w.length/2:=zfd hlt;refine zO ?_;rw[hck,hz,zqI w i (by omega)];exact Frz.int _ _
def zdS(l:LK)(key:Nat):Nat:=(l.takeWhile fun x=>decide (x.1<key)).length
def sIs(l:LK)(key:Nat):Bool:=match l[zdS l key]? with
 | some x=>decide (x.1=key)
 | none=>false
theorem ztk(l:LK)(key:Nat):zdS l key<=l.length:=by
 unfold zdS;exact(List.takeWhile_sublist _).length_le
theorem zxm(p key:Nat)(l:LK)(hl:l.length<1000000):FR 218 [psv p l,uv key] (.tuple [iv (zdS l key:Nat),.bool (sIs l key)]):=by
 refine zfn (eG T218 func218) (Lb.two (.int _ _) (.bool _)) ?_;refine zG ?_;refine zay (zbE (fun m s=>∃i:Nat,m=l.length-i/\i<=l.length/\zdS l key=i+((l.drop i).takeWhile fun x=>decide (x.1<key)).length/\s.tm 0=psv p l/\s.tm 1=uv key/\s.tm 6=iv i/\s.df=[]/\s.H=[]) (n:=l.length) ?_ ?_)
 .exact⟨0,rfl,zAG9 _,by simp[zdS],zt,zt,zt,rfl,rfl⟩
 .rintro m ⟨tm,df,H⟩ ⟨i,rfl,hi,hc,h0,h1,h6,rfl,rfl⟩;dsimp only at h0 h1 h6
  by_cases hlt:i<l.length
  .have g1:(i:Int)<(l.length:Nat):=zo;obtain⟨q,hq⟩:=zex (l:=l) hlt;have hqv:(l.map pv)[i]?=some (pv q):=zmg hq;have hdr:l.drop i=q::l.drop (i+1):=zdc hq;rw[hdr,List.takeWhile_cons]at hc
   by_cases hk:q.1<key
   .have gk:(q.1:Int)<key:=zo;rw[if_pos (decide_eq_true hk)]at hc;refine zLh (zr7 h0 h1 h6 g1 hqv hlt gk) ?_ ?_
    .intro _;refine zay ?_;refine zJF h6 ?_;refine⟨_,?m,i+1,rfl,hlt,by grind,zu h0,zu h1,zu h6,zt,zt⟩;omega
    .intro h;cases h
   .have gk:¬(q.1:Int)<key:=zo;rw[if_neg (by grind)]at hc;have hf:zdS l key=i:=by simpa using hc
    refine zLh (zr7 h0 h1 h6 g1 hqv hlt gk) ?_ ?_
    .intro h;cases h
    .intro _;have hsi:sIs l key=decide (q.1=key):=by unfold sIs;rw[hf,hq]
     rw[hf,hsi];refine zBd ?_
     by_cases he:q.1=key
     .have ge:(q.1:Int)=key:=zo;refine zQF (zr7 h0 h1 h6 g1 hqv hlt ge) ?_;refine zbK (zfr ?_);rw[decide_eq_true he];exact zLF
     .have ge:¬(q.1:Int)=key:=zo;refine zQF (zr7 h0 h1 h6 g1 hqv hlt ge) ?_;refine zbK (zfr ?_);rw[decide_eq_false he];exact zLF
  .obtain rfl:i=l.length:=zo;have g1:¬(l.length:Int)<(l.length:Nat):=zo;rw[zBH9]at hc;have hf:zdS l key=l.length:=by simpa using hc
   have hsi:sIs l key=false:=by unfold sIs;rw[hf,zCF9 (zAC9 _)]
   rw[hf,hsi];refine zLh (zr4 h0 h1 h6 g1) ?_ ?_
   .intro h;cases h
   .intro _;refine zBd ?_;refine zQF (zr4 h0 h1 h6 g1) ?_;refine zbK (zfr ?_);exact zLF


def zcn(left:Nat)(w:LN)(x:Pr):Nat :=
 if(zcb left w.length && !decide (x.2=0) && !decide (x.2=left))=true then(if(decide (zcs left w=0)&&zeU (zbQ left w) x.2)=true then 2 else zcs left w)else 2
variable {l:LK}{left:Nat}(lv p:Nat)(w:LN)(a x:Nat)(n:zZ)
theorem zrO(left:Nat)(w:LN)(x:Pr)(hw:w.length<1000000):FR 216 [uv left,wv p w,pv x] (iv (zcn left w x:Nat)):=by
 refine zfn (eG T216 func216) (.int _ _) ?_;have hR:=znC p left w zo;have hRd:=ziN p left w hw;have hC:=znZ p left w hw;have bad:(zcb left w.length && !decide (x.2=0) && !decide (x.2=left))=false->zcn left w x=2:=fun h=>by unfold zcn;grind
 refine zGI ?_;refine zca hR ?_
 by_cases hr:zcb left w.length=true
 rotate_left
 .have hr:zcb left w.length=false:=by simpa using hr
  rw[hr];refine zN ?_;refine zU ?_;rw[bad (by grind)];exact Frz.int _ _
 rw[hr]
 by_cases h0:x.2=0
 .have g0:(x.2:Int)=0:=zo;refine zNF g0 ?_;refine zU ?_;rw[bad (by grind)];exact Frz.int _ _
 have g0:¬(x.2:Int)=0:=zo
 by_cases h1:x.2=left
 .have g1:(x.2:Int)=left:=zo;have g0':¬(left:Int)=0:=zo;refine zNF (zr3 g0 g0' g1) ?_;refine zU ?_;rw[bad (by grind)];exact Frz.int _ _
 have g1:¬(x.2:Int)=left:=zo;refine zNF (zr2 g0 g1) ?_;refine zcf ?_;refine zSk ?_;refine zM hC ?_;refine zM hRd ?_;have hp:zcn left w x=if(decide (zcs left w=0)&&zeU (zbQ left w) x.2)=true then 2 else zcs left w:=by
  unfold zcn;rw[if_pos (by grind)]
 have hrl:(zbQ left w).length<=28:=by have:=zff left w;unfold zcr at this;rwa [if_pos hr]at this
 have hH:=zrF 0 (zbQ left w) x.2 zo;generalize zbQ left w=L at *
 generalize zcs left w=c at *
 by_cases hc:c=0
 rotate_left
 .have g2:¬(c:Int)=0:=zo;refine zB ?_;refine zbO g2 ?_;refine zcf ?_;refine zSk ?_;refine zO ?_;rw[hp,if_neg (by simp[hc])];exact Frz.int _ _
 have g2:(c:Int)=0:=zo;refine zIF g2 ?_;refine zCN hH ?_
 by_cases hh:zeU L x.2=true
 .refine zfc ?_ ?_
  .intro _;refine zO ?_;rw[hp,if_pos (by grind)];exact Frz.int _ _
  .rw[hh];intro h;cases h
 .refine zfc ?_ ?_
  .intro h;exact absurd h hh
  intro _;refine zSk ?_;refine zO ?_;rw[hp,if_neg (by simp[hh]),hc];exact Frz.int _ _
theorem zfT:∀v∈(l.map zbP).flatMap PV.cells,Id0 v:=fun v hv=>by
 obtain⟨x,hx,hv⟩:=zBB9.1 hv;obtain⟨n,_,rfl⟩:=zAJ9.1 hx;simp[PV.cells]at hv;rcases hv with rfl|rfl<;>exact .int _ _
def upL(l:LK)(i:Nat):Nat->LK
 | 0=>[]
 | m+1=>if i<=m then(2*m+3,(l.getD m (0,0)).2)::(2*m+2,(l.getD m (0,0)).1)::upL l i m else[]
def zEY(left:Nat)(w:LN)(l:LK)(i:Nat)(x:Pr):LK:=(2*l.length+3,0)::(upL l i l.length++[(2*i+1,zdL left w i),(2*i,x.1),(2*i+1,x.2)])
def zFi(left:Nat)(w:LN)(x:Pr):LK×Nat :=
 if zcn left w x=0 then(if sIs (zbQ left w) x.1=true then([],191)else if w.length/2<=(zbQ left w).length+1 then([],3)else(zEY left w (zbQ left w) (zdS (zbQ left w) x.1) x,0))else([],zcn left w x)
theorem zkD{w:LN}{x:Pr}(h:zcn left w x=0):zcb left w.length=true/\zcs left w=0:=by
 unfold zcn at h
 grind
theorem zpd{w:LN}(h:zcb left w.length=true):(zbQ left w).length<=28:=by
 have:=zff left w;unfold zcr at this;grind
theorem zEG{key:Nat}(h:sIs l key=true):zdS l key<l.length:=by
 unfold sIs at h
 grind


theorem znX:FR 181 [uv x] (.bool (zdH x)):=by
 refine zfn (eG T181 func181) (.bool _) ?_
 by_cases h:1<=x
 .have g:(1:Int)<=x:=zo
  by_cases h2:x<=2047
  .have g2:(x:Int)<=2047:=zo;refine zOF (zr2 g g2) ?_;exact zbo.bool (by simp[zdH,h];omega)
  .have g2:¬(x:Int)<=2047:=zo;refine zOF (zr2 g g2) ?_;exact zbo.bool (by simp[zdH,h];omega)
 .have g:¬(1:Int)<=x:=zo;refine zOF g ?_;exact zbo.bool (by simp[zdH,h])
def zjk(lv x:Nat):Bool:=if lv=0 then decide (1<=x)&&decide (x<=1099511627776)else zdH x
theorem znW:FR 122 [iv lv,uv x] (.bool (zjk lv x)):=by
 by_cases h:lv=0
 .subst h;exact zef x
 have g:¬(lv:Int)=0:=zo;have:zjk lv x=zdH x:=by unfold zjk;rw[if_neg h]
 rw[this];refine zfn (eG T122 func122) (.bool _) ?_;refine zTF g ?_;refine zSk ?_;refine zI ?_;refine zca (znX x) ?_;refine zP ?_;exact Frz.bool _
def zgm(w:LN):Bool:=decide (w.length=64)&&decide (7522529147838689024<=w.getD 0 0)&&decide (w.getD 0 0<=7522529147838689024+12)&&decide (w.getD 1 0<=2047)&&decide (w.getD 4 0<=2)&&decide (w.getD 5 0=0)&&decide (w.getD 6 0=0)&&decide (w.getD 7 0=0)
def zhC(lv x:Nat):Bool:=(decide (lv=0)&&decide (x=9223372036854775808))||(decide (0<lv)&&zdH x)
theorem mp0:zdC 0 lv a=(decide (7522529147838689024<=a)&&decide (a<=7522529147838689024+12)):=by rw[zdC]
theorem mp3:zdC 3 lv a=zhC lv a:=by rw[zdC,zhC]
theorem mp1:zdC 1 lv a=decide (a<=2047):=by
 rw[zdC,zFI9,decide_eq_true_eq,decide_eq_true_eq];omega
theorem mp4:zdC 4 lv a=decide (a<=2):=by rw[zdC];all_goals (intro h;cases h)
theorem zu8:headB w=(zgm w&&zhC (ziC (w.getD 0 0)) (w.getD 3 0)):=by
 by_cases hl:w.length=64
 rotate_left
 .unfold headB zgm;grind
 obtain⟨lv,hlv⟩:=zw1 w;rw[ztY w hl lv hlv,<- hlv];have h567:((w.take 8).drop 5)=[w.getD 5 0,w.getD 6 0,w.getD 7 0]:=by
  apply List.ext_getElem
  all_goals grind
 have hr:List.range 5=[0,1,2,3,4]:=rfl;rw[h567,hr];unfold zgm;rw[decide_eq_true hl,zCA9];simp only[zGM9,List.any_nil,List.all_cons,List.all_nil,zGL9,Bool.or_false];rw[mp0,mp1,mp3,mp4];have m2:zdC 2 lv (w.getD 2 0)=true:=rfl
 grind
theorem zkP(hw:zbL w.length):FN ET 191 [wv p w] (zfb w):=by
 refine zfn (eG T191 func191) ?_ ?_
 .unfold zfb;split
  .exact Lb.two (Lb.node _) (.int _ _)
  .exact Lb.two (Lb.node _) (.int _ _)
 have hsp:=zu8 w;refine zG ?_;refine zB ?_;refine zcF (Q:=fun y s'=>y=.norm/\s'.tm 49=.bool (!zgm w)/\s'.tm 0=wv p w/\s'.tm 2=.ptr 0 0 0 0 6/\s'.df=[]/\s'.H=[.row 143 6 0 0 [zgE]]) (zbF ?_) ?_
 .have h0:True:=trivial;have fin:∀(tm:Nat->PV) (b:Bool),b=zgm w->tm 49=.bool (!b)->tm 0=wv p w->tm 2=.ptr 0 0 0 0 6->(FX.norm=FX.norm/\tm 49=.bool (!zgm w)/\tm 0=wv p w/\tm 2=.ptr 0 0 0 0 6/\([]:AK)=[]/\[zc.row 143 6 0 0 [zgE]]=[.row 143 6 0 0 [zgE]]):=fun tm b hb h49 h0 h2=>⟨rfl,by rw[h49,hb],h0,h2,rfl,rfl⟩
  by_cases hl:w.length=64
  rotate_left
  .have g:¬(w.length:Int)=64:=zo;refine zKF g ?_;exact fin _ false (by unfold zgm;rw[decide_eq_false hl];rfl) (by simp[upd]) (by simp[upd,zD]) (by simp[upd])
  have g:(w.length:Int)=64:=zo;have c0:0<w.length:=zo;have c1:1<w.length:=zo;have c4:4<w.length:=zo;have c5:5<w.length:=zo;have c6:6<w.length:=zo;have c7:7<w.length:=zo;have z0:=zdZ c0;have z1:=zdZ c1;have z4:=zdZ c4;have z5:=zdZ c5;have z6:=zdZ c6;have z7:=zdZ c7;have h8:zgm w=(decide (7522529147838689024<=w.getD 0 0)&&decide (w.getD 0 0<=7522529147838689024+12)&&decide (w.getD 1 0<=2047)&&decide (w.getD 4 0<=2)&&decide (w.getD 5 0=0)&&decide (w.getD 6 0=0)&&decide (w.getD 7 0=0)):=by unfold zgm;rw[decide_eq_true hl,zCA9]
  generalize zgm w=hd at *
  generalize w.getD 0 0=a0 at *
  generalize w.getD 1 0=a1 at *
  generalize w.getD 4 0=a4 at *
  generalize w.getD 5 0=a5 at *
  generalize w.getD 6 0=a6 at *
  generalize w.getD 7 0=a7 at *
  by_cases b0:7522529147838689024<=a0
  rotate_left
  .have g0:(a0:Int)<7522529147838689024:=zo;refine zKF (zr5 g hl c0 z0 g0) ?_;exact fin _ false (by rw[h8,decide_eq_false b0];rfl) (by simp[upd]) (by simp[upd,zD]) (by simp[upd])
  have g0:¬(a0:Int)<7522529147838689024:=zo;rw[decide_eq_true b0]at h8
  by_cases b1:a0<=7522529147838689024+12
  rotate_left
  .have g1:(7522529147838689036:Int)<a0:=zo;refine zKF (zr6 g hl c0 z0 g0 g1) ?_;exact fin _ false (by rw[h8,decide_eq_false b1];simp) (by simp[upd]) (by simp[upd,zD]) (by simp[upd])
  have g1:¬(7522529147838689036:Int)<a0:=zo;rw[decide_eq_true b1]at h8
  by_cases b2:a1<=2047
  rotate_left
  .have g2:(2047:Int)<a1:=zo;refine zKF (zr9 g hl c0 z0 g0 g1 c1 z1 g2) ?_;exact fin _ false (by rw[h8,decide_eq_false b2];simp) (by simp[upd]) (by simp[upd,zD]) (by simp[upd])
  have g2:¬(2047:Int)<a1:=zo;rw[decide_eq_true b2]at h8
  by_cases b4:a4<=2
  rotate_left
  .have g4:(2:Int)<a4:=zo;refine zKF (zb0 g hl c0 z0 g0 g1 c1 z1 g2 c4 z4 g4) ?_;exact fin _ false (by rw[h8,decide_eq_false b4];simp) (by simp[upd]) (by simp[upd,zD]) (by simp[upd])
  have g4:¬(2:Int)<a4:=zo;rw[decide_eq_true b4]at h8
  by_cases b5:a5=0
  rotate_left
  .have g5:¬(a5:Int)=0:=zo;refine zKF (zb0 g hl c0 z0 g0 g1 c1 z1 g2 c4 z4 (zr4 g4 c5 z5 g5)) ?_;exact fin _ false (by rw[h8,decide_eq_false b5];simp) (by simp[upd]) (by simp[upd,zD]) (by simp[upd])
  have g5:(a5:Int)=0:=zo;rw[decide_eq_true b5]at h8
  by_cases b6:a6=0
  rotate_left
  .have g6:¬(a6:Int)=0:=zo;refine zKF (zb0 g hl c0 z0 g0 g1 c1 z1 g2 c4 z4 (zr7 g4 c5 z5 g5 c6 z6 g6)) ?_;exact fin _ false (by rw[h8,decide_eq_false b6];simp) (by simp[upd]) (by simp[upd,zD]) (by simp[upd])
  have g6:(a6:Int)=0:=zo;rw[decide_eq_true b6]at h8
  by_cases b7:a7=0
  rotate_left
  .have g7:¬(a7:Int)=0:=zo;refine zKF (zb0 g hl c0 z0 g0 g1 c1 z1 g2 c4 z4 (zfM g4 c5 z5 g5 c6 z6 g6 c7 z7 g7)) ?_;exact fin _ false (by rw[h8,decide_eq_false b7];simp) (by simp[upd]) (by simp[upd,zD]) (by simp[upd])
  have g7:(a7:Int)=0:=zo;rw[decide_eq_true b7]at h8;refine zKF (zb0 g hl c0 z0 g0 g1 c1 z1 g2 c4 z4 (zfM g4 c5 z5 g5 c6 z6 g6 c7 z7 g7)) ?_;exact fin _ true (by rw[h8];rfl) (by simp[upd]) (by simp[upd,zD]) (by simp[upd])
 rintro y ⟨tm,df,H⟩ ⟨rfl,h49,h0,h2,rfl,rfl⟩;dsimp only at h49 h0 h2;have badE:headB w=false->zfb w=.ret (.tuple [zbJ 0 zeY,iv 210]):=fun h=>by unfold zfb;rw[if_neg (by rw[h];decide)]
 by_cases h8:zgm w=true
 rotate_left
 .have h8:zgm w=false:=by simpa using h8
  rw[h8]at h49 hsp;refine zj8 h49 ?_;refine zGF h2 ?_;refine zbK ?_;(try simp only[ze3,zgJ,zgs,zgr,ziD]);refine zc8 (vs:=[zgE,iv 210]) ?_ ?_
  .simp only[T191,zbd,go_sem,h2];rfl
  rw[badE hsp];exact zqo
 rw[h8]at h49;refine zHF h49 ?_;rw[h8,zCA9]at hsp;have h8':=h8;unfold zgm at h8';simp only[zAI9,decide_eq_true_eq]at h8';obtain⟨⟨⟨⟨⟨⟨⟨hl,b0⟩,b1⟩,b2⟩,b4⟩,_⟩,_⟩,_⟩:=h8';obtain⟨lv,hlv⟩:=zw1 w;have hN:=zsw w lv hlv;rw[<- hlv]at hsp;have hlv2:lv=w.getD 0 0-7522529147838689024:=by rw[hlv,zm8]
 have okE:headB w=true->zfb w=.ret (.tuple [zbJ 0 (headN w),iv 0]):=fun h=>by unfold zfb;rw[if_pos h]
 rw[hN]at okE;have c0:0<w.length:=zo;have c1:1<w.length:=zo;have c2:2<w.length:=zo;have c3:3<w.length:=zo;have c4:4<w.length:=zo;have z0:=zdZ c0;have z1:=zdZ c1;have z2:=zdZ c2;have z3:=zdZ c3;have z4:=zdZ c4;have q0:IntKind.i64.wrap (IntKind.u64.wrap ((w.getD 0 0:Int)-7522529147838689024))=(lv:Int):=by
  rw[wrap_u64 zo zo,wrap_i64 zo zo];omega
 have q0a:IntKind.u64.wrap ((w.getD 0 0:Int)-7522529147838689024)=(lv:Int):=by
  rw[wrap_u64 zo zo];omega
 have hl12:lv<=12:=zo;clear hlv hlv2 h8 h49;have hd8:List.drop 8 (List.map uv w)=(w.drop 8).map uv:=by rw[zBZ9]
 have hRd:=ziN p (w.getD 3 0) (w.drop 8) (by rw[zBP9];omega);have hdl:(w.drop 8).length=56:=by rw[zBP9];omega
 have hle8:8<=w.length:=zo;generalize w.getD 0 0=a0 at *
 generalize w.getD 1 0=a1 at *
 generalize w.getD 2 0=a2 at *
 generalize w.getD 3 0=a3 at *
 generalize w.getD 4 0=a4 at *
 refine zBd ?_;refine zb3 (zb0 h0 h2 c0 c1 c2 c3 c4 z0 z1 z2 z3 (zr3 z4 q0 q0a)) ?_;refine zQF h0 ?_;have stop:∀(tm:Nat->PV) (H:LP) (o:zc) (k:FSt->Prop),headB w=false->tm 2=.ptr 0 0 0 0 6->H=[zc.row 143 6 0 0 [zgE],o]->W ET ET.caught none (.seq (.region [⟨some 90,.build [.int .i64 0,.int .i64 0,.int .u64 0,.int .u64 0,.int .i64 0,.nilsl] [],[],none⟩,⟨none,.store 6,[.tmp 2,.tmp 90],none⟩,⟨some 3,.mov,[.const (.int .i64 210)],none⟩]) .ret) ⟨tm,[],H⟩ (ze3 k (zej ET T191 fun e' H=>zbo H 0 e' (zfb w))):=fun tm H o k hb h2 hH=>by
  subst hH;refine zGF h2 ?_;refine zbK ?_;(try simp only[ze3,zgJ,zgs,zgr,ziD]);refine zc8 (vs:=[zgE,iv 210]) ?_ ?_
  .simp only[T191,zbd,go_sem,h2];rfl
  rw[badE hb];exact zqo
 have hgo:zhC lv a3=true->a3≠0:=fun h=>by
  unfold zhC at h;simp only[zFH9,zAI9,decide_eq_true_eq,zfg]at h;omega
 have hrd:a3≠0->zcr a3 (w.drop 8)=zbQ a3 (w.drop 8):=fun h=>by
  unfold zcr;rw[if_pos (by unfold zcb;rw[hdl];simp[h])]
 by_cases hz:lv=0
 .have g0:(lv:Int)=0:=zo;have g0':¬(0:Int)<(lv:Int):=zo
  by_cases he:a3=9223372036854775808
  rotate_left
  .have ge:¬(a3:Int)=9223372036854775808:=zo;refine zB ?_;refine zbO (zr3 g0 g0' ge) ?_;refine zct ?_;refine stop _ _ ?so1 _ ?sa1 ?sb1 ?sc1
   case sc1=>rfl
   case sa1=>rw[hsp];simp[zhC,hz,he]
   case sb1=>simp[upd,h2]
  have ge:(a3:Int)=9223372036854775808:=zo;have hh:zhC lv a3=true:=by unfold zhC;simp[hz,he]
  rw[hh]at hsp;rw[okE hsp,hrd (hgo hh)];refine zB ?_;refine zbO (zr3 g0 g0' ge) ?_;refine zcf ?_;refine zSk ?_;refine zBd ?_;refine zcw (zr4 h0 h2 hd8 hle8) hRd ?_;refine zb3 (zr2 h0 h2) ?_;refine zhM h0 ?_;refine zb9 ?_;simp only[go_sem];refine zGF h2 ?_;refine zbK ?_;(try simp only[ze3,zgJ,zgs,zgr,ziD]);refine zc8 (vs:=?_) ?_ ?_;rotate_left
  .simp only[T191,zbd,go_sem,h2];rfl
  exact Frz.tL ⟨Frz.aggL ⟨(by subst hz;exact .int _ _),.int _ _,.int _ _,.int _ _,.int _ _,.list _ _ _,trivial⟩,.int _ _,trivial⟩
 .have g0:¬(lv:Int)=0:=zo;have g0':(0:Int)<(lv:Int):=zo;refine zBr ?_;refine zbV (zr2 g0 g0') ?_;refine zca (znX a3) ?_
  by_cases hb:zdH a3=true
  rotate_left
  .have hb:zdH a3=false:=by simpa using hb
   rw[hb];refine zN ?_;refine zct ?_;refine stop _ _ ?so2 _ ?sa2 ?sb2 ?sc2
   case sc2=>rfl
   case sa2=>rw[hsp];simp[zhC,hz,hb]
   case sb2=>simp[upd,h2]
  have hh:zhC lv a3=true:=by unfold zhC;rw[hb];simp;omega
  rw[hh]at hsp;rw[okE hsp,hrd (hgo hh),hb];refine zN ?_;refine zcf ?_;refine zSk ?_;refine zBd ?_;refine zcw (zr4 h0 h2 hd8 hle8) hRd ?_;refine zb3 (zr2 h0 h2) ?_;refine zhM h0 ?_;refine zb9 ?_;simp only[go_sem];refine zGF h2 ?_;refine zbK ?_;(try simp only[ze3,zgJ,zgs,zgr,ziD]);refine zc8 (vs:=?_) ?_ ?_;rotate_left
  .simp only[T191,zbd,go_sem,h2];rfl
  exact zLF


theorem zqW(q:Pr):zcD n q=(zjk n.level q.2 && !decide (q.1<n.low) && !(decide (0<n.level)&&decide (q.1=n.low))):=by
 unfold zcD zjk
 grind
theorem zuc{w:LN}(h:headB w=false):zfb w=.ret (.tuple [zbJ 0 zeY,iv 210]):=by unfold zfb;grind
theorem zwK(hO:FR 191 [wv p w] (.tuple [zbJ 0 zeY,iv 210])):FR 173 [wv p w] (iv (210:Nat)):=by
 refine zfn (eG T173 func173) (.int _ _) ?_;refine zMG hO ?_;refine zS ?_;refine zO ?_;exact Frz.int _ _
def zkF(n:zZ)(sc:Nat):Nat:=if(decide (sc=0) && !(n.pairs.any fun q=>!zcD n q))=true then 0 else 190
theorem zxp(sc:Nat)(hwl:w.length=64)(hpl:n.pairs.length<=28)(hO:FR 191 [wv p w] (.tuple [zbJ 0 n,iv 0]))(hC:FR 231 [uv n.left,wv p (w.drop 8)] (iv (sc:Nat))):FR 173 [wv p w] (iv (zkF n sc:Nat)):=by
 refine zfn (eG T173 func173) (.int _ _) ?_;refine zGI ?_;have hd8:List.drop 8 (List.map uv w)=(w.drop 8).map uv:=by rw[zBZ9]
 have hle8:8<=w.length:=zo;refine zCN hO ?_;refine zT ?_;refine zSk ?_;obtain⟨ok,hpk⟩:∃ok,ok=(decide (sc=0) && !(n.pairs.any fun q=>!zcD n q)):=⟨_,rfl⟩
 have hck:zkF n sc=if ok=true then 0 else 190:=by unfold zkF;rw[hpk]
 have bad:∀H,ok=false->zbo H 0 (.ret (iv 190)) (.ret (iv (zkF n sc:Nat))):=fun H h=>by rw[hck,h];exact Frz.int _ _
 refine zBd ?_
 by_cases hs:sc=0
 rotate_left
 .have g:¬(sc:Int)=0:=zo;refine zcw (zr2 hd8 hle8) hC ?_;refine zQF g ?_;refine zfc ?_ ?_;rotate_left
  .intro h;simp at h
  intro _;refine zO ?_;exact bad _ (by grind)
 have g:(sc:Int)=0:=zo;rw[decide_eq_true hs,zCA9]at hpk;refine zcw (zr2 hd8 hle8) hC ?_;refine zQF g ?_;refine zfc ?_ ?_
 .intro h;simp at h
 intro _;refine zSk ?_;refine zG ?_;refine zay (zbE (fun m s=>∃(i:Nat) (G:LP),m=n.pairs.length-i/\i<=n.pairs.length/\ok=!((n.pairs.drop i).any fun q=>!zcD n q)/\s.tm 3=.ptr 0 0 0 0 6/\s.tm 5=iv i/\s.df=[]/\s.H=.row 143 6 0 0 [zbJ 0 n]::G) (n:=n.pairs.length) ?_ ?_)
 .exact⟨0,_,rfl,zAG9 _,hpk,zt,zt,rfl,rfl⟩
 .rintro m ⟨tm,df,H⟩ ⟨i,G,rfl,hi,hp,h3,h5,rfl,rfl⟩;dsimp only at h3 h5;refine zLh (zr2 h3 h5) ?_ ?_;rotate_left
  .intro hlt;have hlt:¬i<n.pairs.length:=zfd hlt;obtain rfl:i=n.pairs.length:=zo;refine zO ?_;rw[zBH9]at hp;rw[hck,hp];exact Frz.int _ _
  intro hlt;have hlt:i<n.pairs.length:=ztd hlt;obtain⟨q,hq⟩:=zex (l:=n.pairs) hlt;have hqv:(n.pairs.map pv)[i]?=some (pv q):=zmg hq;have hdr:n.pairs.drop i=q::n.pairs.drop (i+1):=zdc hq;rw[hdr,zGM9]at hp;have hma:=zqW n q;have hRt:=znW n.level q.2;refine zBb ?_;refine zBr ?_;refine zNF (zr4 h3 h5 hqv hlt) ?_;refine zB ?_;refine zcF (Q:=fun y s'=>y=.norm/\s'.tm 57=.bool (!zcD n q)/\s'.tm 3=.ptr 0 0 0 0 6/\s'.tm 5=iv i/\s'.df=[]/\∃G,s'.H=.row 143 6 0 0 [zbJ 0 n]::G) (zbF ?_) ?_
  .generalize zcD n q=mq at *
   refine zbV (zr2 h3 h5) ?_;refine zca hRt ?_
   cases hr:zjk n.level q.2 with
   | false =>
    refine zKF (zr2 h3 h5) ?_;exact⟨rfl,by rw[hma,hr];simp[upd],zu h3,zu h5,rfl,_,rfl⟩
   | true =>
    by_cases b1:q.1<n.low
    .have g1:(q.1:Int)<n.low:=zo;refine zKF (zr3 h3 h5 g1) ?_;exact⟨rfl,by rw[hma,decide_eq_true b1];simp[upd],zu h3,zu h5,rfl,_,rfl⟩
    have g1:¬(q.1:Int)<n.low:=zo
    by_cases b2:0<n.level
    rotate_left
    .have g2:¬(0:Int)<n.level:=zo;refine zKF (zr4 h3 h5 g1 g2) ?_;exact⟨rfl,by rw[hma,hr,decide_eq_false b1,decide_eq_false b2];simp[upd],zu h3,zu h5,rfl,_,rfl⟩
    have g2:(0:Int)<n.level:=zo
    by_cases b3:q.1=n.low
    .have g3:(q.1:Int)=n.low:=zo;have g1':¬(n.low:Int)<n.low:=zo;refine zKF (zr6 h3 h5 g1 g1' g2 g3) ?_;exact⟨rfl,by rw[hma,hr,decide_eq_false b1,decide_eq_true b2,decide_eq_true b3];simp[upd],zu h3,zu h5,rfl,_,rfl⟩
    .have g3:¬(q.1:Int)=n.low:=zo;refine zKF (zr5 h3 h5 g1 g2 g3) ?_;exact⟨rfl,by rw[hma,hr,decide_eq_false b1,decide_eq_true b2,decide_eq_false b3];simp[upd],zu h3,zu h5,rfl,_,rfl⟩
  clear h3 h5;rintro y ⟨tm,df,H⟩ ⟨rfl,h57,h3,h5,rfl,G,rfl⟩;dsimp only at h57 h3 h5
  cases hmq:zcD n q with
  | false =>
   rw[hmq]at h57 hp;refine zj8 h57 ?_;refine zO ?_;exact bad _ (by grind)
  | true =>
   rw[hmq]at h57 hp;refine zp4 h57 ?_;refine zbX ?_;refine zJF h5 ?_;refine⟨_,?m1,i+1,_,rfl,hlt,hp,zu h3,zu h5,rfl,rfl⟩;omega
theorem zlu(hw:zbL w.length):FR 173 [wv p w] (iv (zb4 w:Nat)):=by
 have hO:=zkP p w hw
 by_cases hh:headB w=true
 rotate_left
 .have hh:headB w=false:=by simpa using hh
  rw[zuc hh]at hO;have:=zwK p w hO;have e:zb4 w=210:=by unfold zb4;rw[if_neg (by omega)]
  grind
 rw[zhI _ hh]at hO;have hwl:w.length=64:=by unfold headB at hh;simp only[zAI9,decide_eq_true_eq]at hh;exact hh.1.1
 have hC:=znZ p (headN w).left (w.drop 8) (by grind);have:=zxp p w (headN w) _ hwl (ziQ w) hO hC;have e:zb4 w=zkF (headN w) (zcs (headN w).left (w.drop 8)):=by unfold zb4;rw[if_pos hh];unfold zgR zkF;rfl
 grind
def zeI(w:LN)(x:Pr):Nat:=if zb4 w=0 then(if zcD (headN w) x=true then 0 else 2)else zb4 w
variable (p key:Nat)(w:LN)(l:LK)(x:Pr)(c:Nat)(n:zZ)
theorem zuH(hc:¬c=0)(hC:FR 173 [wv p w] (iv (c:Nat))):FR 153 [wv p w,pv x] (iv (c:Nat)):=by
 refine zfn (eG T153 func153) (.int _ _) ?_;refine zMG hC ?_;have g:¬(c:Int)=0:=zo;refine zSF g ?_;refine zO ?_;exact Frz.int _ _
theorem zuw(hC:FR 173 [wv p w] (iv (0:Nat)))(hO:FR 191 [wv p w] (.tuple [zbJ 0 n,iv 0])):FR 153 [wv p w,pv x] (iv ((if zcD n x=true then 0 else 2:Nat))):=by
 refine zfn (eG T153 func153) (.int _ _) ?_;have hma:=zqW n x;have hRt:=znW n.level x.2;obtain⟨co,hco⟩:∃co:Nat,co=if zcD n x=true then 0 else 2:=⟨_,rfl⟩
 rw[<- hco];refine zMG hC ?_;refine zT ?_;refine zSk ?_;refine zM hO ?_;refine zB ?_;refine zcF (Q:=fun y s'=>y=.norm/\s'.tm 42=.bool (!zcD n x)/\s'.df=[]) (zbF ?_) ?_
 .generalize zcD n x=mq at *
  refine zfx ?_;refine zca hRt ?_
  cases hr:zjk n.level x.2 with
  | false =>
   refine zK ?_;exact⟨rfl,by rw[hma,hr];simp[upd],rfl⟩
  | true =>
   by_cases b1:x.1<n.low
   .have g1:(x.1:Int)<n.low:=zo;refine zKF g1 ?_;exact⟨rfl,by rw[hma,decide_eq_true b1];simp[upd],rfl⟩
   have g1:¬(x.1:Int)<n.low:=zo
   by_cases b2:0<n.level
   rotate_left
   .have g2:¬(0:Int)<n.level:=zo;refine zKF (zr2 g1 g2) ?_;exact⟨rfl,by rw[hma,hr,decide_eq_false b1,decide_eq_false b2];simp[upd],rfl⟩
   have g2:(0:Int)<n.level:=zo
   by_cases b3:x.1=n.low
   .have g3:(x.1:Int)=n.low:=zo;have g1':¬(n.low:Int)<n.low:=zo;refine zKF (zr4 g1 g1' g2 g3) ?_;exact⟨rfl,by rw[hma,hr,decide_eq_false b1,decide_eq_true b2,decide_eq_true b3];simp[upd],rfl⟩
   .have g3:¬(x.1:Int)=n.low:=zo;refine zKF (zr3 g1 g2 g3) ?_;exact⟨rfl,by rw[hma,hr,decide_eq_false b1,decide_eq_true b2,decide_eq_false b3];simp[upd],rfl⟩
 rintro y ⟨tm,df,H⟩ ⟨rfl,h42,rfl⟩;dsimp only at h42
 cases hmq:zcD n x with
 | false =>
  rw[hmq]at h42 hco;refine zj8 h42 ?_;refine zO ?_;rw[hco];exact Frz.int _ _
 | true =>
  rw[hmq]at h42 hco;refine zHF h42 ?_;refine zO ?_;rw[hco];exact Frz.int _ _
theorem zuo(hw:zbL w.length):FR 153 [wv p w,pv x] (iv (zeI w x:Nat)):=by
 have hC:=zlu p w hw;have hO:=zkP p w hw;unfold zeI
 by_cases hc:zb4 w=0
 .rw[if_pos hc];rw[zhI _ (zii hc)]at hO;rw[hc]at hC;exact zuw p w x _ hC hO
 .rw[if_neg hc];exact zuH p w x _ hc hC
def zFm(w:LN)(v:Nat):LK:=if w.getD 4 0=v then[]else[(4,v)]
def zdK(l:LK):LK:=l.map fun x=>(x.1+8,x.2)
theorem zwV(hl:l.length<1000000)(hat:∀x∈l,x.1<1000000):FR 156 [.list p 2 (l.map zbP)] (.list 0 2 ((zdK l).map zbP)):=by
 refine zfn (eG T156 func156) (zh2 _) ?_;refine zG ?_;refine zc2 120 2 (i:=3) rfl ?_;simp only[lzy,zAP9,zAV9];refine zay (zbE (fun m s=>∃(i:Nat) (V:LQ) (G:LP),m=l.length-i/\i<=l.length/\V=(zdK (l.take i)).map zbP/\s.tm 0=.list p 2 (l.map zbP)/\s.tm 3=.sl 0 V.length 0 V.length (2*V.length) 2/\s.tm 4=iv i/\s.df=[]/\s.H=.row 120 2 V.length 0 V::G) (n:=l.length) ?_ ?_)
 .exact⟨0,[],_,rfl,zAG9 _,rfl,zt,zt,zt,rfl,rfl⟩
 .rintro m ⟨tm,df,H⟩ ⟨i,V,G,rfl,hi,hV,h0,h3,h4,rfl,rfl⟩;dsimp only at h0 h3 h4;have hVl:V.length=i:=by rw[hV];simp[zdK];omega
  refine zLh (zr2 h0 h4) ?_ ?_
  .intro hlt;have hlt:i<l.length:=ztd hlt;obtain⟨q,hq⟩:=zex (l:=l) hlt;have hqv:(l.map zbP)[i]?=some (zbP q):=zmg hq;have hq1:=hat q (zAE9 hq);have w1:IntKind.i64.wrap ((q.1:Int)+8)=((q.1+8:Nat):Int):=zwi;have hb:(V.length+1)*17<=140737488355328:=zo;refine zBb ?_;refine zBd ?_;refine zb3 (zr7 h0 h3 h4 hqv hlt w1 hb) ?_;refine zQF h0 ?_;refine zJF h4 ?_;refine⟨_,?m1,i+1,V++[zbP (q.1+8,q.2)],?G2,rfl,hlt,(by rw[zAZ9,hq,hV];simp[zdK]),zu h0,zt,zu h4,zt,?H⟩
   case m1=>omega
   case H=>(try dsimp only);rw[zAF9];rfl
  .intro hlt;have hlt:¬i<l.length:=zfd hlt;obtain rfl:i=l.length:=zo;refine zOF h3 ?_;rw[zBE9]at hV;rw[<- hV];exact Frz.wh rfl rfl rfl (zAC9 _) (fun v hv=>by rw[hV]at hv;obtain⟨x,_,rfl⟩:=zAJ9.1 hv;rfl) (by rw[hV];exact zfT)


def chg(w:LN)(v:Nat)(no:Nat)(r:LK×Nat):LK×Nat:=if no=0 then(if r.2=0 then(zFm w v++zdK r.1,0)else([],r.2))else([],no)
def zED(w:LN)(x:Pr):LK×Nat:=chg w 1 (zeI w x) (zFi (w.getD 3 0) (w.drop 8) x)
theorem ztn{w:LN}{x:Pr}(h:zeI w x=0):zb4 w=0:=by
 unfold zeI at h
 split at h
 .assumption
 .rename_i h2;exact absurd h h2
theorem zxq{w:LN}(h:zb4 w=0):w.length=64:=by
 have:=zii h;unfold headB at this
 grind
def zeZ(left:Nat)(l:LK)(key:Nat):Nat:=l.foldl (fun a q=>if q.1<=key then q.2 else a) left
def zc9(w:LN)(key:Nat):Nat×Nat:=if zb4 w=0 then(if(headN w).level=0 then(0,2)else(zeZ (headN w).left (headN w).pairs key,0))else(0,zb4 w)
theorem zqV(key:Nat):∀left,zeZ left l key=left\/∃q∈l,zeZ left l key=q.2:=by
 induction l with
 | nil=>exact fun left=>.inl rfl
 | cons a l ih =>
  intro left;have h:=ih (if a.1<=key then a.2 else left);have e:zeZ left (a::l) key=zeZ (if a.1<=key then a.2 else left) l key:=rfl
  grind
theorem ztp{l:LK}{left key:Nat}(h:∀x∈(0,left)::l,x.2<2048):zeZ left l key<2048:=by
 rcases zqV l key left with e|⟨q,hq,e⟩
 .simp_all
 grind
theorem zwT(hc:¬c=0)(hC:FR 173 [wv p w] (iv (c:Nat))):FR 152 [wv p w,uv key] (.tuple [iv 0,iv (c:Nat)]):=by
 refine zfn (eG T152 func152) (Lb.two (.int _ _) (.int _ _)) ?_;refine zMG hC ?_;have g:¬(c:Int)=0:=zo;refine zSF g ?_;refine zO ?_;exact zLF
theorem zwv(hpl:n.pairs.length<=28)(hk:0<n.level->∀x∈(0,n.left)::n.pairs,x.2<2048)(hC:FR 173 [wv p w] (iv (0:Nat)))(hO:FR 191 [wv p w] (.tuple [zbJ 0 n,iv 0])):FN ET 152 [wv p w,uv key] (if n.level=0 then .ret (.tuple [iv 0,iv 2])else .ret (.tuple [iv (zeZ n.left n.pairs key:Nat),iv 0])):=by
 refine zfn (eG T152 func152) ?_ ?_
 .split<;>exact Lb.two (.int _ _) (.int _ _)
 refine zMG hC ?_;refine zT ?_;refine zSk ?_;refine zM hO ?_
 by_cases hz:n.level=0
 .have g:(n.level:Int)=0:=zo;rw[if_pos hz];refine zSF g ?_;refine zO ?_;exact zLF
 have g:¬(n.level:Int)=0:=zo;have hkl:=ztp (key:=key) (hk zo);rw[if_neg hz];refine zTF g ?_;refine zSk ?_;refine zG ?_;refine zay (zbE (fun m s=>∃(i a:Nat),m=n.pairs.length-i/\i<=n.pairs.length/\zeZ n.left n.pairs key=zeZ a (n.pairs.drop i) key/\s.tm 1=uv key/\s.tm 7=.ptr 0 0 0 0 6/\s.tm 9=uv a/\s.tm 10=iv i/\s.df=[]/\s.H=[.row 143 6 0 0 [zbJ 0 n]]) (n:=n.pairs.length) ?_ ?_)
 .exact⟨0,n.left,rfl,zAG9 _,rfl,zt,zt,zt,zt,rfl,rfl⟩
 .rintro m ⟨tm,df,H⟩ ⟨i,a,rfl,hi,hka,h1,h7,h9,h10,rfl,rfl⟩;dsimp only at *
  refine zLh (zr2 h7 h10) ?_ ?_
  .intro hlt;have hlt:i<n.pairs.length:=ztd hlt;obtain⟨q,hq⟩:=zex (l:=n.pairs) hlt;have hqv:(n.pairs.map pv)[i]?=some (pv q):=zmg hq;have hdr:n.pairs.drop i=q::n.pairs.drop (i+1):=zdc hq;rw[hdr]at hka;change _=zeZ (if q.1<=key then q.2 else a) _ key at hka;refine zBb ?_
   by_cases hle:q.1<=key
   .have g1:(q.1:Int)<=key:=zo;rw[if_pos hle]at hka;refine zB ?_;refine zbO (zr6 h1 h7 h10 hqv hlt g1) ?_;refine zct ?_;refine zJF (zr4 h7 h10 hqv hlt) ?_;refine zJF h10 ?_;refine⟨_,?m1,i+1,q.2,rfl,hlt,hka,zu h1,zu h7,zt,zu h10,zt,zt⟩;omega
   .have g1:¬(q.1:Int)<=key:=zo;rw[if_neg hle]at hka;refine zB ?_;refine zbO (zr6 h1 h7 h10 hqv hlt g1) ?_;refine zH ?_;refine zJF h10 ?_;refine⟨_,?m2,i+1,a,rfl,hlt,hka,zu h1,zu h7,zu h9,zu h10,zt,zt⟩;omega
  .intro hlt;have hlt:¬i<n.pairs.length:=zfd hlt;obtain rfl:i=n.pairs.length:=zo;rw[zBH9]at hka;change _=a at hka;rw[hka]at hkl⊢;have w1:IntKind.i64.wrap (a:Int)=(a:Int):=zwi;refine zOF (zr2 h9 w1) ?_;exact zLF
theorem zwc(hw:zbL w.length):FR 152 [wv p w,uv key] (.tuple [iv ((zc9 w key).1:Nat),iv ((zc9 w key).2:Nat)]):=by
 have hC:=zlu p w hw;have hO:=zkP p w hw;unfold zc9
 by_cases hc:zb4 w=0
 .rw[if_pos hc];rw[zhI _ (zii hc)]at hO;rw[hc]at hC;have h:=zwv p key w _ (ziQ w) (fun hl x hx=>by
   rcases zAX9.1 hx with rfl|hx
   .exact zg8 hc hl ((headN w).low,(headN w).left) (zAM9 ..)
   .exact zg8 hc hl x (zAO9 _ hx)) hC hO
  by_cases hz:(headN w).level=0
  .rw[if_pos hz]at h⊢;exact h
  .rw[if_neg hz]at h⊢;exact h
 .rw[if_neg hc];exact zwT p key w _ hc hC


theorem Lb.three{a b c:PV}(ha:Lb a)(hb:Lb b)(hc:Lb c):Lb (.tuple [a,b,c]):=.tuple fun v hv=>by grind
def zFA(n:zZ):zZ:=⟨n.level,n.sib,(n.pairs.getD (n.pairs.length/2) (0,0)).1,(if 0<n.level then(n.pairs.getD (n.pairs.length/2) (0,0)).2 else 9223372036854775808),0,(if 0<n.level then n.pairs.drop (n.pairs.length/2+1)else n.pairs.drop (n.pairs.length/2))⟩
def zEh(m:Nat):Nat->LK
 | 0=>[]
 | k+1=>if m<=k then(9+2*k,0)::zEh m k else[]
def zFy(n:zZ)(a:Nat):LK:=(1,a)::zEh (n.pairs.length/2) n.pairs.length


theorem zxk(q:Nat)(w:LN)(x:Pr)(hw:w.length<1000000)(hx:x.1<w.length):FR 161 [wv p w,iv 1,.list q 2 [zbP x]] (.tuple [wv 0 (w.set x.1 x.2),iv 0]):=by
 refine zfn (eG T161 func161) (Lb.two (Lb.uvs _) (.int _ _)) ?_;have hb:w.length*9<=140737488355328:=zo;have hne:¬w.length=0:=zo;have hxv:([zbP x]:LQ)[0]?=some (zbP x):=rfl;have g0:¬((x.1:Nat):Int)<0:=zo;have g1:((x.1:Nat):Int)<(w.length:Nat):=zo;have g2:¬((w.length:Nat):Int)<=(x.1:Nat):=zo;obtain⟨o,ho⟩:∃old,w[x.1]?=some old:=⟨_,zAA9 hx⟩
 have z1:(w.map uv)[x.1]?=some (uv o):=zmg ho;have y1:(w.map uv).set x.1 (.int .u64 (x.2:Int))=(w.set x.1 x.2).map uv:=zDW9.symm;refine zTF (zr2 hb hne) ?_;refine zSk ?_;refine zGF (zr2 hb hne) ?_;refine zay (zbE (fun m s=>∃(i M:Nat) (K:LN),m=1-i/\i<=1/\M<=1/\(i=0->K=w)/\(i=1->K=w.set x.1 x.2)/\s.tm 1=iv 1/\s.tm 2=.list q 2 [zbP x]/\s.tm 8=.sl 0 1 0 w.length (2*w.length) 1/\s.tm 9=iv i/\s.df=[]/\s.H=[.row 29 1 1 M (K.map uv)]) (n:=1) ?_ ?_)
 .exact⟨0,0,w,rfl,zAG9 _,by decide,fun _=>rfl,fun h=>absurd h zy,zt,zt,zt,zt,rfl,rfl⟩
 .rintro m ⟨tm,df,Hx⟩ ⟨i,M,K,rfl,hi,hM,hK0,hK1,h1,h2,h8,h9,rfl,rfl⟩;dsimp only at *
  obtain rfl|rfl:i=0\/i=1:=zo
  .obtain rfl:=hK0 rfl;refine zLh (zr2 h1 h9) ?_ ?_
   .intro _;refine zBb ?_;refine zB ?_;generalize K.map uv=K0 at *
    refine zB ?_;refine zbO (zr7 h2 h8 h9 hxv g0 g1 g2) ?_;refine zcf ?_;refine zSk ?_;refine zbU ?_;refine zb3 (zr8 h2 h8 h9 hxv hx hM z1 y1) ?_;refine zQF h8 ?_;refine zJF h9 ?_;refine⟨_,?m,1,1,K.set x.1 x.2,rfl,zAC9 _,zAC9 _,fun h=>absurd h zy,fun _=>rfl,zu h1,zu h2,zu h8,zu h9,rfl,rfl⟩;omega
   .intro h;cases h
  .obtain rfl:=hK1 rfl;refine zLh (zr2 h1 h9) ?_ ?_
   .intro h;cases h
   intro _;refine zOF h8 ?_;exact Frz.tL ⟨Frz.wM rfl hM rfl (by simp) (by simp) zmm zqz,.int _ _,trivial⟩


section mid
variable {α:Type}
theorem ga0(G l:List α)(a:α):(G++a::l)[G.length]?=some a:=by simp
theorem ga1(G l:List α)(a b:α):(G++a::b::l)[G.length+1]?=some b:=by simp
theorem ga2(G l:List α)(a b c:α):(G++a::b::c::l)[G.length+1+1]?=some c:=by grind
theorem sa0(G l:List α)(a x:α):(G++a::l).set G.length x=G++x::l:=by grind
theorem sa1(G l:List α)(a b x:α):(G++a::b::l).set (G.length+1) x=G++a::x::l:=by simp_all
theorem sa2(G l:List α)(a b c x:α):(G++a::b::c::l).set (G.length+1+1) x=G++a::b::x::l:=by
 rw[List.set_append_right _ _ zo,show G.length+1+1-G.length=2 by omega];rfl
theorem ga3(G l:List α)(a b c d:α):(G++a::b::c::d::l)[G.length+3]?=some d:=by grind
end mid
def zyA:=And.intro (@ga0 zc) (And.intro (@ga1 zc) (And.intro (@ga2 zc) (And.intro (@sa0 zc) (And.intro (@sa1 zc) (@sa2 zc)))))
structure Wk where
 p:Nat
 q:Nat
 W:LN
 L:LK
 fr:PV
 used:Nat
variable (p:Nat)(x:Wk)
def wkv(x:Wk):PV:=.agg [wv x.p x.W,.list x.q 2 (x.L.map zbP),x.fr,iv x.used]
def Wk.one(x:Wk)(c:Pr):Wk:=⟨0,0,x.W.set c.1 c.2,x.L++[c],x.fr,x.used⟩
def Wk.does(x:Wk)(l:LK):Wk:=l.foldl Wk.one x
def zcN(a:Nat)(l:LK):LK:=l.map fun c=>(a+c.1,c.2)
theorem zxS(l:LK)(c:Pr):x.does (l++[c])=(x.does l).one c:=by unfold Wk.does;grind
theorem zpk:∀(l:LK) (x:Wk),(x.does l).W.length=x.W.length/\(x.does l).L.length=x.L.length+l.length/\(x.does l).fr=x.fr/\(x.does l).used=x.used
 | [],x=>⟨rfl,rfl,rfl,rfl⟩
 | c::l,x=>by
  have h:=zpk l (x.one c);have e:x.does (c::l)=(x.one c).does l:=rfl;rw[e];refine⟨h.1.trans (by simp[Wk.one]),h.2.1.trans (by simp[Wk.one];omega),h.2.2.1,h.2.2.2⟩
theorem zv1{x:Wk}(h:Id0 x.fr):Id0 (wkv x):=.agg fun v hv=>by
 simp at hv;rcases hv with rfl|rfl|rfl|rfl
 .exact .list _ _ _
 .exact .list _ _ _
 .exact h
 .exact .int _ _
theorem zyL(hfr:Id0 x.fr)(a r:Nat)(l:LK)(hl:x.L.length+l.length<1000000)(hw:x.W.length<1000000)(hin:∀c∈l,a+c.1<x.W.length):FP ET 105 [wkv x,iv a,.list r 2 (l.map zbP)] (.ret (wkv (x.does (zcN a l)))):=by
 refine zfp (eG T105 func105) ?_;refine zG ?_;refine zay (zbE (fun m s=>∃(i:Nat) (G:LP),m=l.length-i/\i<=l.length/\s.tm 1=iv a/\s.tm 2=.list r 2 (l.map zbP)/\s.tm 3=.ptr 0 0 0 0 4/\s.tm 6=.ptr 1 0 0 0 4/\s.tm 7=iv i/\s.df=[]/\s.H=.row 185 4 0 0 [wkv (x.does (zcN a (l.take i)))]::.row 185 4 0 0 [.agg [.nilsl,.nilsl,.nilsl,iv 0]]::G) (n:=l.length) ?_ ?_)
 .exact⟨0,[],rfl,zAG9 _,zt,zt,zt,zt,zt,rfl,rfl⟩
 .rintro m ⟨tm,df,Hx⟩ ⟨i,G,rfl,hi,h1,h2,h3,h6,h7,rfl,rfl⟩;dsimp only at *
  refine zLh (zr2 h2 h7) ?_ ?_;rotate_left
  .intro hlt;have hlt:¬i<l.length:=zfd hlt;obtain rfl:i=l.length:=zo;rw[zBE9];unfold wkv;refine zGF (zr2 h3 h6) ?_;refine zbK ?_;refine zc8 (vs:=[wkv (x.does (zcN a l))]) ?_ ?_
   .simp[T105,xT,zbd,okv,upd,h6,zax,zbh,zbi,PV.cells,wkv]
   .exact(zv1 (by rw[(zpk _ x).2.2.1];exact hfr)).frz
  intro hlt;have hlt:i<l.length:=ztd hlt;obtain⟨c,hc⟩:=zex (l:=l) hlt;have hcv:(l.map zbP)[i]?=some (zbP c):=zmg hc;have hcin:=hin c (zAE9 hc);have htk:x.does (zcN a (l.take (i+1)))=(x.does (zcN a (l.take i))).one (a+c.1,c.2):=by
   rw[<- zxS,zAZ9,hc];simp[zcN]
  obtain⟨d1,d2,d3,d4⟩:=zpk (zcN a (l.take i)) x;have hol:(zcN a (l.take i)).length<=l.length:=by simp[zcN];omega
  generalize x.does (zcN a (l.take i))=y at *
  have w1:IntKind.i64.wrap ((a:Int)+((c.1:Nat):Int))=((a+c.1:Nat):Int):=zwi;refine zBb ?_;refine zBd ?_;unfold wkv;refine zb3 (zr7 h1 h2 h7 hcv w1 zyA zyB) ?_;refine zQF h7 ?_;have hbb:y.L.length*17<=140737488355328:=zo;have hbc:(y.L.length+1)*17<=140737488355328:=zo;refine zbG (zcF (Q:=fun yy s'=>yy=.norm/\∃g,s'.tm 1=iv a/\s'.tm 2=.list r 2 (l.map zbP)/\s'.tm 3=.ptr 0 0 0 0 4/\s'.tm 6=.ptr 1 0 0 0 4/\s'.tm 7=iv i/\s'.tm 8=.ptr (G.length+1+1) 0 0 0 2/\s'.df=[]/\s'.H=.row 185 4 0 0 [.agg [wv y.p y.W,.sl (G.length+1+1+1) g 0 (y.L.length+1) (2*(y.L.length+1)) 2,y.fr,iv y.used]]::.row 185 4 0 0 [.agg [.nilsl,.nilsl,.nilsl,iv 0]]::(G++.row 120 2 0 0 [zbP (a+c.1,c.2)]::.row 120 2 g 0 (y.L.map zbP++[zbP (a+c.1,c.2)])::.row 120 2 0 0 [zbP (a+c.1,c.2)]::[])) (zbU ?_) ?_)
  .by_cases hy:y.L=[]
   .have hy0:y.L.length=0:=by rw[hy];rfl
    rw[hy];refine zdb (zb0 h3 zeo hbb hbc h1 h2 h6 h7 zep zev zey (zr3 zyA zyB zyC)) ?_;refine zdb (zr2 zeo zyA) ?_;refine zdb (zb0 h3 zep zev zeo hbb hbc h1 h2 h6 h7 zey (zr3 zyA zyB zyC)) ?_;refine zhM (zb0 zeo h1 h2 h3 h6 h7 zep zev zey zyA zyB zyC) ?_;refine zb9 ?_;simp only[go_sem]
    grind
   .have hy0:¬y.L.length=0:=by simpa using hy
    refine zdb (zb0 hy0 hbb h3 zeo hbc h1 h2 h6 h7 zep zev (zr4 zey zyA zyB zyC)) ?_;refine zdb (zr5 hbc zep zev zeo zyA) ?_;refine zdb (zb0 h3 zep zev zeo hy0 hbb hbc h1 h2 h6 h7 (zr4 zey zyA zyB zyC)) ?_;refine zhM (zb0 zeo h1 h2 h3 h6 h7 zep zev zey zyA zyB zyC) ?_;refine zb9 ?_;simp only[go_sem]
    grind
  clear h1 h2 h3 h6 h7;rintro yy ⟨tm,df,H⟩ ⟨rfl,g,h1,h2,h3,h6,h7,h8,rfl,rfl⟩;dsimp only at *
  have hV:y.L.map zbP++[zbP (a+c.1,c.2)]=(y.L++[(a+c.1,c.2)]).map zbP:=by simp
  have hVl:y.L.length+1=(y.L++[(a+c.1,c.2)]).length:=by simp
  rw[hV,hVl];refine zuI 0 (G.length+1+1+1) (v':=.agg [wv y.p y.W,.list 0 2 ((y.L++[(a+c.1,c.2)]).map zbP),y.fr,iv y.used]) rfl (by simp only[zBM9,ga1]<;>rfl) zo rfl rfl (fun k u v hu hv=>?_) ?_
  .match k with
   | 0=>injection hu with hu;injection hv with hv;subst hu hv;exact .inl rfl
   | 1 =>
    injection hu with hu;injection hv with hv;subst hu hv;exact .inr (Frz.wh (znp (by simp only[zBM9,ga1]<;>rfl)) rfl (by simp) (by simp) zmm zfT)
   | 2=>injection hu with hu;injection hv with hv;subst hu hv;exact .inl rfl
   | 3=>injection hu with hu;injection hv with hv;subst hu hv;exact .inl rfl
   | k+4=>simp[PV.cells]at hu
  simp only[zCS9,zCR9,sa1];have hap:=zxk y.p 1 y.W (a+c.1,c.2) zo (by omega);refine zBr ?_;refine zbV (zr4 h3 h8 zyA zyB) ?_;refine zcm hap ?_ ?_
  .exact Frz.wh (l:=[zbP (a+c.1,c.2)]) (by simp only[zBM9,ga3]<;>rfl) rfl rfl (zAC9 _) (fun v hv=>by obtain rfl:=zBI9.1 hv;rfl) (zfT (l:=[(a+c.1,c.2)]))
  refine zN ?_;refine zB ?_;refine zJF h3 ?_;refine zJF h7 ?_;refine⟨_,?m,i+1,?G,rfl,hlt,zu h1,zu h2,zu h3,zu h6,zu h7,zt,?H⟩
  case m=>omega
  case H=>(try dsimp only);rw[htk];rfl


theorem zoR(q:Nat)(bs:LN)(L:LB)(hl:L.length<1000000)(hp:∀n∈L,n.pairs.length<=28)(hall:(zcy L).length<1000000):FN ET 83 [zcg p q bs L] (ziH L):=by
 refine zfn (eG T83 func83) ?_ ?_
 .unfold ziH;split
  .exact Lb.two (Lb.pvs _) (.bool _)
  .exact Lb.two (Lb.pvs _) (.bool _)
 refine zG ?_;refine zc2 92 2 (i:=4) rfl ?_;simp only[lzy,zAH9,zAP9,zAN9,zAV9];refine zG ?_;refine zay (zbE (fun m s=>∃(i:Nat) (acc:LK) (G:LP),m=L.length-i/\i<=L.length/\zcy L=acc++zcy (L.drop i)/\zbT acc=true/\s.tm 1=.ptr 0 0 0 0 2/\s.tm 4=.sl 1 acc.length 0 acc.length (2*acc.length) 2/\s.tm 5=iv i/\s.df=[]/\s.H=.row 163 2 0 0 [zcg p q bs L]::.row 92 2 acc.length 0 (acc.map pv)::G) (n:=L.length) ?_ ?_)
 .exact⟨0,[],[],rfl,by omega,rfl,rfl,zt,zt,zt,rfl,rfl⟩
 .rintro m ⟨tm,df,H⟩ ⟨i,acc,G,rfl,hi,hac,hri,h1,h4,h5,rfl,rfl⟩;dsimp only at h1 h4 h5;refine zLh (zr2 h1 h5) ?_ ?_
  .intro hlt;have hlt:i<L.length:=ztd hlt;have hLi:=zAA9 hlt;rw[zq5 L i hlt]at hac;have hn28:=hp _ (zBJ9 hlt);have hLiv:(L.map (zbJ q))[i]?=some (zbJ q L[i]):=zmg hLi;generalize L[i]=n at *
   refine zBb ?_;refine zGF (zr4 h1 h5 hLiv hlt) ?_;generalize hR:zcy (List.drop (i+1) L)=R at hac;refine zay (zbE (fun m s=>∃(j:Nat) (acc:LK) (G:LP),m=n.pairs.length-j/\j<=n.pairs.length/\zcy L=acc++((n.pairs.drop j).filter (zeX L[i+1]?)++R)/\zbT acc=true/\s.tm 1=.ptr 0 0 0 0 2/\s.tm 4=.sl 1 acc.length 0 acc.length (2*acc.length) 2/\s.tm 5=iv i/\s.tm 6=psv q n.pairs/\s.tm 7=iv j/\s.df=[]/\s.H=.row 163 2 0 0 [zcg p q bs L]::.row 92 2 acc.length 0 (acc.map pv)::G) (n:=n.pairs.length) ?_ ?_)
   .exact⟨0,acc,_,rfl,by omega,hac,hri,zu h1,zu h4,zu h5,zt,zt,rfl,rfl⟩
   .clear h1 h4 h5 hac hri;rintro m ⟨tm,df,H⟩ ⟨j,acc,G,rfl,hj,hac,hri,h1,h4,h5,h6,h7,rfl,rfl⟩;dsimp only at *
    refine zLh (zr2 h6 h7) ?_ ?_
    .intro hltj;have hltj:j<n.pairs.length:=ztd hltj;have hxj:=zAA9 hltj;rw[zAK9 hltj,List.filter_cons]at hac;have hxv:(n.pairs.map pv)[j]?=some (pv n.pairs[j]):=zmg hxj;generalize n.pairs[j]=x at *
     refine zBb ?_;refine zB ?_;refine zcF (Q:=fun y s'=>y=.norm/\s'.tm 1=.ptr 0 0 0 0 2/\s'.tm 4=.sl 1 acc.length 0 acc.length (2*acc.length) 2/\s'.tm 5=iv i/\s'.tm 6=psv q n.pairs/\s'.tm 7=iv j/\s'.tm 48=.bool (!zeX L[i+1]? x)/\s'.df=[]/\s'.H=.row 163 2 0 0 [zcg p q bs L]::.row 92 2 acc.length 0 (acc.map pv)::G) (zbU ?_) ?_
     .have e1:((i:Int)+1)=((i+1:Nat):Int):=zo
      by_cases hi1:i+1<L.length
      .have g1:((i+1:Nat):Int)<(L.length:Nat):=zo;have hz:=zAA9 hi1;have hzv:(L.map (zbJ q))[i+1]?=some (zbJ q L[i+1]):=zmg hz;rw[hz];generalize L[i+1]=z at *
       refine zQF (zfM h1 h5 h6 h7 e1 g1 hzv hxv hltj hi1) ?_;exact⟨h1,h4,h5,h6,h7,by simp[zeX]⟩
      .have g1:¬((i+1:Nat):Int)<(L.length:Nat):=zo;have hz:L[i+1]?=none:=zCF9 zo;rw[hz];refine zQF (zr7 h1 h5 h6 h7 e1 g1 hltj) ?_;exact⟨h1,h4,h5,h6,h7,by simp[zeX]⟩
     .clear h1 h4 h5 h6 h7;rintro y ⟨tm,df,H⟩ ⟨rfl,h1,h4,h5,h6,h7,h48,rfl,rfl⟩;dsimp only at *
      by_cases hk:zeX L[i+1]? x=true
      rotate_left
      .rw[if_neg hk]at hac;have hk:zeX L[i+1]? x=false:=by simpa using hk
       refine zgP h48 ?_ ?_
       .intro _;refine zho ?_;refine zJF h7 ?_;refine⟨_,?m1,j+1,acc,_,rfl,hltj,hac,hri,zu h1,zu h4,zu h5,zu h6,zu h7,rfl,rfl⟩;omega
       .rw[hk];intro h;cases h
      rw[if_pos hk]at hac;refine zgP h48 ?_ ?_
      .rw[hk];intro h;cases h
      intro _;refine zSk ?_;refine zGF h4 ?_;have hal:acc.length<1000000:=by have:=congrArg List.length hac;simp only[zAF9]at this;omega
      refine zcF (Q:=fun y s'=>y=.norm/\s'.tm 1=.ptr 0 0 0 0 2/\s'.tm 4=.sl 1 acc.length 0 acc.length (2*acc.length) 2/\s'.tm 5=iv i/\s'.tm 6=psv q n.pairs/\s'.tm 7=iv j/\s'.tm 66=.bool (zeA acc x)/\s'.df=[]/\s'.H=.row 163 2 0 0 [zcg p q bs L]::.row 92 2 acc.length 0 (acc.map pv)::G) (zbU ?_) ?_
      .by_cases ha0:acc.length=0
       .have g1:¬(0:Int)<(acc.length:Nat):=zo;have g2:¬(0:Int)<=(acc.length:Int)-1:=zo;refine zQF (zr7 h4 h6 h7 g1 g2 hltj hxv) ?_;obtain rfl:acc=[]:=zBU9 ha0;exact⟨h1,h4,h5,h6,h7,rfl⟩
       .have e1:(acc.length:Int)-1=((acc.length-1:Nat):Int):=zo;have g2:(0:Int)<=((acc.length-1:Nat):Int):=zo;have e2:acc.length-1<acc.length:=zo;obtain⟨y,hy⟩:∃y,acc.getLast?=some y:=by
         grind
        have hy2:acc[acc.length-1]?=some y:=by rw[<- zCI9];exact hy
        have hyv:(acc.map pv)[acc.length-1]?=some (pv y):=zmg hy2;refine zQF (zr9 h4 h6 h7 e1 g2 e2 hyv hltj hxv) ?_;exact⟨h1,h4,h5,h6,h7,by simp[zeA,hy]⟩
      .clear h1 h4 h5 h6 h7 h48;rintro y ⟨tm,df,H⟩ ⟨rfl,h1,h4,h5,h6,h7,h66,rfl,rfl⟩;dsimp only at *
       by_cases hk2:zeA acc x=true
       .refine zgP h66 ?_ ?_
        .intro _;refine zO ?_;exact zCs hac (zo6 hk2)
        .rw[hk2];intro h;cases h
       have hk2:zeA acc x=false:=by simpa using hk2
       refine zgP h66 ?_ ?_
       .rw[hk2];intro h;cases h
       intro _;refine zbX ?_;have hbb:(acc.length+1)*17<=140737488355328:=zo;refine zJF (zr6 h4 h6 h7 hxv hltj hbb) ?_;refine zJF h7 ?_;refine⟨_,?m3,j+1,acc++[x],?G3,rfl,hltj,by grind,zsR hri hk2,zu h1,zt,zu h5,zu h6,zu h7,zt,?H3⟩
       case m3=>omega
       case H3=>(try dsimp only);rw[zBA9,zAF9];rfl
    .intro hltj;have hltj:¬j<n.pairs.length:=zfd hltj;obtain rfl:j=n.pairs.length:=zo;refine zJF h5 ?_;rw[zBH9,List.filter_nil,zAV9,<- hR]at hac;refine⟨_,?m9,i+1,acc,G,rfl,hlt,hac,hri,zu h1,zu h4,zu h5,rfl,rfl⟩;omega
  .intro hlt;have hlt:¬i<L.length:=zfd hlt;obtain rfl:i=L.length:=zo;refine zOF h4 ?_;rw[zBH9,zcy,zCL9]at hac;unfold ziH;rw[hac,if_pos hri];refine Frz.tL ⟨?_,.bool _,trivial⟩;exact Frz.wh (l:=acc.map pv) rfl rfl (by simp) (by simp) zmm zgZ
theorem zu3(w:LN)(b:Nat)(hw:zbL w.length):FR 190 [wv p w,uv b] (.bool (decide (1<=b)&&decide (b<w.length/64))):=by
 refine zfn (eG T190 func190) (.bool _) ?_;unfold zbL at hw;have w1:IntKind.u64.wrap (((w.length/64:Nat):Int))=((w.length/64:Nat):Int):=zwu;have hq:IntKind.i64.wrap ((w.length:Int)/64)=((w.length/64:Nat):Int):=zwi;have q1:IntKind.i64.wrap ((w.length:Int).tdiv 64)=((w.length/64:Nat):Int):=by rw[IntWalk.i64_quo _ _ zo];omega
 by_cases h:1<=b
 .have g:(1:Int)<=b:=zo
  by_cases h2:b<w.length/64
  .have g2:(b:Int)<((w.length/64:Nat):Int):=zo;refine zOF (zr5 g q1 hq w1 g2) ?_;exact zbo.bool (by grind)
  .have g2:¬(b:Int)<((w.length/64:Nat):Int):=zo;refine zOF (zr5 g q1 hq w1 g2) ?_;exact zbo.bool (by grind)
 .have g:¬(1:Int)<=b:=zo;refine zOF g ?_;exact zbo.bool (by simp[h])


def zhB(w:LN)(lv:Int):Nat->LN->LN->LB->Nat->LN×LB×Bool
 | 0,_,bs,ns,b=>(bs,ns,decide (b=0) && !ns.isEmpty)
 | k+1,seen,bs,ns,b=>if b=0 then(bs,ns,!ns.isEmpty)else
  if decide (w.length/64<=b)||seen.contains b then(bs,ns,false)else
  if headB (zbD w b)&&zcC ns (headN (zbD w b)) lv then zhB w lv k (b::seen) (bs++[b]) (ns++[headN (zbD w b)]) (headN (zbD w b)).sib else(bs,ns,false)
variable {lv:Int}{w:LN}(p:Nat)(l:LN)
theorem zrb:∀(k:Nat) (seen bs:LN) (ns:LB) (b:Nat),zcu w lv k seen bs ns b=none->(zhB w lv k seen bs ns b).2.2=false
 | 0,seen,bs,ns,b,h=>by
  rw[zcu]at h;rw[zhB]
  grind
 | k+1,seen,bs,ns,b,h=>by
  rw[zcu]at h;rw[zhB]
  split
  .grind
  .rename_i hb;rw[if_neg hb]at h
   split
   .rfl
   .rename_i h2;rw[if_neg h2]at h
    split
    .rename_i h3;rw[if_pos h3]at h;exact zrb k _ _ _ _ h
    .rfl
theorem zrf{r:LN×LN×LB}:∀(k:Nat) (seen bs:LN) (ns:LB) (b:Nat),zcu w lv k seen bs ns b=some r->zhB w lv k seen bs ns b=(r.2.1,r.2.2,!r.2.2.isEmpty)
 | 0,seen,bs,ns,b,h=>by
  rw[zcu]at h;rw[zhB]
  grind
 | k+1,seen,bs,ns,b,h=>by
  rw[zcu]at h;rw[zhB]
  split
  .grind
  .rename_i hb;rw[if_neg hb]at h
   split
   .grind
   .rename_i h2;rw[if_neg h2]at h
    split
    .rename_i h3;rw[if_pos h3]at h;exact zrf k _ _ _ _ h
    simp_all
theorem zl6(b:Nat):(l.map fun(x:Nat)=>(x:Int)).contains (b:Int)=l.contains b:=by grind
theorem zvS:(l.map fun(x:Nat)=>(x:Int)).map iv=l.map fun(b:Nat)=>iv (b:Int):=by simp_all
theorem zko(n:Nat)(hl:l.length<4611686018427387904):FR 123 [.list p 1 (l.map fun(b:Nat)=>iv (b:Int)),iv (n:Nat)] (.bool (l.contains n)):=by
 have:=zpE p (l.map fun(x:Nat)=>(x:Int)) n (by grind);rw[zvS,zl6]at this;exact this
theorem zER(bs:LN)(ns:LB):Lb (zcg 0 0 bs ns):=.agg fun x hx=>by
 simp at hx;rcases hx with rfl|rfl
 .exact Lb.ivn _
 .exact Lb.nodes _
def lvH(z:PV)(bs:LN)(ns:LB)(G:LP):LP :=
 .row 163 2 0 0 [z]::.row 163 2 0 0 [.agg [.sl 2 bs.length 0 bs.length (2*bs.length) 1,.sl 3 ns.length 0 ns.length (2*ns.length) 6]]::.row 3 1 bs.length 0 (bs.map fun(b:Nat)=>iv (b:Int))::.row 143 6 ns.length 0 (ns.map (zbJ 0))::G
theorem zvA(z:PV)(bs:LN)(ns:LB)(G:LP)(lab:Nat):LF (lvH z bs ns G) lab [.sl 2 bs.length 0 bs.length (2*bs.length) 1,.sl 3 ns.length 0 ns.length (2*ns.length) 6] [.list lab 1 (bs.map fun(b:Nat)=>iv (b:Int)),.list lab 6 (ns.map (zbJ 0))] :=
  ⟨Frz.wh (e:=3) (z':=1) (G:=bs.length) (l:=bs.map fun(b:Nat)=>iv (b:Int)) rfl rfl (by simp) (by simp) zmm zgN,
   Frz.wh (e:=143) (z':=6) (G:=ns.length) (l:=ns.map (zbJ 0)) rfl rfl (by simp) (by simp) zmm ziv,trivial⟩
theorem zkN{bs:LN}{ns:LB}{G:LP}{tm:Nat->PV}{b:Bool}{R:LN×LB×Bool}(h8:tm 8=.ptr 0 0 0 0 2)(h9:tm 9=.bool b)(hR:R=(bs,ns,b)):zej ET T132 (fun e' H=>zbo H 0 e' (.ret (.tuple [zcg 0 0 R.1 R.2.1,.bool R.2.2]))) .ret ⟨tm,[],lvH (.agg [.sl 2 bs.length 0 bs.length (2*bs.length) 1,.sl 3 ns.length 0 ns.length (2*ns.length) 6]) bs ns G⟩:=by
 subst hR;refine zc8 (vs:=[.agg [.sl 2 bs.length 0 bs.length (2*bs.length) 1,.sl 3 ns.length 0 ns.length (2*ns.length) 6],.bool b]) ?_ ?_
 .simp[T132,xT,zbd,okv,h8,h9,zax,zbh,zbi,lvH,PV.cells]
 .exact Frz.tL ⟨Frz.aggL (zvA _ bs ns G 0),.bool _,trivial⟩


theorem ziE{E:Env}{caught:LD}{rnd:LA}{code:zbN}{s:FSt}{Q:FX->FSt->Prop}(F:(Nat->PV)->Prop)(hF:F s.tm)(k:∀tm,F tm->W E caught rnd code ⟨tm,s.df,s.H⟩ Q):W E caught rnd code s Q:=k s.tm hF
theorem zwo(r:Nat)(w:LN)(hw:64<=w.length/\w.length<=131072)(b:Nat)(lv:Int)(sR seen:LN)(hs:∀x,x∈sR↔x∈seen)(hsl:sR.length<1000000)(R:LN×LB×Bool)(hR:zhB w lv (w.length/64) seen [] [] b=R):
  FR 132 [wv p w,uv b,iv lv,.list r 1 (sR.map fun(b:Nat)=>iv (b:Int))] (.tuple [zcg 0 0 R.1 R.2.1,.bool R.2.2]):=by
 refine zfn (eG T132 func132) (Lb.two (zER _ _) (.bool _)) ?_;refine zG ?_;refine zf8 3 1 (id:=1) (v:=.agg [.nilsl,.nilsl]) (v':=.agg [.sl 2 0 0 0 0 1,.nilsl]) (e0:=163) (z0:=2) (G:=0) (M:=0) rfl rfl (fun k x y hx hy=>?_) ?_
 .match k with
  | 0=>injection hx with hx;injection hy with hy;subst hx hy;exact .inr ⟨rfl,by simp[lzy]⟩
  | 1=>injection hx with hx;injection hy with hy;grind
  | k+2=>simp[PV.cells]at hx
 simp only[zCS9,zCR9,zAN9,zAV9];refine zf8 143 6 (id:=1) (v:=.agg [.sl 2 0 0 0 0 1,.nilsl]) (v':=.agg [.sl 2 0 0 0 0 1,.sl 3 0 0 0 0 6]) (e0:=163) (z0:=2) (G:=0) (M:=0) rfl rfl (fun k x y hx hy=>?_) ?_
 .match k with
  | 0=>injection hx with hx;injection hy with hy;grind
  | 1=>injection hx with hx;injection hy with hy;subst hx hy;exact .inr ⟨rfl,by simp[lzy]⟩
  | k+2=>simp[PV.cells]at hx
 simp only[zCS9,zCR9,zAN9,zAV9];have hnb:w.length/64<=2048:=zo;have hsm:zbL w.length:=by unfold zbL;omega
 refine zay (zbE (fun m s=>∃(k:Nat) (S:LN) (bs:LN) (ns:LB) (b2:Nat) (G:LP),m=k/\zem (w.length/64) S<=k/\zhB w lv k S bs ns b2=R/\bs.length=ns.length/\bs.length+k<=2048/\(∀x,x∈S↔x∈sR\/x∈bs)/\(∀n∈ns,lv<0\/(n.level:Int)=lv)/\b2<2048+b+1/\s.tm 0=wv p w/\s.tm 1=uv b2/\s.tm 2=iv lv/\s.tm 3=.list r 1 (sR.map fun(b:Nat)=>iv (b:Int))/\s.tm 8=.ptr 0 0 0 0 2/\s.tm 10=.ptr 1 0 0 0 2/\s.df=[]/\s.H=lvH (.agg [.nilsl,.nilsl]) bs ns G) (n:=w.length/64) ?_ ?_)
 .exact⟨_,seen,[],[],b,[],rfl,zlz _ _,hR,rfl,by grind,fun x=>by grind,fun n hn=>by grind,by omega,zt,zt,zt,zt,zt,zt,rfl,rfl⟩
 .clear hR;rintro m ⟨tm,df,H⟩ ⟨k,S,bs,ns,b2,G,rfl,hun,hR,hbn,hbk,hS,hlvs,hb2,h0,h1,h2,h3,h8,h10,rfl,rfl⟩;dsimp only at *
  refine zLh h1 ?_ ?_;rotate_left
  .intro hb0;have hb0:b2=0:=by simpa using hb0
   subst hb0;have hR2:R=(bs,ns,!ns.isEmpty):=by rw[<- hR];cases m<;>simp[zhB]
   unfold lvH;refine zBd ?_
   by_cases hne:ns=[]
   .subst hne;refine zb3 (zr2 h8 h10) ?_;refine zdl ?_ (by simp(disch:=omega)only[go_sem]<;>rfl) (by first|exact trivial|simp only[go_sem]);refine zb9 ?_;simp only[go_sem];refine zbK ?_;exact zkN (by simp[upd,h8]) (by simp[upd]) hR2
   .have g:(0:Int)<(ns.length:Nat):=by have:=zCD9.2 hne;omega
    refine zb3 (zr3 h8 h10 g) ?_;refine zhM g ?_;refine zb9 ?_;simp only[go_sem];refine zbK ?_;exact zkN (b:=true) (by simp[upd,h8]) (by simp[upd]) (by grind)
  intro hb0;have hb0:¬b2=0:=by simpa using hb0
  refine zBb ?_;refine zB ?_;have hth:=zu3 p w b2 hsm;have hb1:1<=b2:=zo;rw[decide_eq_true hb1,zCA9]at hth;refine zcF (Q:=fun y s'=>y=.norm/\s'.tm 0=wv p w/\s'.tm 1=uv b2/\s'.tm 2=iv lv/\s'.tm 3=.list r 1 (sR.map fun(b:Nat)=>iv (b:Int))/\s'.tm 8=.ptr 0 0 0 0 2/\s'.tm 10=.ptr 1 0 0 0 2/\s'.tm 32=.bool (decide (w.length/64<=b2)||S.contains b2)/\s'.df=[]/\s'.H=lvH (.agg [.nilsl,.nilsl]) bs ns G) (zbF ?_) ?_
  .by_cases hge:b2<w.length/64
   rotate_left
   .rw[decide_eq_false hge]at hth;refine zbV (zr2 h0 h1) ?_;refine zca hth ?_;refine zK ?_;exact⟨zt,h0,h1,h2,h3,h8,h10,by simp[upd];omega,rfl,rfl⟩
   rw[decide_eq_true hge]at hth;have w1:IntKind.i64.wrap (b2:Int)=(b2:Int):=zwi;have hh1:=zko r sR b2 zo;have hh2:=zko 1 bs b2 zo;have hSc:S.contains b2=(sR.contains b2||bs.contains b2):=by
    rw[zFI9];simp[hS b2]
   have hng:decide (w.length/64<=b2)=false:=decide_eq_false zo;rw[hSc,hng,zFB9];refine zbV (zr2 h0 h1) ?_;refine zca hth ?_;refine zbV (zr3 h1 h3 w1) ?_;refine zca hh1 ?_
   by_cases hc1:sR.contains b2=true
   .rw[hc1,Bool.true_or];refine zK ?_;exact⟨zt,h0,h1,h2,h3,h8,h10,zt,rfl,rfl⟩
   have hc1:sR.contains b2=false:=by simpa using hc1
   rw[hc1,zFB9];unfold lvH;refine zbV (zr3 h1 h10 w1) ?_;refine zcm hh2 ?_ ?_
   .exact(zvA (.agg [.nilsl,.nilsl]) bs ns G 1).1
   refine zK ?_;exact⟨zt,h0,h1,h2,h3,h8,h10,zt,rfl,rfl⟩
  clear h0 h1 h2 h3 h8 h10;rintro y ⟨tm,df,H⟩ ⟨rfl,h0,h1,h2,h3,h8,h10,h32,rfl,rfl⟩;dsimp only at *
  by_cases hbad:(decide (w.length/64<=b2)||S.contains b2)=true
  .rw[hbad]at h32;refine zj8 h32 ?_;unfold lvH;refine zGF (zr2 h8 h10) ?_;refine zbK ?_;exact zkN (b:=false) (by simp[upd,h8]) (by simp[upd]) (by
    rw[<- hR]
    cases m with
    | zero=>rw[zhB];grind
    | succ m=>rw[zhB,if_neg hb0,if_pos hbad])
  have hbad:(decide (w.length/64<=b2)||S.contains b2)=false:=by simpa using hbad
  rw[hbad]at h32;refine zHF h32 ?_;have hbl:b2<w.length/64:=by
   cases h:decide (w.length/64<=b2)with
   | true=>grind
   | false=>grind
  have hbs:¬S.contains b2=true:=by intro h;rw[h,Bool.or_true]at hbad;cases hbad
  have hm1:∃m',m=m'+1:=by
   cases m with
   | zero=>exact absurd (zkk _ b2 S zo hbl) hbs
   | succ m=>grind
  obtain⟨m',rfl⟩:=hm1;rw[zhB,if_neg hb0,if_neg (by omega)]at hR;have hOf:=zkP p (zbD w b2) (by unfold zbD zbL;simp;omega);have e1:IntKind.u64.wrap ((64:Int)*(b2:Int))=((64*b2:Nat):Int):=zwu;have e2:IntKind.u64.wrap (((64*b2:Nat):Int)+64)=((64*b2+64:Nat):Int):=zwu;have e3:64*b2<=64*b2+64:=zo;have e4:64*b2+64<=w.length:=zo;have e6:0<w.length:=zo;have e5:List.drop (64*b2) (List.take (64*b2+64) (List.map uv w))=(zbD w b2).map uv:=by simp[zbD,zBZ9,zCH9]
  refine zBr ?_;refine zbV (zr8 h0 h1 e1 e2 e3 e4 e5 e6) ?_
  by_cases hh:headB (zbD w b2)=true
  rotate_left
  .have hh:headB (zbD w b2)=false:=by simpa using hh
   rw[zuc hh]at hOf;rw[hh,Bool.false_and,if_neg zy]at hR;refine zca hOf ?_;unfold lvH;refine zN ?_;refine zGF h10 ?_;refine ziE (fun tm=>tm 8=.ptr 0 0 0 0 2/\tm 10=.ptr 1 0 0 0 2/\tm 12=iv 210) ⟨zu h8,zu h10,by simp[upd]⟩ ?_;clear h8 h10;rintro tm ⟨h8,h10,h12⟩;refine(zcF (Q:=fun y s'=>y=.norm/\s'.tm 8=.ptr 0 0 0 0 2/\s'.tm 10=.ptr 1 0 0 0 2/\s'.tm 95=.bool true/\s'.df=[]/\∃G2,s'.H=lvH (.agg [.nilsl,.nilsl]) bs ns G2) (zbU ?_) ?_)
   .have g210:¬(210:Int)=0:=by decide
    refine zQF (zr2 h12 g210) ?_;exact⟨h8,h10,G++_,rfl⟩
   rintro y ⟨tm,df,H⟩ ⟨rfl,h8,h10,h95,rfl,G2,rfl⟩;dsimp only at h8 h10 h95;refine zj8 h95 ?_;unfold lvH;refine zGF (zr2 h8 h10) ?_;refine zbK ?_;exact zkN (b:=false) (by simp[upd,h8]) (by simp[upd]) hR.symm
  obtain⟨b12,b2048,bw⟩:=zkf hh;rw[zhI _ hh]at hOf;rw[hh,zCA9]at hR;generalize headN (zbD w b2)=nd at hOf hR b12 b2048 bw;refine zca hOf ?_;unfold lvH;refine zN ?_;refine zGF h10 ?_;refine ziE (fun tm=>tm 0=wv p w/\tm 1=uv b2/\tm 2=iv lv/\tm 3=.list r 1 (sR.map fun(b:Nat)=>iv (b:Int))/\tm 8=.ptr 0 0 0 0 2/\tm 10=.ptr 1 0 0 0 2/\tm 11=.ptr (G.length+1+1+1+1) 0 0 0 6/\tm 12=iv 0/\tm 13=iv ((ns.length:Int)-1)) ⟨zu h0,zu h1,zu h2,zu h3,zu h8,zu h10,zt,zt,by simp[upd]⟩ ?_;clear h0 h1 h2 h3 h8 h10 h32;rintro tm ⟨h0,h1,h2,h3,h8,h10,h11,h12,h13⟩;refine(zcF (Q:=fun y s'=>y=.norm/\s'.tm 0=wv p w/\s'.tm 1=uv b2/\s'.tm 2=iv lv/\s'.tm 3=.list r 1 (sR.map fun(b:Nat)=>iv (b:Int))/\s'.tm 8=.ptr 0 0 0 0 2/\s'.tm 10=.ptr 1 0 0 0 2/\s'.tm 11=.ptr (G.length+1+1+1+1) 0 0 0 6/\s'.tm 95=.bool (!zcC ns nd lv)/\s'.df=[]/\s'.H=lvH (.agg [.nilsl,.nilsl]) bs ns (G++[.row 143 6 0 0 [zbJ 0 nd]])) (zbU ?_) ?_)
  .skip
   by_cases g0:(0:Int)<=lv
   .by_cases g1:(nd.level:Int)=lv
    rotate_left
    .have hgo:zcC ns nd lv=false:=by
      rw[zcC]
      cases hh:ns.getLast? with
      | none=>grind
      | some z =>
       grind
     refine zeW (zr7 h2 g0 g1 h11 h12 zyA zyB) ?_;refine zb9 ?_;simp only[go_sem];have hgv:zcC ns nd lv=!true:=(by grind)
     exact⟨h0,h1,h2,h3,h8,h10,h11,by first|(simp[hgv,lvH];done)|(simp[hgv,lvH];omega)⟩
    by_cases hns:ns=[]
    .have hn0:ns.length=0:=by rw[hns];rfl
     have c0:(ns.length:Int)-1<0:=zo;have c1:¬(0:Int)<=(ns.length:Int)-1:=zo
     by_cases hz:nd.low=0
     .have c2:(nd.low:Int)=0:=zo;refine zeW (zel h2 g0 g1 c0 c1 c2 h11 h12 h13 zyA zyB) ?_;refine zb9 ?_;simp only[go_sem];have hgv:zcC ns nd lv=!false:=(by rw[zcC,hns];grind)
      exact⟨h0,h1,h2,h3,h8,h10,h11,by first|(simp[hgv,lvH];done)|(simp[hgv,lvH];omega)⟩
     .have c2:¬(nd.low:Int)=0:=zo;refine zeW (zfM h2 g0 g1 c0 c2 h11 h12 h13 zyA zyB) ?_;refine zb9 ?_;simp only[go_sem];have hgv:zcC ns nd lv=!true:=(by rw[zcC,hns];simp[hz])
      exact⟨h0,h1,h2,h3,h8,h10,h11,by first|(simp[hgv,lvH];done)|(simp[hgv,lvH];omega)⟩
    have hnl:0<ns.length:=zCD9.2 hns;obtain⟨z,hz⟩:∃z,ns.getLast?=some z:=by
     cases hh:ns.getLast? with
     | none=>grind
     | some z=>grind
    have hz2:ns[ns.length-1]?=some z:=by rw[<- zCI9];exact hz
    have hzv:(ns.map (zbJ 0))[ns.length-1]?=some (zbJ 0 z):=zmg hz2;have hzl:=hlvs z (zAE9 hz2);have d0:(ns.length:Int)-1=((ns.length-1:Nat):Int):=zo;have d1:¬((ns.length-1:Nat):Int)<0:=zo;have d2:(0:Int)<=((ns.length-1:Nat):Int):=zo;have d3:ns.length-1<ns.length:=zo;have hgo:zcC ns nd lv=(decide (z.low<nd.low)&&decide (nd.level=z.level)):=by rw[zcC,hz]
    by_cases b1:z.low<nd.low
    rotate_left
    .have d4:(nd.low:Int)<=z.low:=zo;refine zeW (zb0 h2 g0 g1 d0 d1 d2 d3 d4 hzv h10 h11 (zr4 h12 h13 zyA zyB)) ?_;refine zb9 ?_;simp only[go_sem];have hgv:zcC ns nd lv=!true:=(by grind)
     exact⟨h0,h1,h2,h3,h8,h10,h11,by first|(simp[hgv,lvH];done)|(simp[hgv,lvH];omega)⟩
    have d4:¬(nd.low:Int)<=z.low:=zo
    by_cases b2':nd.level=z.level
    .have d5:(z.level:Int)=nd.level:=zo;refine zeW (zb0 h2 g0 g1 d0 d1 d2 d3 d4 d5 hzv h10 (zr5 h11 h12 h13 zyA zyB)) ?_;refine zb9 ?_;simp only[go_sem];have hgv:zcC ns nd lv=!false:=(by grind)
     exact⟨h0,h1,h2,h3,h8,h10,h11,by first|(simp[hgv,lvH];done)|(simp[hgv,lvH];omega)⟩
    .have d5:¬(z.level:Int)=nd.level:=zo;refine zeW (zb0 h2 g0 g1 d0 d1 d2 d3 d4 hzv h10 h11 (zr4 h12 h13 zyA zyB)) ?_;refine zb9 ?_;simp only[go_sem];omega
   .have g0:¬(0:Int)<=lv:=g0
    by_cases hns:ns=[]
    .have hn0:ns.length=0:=by rw[hns];rfl
     have c0:(ns.length:Int)-1<0:=zo;have c1:¬(0:Int)<=(ns.length:Int)-1:=zo
     by_cases hz:nd.low=0
     .have c2:(nd.low:Int)=0:=zo;refine zeW (zfM h2 g0 c0 c1 c2 h11 h12 h13 zyA zyB) ?_;refine zb9 ?_;simp only[go_sem];have hgv:zcC ns nd lv=!false:=(by rw[zcC,hns];grind)
      exact⟨h0,h1,h2,h3,h8,h10,h11,by first|(simp[hgv,lvH];done)|(simp[hgv,lvH];omega)⟩
     .have c2:¬(nd.low:Int)=0:=zo;refine zeW (zr9 h2 g0 c0 c2 h11 h12 h13 zyA zyB) ?_;refine zb9 ?_;simp only[go_sem];have hgv:zcC ns nd lv=!true:=(by rw[zcC,hns];simp[hz])
      exact⟨h0,h1,h2,h3,h8,h10,h11,by first|(simp[hgv,lvH];done)|(simp[hgv,lvH];omega)⟩
    have hnl:0<ns.length:=zCD9.2 hns;obtain⟨z,hz⟩:∃z,ns.getLast?=some z:=by
     cases hh:ns.getLast? with
     | none=>grind
     | some z=>grind
    have hz2:ns[ns.length-1]?=some z:=by rw[<- zCI9];exact hz
    have hzv:(ns.map (zbJ 0))[ns.length-1]?=some (zbJ 0 z):=zmg hz2;have hzl:=hlvs z (zAE9 hz2);have d0:(ns.length:Int)-1=((ns.length-1:Nat):Int):=zo;have d1:¬((ns.length-1:Nat):Int)<0:=zo;have d2:(0:Int)<=((ns.length-1:Nat):Int):=zo;have d3:ns.length-1<ns.length:=zo;have hgo:zcC ns nd lv=(decide (z.low<nd.low)&&decide (nd.level=z.level)):=by rw[zcC,hz]
    by_cases b1:z.low<nd.low
    rotate_left
    .have d4:(nd.low:Int)<=z.low:=zo;refine zeW (zb0 h2 g0 d0 d1 d2 d3 d4 hzv h10 h11 h12 (zr3 h13 zyA zyB)) ?_;refine zb9 ?_;simp only[go_sem];have hgv:zcC ns nd lv=!true:=(by grind)
     exact⟨h0,h1,h2,h3,h8,h10,h11,by first|(simp[hgv,lvH];done)|(simp[hgv,lvH];omega)⟩
    have d4:¬(nd.low:Int)<=z.low:=zo
    by_cases b2':nd.level=z.level
    .have d5:(z.level:Int)=nd.level:=zo;refine zeW (zb0 h2 g0 d0 d1 d2 d3 d4 d5 hzv h10 h11 (zr4 h12 h13 zyA zyB)) ?_;refine zb9 ?_;simp only[go_sem];have hgv:zcC ns nd lv=!false:=(by grind)
     exact⟨h0,h1,h2,h3,h8,h10,h11,by first|(simp[hgv,lvH];done)|(simp[hgv,lvH];omega)⟩
    .have d5:¬(z.level:Int)=nd.level:=zo;refine zeW (zb0 h2 g0 d0 d1 d2 d3 d4 d5 hzv h10 h11 (zr4 h12 h13 zyA zyB)) ?_;refine zb9 ?_;simp only[go_sem];have hgv:zcC ns nd lv=!true:=(by grind)
     exact⟨h0,h1,h2,h3,h8,h10,h11,by first|(simp[hgv,lvH];done)|(simp[hgv,lvH];omega)⟩
  clear h0 h1 h2 h3 h8 h10 h11 h12 h13;rintro y ⟨tm,df,H⟩ ⟨rfl,h0,h1,h2,h3,h8,h10,h11,h95,rfl,rfl⟩;dsimp only at *
  by_cases hg:zcC ns nd lv=true
  rotate_left
  .have hg:zcC ns nd lv=false:=by simpa using hg
   rw[hg]at hR h95;rw[if_neg zy]at hR;refine zj8 h95 ?_;unfold lvH;refine zGF (zr2 h8 h10) ?_;refine zbK ?_;exact zkN (b:=false) (by simp[upd,h8]) (by simp[upd]) hR.symm
  rw[hg]at hR h95;rw[if_pos rfl]at hR;refine zHF h95 ?_;unfold lvH;have hba:(bs.length+1)*9<=140737488355328:=zo;have hbb:(ns.length+1)*65<=140737488355328:=zo;have w1:IntKind.i64.wrap (b2:Int)=(b2:Int):=zwi;refine zBd ?_;refine zdb (zb0 h1 h10 h11 w1 hba hbb zep zev zey zeo zyA zyB) ?_;refine zdb (zr5 h10 hbb zep zyA zyB) ?_;refine zdb (zr2 zey zyB) ?_;refine zdb (zb0 h10 h1 h11 w1 hba hbb zep zev zey zeo zyB zyA) ?_;refine zhM (zb0 h1 h10 h11 w1 hba hbb zep zev zey zeo zyB zyA) ?_;refine zb9 ?_;simp only[go_sem];refine zB ?_;refine zd6 (zr2 h11 zyA) ?_;refine zdg ?_;refine⟨_,?m,m',b2::S,bs++[b2],ns++[nd],nd.sib,?G,rfl,?hu,hR,?b1,?b2,?sx,?lev,?nb,zu h0,zt,zu h2,zu h3,zu h8,zu h10,zt,?H⟩
  case m=>omega
  case hu=>have:=zmI _ _ _ hbl hbs;omega
  case b1=>grind
  case b2=>grind
  case sx=>intro x;simp[hS x];constructor<;>(intro h;grind)
  case nb=>omega
  case lev =>
   intro n hn;rcases zBK9.1 hn with hn|hn
   .grind
   .obtain rfl:=zBI9.1 hn;rw[zcC]at hg
    cases hh:ns.getLast? with
    | none=>grind
    | some z=>rw[hh]at hg;grind
  case H =>
   simp only[zAF9,zAH9,zAP9,zBN9,zBA9,zBX9,zDA9];rfl


def zgF(w:LN):Nat->LN->LG->Nat->Int->LG×Bool
 | 0,_,_,_,_=>([],false)
 | d+1,seen,acc,b,lv=>match zcu w lv (w.length/64) seen [] [] b with
  | none=>([],false)
  | some (_,_,[])=>([],false)
  | some (seen',bs,n::ns)=>if n.level=0 then(acc++[(bs,n::ns)],zbT (zcy (n::ns)))else zgF w d seen' (acc++[(bs,n::ns)]) n.left ((n.level:Int)-1)
def zcO(w:LN)(a:Nat):LG×Bool:=zgF w 14 [] [] (w.getD a 0) (-1)
theorem ztc:∀(d:Nat) (seen:LN) (acc:LG) (b:Nat) (lv:Int),(zgF w d seen acc b lv).2=(zch w d seen acc b lv).2/\((zgF w d seen acc b lv).2=true->(zgF w d seen acc b lv).1=(zch w d seen acc b lv).1)
 | 0,seen,acc,b,lv=>⟨rfl,fun h=>by cases h⟩
 | d+1,seen,acc,b,lv=>by
  rw[zgF,zch]
  cases hr:zcu w lv (w.length/64) seen [] [] b with
  | none=>grind
  | some r =>
   obtain⟨s',bs,ns⟩:=r
   cases ns with
   | nil=>grind
   | cons n ns =>
    simp only
    by_cases hl:n.level=0
    .grind
    .rw[if_neg hl,if_neg hl];exact ztc d _ _ _ _
theorem zik(w:LN)(a:Nat):(zcO w a).2=(zbI w a).2/\((zbI w a).2=true->(zcO w a).1=(zbI w a).1):=by
 have:=ztc (w:=w) 14 [] [] (w.getD a 0) (-1);exact⟨this.1,fun h=>this.2 (by rw[this.1];exact h)⟩
theorem zzm{T:LG}:∀v∈(T.map fun L=>zcg 0 0 L.1 L.2).flatMap PV.cells,Id0 v:=fun v hv=>by
 obtain⟨y,hy,hv⟩:=zBB9.1 hv;obtain⟨L,_,rfl⟩:=zAJ9.1 hy;simp[PV.cells]at hv;rcases hv with rfl|rfl<;>exact .list _ _ _
theorem zh8:∀(k:Nat) (seen bs:LN) (ns:LB) (b:Nat) (r:LN×LN×LB),zcu w lv k seen bs ns b=some r->∃X,r.2.1=bs++X/\r.1=X.reverse++seen/\X.Nodup/\∀x∈X,x ∉ seen/\x≠0
 | 0,seen,bs,ns,b,r,h=>by
  rw[zcu]at h
  split at h
  .cases h;simp_all
  grind
 | k+1,seen,bs,ns,b,r,h=>by
  rw[zcu]at h
  split at h
  .cases h;simp_all
  rename_i hb0
  split at h
  .cases h
  rename_i hbad
  split at h
  rotate_left
  .cases h
  obtain⟨X,h1,h2,h3,h4⟩:=zh8 k _ _ _ _ r h;have hbs:b ∉ seen:=fun hm=>hbad (by simp[hm]);refine⟨b::X,by rw[h1];simp,by rw[h2];simp,zFV9.2 ⟨fun hm=>(h4 b hm).1 (zAM9 ..),h3⟩,fun x hx=>?_⟩;rcases zAX9.1 hx with rfl|hx
  all_goals grind
theorem zkj(w:LN)(hw:64<=w.length/\w.length<=131072)(a:Nat)(ha:a<w.length):FR 82 [wv p w,iv a] (.tuple [zcW (zcO w a).1,.bool (zcO w a).2]):=by
 refine zfn (eG T82 func82) (Lb.two (zm7 _) (.bool _)) ?_;have hwa:=zdZ ha;unfold zcO;generalize w.getD a 0=b0 at *
 obtain⟨R,hR⟩:∃R,zgF w 14 [] [] b0 (-1)=R:=⟨_,rfl⟩
 rw[hR];refine zGF (zr2 hwa ha) ?_;refine zc2 163 2 (i:=6) rfl ?_;refine zc2 3 1 (i:=7) rfl ?_;simp only[lzy,zAH9,zAP9,zBN9,zAN9,zAV9];refine zay (zbE (fun m s=>∃(d:Nat) (seen:LN) (acc:LG) (b:Nat) (lv:Int) (sR:LN) (g:Nat) (G:LP),m=d/\d<=14/\((0<=lv/\lv+1<=d)\/14<=d)/\zgF w d seen acc b lv=R/\(∀x,x∈sR↔x∈seen)/\acc.length+d=14/\sR.length<=2048*acc.length/\s.tm 0=wv p w/\s.tm 6=.sl 0 acc.length 0 acc.length (2*acc.length) 2/\s.tm 7=.sl 1 g 0 sR.length (2*sR.length) 1/\s.tm 8=uv b/\s.tm 9=iv lv/\s.tm 10=iv ((14-d:Nat):Int)/\s.df=[]/\s.H=.row 163 2 acc.length 0 (acc.map fun L=>zcg 0 0 L.1 L.2)::.row 3 1 g 0 (sR.map fun(b:Nat)=>iv (b:Int))::G) (n:=14) ?_ ?_)
 .exact⟨14,[],[],b0,-1,[],0,[],rfl,zAC9 _,.inr (zAC9 _),hR,fun x=>Iff.rfl,rfl,zAG9 _,zt,zt,zt,zt,zt,zt,rfl,rfl⟩
 .clear hR;rintro m ⟨tm,df,H⟩ ⟨d,seen,acc,b,lv,sR,g,G,rfl,hd14,hd,hR,hS,had,hsl,h0,h6,h7,h8,h9,h10,rfl,rfl⟩;dsimp only at *
  obtain⟨d,rfl⟩:∃e,m=e+1:=⟨m-1,by omega⟩
  have g10:((14-(d+1):Nat):Int)<20:=zo;refine zLh (zr2 h10 g10) ?_ ?_;rotate_left
  .intro h;cases h
  intro _;refine zBb ?_;have hc:=zwo p 1 w hw b lv sR seen hS zo _ rfl;rw[zgF]at hR;have fz:Frz (.row 163 2 acc.length 0 (acc.map fun L=>zcg 0 0 L.1 L.2)::.row 3 1 g 0 (sR.map fun(b:Nat)=>iv (b:Int))::G) 1 (.sl 1 g 0 sR.length (2*sR.length) 1) (.list 1 1 (sR.map fun(b:Nat)=>iv (b:Int))) :=
   Frz.wh (e:=3) (z':=1) (l:=sR.map fun(b:Nat)=>iv (b:Int)) rfl rfl (by simp) (by simp) zmm zgN
  cases hr:zcu w lv (w.length/64) seen [] [] b with
  | none =>
   rw[hr]at hR;have hf:=zrb _ _ _ _ _ hr;generalize zhB w lv (w.length/64) seen [] [] b=R0 at hc hf;rw[hf]at hc;refine zBr ?_;refine zbV (zr4 h0 h7 h8 h9) ?_;refine zcm hc ?_ ?_
   .exact fz
   refine zN ?_;refine zS ?_;refine zO ?_;rw[<- hR];exact zLF
  | some r =>
   obtain⟨s',bs,ns⟩:=r;rw[hr]at hR;rw[zrf _ _ _ _ _ hr]at hc;obtain⟨X,x1,x2,x3,x4⟩:=zh8 _ _ _ _ _ _ hr;obtain⟨hF,hfst,hbl⟩:=zhz (N:=2048) _ _ _ _ _ _ hr (LvF.nil w) (fun n hn=>by grind) (by grind);dsimp only at x1 x2 hF hfst hbl hc;rw[zAV9]at x1;subst x1
   cases ns with
   | nil =>
    simp only[List.isEmpty_nil,Bool.not_true]at hc;refine zBr ?_;refine zbV (zr4 h0 h7 h8 h9) ?_;refine zcm hc ?_ ?_
    .exact fz
    refine zN ?_;refine zS ?_;refine zO ?_;rw[<- hR];exact zLF
   | cons nd ns =>
    simp only[List.isEmpty_cons,Bool.not_false]at hc;simp only at hR;have hlen:=hF.len;obtain⟨hpp,b12,b2048⟩:=hF.node (zAM9 ..);have hfl:=hfst nd rfl;refine zBr ?_;refine zbV (zr4 h0 h7 h8 h9) ?_;refine zcm hc ?_ ?_
    .exact fz
    refine zN ?_;refine zT ?_;refine zSk ?_;have hba:(acc.length+1)*49<=140737488355328:=zo;have hbb:(sR.length+bs.length)*9<=140737488355328:=zo;refine zBd ?_;have hXne:¬bs.length=0:=by rw[hlen];simp
    refine zdb (zel h6 h7 hba hXne hbb zep zev zey zeo zyA zyB) ?_;refine zdb (zr3 hXne hbb zyB) ?_;refine zhM (zfM h6 h7 hba hbb zep zev zey zeo zyB zyA) ?_;refine zb9 ?_;simp only[go_sem];have hg0:(List.map (zbJ 0) (nd::ns))[0]?=some (zbJ 0 nd):=rfl;have hi0:0<(nd::ns).length:=zCK9 _;generalize hNS:nd::ns=NS at *
    have hll:=zhJ NS fun n hn=>(hF.node hn).1;have hfew:NS.length<=2048:=zo
    by_cases hlv:nd.level=0
    .have g1:(nd.level:Int)-1<0:=zo;rw[if_pos hlv]at hR;(repeat(first|refine zbG ?_|refine zbO (zr3 hg0 g1 zyA) ?_));refine zct ?_;have hlp:=zoR 0 0 bs NS zo (fun n hn=>(hF.node hn).1) zo;unfold ziH at hlp;have fzL:∀(G:LP),Frz (.row 163 2 (acc.length+1) 0 ((acc.map fun L=>zcg 0 0 L.1 L.2)++[zcg 0 0 bs NS])::G) 0 (.sl 0 (acc.length+1) 0 (acc.length+1) (2*(acc.length+1)) 2) (zcW (acc++[(bs,NS)])):=fun G=>by
      have e:(acc.map fun L=>zcg 0 0 L.1 L.2)++[zcg 0 0 bs NS]=(acc++[(bs,NS)]).map fun L=>zcg 0 0 L.1 L.2:=by simp
      rw[e];exact Frz.wh rfl rfl (by simp) (by simp) zmm zzm
     by_cases hri:zbT (zcy NS)=true
     .rw[if_pos hri]at hlp;refine zBr ?_;refine zbV zyA ?_;refine zCN hlp ?_;refine zOF h6 ?_;rw[<- hR,hri];exact Frz.tL ⟨fzL _,.bool _,trivial⟩
     .rw[if_neg hri]at hlp;refine zBr ?_;refine zbV zyA ?_;refine zCN hlp ?_;refine zOF h6 ?_;rw[<- hR,show zbT (zcy NS)=false by grind];exact Frz.tL ⟨fzL _,.bool _,trivial⟩
    .have g1:¬(nd.level:Int)-1<0:=zo;rw[if_neg hlv]at hR;(repeat(first|refine zbG ?_|refine zbO (zr3 hg0 g1 zyA) ?_));refine zcf ?_;refine zSk ?_;refine zB ?_;refine zd6 (zr2 hg0 zyA) ?_;refine zdg ?_;have e14:((14-(d+1):Nat):Int)+1=((14-d:Nat):Int):=zo;refine zJF (zr2 h10 e14) ?_;refine⟨d,zCJ9 _,d,s',acc++[(bs,NS)],nd.left,(nd.level:Int)-1,sR++bs,g+1,?G,rfl,?c1,?c2,hR,?c3,?c4,?c5,zu h0,zt,zt,zt,zt,zu h10,zt,?H⟩
     case c1=>omega
     case c2=>omega
     case c3=>intro x;rw[x2];simp[hS x,or_comm]
     case c4=>grind
     case c5=>grind
     case H=>simp only[zAF9,zAH9,zAP9,zBN9,zBA9,zBX9,zDA9];rfl


section mid2
variable {α:Type}
variable (G G2 l:List α)(a b c:α)
theorem gb0:(G++a::(G2++b::l))[G.length+(G2.length+1)]?=some b:=by grind
theorem gb1:(G++a::(G2++b::c::l))[G.length+(G2.length+1)+1]?=some c:=by grind
theorem zD3:(G++a::(G2++b::c::l))[G.length+(G2.length+1+1)]?=some c:=gb1 G G2 l a b c
end mid2
variable (p:Nat)(w:LN)
@[reducible] def kP (K:LK):LQ:=K.map fun x=>uv x.2
@[reducible] def kL (K:LK):LQ:=K.map fun x=>uv x.1
def chH(z:PV)(K:LK)(G:LP):LP:=.row 163 2 0 0 [z]::.row 29 1 K.length 0 (kP K)::.row 29 1 K.length 0 (kL K)::G
theorem zrP(q:Nat)(bs:LN)(L:LB)(hl:L.length<=3000)(hp:∀n∈L,n.pairs.length<=28):FR 215 [zcg p q bs L] (.tuple [.list 0 1 (kP (L.flatMap zdk)),.list 0 1 (kL (L.flatMap zdk))]):=by
 have lbk:∀(f:Pr->Nat) (K:LK),Lb (.list 0 1 (K.map fun x=>uv (f x))):=fun f K=>by
  have:(K.map fun x=>uv (f x))=(K.map f).map uv:=by rw[zDV9];rfl
  rw[this];exact Lb.uvs _
 refine zfn (eG T215 func215) (Lb.two (lbk _ _) (lbk _ _)) ?_;refine zG ?_;refine zc2 29 1 (i:=4) rfl ?_;refine zc2 29 1 (i:=5) rfl ?_;simp only[lzy,zAH9,zAP9,zBN9,zAN9,zAV9];refine zG ?_;refine zay (zbE (fun m s=>∃(i:Nat) (K:LK) (G:LP),m=L.length-i/\i<=L.length/\K=(L.take i).flatMap zdk/\s.tm 1=.ptr 0 0 0 0 2/\s.tm 4=.sl 1 K.length 0 K.length (2*K.length) 1/\s.tm 5=.sl 2 K.length 0 K.length (2*K.length) 1/\s.tm 6=iv i/\s.df=[]/\s.H=chH (zcg p q bs L) K G) (n:=L.length) ?_ ?_)
 .exact⟨0,[],[],rfl,by omega,rfl,zt,zt,zt,zt,rfl,rfl⟩
 .rintro m ⟨tm,df,H⟩ ⟨i,K,G,rfl,hi,hK,h1,h4,h5,h6,rfl,rfl⟩;dsimp only at *
  unfold chH;refine zLh (zr2 h1 h6) ?_ ?_;rotate_left
  .intro hlt;have hlt:¬i<L.length:=zfd hlt;obtain rfl:i=L.length:=zo;rw[zBE9]at hK;refine zOF (zr2 h4 h5) ?_;rw[<- hK];have fk:∀(f:Pr->Nat),∀v∈(K.map fun x=>uv (f x)).flatMap PV.cells,Id0 v:=fun f v hv=>by
    obtain⟨y,hy,hv⟩:=zBB9.1 hv;obtain⟨x,_,rfl⟩:=zAJ9.1 hy;simp[PV.cells]at hv;subst hv;exact .int _ _
   refine Frz.tL ⟨?_,?_,trivial⟩
   .exact Frz.wh (l:=kP K) rfl rfl (by simp) (by simp) zmm (fk _)
   .exact Frz.wh (l:=kL K) rfl rfl (by simp) (by simp) zmm (fk _)
  intro hlt;have hlt:i<L.length:=ztd hlt;obtain⟨n,hn⟩:=zex (l:=L) hlt;have hnv:(L.map (zbJ q))[i]?=some (zbJ q n):=zmg hn;have hp28:=hp n (zAE9 hn);have hK2:(L.take (i+1)).flatMap zdk=(K++[(n.low,n.left)])++n.pairs:=by
   rw[zAZ9,hn,zDI9,<- hK];simp[zdk]
  have hKl:K.length<=29*i:=by
   rw[hK];have:∀M:LB,(∀n∈M,n.pairs.length<=28)->(M.flatMap zdk).length<=29*M.length:=fun M=>by
    induction M with
    | nil=>intro _;simp
    | cons z M ih =>
     intro h;have h1:=h z (zAM9 ..);have h2:=ih fun n hn=>h n (zAO9 _ hn);rw[zBR9,zAF9,zAH9];simp only[zdk,zAH9];omega
   have:=this (L.take i) fun n hn=>hp n (zBT9 hn);rw[zAU9]at this;omega
  refine zBb ?_;refine zGF (zr4 h1 h6 hnv hlt) ?_;have hbb:(K.length+1)*9<=140737488355328:=zo;refine zBd ?_;refine zdb (zel h4 h5 hbb h1 h6 zep zev zey zeo zyA zyB) ?_;refine zdb (zr3 hbb zyA zyB) ?_;refine zhM (zel h1 h4 h5 h6 hbb zep zev zey zeo zyB zyA) ?_;refine zb9 ?_;simp only[go_sem];refine zG ?_;have hKa:K.length+1=(K++[(n.low,n.left)]).length:=by simp
  have hKb:kP K++[uv n.left]=kP (K++[(n.low,n.left)]):=by simp
  have hKc:kL K++[uv n.low]=kL (K++[(n.low,n.left)]):=by simp
  refine zay (zbE (fun m s=>∃(j:Nat) (K2:LK) (G2:LP),m=n.pairs.length-j/\j<=n.pairs.length/\K2=K++[(n.low,n.left)]++n.pairs.take j/\s.tm 1=.ptr 0 0 0 0 2/\s.tm 4=.sl 1 K2.length 0 K2.length (2*K2.length) 1/\s.tm 5=.sl 2 K2.length 0 K2.length (2*K2.length) 1/\s.tm 6=iv i/\s.tm 7=.ptr (G.length+1+1+1) 0 0 0 6/\s.tm 8=iv j/\s.df=[]/\s.H=chH (zcg p q bs L) K2 (G++.row 143 6 0 0 [zbJ q n]::G2)) (n:=n.pairs.length) ?_ ?_)
  .refine⟨0,K++[(n.low,n.left)],?G0,rfl,zAG9 _,by simp,zu h1,zt,zt,zu h6,zt,zt,rfl,?H0⟩
   case H0 =>
    unfold chH;rw[<- hKa,<- hKb,<- hKc]
  .clear h1 h4 h5 h6;rintro m ⟨tm,df,H⟩ ⟨j,K2,G2,rfl,hj,hK3,h1,h4,h5,h6,h7,h8,rfl,rfl⟩;dsimp only at *
   have hK2l:K2.length<=100000:=by rw[hK3];simp;omega
   have hbb:(K2.length+1)*9<=140737488355328:=zo;unfold chH;refine zLh (zr3 h7 h8 zyA) ?_ ?_;rotate_left
   .intro hltj;have hltj:¬j<n.pairs.length:=zfd hltj;obtain rfl:j=n.pairs.length:=zo;refine zJF h6 ?_;refine⟨_,?m9,i+1,K2,_,rfl,hlt,by grind,zu h1,zu h4,zu h5,zu h6,rfl,rfl⟩;omega
   intro hltj;have hltj:j<n.pairs.length:=ztd hltj;obtain⟨x,hx⟩:=zex (l:=n.pairs) hltj;have hxv:(n.pairs.map pv)[j]?=some (pv x):=zmg hx;refine zBb ?_;refine zBd ?_;refine zda ?_ (by simp(disch:=omega)only[go_sem,hxv,h7,h8,gb0,h4,h5,hbb,ga0,zAR9,zAF9]<;>rfl) (by first|exact trivial|simp only[go_sem,hxv,hltj,h7,h8,gb0,gb1,zD3,h1,h4,h5,h6,hbb,zep,zev,zey,zeo,ga0,ga1,ga2,zAR9,zAF9]);refine zda ?_ (by simp(disch:=omega)only[go_sem,zD3,hbb,zAF9]<;>rfl) (by first|exact trivial|simp only[go_sem,zAF9]);refine zhM (zel h1 h4 h5 h6 hbb zep zev zey zeo zyB zyA) ?_;refine zb9 ?_;simp only[go_sem];refine zJF h8 ?_;refine⟨_,?m8,j+1,K2++[x],?G8,rfl,hltj,?k8,zu h1,zt,zt,zu h6,zu h7,zu h8,zt,?H8⟩
   case m8=>omega
   case k8=>rw[hK3,zAZ9,hx];simp
   case H8 =>
    simp only[zAF9,zAH9,zAP9,zBN9,zBA9,zBX9,zDA9];rfl


theorem f151:ET.funcs.get 151=some T151:=eG _ func151
theorem zk4(a:Int)(hw:zbL w.length):FR 81 [wv p w,iv a] (.bool (zci w.length a)):=by
 refine zfn (eG T81 func81) (.bool _) ?_
 by_cases h1:64<=w.length
 rotate_left
 .have g1:¬(64:Int)<=w.length:=zo;refine zOF g1 ?_;exact zbo.bool (by simp[zci,h1])
 have g1:(64:Int)<=w.length:=zo
 by_cases h2:w.length%64=0
 rotate_left
 .have g2:¬(w.length:Int).tmod 64=0:=by rw[IntWalk.rem_in _ _ zo];omega
  refine zOF (zr2 g1 g2) ?_;exact zbo.bool (by simp[zci,h1,h2])
 have g2:(w.length:Int).tmod 64=0:=by rw[IntWalk.rem_in _ _ zo];omega
 by_cases h3:w.length<=131072
 rotate_left
 .have g3:¬(w.length:Int)<=131072:=zo;refine zOF (zr3 g1 g2 g3) ?_;exact zbo.bool (by simp[zci,h1,h2,h3])
 have g3:(w.length:Int)<=131072:=zo
 by_cases h4:(0:Int)<=a
 rotate_left
 .refine zOF (zr4 g1 g2 g3 h4) ?_;exact zbo.bool (by simp[zci,h1,h2,h3,h4])
 refine zOF (zr4 g1 g2 g3 h4) ?_;exact zbo.bool (by simp[zci,h1,h2,h3,h4])
theorem zs1(bs:LN)(ns:LB)(k:Nat)(h:ns.length<=k):zc1 w (bs.drop k) (ns.drop k)=true:=by
 rw[zFN9 h]
 cases bs.drop k<;>rfl
theorem zs7(T:LG)(i:Nat)(L:Lev)(hL:T[i]?=some L):zcA w (T.drop i)=(zc1 w L.1 L.2&&(match T[i+1]? with|some M=>decide (L.2.flatMap zdk=zdJ M)&&zcA w (T.drop (i+1))|none=>true)):=by
 have hi:=(zAB9.1 hL).1;have e:T.drop i=L::T.drop (i+1):=by
  rw[zAK9 hi];rw[zAA9 hi]at hL;injection hL with hL;rw[hL]
 rw[e]
 cases hM:T[i+1]? with
 | none=>rw[zFN9 (by grind)];simp[zcA]
 | some M =>
  have hi1:=(zAB9.1 hM).1;have e1:T.drop (i+1)=M::T.drop (i+2):=by
   rw[zAK9 hi1];rw[zAA9 hi1]at hM;injection hM with hM;rw[hM]
  rw[e1,zcA,Bool.and_assoc]
def zl0(w:LN)(b:Nat)(n:zZ)(z:Option zZ):Bool:=decide (zb4 (zbD w b)=0)&&zdY n z
theorem zwS(a:Int)(hw:64<=w.length/\w.length<=131072)(T:LG)(hr:FR 81 [wv p w,iv a] (.bool true))(hl:FR 82 [wv p w,iv a] (.tuple [zcW T,.bool true]))(f1:∀L∈T,zjs w L)(f3:T ≠ [])(f5:T.length<=14):
  FR 151 [wv p w,iv a] (iv ((if zgq w T=true then 0 else 220:Nat):Int)):=by
 refine zfn f151 (.int _ _) ?_;obtain⟨L0,R,rfl⟩:∃L0 R,T=L0::R:=by
  cases T with
  | nil=>grind
  | cons a l=>grind
 have hT0:(List.map (fun L=>zcg 0 0 L.1 L.2) (L0::R))[0]?=some (zcg 0 0 L0.1 L0.2):=rfl;obtain⟨n0,hn0,hsb⟩:∃n0:zZ,(L0.2.map (zbJ 0))[0]?=some (zbJ 0 n0)/\ztj (L0::R)=decide (n0.sib=0):=by
  have:=(f1 L0 (zAM9 ..)).ne;obtain⟨bs,ns⟩:=L0
  cases ns with
  | nil=>grind
  | cons n ns=>exact⟨n,rfl,rfl⟩
 have hnl:0<L0.2.length:=zCD9.2 (f1 L0 (zAM9 ..)).ne;have hrl:0<R.length+1:=zCK9 _;refine zMG hr ?_;refine zcf ?_;refine zSk ?_;refine zM hl ?_
 by_cases hsib:n0.sib=0
 rotate_left
 .have g:¬(n0.sib:Int)=0:=zo;refine zSF (zr5 hT0 hn0 hnl hrl g) ?_;refine zO ?_;rw[if_neg (by unfold zgq;grind)];exact Frz.int _ _
 have g:(n0.sib:Int)=0:=zo;refine zTF (zr5 hT0 hn0 hnl hrl g) ?_;refine zSk ?_;refine zG ?_;have hset:zgq w (L0::R)=zcA w (L0::R):=by unfold zgq;rw[hsb,hsib];rfl
 rw[hset];clear hset hsb hT0 hn0 hnl hrl g hsib;have hTpos:0<(L0::R).length:=zCK9 _;have hTl:(L0::R).length=R.length+1:=rfl;generalize L0::R=T at *
 have bad:∀H,zcA w T=false->zbo H 0 (.ret (iv 220)) (.ret (iv ((if zcA w T=true then 0 else 220:Nat):Int))):=fun H h=>by rw[h];exact Frz.int _ _
 have good:zcA w T=true->((if zcA w T=true then 0 else 220:Nat):Int)=0:=fun h=>by grind
 refine zay (zbE (fun m s=>∃(i:Nat) (H:LP),m=T.length-i/\i<T.length/\zcA w T=zcA w (T.drop i)/\s.tm 0=wv p w/\s.tm 5=zcW T/\s.tm 7=iv i/\s.df=[]/\s.H=H) (n:=T.length) ?_ ?_)
 .exact⟨0,_,rfl,hTpos,rfl,zt,zt,zt,rfl,rfl⟩
 .rintro m ⟨tm,df,H⟩ ⟨i,H',rfl,hlt,hls,h0,h5,h7,rfl,rfl⟩;dsimp only at h0 h5 h7;have g7:(i:Int)<(T.length:Nat):=zo;refine zLh (zr3 h5 h7 g7) ?_ ?_;rotate_left
  .intro h;exact absurd h (by grind)
  intro _;obtain⟨L,hL⟩:=zex (l:=T) hlt;have hLT:(T.map fun L=>zcg 0 0 L.1 L.2)[i]?=some (zcg 0 0 L.1 L.2):=zmg hL;have hLF:=f1 L (zAE9 hL);rw[zs7 w T i L hL]at hls;have hbl:=hLF.lv.len;have hfew:=hLF.few;refine zBb ?_;refine zB ?_;refine zG ?_;refine zay (zbE (fun m s=>∃(k:Nat) (H:LP),m=L.2.length-k/\k<=L.2.length/\zc1 w L.1 L.2=zc1 w (L.1.drop k) (L.2.drop k)/\s.tm 0=wv p w/\s.tm 5=zcW T/\s.tm 7=iv i/\s.tm 8=iv k/\s.df=[]/\s.H=H) (n:=L.2.length) ?_ ?_)
  .exact⟨0,_,rfl,zAG9 _,rfl,zu h0,zu h5,zu h7,zt,rfl,rfl⟩
  clear h0 h5 h7;rintro m ⟨tm,df,H⟩ ⟨k,H',rfl,hk,hns,h0,h5,h7,h8,rfl,rfl⟩;dsimp only at *
  refine zLh (zr5 h5 h7 h8 hLT hlt) ?_ ?_
  .intro hltk;have hltk:k<L.2.length:=ztd hltk;obtain⟨n,hn⟩:=zex (l:=L.2) hltk;obtain⟨b,hb⟩:∃b,L.1[k]?=some b:=⟨_,zAA9 zo⟩
   have hnv:(L.2.map (zbJ 0))[k]?=some (zbJ 0 n):=zmg hn;have hbv:(L.1.map fun(b:Nat)=>iv (b:Int))[k]?=some (iv b):=zmg hb;have hltb:k<L.1.length:=zo;have hbb:=(hLF.lv.each b (zAE9 hb)).1;rw[zlM w L.1 L.2 k b n hb hn]at hns;have w1:IntKind.i64.wrap ((64:Int)*(b:Int))=((64*b:Nat):Int):=zwi;refine zBb ?_;refine zGF (zfM h5 h7 h8 hLT hlt hnv hbv hltk hltb w1) ?_;have e2:((64*b:Nat):Int)+64=((64*b+64:Nat):Int):=zo;have e3:64*b<=64*b+64:=zo;have e4:64*b+64<=w.length:=zo;have e6:0<w.length:=zo;have e5:List.drop (64*b) (List.take (64*b+64) (List.map uv w))=(zbD w b).map uv:=by simp[zbD,zBZ9,zCH9]
   have hC:=zlu p (zbD w b) (by unfold zbD zbL;simp;omega);refine ziE (fun tm=>tm 0=wv p w/\tm 5=zcW T/\tm 7=iv i/\tm 8=iv k/\tm 9=iv (64*b:Nat)/\tm 10=psv 0 n.pairs) ⟨zu h0,zu h5,zu h7,zu h8,zt,by simp[upd]⟩ ?_;clear h0 h5 h7 h8;rintro tm ⟨h0,h5,h7,h8,h9,h10⟩;refine zcF (Q:=fun y s'=>y=.norm/\s'.tm 0=wv p w/\s'.tm 5=zcW T/\s'.tm 7=iv i/\s'.tm 8=iv k/\s'.tm 112=.bool (!zl0 w b n L.2[k+1]?)/\s'.df=[]) (zbU ?_) ?_
   .have e1:(k:Int)+1=((k+1:Nat):Int):=zo;unfold zl0;generalize zb4 (zbD w b)=c at *
    refine zcw (zr7 h9 h0 e2 e3 e4 e5 e6) hC ?_
    by_cases hc:c=0
    rotate_left
    .have gc:¬(c:Int)=0:=zo;refine zQF gc ?_
     grind
    have gc:(c:Int)=0:=zo;rw[decide_eq_true hc,zCA9]
    by_cases hk1:k+1<L.2.length
    rotate_left
    .have g1:¬((k+1:Nat):Int)<(L.2.length:Nat):=zo;have hz:L.2[k+1]?=none:=zCF9 zo;refine zQF (zel gc g1 h0 h5 h7 h8 h9 h10 e1 hLT hlt) ?_;exact⟨h0,h5,h7,h8,by rw[hz];unfold zdY;grind⟩
    have g1:((k+1:Nat):Int)<(L.2.length:Nat):=zo;obtain⟨z,hz⟩:∃z,L.2[k+1]?=some z:=⟨_,zAA9 hk1⟩
    have hzv:(L.2.map (zbJ 0))[k+1]?=some (zbJ 0 z):=zmg hz;rw[hz]
    by_cases hp0:n.pairs=[]
    .have g2:¬(0:Int)<(n.pairs.length:Nat):=by rw[hp0];simp
     refine zQF (zb0 gc g1 g2 h0 h5 h7 h8 h9 h10 e1 hLT hlt) ?_;have hll:zdY n (some z)=true:=by unfold zdY;rw[hp0];rfl
     grind
    have hn28:=(hLF.lv.node (zAE9 hn)).1;have hpl:0<n.pairs.length:=zCD9.2 hp0;have g2:(0:Int)<(n.pairs.length:Nat):=zo;obtain⟨q,hq⟩:∃q,n.pairs.getLast?=some q:=by
     cases hh:n.pairs.getLast? with
     | none=>rw[zDS9]at hh;grind
     | some q=>grind
    have hq2:n.pairs[n.pairs.length-1]?=some q:=by rw[<- zCI9];exact hq
    have hqv:(n.pairs.map pv)[n.pairs.length-1]?=some (pv q):=zmg hq2;have g3:(n.pairs.length:Int)-1=((n.pairs.length-1:Nat):Int):=zo;have g4:n.pairs.length-1<n.pairs.length:=zo;have hll:zdY n (some z)=decide (q.1<z.low):=by unfold zdY;rw[hq]
    rw[hll]
    by_cases hqz:q.1<z.low
    .have g5:¬(z.low:Int)<=q.1:=zo;refine zQF (zb0 gc g1 g2 g3 g4 g5 hk1 hzv hqv h0 h5 (zr7 h7 h8 h9 h10 e1 hLT hlt)) ?_
     grind
    .have g5:(z.low:Int)<=q.1:=zo;refine zQF (zb0 gc g1 g2 g3 g4 g5 hk1 hzv hqv h0 h5 (zr7 h7 h8 h9 h10 e1 hLT hlt)) ?_
     grind
   clear h0 h5 h7 h8 h9 h10;rintro y ⟨tm,df,H⟩ ⟨rfl,h0,h5,h7,h8,h112,rfl⟩;dsimp only at *
   cases hok:zl0 w b n L.2[k+1]? with
   | false =>
    rw[hok]at h112;refine zj8 h112 ?_;refine zO ?_;exact bad _ (by rw[hls,hns];unfold zl0 at hok;grind)
   | true =>
    rw[hok]at h112;refine zp4 h112 ?_;refine zbX ?_;refine zJF h8 ?_;unfold zl0 at hok;refine⟨_,?m1,k+1,_,rfl,hltk,by rw[hns,hok,zCA9],zu h0,zu h5,zu h7,zu h8,rfl,rfl⟩;omega
  .intro hltk;have hltk:¬k<L.2.length:=zfd hltk;rw[zs1 w L.1 L.2 k zo]at hns;rw[hns,zCA9]at hls;have gT:(T.length:Int)-1=((T.length-1:Nat):Int):=zo
   by_cases hi1:i+1<T.length
   rotate_left
   .have g1:(i:Int)=((T.length-1:Nat):Int):=zo;have hM:T[i+1]?=none:=zCF9 zo;rw[hM]at hls;refine zSF (zr4 h5 h7 gT g1) ?_;refine zho ?_;refine zO ?_;rw[good hls];exact Frz.int _ _
   have g1:¬(i:Int)=((T.length-1:Nat):Int):=zo;obtain⟨M,hM⟩:∃M,T[i+1]?=some M:=⟨_,zAA9 hi1⟩
   rw[hM]at hls;dsimp only at hls;have hMT:(T.map fun L=>zcg 0 0 L.1 L.2)[i+1]?=some (zcg 0 0 M.1 M.2):=zmg hM;have hMF:=f1 M (zAE9 hM);have hml:=hMF.lv.len;have hMfew:=hMF.few;have hch:=zrP 0 0 L.1 L.2 zo fun n hn=>(hLF.lv.node hn).1;generalize L.2.flatMap zdk=K at *
   have e1:(i:Int)+1=((i+1:Nat):Int):=zo;refine zTF (zr4 h5 h7 gT g1) ?_;refine zSk ?_;refine zBr ?_;refine zbV (zr4 h5 h7 hLT hlt) ?_;refine zCN hch ?_;have hlow:(zdJ M).length=M.2.length:=by unfold zdJ;simp[hml]
   by_cases hKl:K.length=M.2.length
   rotate_left
   .have g2:¬(K.length:Int)=(M.2.length:Nat):=zo;refine zSF (zr6 h5 h7 e1 hMT hi1 g2) ?_;refine zO ?_;refine bad _ ?_
    grind
   have g2:(K.length:Int)=(M.2.length:Nat):=zo;refine zTF (zr6 h5 h7 e1 hMT hi1 g2) ?_;refine zSk ?_;refine zG ?_;refine zay (zbE (fun m s=>∃(j:Nat) (H:LP),m=K.length-j/\j<=K.length/\(∀q,q<j->K[q]?=(zdJ M)[q]?)/\s.tm 0=wv p w/\s.tm 5=zcW T/\s.tm 7=iv i/\s.tm 11=.list 0 1 (kP K)/\s.tm 12=.list 0 1 (kL K)/\s.tm 13=iv j/\s.df=[]/\s.H=H) (n:=K.length) ?_ ?_)
   .exact⟨0,_,rfl,zAG9 _,fun q hq=>absurd hq (Nat.not_lt_zero _),zu h0,zu h5,zu h7,zt,zt,zt,rfl,rfl⟩
   clear h0 h5 h7 h8 hns hch;rintro m ⟨tm,df,H⟩ ⟨j,H',rfl,hj,hsame,h0,h5,h7,h11,h12,h13,rfl,rfl⟩;dsimp only at *
   refine zLh (zr2 h11 h13) ?_ ?_;rotate_left
   .intro hltj;have hltj:¬j<K.length:=zfd hltj;have hKM:K=zdJ M:=zFL9 fun q=>by
     grind
    rw[decide_eq_true hKM,zCA9]at hls;refine zJF (zr2 h7 e1) ?_;refine⟨_,?m2,i+1,_,rfl,hi1,hls,zu h0,zu h5,zu h7,rfl,rfl⟩;omega
   intro hltj;have hltj:j<K.length:=ztd hltj;obtain⟨x,hx⟩:=zex (l:=K) hltj;obtain⟨z,hz⟩:∃z,M.2[j]?=some z:=⟨_,zAA9 zo⟩
   obtain⟨b,hb0⟩:∃b,M.1[j]?=some b:=⟨_,zAA9 zo⟩
   have hKv:(kP K)[j]?=some (uv x.2):=by rw[zAT9,hx];rfl
   have hLv:(kL K)[j]?=some (uv x.1):=by rw[zAT9,hx];rfl
   have hzv:(M.2.map (zbJ 0))[j]?=some (zbJ 0 z):=zmg hz;have hbv:(M.1.map fun(b:Nat)=>iv (b:Int))[j]?=some (iv b):=zmg hb0;have hb:j<M.1.length:=zo;have hzl:j<M.2.length:=zo;have hbb:=(hMF.lv.each b (zAE9 hb0)).1;have w1:IntKind.u64.wrap (b:Int)=(b:Int):=zwu;have hlj:(zdJ M)[j]?=some (z.low,b):=by unfold zdJ;rw[zDT9];exact⟨by rw[zAT9,hz];rfl,hb0⟩
   have hKf:¬x=(z.low,b)->zcA w T=false:=fun h=>by
    grind
   refine zBb ?_;refine zbG (zcF (Q:=fun y s'=>y=.norm/\s'.tm 0=wv p w/\s'.tm 5=zcW T/\s'.tm 7=iv i/\s'.tm 11=.list 0 1 (kP K)/\s'.tm 12=.list 0 1 (kL K)/\s'.tm 13=iv j/\s'.tm 173=.bool (!decide (x=(z.low,b)))/\s'.df=[]) (zbU ?_) ?_)
   .by_cases c1:x.2=b
    rotate_left
    .have d1:¬(x.2:Int)=b:=zo;refine zQF (zb0 d1 h5 h7 h11 h12 h13 e1 hMT hi1 hKv hLv (zr4 hltj hbv hb w1)) ?_;exact⟨h0,h5,h7,h11,h12,h13,by rw[decide_eq_false (fun e=>c1 (by rw[e]))];rfl⟩
    have d1:(x.2:Int)=b:=zo
    by_cases c2:x.1=z.low
    rotate_left
    .have d2:¬(x.1:Int)=z.low:=zo;refine zQF (zb0 d1 d2 hzv hzl h5 h7 h11 h12 h13 e1 hMT (zr7 hi1 hKv hLv hltj hbv hb w1)) ?_;exact⟨h0,h5,h7,h11,h12,h13,by rw[decide_eq_false (fun e=>c2 (by rw[e]))];rfl⟩
    have d2:(x.1:Int)=z.low:=zo;refine zQF (zb0 d1 d2 hzv hzl h5 h7 h11 h12 h13 e1 hMT (zr7 hi1 hKv hLv hltj hbv hb w1)) ?_
    grind
   clear h0 h5 h7 h11 h12 h13;rintro y ⟨tm,df,H⟩ ⟨rfl,h0,h5,h7,h11,h12,h13,h173,rfl⟩;dsimp only at *
   by_cases hxe:x=(z.low,b)
   rotate_left
   .rw[decide_eq_false hxe]at h173;refine zj8 h173 ?_;refine zO ?_;exact bad _ (hKf hxe)
   rw[decide_eq_true hxe]at h173;refine zp4 h173 ?_;refine zbX ?_;refine zJF h13 ?_;refine⟨_,?m3,j+1,_,rfl,hltj,fun q hq=>?q3,zu h0,zu h5,zu h7,zu h11,zu h12,zu h13,rfl,rfl⟩
   case m3=>omega
   case q3 =>
    rcases zCY9 q j with h|h
    .exact hsame q h
    grind
theorem zxr(a:Int)(hs:zbL w.length):FR 151 [wv p w,iv a] (iv (zkx w a:Nat)):=by
 have hr:=zk4 p w a hs;unfold zkx
 by_cases h:zci w.length a=true
 rotate_left
 .rw[if_neg h];rw[show zci w.length a=false by grind]at hr;refine zfn f151 (.int _ _) ?_;refine zMG hr ?_;refine zU ?_;exact Frz.int _ _
 rw[if_pos h];have hb:=(zeD _ _).1 h;rw[h]at hr;obtain⟨n,rfl⟩:∃n:Nat,a=n:=⟨a.toNat,by omega⟩
 rw[zCG9];have hl:=zkj p w ⟨hb.1,hb.2.2.1⟩ n zo;obtain⟨e1,e2⟩:=zik w n
 by_cases ht:(zbI w n).2=true
 rotate_left
 .rw[if_neg ht];rw[e1,show (zbI w n).2=false by grind]at hl;generalize (zcO w n).1=T at hl;refine zfn f151 (.int _ _) ?_;refine zMG hr ?_;refine zcf ?_;refine zSk ?_;refine zM hl ?_;refine zS ?_;refine zO ?_;exact Frz.int _ _
 rw[if_pos ht];rw[e1,e2 ht,ht]at hl;obtain⟨f1,f2,f3,f4,f5⟩:=zdQ (w:=w) (T:=(zbI w n).1) zo n (by grind);exact zwS p w n ⟨hb.1,hb.2.2.1⟩ _ hr hl f1 f3 f5


theorem f100:ET.funcs.get 100=some T100:=eG _ func100
def ziF(n:Nat)(fr:LM)(i:Nat)(f:Int):Bool:=decide (1<=f)&&decide (f<n) && !(fr.take i).contains f
def zhj(n:Nat)(fr:LM)(k:Nat):Bool:=(List.range k).all fun i=>ziF n fr i (fr.getD i 0)
theorem zpy(n:Nat)(fr:LM)(k:Nat):zhj n fr (k+1)=(zhj n fr k&&ziF n fr k (fr.getD k 0)):=by
 unfold zhj;grind
theorem zts(n:Nat)(fr:LM)(j:Nat):∀k,zhj n fr (j+k)=true->zhj n fr j=true
 | 0,h=>h
 | k+1,h=>by rw[<- zEG9,zpy,zAI9]at h;exact zts n fr j k h.1
def zpn(L:Lev)(fr:LM):Bool:=fr.all fun f=>!(L.1.map fun(b:Nat)=>(b:Int)).contains f
def ziz(T:LG)(fr:LM):Bool:=T.all fun L=>zpn L fr
variable {w:LN}
def zhh(w:LN)(a:Nat)(fr:LM):Bool:=zhj (w.length/64) fr fr.length&&(!(zcO w a).2||ziz (zcO w a).1 fr)
theorem zyE(p r:Nat)(w:LN)(hw:64<=w.length/\w.length<=131072)(a:Nat)(ha:a<w.length)(fr:LM)(hfl:fr.length<1000000)(hT:(zcO w a).1.length<=100)(hTb:∀L∈(zcO w a).1,L.1.length<=100000) :
  FR 150 [wv p w,iv a,.list r 1 (fr.map iv)] (.bool (zhh w a fr)):=by
 refine zfn (eG T150 func150) (.bool _) ?_;have hl:=zkj p w hw a ha;unfold zhh;generalize (zcO w a).1=T at *
 generalize (zcO w a).2=fine at *
 refine zG ?_;refine zay (zbE (fun m s=>∃(i:Nat) (H:LP),m=fr.length-i/\i<=fr.length/\zhj (w.length/64) fr i=true/\s.tm 0=wv p w/\s.tm 1=iv a/\s.tm 2=.list r 1 (fr.map iv)/\s.tm 7=iv i/\s.df=[]/\s.H=H) (n:=fr.length) ?_ ?_)
 .exact⟨0,_,rfl,zAG9 _,rfl,zt,zt,zt,zt,rfl,rfl⟩
 rintro m ⟨tm,df,H⟩ ⟨i,H',rfl,hi,hok,h0,h1,h2,h7,rfl,rfl⟩;dsimp only at *
 refine zLh (zr2 h2 h7) ?_ ?_
 .intro hlt;have hlt:i<fr.length:=ztd hlt;obtain⟨f,hf⟩:=zex (l:=fr) hlt;have hfv:(fr.map iv)[i]?=some (iv f):=zmg hf;have hfd:fr.getD i 0=f:=by rw[zAQ9,hf];rfl
  have hs:=zpy (w.length/64) fr i;rw[hok,zCA9,hfd]at hs;have q1:IntKind.i64.wrap ((w.length:Int).tdiv 64)=((w.length/64:Nat):Int):=by rw[IntWalk.i64_quo _ _ zo];omega
  have hq:IntKind.i64.wrap ((w.length:Int)/64)=((w.length/64:Nat):Int):=zwi;have htk:List.take i (fr.map iv)=(fr.take i).map iv:=by rw[zCH9]
  have hile:i<=fr.length:=hi;have hh:=zpE r (fr.take i) f (by grind);refine zBb ?_;refine zB ?_;refine zcF (Q:=fun y s'=>y=.norm/\s'.tm 0=wv p w/\s'.tm 1=iv a/\s'.tm 2=.list r 1 (fr.map iv)/\s'.tm 7=iv i/\s'.tm 42=.bool (!ziF (w.length/64) fr i f)/\s'.df=[]) (zbU ?_) ?_
  .unfold ziF
   by_cases c1:(1:Int)<=f
   rotate_left
   .have d1:f<1:=zo;refine ze6 (by first|exact trivial|simp only[go_sem,d1,h0,h2,h7,hfv,hlt]) (by simp(disch:=omega)only[go_sem,d1,h2,h7,hfv]<;>rfl) rfl (by simp only[go_sem,hlt]<;>rfl) (by simp only[go_sem]<;>rfl) ?_;refine zQF h7 ?_
    grind
   have d1:¬f<1:=zo;rw[decide_eq_true c1,zCA9]
   by_cases c2:f<((w.length/64:Nat):Int)
   rotate_left
   .have d2:((w.length/64:Nat):Int)<=f:=zo;refine ze6 (by first|exact trivial|simp only[go_sem,d1,d2,q1,h0,h2,h7,hfv,hlt]) (by simp(disch:=omega)only[go_sem,d1,d2,q1,h0,h2,h7,hfv]<;>rfl) rfl (by simp only[go_sem,hlt]<;>rfl) (by simp only[go_sem]<;>rfl) ?_;refine zQF h7 ?_
    grind
   have d2:¬((w.length/64:Nat):Int)<=f:=zo;rw[decide_eq_true c2,zCA9,Bool.not_not];refine zcw (zfM d1 d2 q1 htk hile h0 h2 h7 hfv hlt) hh ?_;refine zQF h7 ?_
   grind
  clear h0 h1 h2 h7;rintro y ⟨tm,df,H⟩ ⟨rfl,h0,h1,h2,h7,h42,rfl⟩;dsimp only at *
  cases hv:ziF (w.length/64) fr i f with
  | false =>
   rw[hv]at h42 hs;refine zj8 h42 ?_;refine zO ?_;refine zbo.bool ?_
   cases hk:zhj (w.length/64) fr fr.length with
   | false=>rfl
   | true =>
    obtain⟨d,hd⟩:∃d,fr.length=i+1+d:=⟨fr.length-(i+1),by omega⟩
    rw[hd]at hk;rw[zts _ _ _ _ hk]at hs
    cases hs
  | true =>
   rw[hv]at h42 hs;refine zp4 h42 ?_;refine zbX ?_;refine zJF h7 ?_;refine⟨_,?m1,i+1,_,rfl,hlt,hs,zu h0,zu h1,zu h2,zu h7,rfl,rfl⟩;omega
 intro hlt;have hlt:¬i<fr.length:=zfd hlt;obtain rfl:i=fr.length:=zo;rw[hok,zCA9];refine zBr ?_;refine zbV (zr2 h0 h1) ?_;refine zCN hl ?_;refine zG ?_;refine zay (zbE (fun m s=>∃(j:Nat) (H:LP),m=T.length-j/\j<=T.length/\(fine=true->ziz (T.take j) fr=true)/\(j=0\/fine=true)/\s.tm 2=.list r 1 (fr.map iv)/\s.tm 8=zcW T/\s.tm 9=.bool fine/\s.tm 10=iv j/\s.df=[]/\s.H=H) (n:=T.length) ?_ ?_)
 .exact⟨0,_,rfl,zAG9 _,fun _=>rfl,.inl rfl,zu h2,zt,zt,zt,rfl,rfl⟩
 clear h0 h1 h2 h7 hl;rintro m ⟨tm,df,H⟩ ⟨j,H',rfl,hj,hno,hj0,h2,h8,h9,h10,rfl,rfl⟩;dsimp only at *
 by_cases hgo:j<T.length/\fine=true
 rotate_left
 .have hend:(!fine||ziz T fr)=true:=by
   cases fine with
   | false=>rfl
   | true =>
    grind
  rw[hend]
  by_cases hlj:j<T.length
  .have g:(j:Int)<(T.length:Nat):=zo;obtain rfl:fine=false:=by grind
   refine zLh (zr4 h8 h9 h10 g) ?_ ?_
   .intro h;cases h
   intro _;refine zO ?_;exact Frz.bool _
  .have g:¬(j:Int)<(T.length:Nat):=zo;refine zLh (zr4 h8 h9 h10 g) ?_ ?_
   .intro h;cases h
   intro _;refine zO ?_;exact Frz.bool _
 obtain⟨hlj,rfl⟩:=hgo;have hno:=hno rfl;have g:(j:Int)<(T.length:Nat):=zo;refine zLh (zr4 h8 h9 h10 g) ?_ ?_;rotate_left
 .intro h;cases h
 intro _;obtain⟨L,hL⟩:=zex (l:=T) hlj;have hLT:(T.map fun L=>zcg 0 0 L.1 L.2)[j]?=some (zcg 0 0 L.1 L.2):=zmg hL;have hLb:=hTb L (zAE9 hL);refine zBb ?_;refine zG ?_;refine zay (zbE (fun m s=>∃(k:Nat) (H:LP),m=fr.length-k/\k<=fr.length/\(∀f∈fr.take k,¬(L.1.map fun(b:Nat)=>(b:Int)).contains f=true)/\s.tm 2=.list r 1 (fr.map iv)/\s.tm 8=zcW T/\s.tm 9=.bool true/\s.tm 10=iv j/\s.tm 11=iv k/\s.df=[]/\s.H=H) (n:=fr.length) ?_ ?_)
 .exact⟨0,_,rfl,zAG9 _,fun f hf=>by grind,zu h2,zu h8,zu h9,zu h10,zt,rfl,rfl⟩
 clear h2 h8 h9 h10;rintro m ⟨tm,df,H⟩ ⟨k,H',rfl,hk,hnk,h2,h8,h9,h10,h11,rfl,rfl⟩;dsimp only at *
 refine zLh (zr2 h2 h11) ?_ ?_;rotate_left
 .intro hlt;have hlt:¬k<fr.length:=zfd hlt;obtain rfl:k=fr.length:=zo;rw[zBE9]at hnk;refine zJF h10 ?_;refine⟨_,?m3,j+1,_,rfl,hlj,fun _=>?n3,.inr rfl,zu h2,zu h8,zu h9,zu h10,rfl,rfl⟩
  case m3=>omega
  case n3 =>
   unfold ziz at hno⊢;rw[zAZ9,hL,List.all_append,hno,zCA9];simp only[Option.toList_some,List.all_cons,List.all_nil,zGL9];unfold zpn
   grind
 intro hlt;have hlt:k<fr.length:=ztd hlt;obtain⟨f,hf⟩:=zex (l:=fr) hlt;have hfv:(fr.map iv)[k]?=some (iv f):=zmg hf;have hh:=zpE 0 (L.1.map fun(b:Nat)=>(b:Int)) f (by grind);rw[zvS]at hh;refine zBb ?_;refine zBd ?_;refine zcw (zr8 h2 h8 h10 h11 hLT hlj hfv hlt) hh ?_;refine zQF h2 ?_
 cases hc:(L.1.map fun(b:Nat)=>(b:Int)).contains f with
 | true =>
  refine zU ?_;refine zbo.bool ?_;rw[eq_comm];(first|(rw[Bool.or_eq_false_iff];refine⟨rfl,?_⟩)|skip);unfold ziz;rw[List.all_eq_false];refine⟨L,zAE9 hL,?_⟩;unfold zpn
  grind
 | false =>
  refine zH ?_;refine zJF h11 ?_;refine⟨_,?m4,k+1,_,rfl,hlt,?n4,zu h2,zu h8,zu h9,zu h10,zu h11,rfl,rfl⟩
  case m4=>omega
  case n4 =>
   intro g hg;rw[zAZ9,hf]at hg
   grind


theorem zri:∀(d:Nat) (seen:LN) (acc:LG) (b:Nat) (lv:Int),(zgF w d seen acc b lv).1=[]\/(zgF w d seen acc b lv).1=(zch w d seen acc b lv).1
 | 0,seen,acc,b,lv=>.inl rfl
 | d+1,seen,acc,b,lv=>by
  rw[zgF,zch]
  cases hr:zcu w lv (w.length/64) seen [] [] b with
  | none=>grind
  | some r =>
   obtain⟨s',bs,ns⟩:=r
   cases ns with
   | nil=>grind
   | cons n ns =>
    simp only
    by_cases hl:n.level=0
    .grind
    .rw[if_neg hl,if_neg hl];exact zri d _ _ _ _
theorem zqx(hw:w.length<=131072)(a:Nat):(∀L∈(zcO w a).1,zjs w L)/\(zcO w a).1.length<=14:=by
 have hle:=zid w 14 [] [] (w.getD a 0) (-1);have hf:=(zgB hw 14 [] [] (w.getD a 0) (-1) (fun L hL=>by grind)).1;rcases zri (w:=w) 14 [] [] (w.getD a 0) (-1)with h|h
 .unfold zcO;grind
 .unfold zcO;grind
def zgy(w:LN)(a:Int)(fr:LM):Nat:=if zci w.length a=true then if zhh w a.toNat fr=true then zkx w a else 2 else 2
theorem zxx(p r:Nat)(w:LN)(a:Int)(fr:LM)(hs:zbL w.length)(hfl:fr.length<1000000):FR 100 [wv p w,iv a,.list r 1 (fr.map iv)] (iv (zgy w a fr:Nat)):=by
 have hr:=zk4 p w a hs;have hc:=zxr p w a hs;unfold zgy
 by_cases h:zci w.length a=true
 rotate_left
 .rw[if_neg h];rw[show zci w.length a=false by grind]at hr;refine zfn f100 (.int _ _) ?_;refine zMG hr ?_;refine zU ?_;exact Frz.int _ _
 rw[if_pos h];have hb:=(zeD _ _).1 h;rw[h]at hr;obtain⟨n,rfl⟩:∃n:Nat,a=n:=⟨a.toNat,by omega⟩
 rw[zCG9];obtain⟨t1,t2⟩:=zqx (w:=w) hb.2.2.1 n;have hf:=zyE p r w ⟨hb.1,hb.2.2.1⟩ n zo fr hfl zo fun L hL=>by have:=t1 L hL;have h1:=this.lv.len;have h2:=this.few;omega
 by_cases h2:zhh w n fr=true
 rotate_left
 .rw[if_neg h2];rw[show zhh w n fr=false by grind]at hf;refine zfn f100 (.int _ _) ?_;refine zGI ?_;refine zca hr ?_;refine zfx ?_;refine zCN hf ?_;refine zU ?_;exact Frz.int _ _
 rw[if_pos h2];rw[h2]at hf;refine zfn f100 (.int _ _) ?_;refine zGI ?_;refine zca hr ?_;refine zfx ?_;refine zCN hf ?_;refine zcf ?_;refine zSk ?_;refine zI ?_;refine zca hc ?_;refine zP ?_;exact Frz.int _ _
structure zsk(w:LN)(b0 key:Nat)(ws:LN):Prop where
 first:ws[0]?=some b0
 inn:∀b∈ws,64*b+64<=w.length
 next:∀(i:Nat) (b c:Nat),ws[i]?=some b->ws[i+1]?=some c->zc9 (zbD w b) key=(c,0)
 last:∀b,ws.getLast?=some b->¬(zc9 (zbD w b) key).2=0
 few:ws.length<=20
variable {G M e:Nat}{fr:LM}{n:Nat}{v v':PV}{z:Nat}(key p:Nat)
theorem zAP(w:LN)(a key:Nat)(ws:LN)(hw:w.length<=131072)(ha:a<w.length)(hW:zsk w (w.getD a 0) key ws):FR 101 [wv p w,iv a,uv key] (.list 0 1 (ws.map fun(b:Nat)=>iv (b:Int))):=by
 refine zfn (eG T101 func101) (Lb.ivn _) ?_;have hwa:=zdZ ha;obtain⟨h1,h2,h3,h4,h5⟩:=hW;generalize w.getD a 0=b0 at *
 have hne:0<ws.length:=(zAB9.1 h1).1;have hb0:=h2 b0 (zAE9 h1);have w1:IntKind.i64.wrap (b0:Int)=(b0:Int):=zwi;refine zGF (zr3 hwa ha w1) ?_;refine zay (zbE (fun m s=>∃(i:Nat) (V:LN) (G:LP),m=ws.length-i/\i<ws.length/\V=ws.take (i+1)/\s.tm 0=wv p w/\s.tm 2=uv key/\s.tm 7=.sl 0 i 0 V.length (2*V.length) 1/\s.tm 8=iv i/\s.df=[]/\s.H=.row 3 1 i 0 (V.map fun(b:Nat)=>iv (b:Int))::G) (n:=ws.length) ?_ ?_)
 .refine⟨0,[b0],[],rfl,hne,?v0,zt,zt,zt,zt,rfl,rfl⟩
  case v0=>rw[zAZ9,h1];rfl
 rintro m ⟨tm,df,H⟩ ⟨i,V,G,rfl,hi,hV,t0,t2,t7,t8,rfl,rfl⟩;dsimp only at t0 t2 t7 t8;have hVl:V.length=i+1:=by rw[hV,zAU9];omega
 have g:(i:Int)<20:=zo;refine zLh (zr2 t8 g) ?_ ?_;rotate_left
 .intro h;cases h
 intro _;obtain⟨b,hb⟩:=zex (l:=ws) hi;have hbb:=h2 b (zAE9 hb);have hVb:V[i]?=some b:=by rw[hV,zCQ9,if_pos zo];exact hb
 have hVv:(V.map fun(b:Nat)=>iv (b:Int))[i]?=some (iv b):=zmg hVb;have e0:(V.length:Int)-1=(i:Int):=zo;have e7:i<V.length:=zo;have e1:IntKind.i64.wrap ((64:Int)*(b:Int))=((64*b:Nat):Int):=zwi;have e2:((64*b:Nat):Int)+64=((64*b+64:Nat):Int):=zo;have e3:64*b<=64*b+64:=zo;have e6:0<w.length:=zo;have e5:List.drop (64*b) (List.take (64*b+64) (List.map uv w))=(zbD w b).map uv:=by simp[zbD,zBZ9,zCH9]
 have hC:=zwc p key (zbD w b) (by unfold zbD zbL;simp;omega);refine zBb ?_;refine zB ?_;refine zbO (zr4 t7 e0 e7 hVv) ?_;refine zIF (zr8 t0 t2 e1 e2 e3 e5 e6 hbb) ?_;refine zca hC ?_
 by_cases hc:(zc9 (zbD w b) key).2=0
 rotate_left
 .have g2:¬(((zc9 (zbD w b) key).2:Nat):Int)=0:=zo;refine zN ?_;refine zSF g2 ?_;refine zho ?_;(repeat(first|refine zbG ?_|refine zbO t7 ?_));refine zbK (zfr ?_);have hil:i+1=ws.length:=by
   rcases zCY9 (i+1) ws.length with h|h
   .have:=h3 i b _ hb (zAA9 h)
    grind
   .omega
  have hVw:V=ws:=by rw[hV,hil,zBE9]
  subst hVw;exact Frz.wh (e:=3) (z':=1) (l:=V.map fun(b:Nat)=>iv (b:Int)) rfl rfl (by simp) (by simp) zmm zgN
 have hil:i+1<ws.length:=by
  rcases zCY9 (i+1) ws.length with h|h
  .exact h
  .exact absurd hc (h4 b (by rw[zCI9,show ws.length-1=i by omega];exact hb))
 obtain⟨c,hcc⟩:∃c,ws[i+1]?=some c:=⟨_,zAA9 hil⟩
 have hch:=h3 i b c hb hcc;rw[hch];refine zN ?_;refine zT ?_;refine zSk ?_;have hbb2:(V.length+1)*9<=140737488355328:=zo;refine zB ?_;refine zB ?_;refine zd6 (zr2 t7 hbb2) ?_;refine zdg ?_;refine zB ?_;refine zd6 t8 ?_;refine zdg ?_;refine⟨_,?m,i+1,V++[c],?G,rfl,hil,?hV,by simp[upd,t0],by simp[upd,t2],zt,by simp[upd],zt,?H⟩
 case m=>omega
 case hV=>rw[zAZ9 (i:=i+1),hcc,<- hV];rfl
 case H=>(try dsimp only);rw[zBA9];rfl


theorem zDY(x:Wk)(hfr:Id0 x.fr)(b:Nat)(hb:64*b+64<=x.W.length)(hW:x.W.length<=131072):FP ET 103 [wkv x,iv b] (.ret (wv x.p (zbD x.W b))):=by
 refine zfp (eG T103 func103) ?_;have e1:IntKind.i64.wrap ((64:Int)*(b:Int))=((64*b:Nat):Int):=zwi;have e2:((64*b:Nat):Int)+64=((64*b+64:Nat):Int):=zo;have e3:64*b<=64*b+64:=zo;have e6:0<x.W.length:=zo;have e5:List.drop (64*b) (List.take (64*b+64) (List.map uv x.W))=(zbD x.W b).map uv:=by simp[zbD,zBZ9,zCH9]
 unfold wkv;refine zOF (zr6 e1 e2 e3 e5 e6 hb) ?_;exact Frz.list _ _ _
theorem zwe(w:LN)(b:Nat)(h:64*b+64<=w.length):(zbD w b).length=64:=by unfold zbD;grind
def zFe(w:LN):LK:=(List.range w.length).map fun i=>(i,w.getD i 0)


def Wk.up(x:Wk):Wk:=⟨x.p,x.q,x.W,x.L,x.fr,x.used+1⟩


theorem zAD(a:Nat)(l:LK):(zcN a l).length=l.length:=by unfold zcN;simp
def Wk.cut(x:Wk)(b to:Nat):Wk:=(x.up.does (zcN (64*to) (zFe (zdA (zFA (headN (zbD x.W b))))))).does (zcN (64*b) (zFy (headN (zbD x.W b)) to))
def Wk.fin(y:Wk)(ab to low:Nat):Wk×Nat×Nat×Nat:=(y.does (zcN (64*ab) (zED (zbD y.W ab) (low,to)).1),to,low,0)


@[reducible] def zEp (ws:LN):LQ:=ws.map fun (b:Nat)=>iv (b:Int)


theorem zu9{lv:Int}:∀(k:Nat) (seen:LN) (b:Nat) (r:LN×LN×LB),zcu w lv k seen [] [] b=some r->r.2.2 ≠ []->r.2.1.head?=some b
 | 0,seen,b,r,h,hr=>by
  rw[zcu]at h
  grind
 | k+1,seen,b,r,h,hr=>by
  rw[zcu]at h
  split at h
  .grind
  split at h
  .cases h
  split at h
  rotate_left
  .cases h
  obtain⟨X,h1,_⟩:=zh8 _ _ _ _ _ _ h
  grind
structure zE1(b:Nat)(X:LG):Prop where
 first:∃M,X.head?=some M/\M.1.head?=some b
 apart:X.Pairwise fun L M=>∀c∈L.1,c ∉ M.1
 leaf:∀L,X.getLast?=some L->∀n∈L.2,n.level=0
 pos:∀L∈X,∀c∈L.1,c≠0
theorem zmM(hw:w.length<=131072):∀(d:Nat) (seen:LN) (acc:LG) (b:Nat) (lv:Int),(zch w d seen acc b lv).2=true->∃X,(zch w d seen acc b lv).1=acc++X/\zE1 b X/\∀L∈X,∀c∈L.1,c ∉ seen
 | 0,_,_,_,_,h=>by cases h
 | d+1,seen,acc,b,lv,h=>by
  rw[zch]at h⊢
  cases hr:zcu w lv (w.length/64) seen [] [] b with
  | none=>rw[hr]at h;cases h
  | some r =>
   obtain⟨s',bs,ns⟩:=r;rw[hr]at h
   cases ns with
   | nil=>cases h
   | cons n ns =>
    have hh:=zu9 _ _ _ _ hr (by simp);obtain⟨X,x1,x2,x3,x4⟩:=zh8 _ _ _ _ _ _ hr;obtain⟨hF,_,_⟩:=zhz (N:=2048) _ _ _ _ _ _ hr (LvF.nil w) (fun n hn=>by simp at hn) (by simp;omega);dsimp only at hh x1 x2 hF h⊢;rw[zAV9]at x1;subst x1
    by_cases hl:n.level=0
    .rw[if_pos hl]at h⊢;refine⟨[(bs,n::ns)],rfl,⟨⟨_,rfl,hh⟩,List.pairwise_singleton _ _,fun L hL m hm=>?_,fun L hL c hc=>?_⟩,fun L hL c hc=>?_⟩
     .simp at hL;subst hL;exact(hF.same m hm n rfl).trans hl
     .simp at hL;subst hL;exact(x4 c hc).2
     .simp at hL;subst hL;exact(x4 c hc).1
    .rw[if_neg hl]at h⊢;obtain⟨Y,y1,⟨y2,y3,y4,y6⟩,y5⟩:=zmM hw d s' _ _ _ h;refine⟨(bs,n::ns)::Y,by rw[y1];simp,⟨⟨_,rfl,hh⟩,List.pairwise_cons.2 ⟨fun M hM c hc hcM=>y5 M hM c hcM ?_,y3⟩,fun L hL=>?_,fun L hL c hc=>?_⟩,fun L hL c hc=>?_⟩
     .rw[x2];exact zEX9 _ (List.mem_reverse.2 hc)
     .obtain⟨M,hM,_⟩:=y2
      cases Y with
      | nil=>cases hM
      | cons a Y=>exact y4 L (by rw[zEO9]at hL;exact hL)
     .rcases zAX9.1 hL with rfl|hL
      .exact(x4 c hc).2
      .exact y6 L hL c hc
     .rcases zAX9.1 hL with rfl|hL
      .exact(x4 c hc).1
      .intro hs;exact y5 L hL c hc (by rw[x2];exact zET9 _ hs)
theorem zhv:∀{bs:LN} {ns:LB},bs.length=ns.length->zc1 w bs ns=true->∀b∈bs,zb4 (zbD w b)=0
 | [],_,_,_,b,hb=>by grind
 | b'::bs,[],h,_,_,_=>by simp at h
 | b'::bs,n::ns,h,hs,b,hb=>by
  rw[zc1,zAI9,zAI9]at hs;rcases zAX9.1 hb with rfl|hb
  .grind
  .exact zhv (by grind) hs.2 b hb
def zj3(w:LN)(key:Nat):LG->Nat->LN
 | [],_=>[]
 | [_],b=>[b]
 | _::M::T,b=>b::zj3 w key (M::T) (zc9 (zbD w b) key).1
structure zFw(w:LN)(key:Nat)(T:LG)(b:Nat)(ws:LN):Prop where
 first:ws[0]?=some b
 next:∀(i:Nat) (b c:Nat),ws[i]?=some b->ws[i+1]?=some c->zc9 (zbD w b) key=(c,0)
 last:∀b,ws.getLast?=some b->¬(zc9 (zbD w b) key).2=0
 len:ws.length=T.length
 mem:∀(i c:Nat),ws[i]?=some c->∃L,T[i]?=some L/\c∈L.1
theorem zv5{key:Nat}:∀(T:LG) (b:Nat),(∀L∈T,zjs w L)->zcA w T=true->(∀L∈T.dropLast,zjq L)->(∀L,T.getLast?=some L->∀n∈L.2,n.level=0)->(∃L,T.head?=some L/\b∈L.1)->zFw w key T b (zj3 w key T b)
 | [],b,_,_,_,_,h=>by obtain⟨L,h,_⟩:=h;cases h
 | [L],b,hF,hs,_,hlf,h=>by
  obtain⟨L',h,hb⟩:=h;simp at h;subst h;have hLF:=hF L (zAM9 ..);rw[zcA]at hs;have hc:=zhv hLF.lv.len hs b hb;have hn:headN (zbD w b)∈L.2:=by rw[hLF.lv.is];exact zAJ9.2 ⟨b,hb,rfl⟩
  have hl:=hlf L rfl _ hn;refine⟨rfl,fun i b' c h1 h2=>by simp[zj3]at h2,fun c hcc=>?_,rfl,fun i c hi=>?_⟩
  .simp[zj3]at hcc;subst hcc;unfold zc9;rw[if_pos hc,if_pos hl]
   decide
  .cases i with
   | zero=>simp[zj3]at hi;subst hi;exact⟨L,rfl,hb⟩
   | succ i=>simp[zj3]at hi
 | L::M::T,b,hF,hs,hp,hlf,h=>by
  obtain⟨L',h,hb⟩:=h;simp at h;subst h;have hLF:=hF L (zAM9 ..);have hMF:=hF M (zAO9 _ (zAM9 ..));rw[zcA,zAI9,zAI9]at hs;obtain⟨⟨hs1,hs2⟩,hs3⟩:=hs;have hs2:=of_decide_eq_true hs2;have hc:=zhv hLF.lv.len hs1 b hb;have hn:headN (zbD w b)∈L.2:=by rw[hLF.lv.is];exact zAJ9.2 ⟨b,hb,rfl⟩
  have hl:0<(headN (zbD w b)).level:=hp L (by simp[List.dropLast]) _ hn;have hch:zc9 (zbD w b) key=(zeZ (headN (zbD w b)).left (headN (zbD w b)).pairs key,0):=by
   unfold zc9;rw[if_pos hc,if_neg zo]
  have hk:∃q∈zdk (headN (zbD w b)),zeZ (headN (zbD w b)).left (headN (zbD w b)).pairs key=q.2:=by
   rcases zqV (headN (zbD w b)).pairs key (headN (zbD w b)).left with h|⟨q,hq,h⟩
   .exact⟨_,zAM9 ..,h⟩
   .exact⟨q,zAO9 _ hq,h⟩
  obtain⟨q,hq,hk⟩:=hk;have hq2:q∈zdJ M:=by rw[<- hs2];exact zBB9.2 ⟨_,hn,hq⟩
  have hcM:(zc9 (zbD w b) key).1∈M.1:=by
   rw[hch];dsimp only;rw[hk];unfold zdJ at hq2;exact(zFG9 (show (q.1,q.2)∈_ from hq2)).2
  have ih:=zv5 (key:=key) (M::T) (zc9 (zbD w b) key).1 (fun K hK=>hF K (zAO9 _ hK)) hs3 (fun K hK=>hp K (by rw[List.dropLast_cons_cons];exact zAO9 _ hK)) (fun K hK=>hlf K (by rw[zEO9];exact hK)) ⟨M,rfl,hcM⟩;have hw:zj3 w key (L::M::T) b=b::zj3 w key (M::T) (zc9 (zbD w b) key).1:=rfl;rw[hw];generalize zj3 w key (M::T) (zc9 (zbD w b) key).1=ws at ih;obtain⟨i1,i2,i3,i4,i5⟩:=ih;refine⟨rfl,fun i b' c h1 h2=>?_,fun c hcc=>?_,by simp at i4⊢;exact i4,fun i c hi=>?_⟩
  .cases i with
   | zero =>
    grind
   | succ i=>grind
  .cases ws with
   | nil=>grind
   | cons a ws=>rw[zEO9]at hcc;grind
  .cases i with
   | zero=>grind
   | succ i=>exact i5 i c (by grind)


theorem znK:∀{T:LG},zcA w T=true->∀L∈T,zc1 w L.1 L.2=true
 | [],_,L,h=>by simp at h
 | [L],hs,K,h=>by simp at h;subst h;exact hs
 | L::M::T,hs,K,h=>by
  rw[zcA,zAI9,zAI9]at hs;rcases zAX9.1 h with rfl|h
  .exact hs.1.1
  .exact znK hs.2 K h
structure zvW(w:LN)(n key:Nat)(fr:LN)(ws:LN):Prop where
 way:zsk w (w.getD n 0) key ws
 chk:∀b∈ws,zb4 (zbD w b)=0
 inn:∀b∈ws,b<w.length/64
 nd:ws.Nodup
 few:ws.length<=14
 ne:ws ≠ []
 frN:∀f∈fr,1<=f/\f<w.length/64
 out:∀f∈fr,f ∉ ws
 pos:∀b∈ws,b≠0
theorem zvf{fr:LN}(hw:w.length<=131072)(ht:(zbI w n).2=true)(hs:zgq w (zbI w n).1=true)(hf1:∀f∈fr,1<=f/\f<w.length/64)(hf2:ziz (zbI w n).1 (fr.map fun(b:Nat)=>(b:Int))=true):∃ws,zvW w n key fr ws:=by
 obtain⟨f1,f2,f3,f4,f5⟩:=zdQ (w:=w) (T:=(zbI w n).1) hw n (by rw[<- ht]);obtain⟨X,x1,⟨x2,x3,x4,x5⟩,_⟩:=zmM hw 14 [] [] (w.getD n 0) (-1) ht;have hX:(zbI w n).1=X:=by rw[show (zbI w n).1=[]++X from x1,zAV9]
 rw[hX]at hs f1 f2 f3 f5 hf2;unfold zgq at hs;rw[zAI9]at hs;obtain⟨M,hM,hMb⟩:=x2;have hmem:∃L,X.head?=some L/\w.getD n 0∈L.1:=⟨M,hM,by cases h:M.1 with|nil=>rw[h]at hMb;cases hMb|cons a l=>rw[h]at hMb;injection hMb with hMb;rw[hMb];exact zAM9 ..⟩
 have hwy:=zv5 (w:=w) (key:=key) X (w.getD n 0) f1 hs.2 f2 x4 hmem;generalize zj3 w key X (w.getD n 0)=ws at hwy;obtain⟨w1,w2,w3,w4,w5⟩:=hwy;have hin:∀b∈ws,∃L∈X,b∈L.1:=fun b hb=>by
  obtain⟨i,hi⟩:=zDR9.1 hb;obtain⟨L,hL,hbL⟩:=w5 i b hi;exact⟨L,zAE9 hL,hbL⟩
 have hlt:∀b∈ws,b<w.length/64:=fun b hb=>by
  obtain⟨L,hL,hbL⟩:=hin b hb;exact((f1 L hL).lv.each b hbL).1
 refine⟨ws,⟨w1,fun b hb=>by have:=hlt b hb;omega,w2,w3,by omega⟩,fun b hb=>?_,hlt,?_,by omega,fun e=>by subst e;simp at w1,hf1,fun f hf hfw=>?_,fun b hb=>?_⟩
 .obtain⟨L,hL,hbL⟩:=hin b hb;exact zhv (f1 L hL).lv.len (znK hs.2 L hL) b hbL
 .refine zEK9.2 fun i j hi hj hij e=>?_;obtain⟨L,hL,hbL⟩:=w5 i _ (zAA9 hi);obtain⟨K,hK,hbK⟩:=w5 j _ (zAA9 hj);rw[e]at hbL;obtain⟨hi1,hi2⟩:=zAB9.1 hL;obtain⟨hj1,hj2⟩:=zAB9.1 hK;have:=(zEK9.1 x3) i j hi1 hj1 hij;rw[hi2,hj2]at this;exact this _ hbL hbK
 .obtain⟨L,hL,hbL⟩:=hin f hfw;unfold ziz at hf2;have h1:=zBQ9.1 hf2 L hL;unfold zpn at h1;have h2:=zBQ9.1 h1 (f:Int) (zAJ9.2 ⟨f,hf,rfl⟩);rw[zl6]at h2;simp[hbL]at h2
 .obtain⟨L,hL,hbL⟩:=hin b hb;exact x5 L hL b hbL
theorem zxf(h:zhj n fr fr.length=true):∀f∈fr,1<=f/\f<n:=fun f hf=>by
 obtain⟨i,hi⟩:=zDR9.1 hf;have hlt:=(zAB9.1 hi).1;unfold zhj at h;have:=zBQ9.1 h i (zCT9.2 hlt);rw[zAQ9,hi]at this;unfold ziF at this;simp only[zFO9,zAI9,decide_eq_true_eq]at this;exact this.1
theorem zCq{a:Int}(h:zgy w a fr=0):∃(n:Nat) (frN ws:LN),a=n/\n<w.length/\64<=w.length/\w.length<=131072/\fr=frN.map (fun(b:Nat)=>(b:Int))/\(zbI w n).2=true/\zgq w (zbI w n).1=true/\zvW w n key frN ws:=by
 unfold zgy at h
 split at h
 rotate_left
 .cases h
 rename_i hr;have hb:=(zeD _ _).1 hr;obtain⟨n,rfl⟩:∃n:Nat,a=n:=⟨a.toNat,by omega⟩
 rw[zCG9]at h
 split at h
 rotate_left
 .cases h
 rename_i hf;unfold zkx at h;rw[if_pos hr,zCG9]at h
 split at h
 rotate_left
 .cases h
 rename_i ht
 split at h
 rotate_left
 .cases h
 rename_i hs;unfold zhh at hf;obtain⟨e1,e2⟩:=zik w n;rw[e1,ht,e2 ht,zAI9,Bool.not_true,zFB9]at hf;have he:=zxf hf.1;have hfr:fr=(fr.map Int.toNat).map (fun(b:Nat)=>(b:Int)):=by
  rw[zDV9]
  conv=>lhs;rw[<- List.map_id fr]
  exact zDO9 fun f hf=>by have:=he f hf;simp;omega
 have hf1:∀f∈fr.map Int.toNat,1<=f/\f<w.length/64:=fun f hf=>by
  obtain⟨g,hg,rfl⟩:=zAJ9.1 hf;have:=he g hg;omega
 obtain⟨ws,hS⟩:=zvf key hb.2.2.1 ht hs hf1 (by rw[<- hfr];exact hf.2);exact⟨n,fr.map Int.toNat,ws,rfl,by omega,hb.1,hb.2.2.1,hfr,ht,hs,hS⟩
theorem zyI:∀(l:LK) (x:Wk),x.q=0->(x.does l).q=0
 | [],_,h=>h
 | c::l,x,_=>zyI l (x.one c) rfl


theorem HR.nilBox{B:Ba}{c:Cx}{H:LP}{h:TH}(k:HR B c H h){b:Nat}(hb:H[b]?=some (.row e z G M [v]))(hl:v'.cells.length=v.cells.length)(hw:∀(i:Nat) (x y:PV),v.cells[i]?=some x->v'.cells[i]?=some y->y=x\/(x=.nilsl/\∃p z,y=.list p z [])):HR B c (H.set b (.row e z G M [v'])) h:=by
 have hlt:=(zAB9.1 hb).1;refine⟨k.le,k.keep,k.old,fun p b' hb'=>⟨(k.S p b' hb').1,fun id x hx e'=>?_⟩,fun id x hx=>by rw[zBW9];exact k.own id x hx,fun id hx=>by rw[zBW9];exact k.lz id hx,k.inj,fun id o ho=>?_⟩
 .have:=(k.S p b' hb').2 id x hx e'
  grind
 .by_cases hi:b=id
  .subst hi;rw[zAY9 hlt]at ho
   cases ho
   rcases k.obj _ _ hb with⟨h1,_⟩|⟨b1,d,G',M',cells,cs,r1,r2,r3,r4,r5,r6⟩
   .cases h1
   .refine .inr ⟨b1,d,G',M',cells,cs,r1,r2,r3,r4,r5,ER.one' (by rw[hl];exact r6.one v (by simp)) ?_⟩;have hall:LR (VR c h) v.cells cs:=by have:=r6.all;simpa using this
    refine⟨by rw[hl];exact hall.1,fun j x y hx hy=>?_⟩;obtain⟨x0,hx0⟩:∃x0,v.cells[j]?=some x0:=⟨_,zAA9 (by grind)⟩
    have hv:=hall.2 j x0 y hx0 hy;rcases hw j x0 x hx0 hx with rfl|⟨rfl,p,z,rfl⟩
    .exact hv
    .obtain rfl:y=.nilsl:=by cases hv with|pure hv=>cases hv;rfl
     exact .pure (.listnil _ _)
  .rw[zAS9 hi]at ho;exact k.obj id o ho
theorem zBD{E:Env}{caught:LD}{rnd:LA}{code:zbN}{s:FSt}{Q:FX->FSt->Prop}(b:Nat)(hb:s.H[b]?=some (.row e z G M [v]))(hl:v'.cells.length=v.cells.length)(hw:∀(i:Nat) (x y:PV),v.cells[i]?=some x->v'.cells[i]?=some y->y=x\/(x=.nilsl/\∃p z,y=.list p z []))(k:W E caught rnd code ⟨s.tm,s.df,s.H.set b (.row e z G M [v'])⟩ Q):W E caught rnd code s Q:=fun B c t rnd' hs hn =>
 k B c t rnd' ⟨hs.hr.nilBox hb hl hw,hs.tm,hs.df⟩ hn
theorem zAQ(r:Nat)(w:LN)(f:PV):∀(i:Nat) (x y:PV),(PV.agg [wv p w,.nilsl,f,iv 0]).cells[i]?=some x->(PV.agg [wv p w,.list r 2 [],f,iv 0]).cells[i]?=some y->y=x\/(x=.nilsl/\∃p z,y=.list p z []):=fun i x y hx hy=>by
 match i with
 | 0=>injection hx with hx;injection hy with hy;grind
 | 1=>injection hx with hx;injection hy with hy;grind
 | 2=>injection hx with hx;injection hy with hy;grind
 | 3=>injection hx with hx;injection hy with hy;grind
 | k+4=>simp[PV.cells]at hx
def Wk.put(y:Wk)(lf:Nat)(pr:Pr):LK×Nat×Nat:=((y.does (zcN (64*lf) (zED (zbD y.W lf) pr).1)).L,y.used,0)
@[reducible] def LtU (x:Nat):Prop:=x < 18446744073709551616
def WB(w:LN):Prop:=∀x∈w,LtU x
def PB(l:LK):Prop:=∀c∈l,LtU c.1/\LtU c.2
def BB(l:LK):Prop:=∀c∈l,LtU c.2
variable {l:LK}
theorem WB.get(h:WB w)(i:Nat):LtU (w.getD i 0):=by
 rw[zAQ9]
 cases hx:w[i]? with
 | none=>exact zCK9 _
 | some x=>exact h x (zAE9 hx)
theorem PB.get(h:PB l)(i:Nat):LtU (l.getD i (0,0)).1/\LtU (l.getD i (0,0)).2:=by
 rw[zAQ9]
 cases hx:l[i]? with
 | none=>grind
 | some x=>exact h x (zAE9 hx)
theorem WB.set(h:WB w){v:Nat}(hv:LtU v)(i:Nat):WB (w.set i v):=fun x hx=>by
 rcases List.mem_or_eq_of_mem_set hx with h1|rfl
 .exact h x h1
 .exact hv
theorem WB.drop(h:WB w)(n:Nat):WB (w.drop n):=fun x hx=>h x (zBS9 hx)
theorem WB.block(h:WB w)(b:Nat):WB (zbD w b):=fun x hx=>h x (zBT9 (zBS9 hx))
theorem PB.nil:PB []:=fun c hc=>by grind
theorem PB.snoc(h:PB l){a b:Nat}(ha:LtU a)(hb:LtU b):PB (l++[(a,b)]):=fun c hc=>by
 rcases zBK9.1 hc with hc|hc
 .exact h c hc
 grind
theorem BB.nil:BB []:=fun c hc=>by simp at hc
theorem BB.cons{c:Pr}(h:LtU c.2)(k:BB l):BB (c::l):=fun x hx=>by
 rcases zAX9.1 hx with rfl|hx
 .exact h
 .exact k x hx
theorem BB.app{m:LK}(h:BB l)(k:BB m):BB (l++m):=fun x hx=>by
 rcases zBK9.1 hx with hx|hx
 .exact h x hx
 .exact k x hx
theorem zl5:∀(l:LN) (prev:Nat),WB l->PB (zbQ prev l)
 | [],_,_=>fun c hc=>by simp[zbQ]at hc
 | [_],_,_=>fun c hc=>by simp[zbQ]at hc
 | k::p::l,prev,h=>by
  have h2:WB l:=fun x hx=>h x (zAO9 _ (zAO9 _ hx));rw[zbQ]
  split
  .exact fun c hc=>by grind
  .split
   .exact zl5 l p h2
   .intro c hc;rcases zAX9.1 hc with rfl|hc
    .exact⟨h _ (by simp),h _ (by simp)⟩
    .exact zl5 l p h2 c hc
theorem zA8(left:Nat){l:LN}(h:WB l):PB (zcr left l):=by
 unfold zcr
 split
 .exact zl5 _ _ h
 .exact fun c hc=>by grind
structure NB(n:zZ):Prop where
 low:LtU n.low
 left:LtU n.left
 pairs:PB n.pairs
variable {n:zZ}
theorem zBt{w:LN}(h:WB w):NB (headN w):=⟨h.get 2,h.get 3,zA8 _ (h.drop 8)⟩
theorem zs8(h:NB n)(h1:n.level<=100)(h2:n.sib<2048)(h3:n.way<=2):∀i,WB (zcT n i)
 | 0=>fun x hx=>by rw[zcT]at hx;rw[zDB9 hx];exact zCK9 _
 | i+1=>by
  rw[zcT];refine(zs8 h h1 h2 h3 i).set ?_ _
  match i with
  | 0=>show 7522529147838689024+n.level<_;omega
  | 1=>show n.sib<_;omega
  | 2=>exact h.low
  | 3=>exact h.left
  | i+4=>show n.way<_;omega
theorem zt5(h:NB n)(h1:n.level<=100)(h2:n.sib<2048)(h3:n.way<=2):∀i,WB (zdW n i)
 | 0=>zs8 h h1 h2 h3 5
 | i+1=>by
  rw[zdW];exact((zt5 h h1 h2 h3 i).set (h.pairs.get i).1 _).set (h.pairs.get i).2 _
theorem zA0(h:NB n)(h1:n.level<=100)(h2:n.sib<2048)(h3:n.way<=2):WB (zdA n):=zt5 h h1 h2 h3 _
theorem zit:∀{l:LK} {w:LN},WB w->BB l->WB (zcj w l)
 | [],w,h,_=>h
 | c::l,w,h,k=>by
  show WB (zcj (w.set c.1 c.2) l);exact zit (h.set (k c (by simp)) _) fun y hy=>k y (zAO9 _ hy)
def LNB(l:LB):Prop:=∀n∈l,NB n/\n.level<=100/\n.way<=2
theorem zwC(h:PB l):LNB (zcQ l):=by
 unfold zcQ
 split
 .intro n hn;simp only[zAX9,zCZ9,or_false]at hn;subst hn;exact⟨⟨zCK9 _,show 9223372036854775808<_ by decide,fun c hc=>by grind⟩,zAG9 _,zAG9 _⟩
 .intro n hn;obtain⟨i,_,rfl⟩:=zAJ9.1 hn;refine⟨⟨?_,show 9223372036854775808<_ by decide,fun c hc=>h c (zBS9 (zBT9 hc))⟩,zAG9 _,zAG9 _⟩;show LtU (if _ then _ else _)
  split
  .exact(h.get _).1
  omega
theorem zzE{lv:Nat}(hv:lv<=100)(h:PB l):LNB (zdr lv l):=fun n hn=>by
 obtain⟨i,_,rfl⟩:=zAJ9.1 hn;exact⟨⟨(h.get _).1,(h.get _).2,fun c hc=>h c (zBS9 (zBT9 (zBS9 hc)))⟩,hv,zAG9 _⟩
theorem zrH:∀{bs:LN} {ns:LB},(∀b∈bs,b<2048)->LNB ns->∀n∈zb6 bs ns,NB n/\n.level<=100/\n.sib<2048/\n.way<=2
 | [],ns,_,_=>fun n hn=>by simp[zb6]at hn
 | _::_,[],_,_=>fun n hn=>by simp[zb6]at hn
 | b::bs,n::ns,h,k=>fun m hm=>by
  rw[zb6]at hm;rcases zAX9.1 hm with rfl|hm
  .obtain⟨k1,k2,k3⟩:=k n (by simp);refine⟨⟨k1.low,k1.left,k1.pairs⟩,k2,?_,k3⟩;show bs.headD 0<2048
   cases bs with
   | nil=>decide
   | cons a bs=>simp_all
  .exact zrH (fun b hb=>h b (zAO9 _ hb)) (fun n hn=>k n (zAO9 _ hn)) m hm
def TB(T:LG):Prop:=∀L∈T,∀n∈L.2,NB n/\n.level<=100/\n.sib<2048/\n.way<=2
theorem zvx{free:LN}(hf:∀b∈free,b<2048):∀(k:Nat) (l:LB) (used:Nat) (T T':LG),T.length+k<=90->LNB l->TB T->zkd free k l used T=some T'->TB T'
 | 0,l,used,T,T',_,_,_,h=>by cases h
 | k+1,l,used,T,T',hk,hl,hT,h=>by
  have hbs:∀b∈(free.drop used).take l.length,b<2048:=fun b hb=>hf b (zBS9 (zBT9 hb));have hT2:TB (((free.drop used).take l.length,zb6 ((free.drop used).take l.length) l)::T):=fun L hL=>by
   rcases zAX9.1 hL with rfl|hL
   .exact zrH hbs hl
   .exact hT L hL
  unfold zkd at h
  split at h
  .cases h
  .split at h
   .grind
   .refine zvx hf k _ _ _ _ (by grind) (zzE zo fun c hc=>?_) hT2 h;have h1:=zFG9 hc;obtain⟨n,hn,e⟩:=zAJ9.1 h1.1;have h2:=hbs _ h1.2;exact⟨by rw[<- e];exact(hl n hn).1.low,by omega⟩
theorem znU:∀{T:LG},TB T->BB (zeR T)
 | [],_=>BB.nil
 | L::T,h=>by
  refine BB.app (fun c hc=>?_) (znU fun M hM=>h M (zAO9 _ hM));obtain⟨x,hx,hc⟩:=zBB9.1 hc;obtain⟨i,_,rfl⟩:=zAJ9.1 hc;obtain⟨h1,h2,h3,h4⟩:=h L (zAM9 ..) _ (zFG9 hx).2;exact(zA0 h1 h2 h3 h4).get i


theorem zyS{α:Type}{l:List α}(h:l ≠ []):∃i a,l=i++[a]:=⟨l.dropLast,l.getLast h,(List.dropLast_concat_getLast h).symm⟩
variable {E:Env}


theorem zny(q:Nat)(H:LP)(iw gw qw M0:Nat)(w:LN)(l:LK)(hl:l.length<10000000)(hw:0<w.length/\w.length<=1000000)(hM0:M0<=gw)(hr:H[iw]?=some (.row 29 1 gw M0 (w.map uv))):FO ET 27 [.sl iw gw 0 w.length qw 1,.list q 2 (l.map zbP)] H false fun e H'=>zeM H H'/\∃id g M,e=.ret (.sl id g 0 w.length (2*w.length) 1)/\M<=g/\H'[id]?=some (.row 29 1 g M ((zcj w l).map uv)):=by
 refine zro (eG T27 func27) ?_;have hb:w.length*9<=140737488355328:=zo;have hne:¬w.length=0:=zo;have hX:∀X,(H++X)[iw]?=some (.row 29 1 gw M0 (w.map uv)):=fun X=>zbS hr;have hlw:(w.map uv).length=w.length:=zAW9 ..;have hle:w.length<=w.length:=zAC9 _;have htk:(w.map uv).take w.length=w.map uv:=by rw[<- hlw,zBE9]
 refine zGF (zr7 hb hne hX hM0 hlw hle htk) ?_;refine zay (zbE (fun m s=>∃(i M:Nat),m=l.length-i/\i<=l.length/\M<=1/\s.tm 1=.list q 2 (l.map zbP)/\s.tm 5=.sl H.length 1 0 w.length (2*w.length) 1/\s.tm 6=iv i/\s.df=[]/\s.H=H++[.row 29 1 1 M ((zcj w (l.take i)).map uv)]) (n:=l.length) ?_ ?_)
 .exact⟨0,0,rfl,zAG9 _,by decide,zt,zt,zt,rfl,rfl⟩
 .rintro m ⟨tm,df,Hx⟩ ⟨i,M,rfl,hi,hM,h1,h5,h6,rfl,rfl⟩;dsimp only at h1 h5 h6;have hal:=zfo (l.take i) w;refine zLh (zr2 h1 h6) ?_ ?_;rotate_left
  .intro hlt;have hlt:¬i<l.length:=zfd hlt;obtain rfl:i=l.length:=zo;refine zOF h5 ?_;rw[zBE9]at hal⊢;exact⟨(zeM.refl H).app _,H.length,1,M,rfl,hM,by simp⟩
  intro hlt;have hlt:i<l.length:=ztd hlt;obtain⟨x,hx⟩:=zex (l:=l) hlt;have hxv:(l.map zbP)[i]?=some (zbP x):=zmg hx;have htk:zcj w (l.take (i+1))=(zcj w (l.take i)).set x.1 x.2:=by
   rw[zAZ9,hx,zrQ];rfl
  have g0:(0:Int)<=(x.1:Nat):=zDC9 _;refine zBb ?_
  by_cases hlx:x.1<w.length
  .have g1:((x.1:Nat):Int)<(w.length:Nat):=zo;obtain⟨o,ho⟩:∃old,(zcj w (l.take i))[x.1]?=some old:=⟨_,zAA9 zo⟩
   have z1:((zcj w (l.take i)).map uv)[x.1]?=some (uv o):=zmg ho;have y1:((zcj w (l.take i)).map uv).set x.1 (.int .u64 (x.2:Int))=(zcj w (l.take (i+1))).map uv:=by rw[htk];exact zDW9.symm
   generalize (zcj w (l.take i)).map uv=K0 at *
   refine zB ?_;refine zB ?_;refine zbO (zr7 h1 h5 h6 hxv hlt g0 g1) ?_;refine zct ?_;refine zbU ?_;refine zb3 (zr9 h1 h5 h6 hxv hlt hlx hM z1 y1) ?_;refine zQF h5 ?_;refine zJF h6 ?_;refine⟨_,?m,i+1,1,rfl,hlt,zAC9 _,zu h1,zu h5,zu h6,rfl,rfl⟩
   case m=>omega
  .have g1:¬((x.1:Nat):Int)<(w.length:Nat):=zo;have y1:(zcj w (l.take (i+1)))=zcj w (l.take i):=by rw[htk,List.set_eq_of_length_le zo]
   refine zB ?_;refine zB ?_;refine zbO (zr7 h1 h5 h6 hxv hlt g0 g1) ?_;refine zH ?_;refine zJF h6 ?_;refine⟨_,?m,i+1,M,rfl,hlt,hM,zu h1,zu h5,zu h6,zt,by rw[y1]⟩;omega


section mid3
variable {α:Type}
theorem gc2(G G2 l:List α)(a b c x y z:α):(G++a::b::c::(G2++x::y::z::l))[G.length+(G2.length+1+1+1+1+1)]?=some z:=by
 rw[zBC9 zo,show G.length+(G2.length+1+1+1+1+1)-G.length=G2.length+1+1+1+1+1 by omega];simp[zBC9]
end mid3
variable (p:Nat)(l:LK)(w:LN)(a:Int)(key:Nat)
@[reducible] def wdV (l:List (Int × Nat)):LQ:=l.map fun x=>.agg [iv x.1,uv x.2]


theorem f43:ET.funcs.get 43=some T43:=eG _ func43
def zeu(w:LN)(a:Int):LK×Nat:=if zci w.length a=true then if(zbI w a.toNat).2=true then(zcy (zc6 (zbI w a.toNat).1).2,0)else([],220)else([],2)
theorem zqt:zg9 w a=.ret (.tuple [psv 0 (zeu w a).1,iv (zeu w a).2]):=by
 unfold zg9 zeu
 grind
theorem zog(hw:w.length<=131072):(zeu w a).1.length<=60000:=by
 unfold zeu
 split
 .split
  .rename_i hr ht;obtain⟨f1,f2,f3,f4,f5⟩:=zdQ (w:=w) (T:=(zbI w a.toNat).1) hw a.toNat (by rw[<- ht]);obtain⟨g1,g2⟩:=zgv f3;have hLF:=f1 _ (zAE9 g1);have hll:=zhJ (zc6 (zbI w a.toNat).1).2 fun n hn=>(hLF.lv.node hn).1;have hfew:=hLF.few
   grind
  grind
 grind


theorem zC4:LbE (zg9 w a):=by
 rw[zqt];exact Lb.two (Lb.pvs _) (.int _ _)
theorem zzt(hs:zbL w.length):FN ET 43 [wv p w,iv a] (zg9 w a):=by
 have hr:=zk4 p w a hs;have hlb:=zC4 w a;unfold zg9 at hlb⊢
 by_cases h:zci w.length a=true
 rotate_left
 .rw[if_neg h]at hlb⊢;rw[show zci w.length a=false by grind]at hr;refine zfn f43 hlb ?_;refine zMG hr ?_;refine zU ?_;exact zLF
 rw[if_pos h]at hlb⊢;have hb:=(zeD _ _).1 h;rw[h]at hr;obtain⟨n,rfl⟩:∃n:Nat,a=n:=⟨a.toNat,by omega⟩
 rw[zCG9]at hlb⊢;have hl:=zkj p w ⟨hb.1,hb.2.2.1⟩ n zo;obtain⟨e1,e2⟩:=zik w n
 by_cases ht:(zbI w n).2=true
 rotate_left
 .rw[if_neg ht]at hlb⊢;rw[e1,show (zbI w n).2=false by grind]at hl;generalize (zcO w n).1=T at hl;refine zfn f43 hlb ?_;refine zMG hr ?_;refine zcf ?_;refine zSk ?_;refine zM hl ?_;refine zS ?_;refine zO ?_;exact zLF
 rw[if_pos ht]at hlb⊢;rw[e1,e2 ht,ht]at hl;obtain⟨f1,f2,f3,f4,f5⟩:=zdQ (w:=w) (T:=(zbI w n).1) zo n (by grind);generalize (zbI w n).1=T at *
 obtain⟨g1,g2⟩:=zgv f3;have hlen:T.length≠0:=fun h=>f3 (zBU9 h);have hLF:=f1 _ (zAE9 g1);have hget:(T.map fun L=>zcg 0 0 L.1 L.2)[T.length-1]?=some (zcg 0 0 (zc6 T).1 (zc6 T).2):=zmg g1;have hll:=zhJ (zc6 T).2 fun n hn=>(hLF.lv.node hn).1;have hfew:=hLF.few;have hlp:=zoR 0 0 (zc6 T).1 (zc6 T).2 zo (fun n hn=>(hLF.lv.node hn).1) zo;unfold ziH at hlp;rw[if_pos f4]at hlp;have e3:(T.length:Int)-1=((T.length-1:Nat):Int):=zo;have e4:T.length-1<T.length:=zo;refine zfn f43 hlb ?_;refine zMG hr ?_;refine zcf ?_;refine zSk ?_;refine zM hl ?_;refine zT ?_;refine zSk ?_;refine zIF (zr3 hget e3 e4) ?_;refine zCN hlp ?_;refine zO ?_;exact zLF


theorem zEI(x:Nat):sc2 (zcS .shr) [.int .u64 (x:Int),.int .u64 1]=some (.int .u64 ((x/2:Nat):Int)):=by
 simp[sc2,PV.toT,zcS,zeG,zfS,ofT];rfl
theorem zB6(j:Nat)(hj:j<1000000):FR 207 [iv j] (uv (2*j+1:Nat)):=by
 refine zfn (eG T207 func207) (.int _ _) ?_;have e1:IntKind.i64.wrap ((2:Int)*(j:Int))=((2*j:Nat):Int):=zwi;have e2:((2*j:Nat):Int)+1=((2*j+1:Nat):Int):=zo;have e3:IntKind.u64.wrap ((2*j+1:Nat):Int)=((2*j+1:Nat):Int):=zwu;refine zOF (zr3 e1 e2 e3) ?_;exact Frz.int _ _
def zlQ(a key:Nat):Int:=if a<key then -1 else if key<a then 1 else 0
theorem zqG(a:Pr)(key:Nat):FR 284 [pv a,uv key] (iv (zlQ a.1 key)):=by
 refine zfn (eG T284 func284) (.int _ _) ?_;refine zG ?_;refine zBb ?_;unfold zlQ
 by_cases h1:a.1<key
 .have g:(a.1:Int)<(key:Nat):=zo;rw[if_pos h1];refine zSF g ?_;refine zO ?_;exact Frz.int _ _
 have g:¬(a.1:Int)<(key:Nat):=zo;rw[if_neg h1];refine zTF g ?_
 by_cases h2:key<a.1
 .have g2:(key:Int)<(a.1:Nat):=zo;rw[if_pos h2];refine zSF g2 ?_;refine zO ?_;exact Frz.int _ _
 have g2:¬(key:Int)<(a.1:Nat):=zo;rw[if_neg h2];refine zh3 g2 ?_;refine zO ?_;exact Frz.int _ _
theorem zz9{l:LK}{key lo:Nat}(h1:∀(i:Nat) (x:Pr),l[i]?=some x->i<lo->x.1<key)(h2:∀(i:Nat) (x:Pr),l[i]?=some x->lo<=i->key<=x.1)(hl:lo<=l.length):zdS l key=lo:=by
 unfold zdS
 induction l generalizing lo with
 | nil=>simp_all
 | cons x l ih =>
  rw[List.takeWhile_cons]
  cases lo with
  | zero =>
   have:=h2 0 x rfl (zAG9 _)
   grind
  | succ lo =>
   have:=h1 0 x rfl (zCK9 _);rw[if_pos (by grind),zAH9,ih (lo:=lo) (fun i y hy hi=>h1 (i+1) y (by grind) zo) (fun i y hy hi=>h2 (i+1) y (by grind) zo) (by grind)]
theorem zkZ:∀{l:LK} {i j:Nat} {x y:Pr},zbT l=true->l[i]?=some x->l[j]?=some y->i<j->x.1<y.1
 | [],i,j,x,y,_,hx,_,_=>by grind
 | [a],i,j,x,y,_,hx,hy,hij=>by grind
 | a::b::l,i,j,x,y,h,hx,hy,hij=>by
  simp only[zbT,zAI9,decide_eq_true_eq]at h;obtain⟨j,rfl⟩:∃k,j=k+1:=⟨j-1,by omega⟩
  simp at hy
  cases i with
  | zero =>
   simp at hx;subst hx
   cases j with
   | zero=>grind
   | succ j =>
    have:=zkZ (l:=b::l) (i:=0) (j:=j+1) h.2 rfl (by simpa using hy) (zCK9 _);omega
  | succ i=>exact zkZ (l:=b::l) h.2 (by simpa using hx) hy zo
theorem zzc(hr:zbT l=true)(hl:l.length<1000000):FR 283 [psv p l,uv key,.fn 284 []] (.tuple [iv (zdS l key:Nat),.bool (sIs l key)]):=by
 refine zfn (eG T283 func283) (Lb.two (.int _ _) (.bool _)) ?_;refine zG ?_;refine zay (zbE (fun m s=>∃lo hi:Nat,m=hi-lo/\lo<=hi/\hi<=l.length/\(∀(i:Nat) (x:Pr),l[i]?=some x->i<lo->x.1<key)/\(∀(i:Nat) (x:Pr),l[i]?=some x->hi<=i->key<=x.1)/\s.tm 0=psv p l/\s.tm 1=uv key/\s.tm 2=.fn 284 []/\s.tm 8=iv l.length/\s.tm 9=iv lo/\s.tm 10=iv hi/\s.df=[]/\s.H=[]) (n:=l.length) ?_ ?_)
 .exact⟨0,l.length,rfl,zAG9 _,zAC9 _,fun i x _ h=>by omega,fun i x hx h=>by grind,zt,zt,zt,zt,zt,zt,rfl,rfl⟩
 rintro m ⟨tm,df,H⟩ ⟨lo,hi,rfl,hlo,hhi,hA,hB,h0,h1,h2,h8,h9,h10,rfl,rfl⟩;dsimp only at *
 refine zLh (zr2 h9 h10) ?_ ?_
 .intro hlt;have hlt:lo<hi:=ztd hlt;obtain⟨md,hmd⟩:∃md,(lo+hi)/2=md:=⟨_,rfl⟩
  have hm1:lo<=md:=zo;have hm2:md<hi:=zo;obtain⟨x,hx⟩:∃x,l[md]?=some x:=⟨_,zAA9 zo⟩
  have hxv:(l.map pv)[md]?=some (pv x):=zmg hx;have hml:md<l.length:=zo;have e1:(lo:Int)+(hi:Int)=((lo+hi:Nat):Int):=zo;have e2:IntKind.u64.wrap ((lo+hi:Nat):Int)=((lo+hi:Nat):Int):=zwu;have e3:IntKind.i64.wrap ((md:Nat):Int)=((md:Nat):Int):=zwi;have hc:=zqG x key;refine zBb ?_;(repeat(first|refine zbG ?_|refine zgo ?_ (by simp(disch:=omega)only[go_sem,h9,h10,e1,e2,zEI,hmd,e3]<;>rfl)));refine zIF (zr5 h0 h1 h2 hxv hml) ?_;refine zca hc ?_
  by_cases hk:x.1<key
  .have g:zlQ x.1 key<0:=by unfold zlQ;rw[if_pos hk];decide
   refine zNF g ?_;refine zct ?_;have e4:(md:Int)+1=((md+1:Nat):Int):=zo;refine zJF e4 ?_;refine⟨_,?m1,md+1,hi,rfl,hm2,hhi,fun i y hy hi=>?_,hB,zu h0,zu h1,zu h2,zu h8,zt,zu h10,zt,zt⟩
   case m1=>omega
   rcases Nat.lt_or_eq_of_le (Nat.le_of_lt_succ hi)with h|h
   .have:=zkZ hr hy hx h;omega
   .subst h;rw[hx]at hy;cases hy;exact hk
  .have g:¬zlQ x.1 key<0:=by
    unfold zlQ;rw[if_neg hk];split<;>decide
   refine zNF g ?_;refine zcf ?_;refine zJ ?_;refine⟨_,?m1,lo,md,rfl,hm1,by omega,hA,fun i y hy hi=>?_,zu h0,zu h1,zu h2,zu h8,zu h9,zt,zt,zt⟩
   case m1=>omega
   rcases Nat.lt_or_eq_of_le hi with h|h
   .have:=zkZ hr hx hy h;omega
   .subst h;rw[hx]at hy;cases hy;omega
 intro hlt;have hlt:¬lo<hi:=zfd hlt;obtain rfl:lo=hi:=zo;have hF:=zz9 hA hB hhi;refine zB ?_
 cases hx:l[lo]? with
 | none =>
  have hll:¬(lo:Int)<(l.length:Nat):=by have:=List.getElem?_eq_none_iff.1 hx;omega
  have hI:sIs l key=false:=by unfold sIs;rw[hF,hx]
  refine zOF (zr3 h8 h9 hll) ?_;rw[hF,hI];exact zLF
 | some x =>
  have hml:=(zAB9.1 hx).1;have hll:(lo:Int)<(l.length:Nat):=zo;have hxv:(l.map pv)[lo]?=some (pv x):=zmg hx;have hge:=hB lo x hx (zAC9 _);have hI:sIs l key=decide (x.1=key):=by unfold sIs;rw[hF,hx]
  have hc:=zqG x key;have hz:decide (zlQ x.1 key=0)=decide (x.1=key):=by
   unfold zlQ;rw[if_neg zo]
   by_cases h:key<x.1
   .rw[if_pos h];simp;omega
   .rw[if_neg h];simp;omega
  refine zIF (zr8 h0 h1 h2 h8 h9 hll hml hxv) ?_;refine zca hc ?_;refine zP ?_;rw[hF,hI,hz];exact zLF
theorem zuy(hr:zbT l=true)(hl:l.length<1000000):FR 222 [psv p l,uv key] (.tuple [iv (zdS l key:Nat),.bool (sIs l key)]):=by
 refine zfn (eG T222 func222) (Lb.two (.int _ _) (.bool _)) ?_;refine zGI ?_;refine zca (zzc p l key hr hl) ?_;refine zP ?_;exact zLF
end Fv
end Go.Proofs.YtkeknmgnoceogaaGreat
