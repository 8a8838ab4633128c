/- part 7 of the proof of dir_takes. -/
import Derived.Test.YtkeknmgnoceogaaGreatDT6
set_option linter.unusedSimpArgs false
set_option linter.unusedVariables false
set_option linter.defProp false
set_option maxRecDepth 100000
set_option maxHeartbeats 4000000
namespace Go.Proofs.YtkeknmgnoceogaaGreat
open Tryz
namespace Fv
open Tw


variable {Q:FX->FSt->Prop}(r0:zc)
theorem zAe(r2 r3 r4 r5:zc)(ws:LN)(b:Nat)(hb:b<2048)(hws:ws.length<=64)(tm:Nat->PV)(D:AK)(V0:LQ)(hV0:V0.length<1000000)(G:LP)(h5:tm 5=.ptr 1 0 0 0 1)(h19:tm 19=iv b)(h137:tm 137=wv 0 ws)(h138:tm 138=iv ws.length)(h139:tm 139=iv 0)(hQ:∀(tm':Nat->PV) (V:LQ) (G2:LP),V=V0++(zeq b ws).map zbx->(∀k,k≠22->k≠23->(k<139\/153<k)->tm' k=tm k)->Q .norm ⟨tm',D,r0::.row 57 1 0 0 [.sl 6 V.length 0 V.length (2*V.length) 2]::r2::r3::r4::r5::.row 120 2 V.length 0 V::(G++G2)⟩):
  W ET ET.caught none c110_8 ⟨tm,D,r0::.row 57 1 0 0 [.sl 6 V0.length 0 V0.length (2*V0.length) 2]::r2::r3::r4::r5::.row 120 2 V0.length 0 V0::G⟩ Q:=by
 unfold c110_8 xC;refine ze (zbk (fun m s=>∃(j:Nat) (V:LQ) (G2:LP),m=ws.length-j/\j<=ws.length/\V=V0++((List.range j).map fun k=>(64*b+k,ws.getD k 0)).map zbx/\(∀k,k≠22->k≠23->k≠139->(k<139\/153<k)->s.tm k=tm k)/\s.tm 139=iv j/\s.df=D/\s.H=r0::.row 57 1 0 0 [.sl 6 V.length 0 V.length (2*V.length) 2]::r2::r3::r4::r5::.row 120 2 V.length 0 V::(G++G2)) (n:=ws.length) ?_ ?_)
 .exact⟨0,V0,[],rfl,zAJ9 _,by simp,fun k _ _ _ _=>rfl,h139,rfl,by grind⟩
 .rintro m ⟨tn,df,H⟩ ⟨j,V,G2,rfl,hj,hV,hf,h139',rfl,rfl⟩;dsimp only at hf h139';have h5':=(hf 5 zy zy zy zy).trans h5;have h19':=(hf 19 zy zy zy zy).trans h19;have h137':=(hf 137 zy zy zy zy).trans h137;have h138':=(hf 138 zy zy zy zy).trans h138;have hVl:V.length=V0.length+j:=by rw[hV];simp
  refine zLh (zr3 h137' h138' h139') ?_ ?_
  .intro hlt;have hlt:j<ws.length:=ztd hlt;have hqv:(ws.map uv)[j]?=some (uv (ws.getD j 0)):=by rw[zAF9,zAA9 hlt,zAK9,zAA9 hlt];rfl
   have hb2:(V.length+1)*17<=140737488355328:=zo;have hV2:V++[zbx (64*b+j,ws.getD j 0)]=V0++((List.range (j+1)).map fun k=>(64*b+k,ws.getD k 0)).map zbx:=by rw[zCJ9,hV];simp
   have e1:IntKind.i64.wrap (64*(b:Int))=((64*b:Nat):Int):=zwi;have e2:IntKind.i64.wrap (((64*b:Nat):Int)+(j:Int))=((64*b+j:Nat):Int):=zwi;refine zBb ?_;refine zGF (zr4 h137' h139' hlt hqv) ?_;refine zB ?_;refine zJF (zr5 h5' h19' e1 e2 hb2) ?_;refine zJF h139' ?_;refine⟨_,?m,j+1,V++[zbx (64*b+j,ws.getD j 0)],?G4,rfl,hlt,hV2,?f,zu h139',zt,?H⟩
   case m=>omega
   case f=>intro k k1 k2 k3 k4;simp(disch:=omega)only[zbW];grind
   case H =>
    (try dsimp only);rw[zAB9];simp only[zAD9,zAV9];rfl
  .intro hlt;have hlt:¬j<ws.length:=zfd hlt;obtain rfl:j=ws.length:=zo;refine hQ _ V G2 hV (fun k k1 k2 k3=>?_);simp(disch:=omega)only[zbW]
   grind


theorem e10:((1:Int)=0)=False:=eq_false zy
def zeu:LC->Nat->Bool
 | none,_=>true
 | some k,n=>decide (k<n)
def zc8(seen:LN)(pk:LC)(x:Pr):Bool:=decide (1<=x.2)&&decide (x.2<=1099511627776) && !seen.contains x.2&&zeu pk x.1
def zi7:LN->LC->LJ->Bool
 | _,_,[]=>true
 | seen,pk,x::l=>zc8 seen pk x&&zi7 (x.2::seen) (some x.1) l
theorem zq1:∀(l:LJ) (seen:LN) (pk:LC),zi7 seen pk l=true↔(zdO seen l=true/\(∀p∈l,1<=p.2/\p.2<=1099511627776)/\zbV l=true/\(∀x,l.head?=some x->zeu pk x.1=true))
 | [],_,_=>⟨fun _=>⟨rfl,by simp,rfl,by simp⟩,fun _=>rfl⟩
 | x::l,seen,pk=>by
  rw[zi7,zAO9,zq1 l,zdO,zAO9];unfold zc8;have hr:zbV (x::l)=true↔zbV l=true/\∀y,l.head?=some y->zeu (some x.1) y.1=true:=by
   cases l with
   | nil=>simp[zbV]
   | cons y l=>rw[zbV,zAO9];simp[zeu,and_comm]
  grind
theorem zqL(l:LJ):zi7 [] none l=okP l:=by
 rw[zGB9,zq1,zrB,zgK]
 constructor
 .grind
 .rintro ⟨c,a,b⟩;exact⟨⟨a,by simp⟩,b,c,fun _ _=>rfl⟩
def zeB(l:LJ)(i:Nat):LC:=if i=0 then none else some (l.getD (i-1) (0,0)).1
theorem gq1{α:Type}(r0 r1 r2 r3 r4 r5 r6:α)(G:List α)(x:α):(r0::r1::r2::r3::r4::r5::r6::(G++[x]))[G.length+7]?=some x:=by simp
theorem zBQ(r1 r2 r3 m5 r6:zc)(p:Nat)(l:LJ)(hl:l.length<1000000)(tm:Nat->PV)(D:AK)(G:LP)(h0:tm 0=psv p l)(h8:tm 8=.map 4)(h27:tm 27=psv p l)(h28:tm 28=iv l.length)(h29:tm 29=iv 0)(hP:okP l=false->∀(tm':Nat->PV) (m4':zc) (G':LP),(∀k,k<=7->tm' k=tm k)->Q (.panic (zck 2)) ⟨tm',D,r0::r1::r2::r3::m4'::m5::r6::G'⟩)(hQ:∀(tm':Nat->PV) (m4':zc) (G':LP),okP l=true->(∀k,k≠10->k≠11->(k<29\/68<k)->tm' k=tm k)->Q .norm ⟨tm',D,r0::r1::r2::r3::m4'::m5::r6::G'⟩):
  W ET ET.caught none c110_0 ⟨tm,D,r0::r1::r2::r3::.map0::m5::r6::G⟩ Q:=by
 unfold c110_0 xC;refine ze (zbk (fun m s=>∃(i:Nat) (seen:LN) (m4:zc) (G2:LP),m=l.length-i/\i<=l.length/\znc m4 seen/\okP l=zi7 seen (zeB l i) (l.drop i)/\(∀k,k≠10->k≠11->k≠29->(k<29\/68<k)->s.tm k=tm k)/\s.tm 29=iv i/\s.df=D/\s.H=r0::r1::r2::r3::m4::m5::r6::G2) (n:=l.length) ?_ ?_)
 .exact⟨0,[],.map0,G,rfl,zAJ9 _,.inl ⟨rfl,rfl⟩,(zqL l).symm,fun k _ _ _ _=>rfl,h29,rfl,rfl⟩
 .rintro m ⟨tn,df,H⟩ ⟨i,seen,m4,G2,rfl,hi,hs,hok,hf,h29',rfl,rfl⟩;dsimp only at hf h29';have h0':=(hf 0 zy zy zy zy).trans h0;have h8':=(hf 8 zy zy zy zy).trans h8;have h27':=(hf 27 zy zy zy zy).trans h27;have h28':=(hf 28 zy zy zy zy).trans h28;refine zLh (zr3 h27' h28' h29') ?_ ?_;rotate_left
  .intro hlt;have hlt:¬i<l.length:=zfd hlt;obtain rfl:i=l.length:=zo;refine hQ _ m4 G2 (by rw[hok,zBH9];rfl) (fun k k1 k2 k3=>?_);simp(disch:=omega)only[zbW]
   grind
  intro hlt;have hlt:i<l.length:=ztd hlt;obtain⟨x,hx⟩:=zex (l:=l) hlt;have hxv:(l.map pv)[i]?=some (pv x):=zmg hx;have hdx:l.drop i=x::l.drop (i+1):=zdc hx;rw[hdx,zi7]at hok;have hpk:some x.1=zeB l (i+1):=by unfold zeB;rw[if_neg zo,zFK9,zAK9,hx];rfl
  rw[hpk]at hok;refine zBb ?_;refine zGF (zr3 h27' h29' hxv) ?_;refine zB ?_;refine zcJ (Q:=fun y s'=>(y=.norm/\zc8 seen (zeB l i) x=true/\(∀k,k≠10->k≠11->k≠29->(k<29\/68<k)->s'.tm k=tn k)/\s'.tm 29=iv i/\s'.tm 11=.ptr (G2.length+7) 0 0 0 2/\s'.df=df/\s'.H=r0::r1::r2::r3::m4::m5::r6::(G2++[.row 92 2 0 0 [pv x]]))\/(y=.panic (zck 2)/\zc8 seen (zeB l i) x=false/\(∀k,k<=7->s'.tm k=tn k)/\s'.df=df/\s'.H=r0::r1::r2::r3::m4::m5::r6::(G2++[.row 92 2 0 0 [pv x]]))) (zaB ?_) ?_
  .have h10':True:=trivial;have h11x:True:=trivial
   by_cases b1:1<=x.2
   rotate_left
   .have a1:¬(1:Int)<=x.2:=zo;have a1b:¬(x.2:Int) ≥ 1:=zo;refine zzY (zr7 h8' h10' h0' h11x hxv a1 a1b) (zdk 2) ?_;exact .inr ⟨rfl,by simp[zc8,b1],fun k k1=>by simp(disch:=omega)only[zfB,zbW],rfl,rfl⟩
   have a1:(1:Int)<=x.2:=zo
   by_cases b2:x.2<=1099511627776
   rotate_left
   .have a2:¬(x.2:Int)<=1099511627776:=zo;refine zzY (zr7 h8' h10' h0' h11x hxv a1 a2) (zdk 2) ?_;exact .inr ⟨rfl,by simp[zc8,b1,b2],fun k k1=>by simp(disch:=omega)only[zfB,zbW],rfl,rfl⟩
   have a2:(x.2:Int)<=1099511627776:=zo
   by_cases b3:i=0
   .subst b3;have hi0:True:=trivial;have hi1:True:=trivial;have hpv:True:=trivial;have hil:True:=trivial;have hkey:True:=trivial;rcases hs with⟨rfl,rfl⟩|⟨mm,rfl,hmm⟩
    .skip
     refine zcu (zr7 h8' h10' h0' h11x hxv a1 a2) (zek 2) ?_;refine zrX h8' ?_;refine zb4 ?_;refine .inl ⟨rfl,by simp[zc8,b1,b2,zeB,zeu],fun k k1 k2 k3 k4=>?_,?_,?_,rfl,rfl⟩
     .simp(disch:=first|omega|simp)only[zaD,zbW]
     .simp[zaD,upd,h29']
     .simp[zaD,upd]
    .have hq:=hmm x.2
     by_cases hc:seen.contains x.2=true
     .rw[if_pos hc]at hq;have hc2:x.2∈seen:=by simpa using hc
      refine zdx (zdk 2) ?_ (by simp(disch:=omega)only[go_sem,h8',a1,a2,hq,e10]<;>rfl);exact .inr ⟨rfl,by simp[zc8,hc2],fun k k1=>by simp(disch:=omega)only[zfB,zbW],rfl,rfl⟩
     .rw[if_neg hc]at hq;have hc2:¬x.2∈seen:=by simpa using hc
      refine zcu (zr8 h8' h10' h0' h11x hxv a1 a2 hq) (zek 2) ?_;refine zrX h8' ?_;refine zb4 ?_;refine .inl ⟨rfl,by simp[zc8,b1,b2,zeB,zeu,hc2],fun k k1 k2 k3 k4=>?_,?_,?_,rfl,rfl⟩
      .simp(disch:=first|omega|simp)only[zaD,zbW]
      .simp[zaD,upd,h29']
      .simp[zaD,upd]
   have hi0:¬(i:Int)=0:=zo;have hi1:IntKind.i64.wrap ((i:Int)-1)=((i-1:Nat):Int):=zwi;have hil:i-1<l.length:=zo;have hpv:(l.map pv)[i-1]?=some (pv (l.getD (i-1) (0,0))):=by rw[zAF9,get_lt l hil];rfl
   have hpk2:zeB l i=some (l.getD (i-1) (0,0)).1:=by unfold zeB;rw[if_neg b3]
   generalize l.getD (i-1) (0,0)=pr at hpv hpk2
   by_cases b4:pr.1<x.1
   .have hkey:((pr.1:Nat):Int)<(x.1:Nat):=zo;rcases hs with⟨rfl,rfl⟩|⟨mm,rfl,hmm⟩
    .skip
     refine zcu (zef h8' h10' h0' h11x hxv a1 a2 hi0 hi1 hpv hil hkey) (zek 2) ?_;refine zrX h8' ?_;refine zb4 ?_;refine .inl ⟨rfl,by simp[zc8,b1,b2,hpk2,zeu,b4],fun k k1 k2 k3 k4=>?_,?_,?_,rfl,rfl⟩
     .simp(disch:=first|omega|simp)only[zaD,zbW]
     .simp[zaD,upd,h29']
     .simp[zaD,upd]
    .have hq:=hmm x.2
     by_cases hc:seen.contains x.2=true
     .rw[if_pos hc]at hq;have hc2:x.2∈seen:=by simpa using hc
      refine zdx (zdk 2) ?_ (by simp(disch:=omega)only[go_sem,h8',a1,a2,hq,e10]<;>rfl);exact .inr ⟨rfl,by simp[zc8,hc2],fun k k1=>by simp(disch:=omega)only[zfB,zbW],rfl,rfl⟩
     .rw[if_neg hc]at hq;have hc2:¬x.2∈seen:=by simpa using hc
      refine zcu (zef h8' h10' h0' h11x hxv a1 a2 hi0 hi1 hpv hil (zr2 hkey hq)) (zek 2) ?_;refine zrX h8' ?_;refine zb4 ?_;refine .inl ⟨rfl,by simp[zc8,b1,b2,hpk2,zeu,b4,hc2],fun k k1 k2 k3 k4=>?_,?_,?_,rfl,rfl⟩
      .simp(disch:=first|omega|simp)only[zaD,zbW]
      .simp[zaD,upd,h29']
      .simp[zaD,upd]
   .have hkey:¬((pr.1:Nat):Int)<(x.1:Nat):=zo;rcases hs with⟨rfl,rfl⟩|⟨mm,rfl,hmm⟩
    .skip
     refine zzY (zef h8' h10' h0' h11x hxv a1 a2 hi0 hi1 hpv hil hkey) (zdk 2) ?_;exact .inr ⟨rfl,by simp[zc8,b1,b2,hpk2,zeu,b4],fun k k1=>by simp(disch:=omega)only[zfB,zbW],rfl,rfl⟩
    .have hq:=hmm x.2
     by_cases hc:seen.contains x.2=true
     .rw[if_pos hc]at hq;have hc2:x.2∈seen:=by simpa using hc
      refine zdx (zdk 2) ?_ (by simp(disch:=omega)only[go_sem,h8',a1,a2,hq,e10]<;>rfl);exact .inr ⟨rfl,by simp[zc8,hc2],fun k k1=>by simp(disch:=omega)only[zfB,zbW],rfl,rfl⟩
     .rw[if_neg hc]at hq;have hc2:¬x.2∈seen:=by simpa using hc
      refine zzY (zef h8' h10' h0' h11x hxv a1 a2 hi0 hi1 hpv hil (zr2 hkey hq)) (zdk 2) ?_;exact .inr ⟨rfl,by simp[zc8,b1,b2,hpk2,zeu,b4,hc2],fun k k1=>by simp(disch:=omega)only[zfB,zbW],rfl,rfl⟩
  rintro y ⟨tq,df2,H⟩ (⟨rfl,hst,hf2,h29x,h11x,rfl,rfl⟩|⟨rfl,hst,hf2,rfl,rfl⟩);rotate_left
  .refine hP (by grind) _ _ _ fun k hk=>?_
   grind
  dsimp only at hf2 h29x h11x;rw[hst,zCB9]at hok;have h8x:=(hf2 8 zy zy zy zy).trans h8';rcases hs with⟨rfl,rfl⟩|⟨mm,rfl,hmm⟩
  .refine zB ?_;refine zrg ?_ (by simp(disch:=omega)only[go_sem,h8x,h11x,gq1]<;>rfl);refine zcr ?_;refine zJF h29x ?_;refine⟨_,?m1,i+1,[x.2],_,_,rfl,hlt,.inr ⟨_,rfl,fun q=>?_⟩,hok,fun k k1 k2 k3 k4=>?_,zt,rfl,rfl⟩
   case m1=>omega
   .grind
   .simp(disch:=omega)only[zbW];grind
  .refine zB ?_;refine zrg ?_ (by simp(disch:=omega)only[go_sem,h8x,h11x,gq1]<;>rfl);refine zcr ?_;refine zJF h29x ?_;refine⟨_,?m2,i+1,x.2::seen,_,_,rfl,hlt,.inr ⟨_,rfl,fun q=>?_⟩,hok,fun k k1 k2 k3 k4=>?_,zt,rfl,rfl⟩
   case m2=>omega
   .by_cases hq:q=x.2
    .grind
    .have:¬(q:Int)=x.2:=zo;rw[if_neg this,hmm q];simp[hq]
   .simp(disch:=omega)only[zbW];grind


def okI:LG->LG->Bool
 | _,[]=>true
 | seen,b::l=>decide (1<=b)&&decide (b<2048) && !seen.contains b&&okI (b::seen) l
variable {α:Type}
theorem zxE:∀(l seen:LG),okI seen l=true↔(∀b∈l,1<=b/\b<2048)/\l.Nodup/\∀b∈l,¬b∈seen
 | [],seen=>by simp[okI]
 | b::l,seen=>by
  rw[okI,zAO9,zAO9,zAO9,zxE l,decide_eq_true_eq,decide_eq_true_eq,zDD9,zEX9]
  grind
theorem zlK{l:LG}(h:okI [] l=true):∃fr:LN,l=fr.map (fun(b:Nat)=>(b:Int))/\zmV fr=true:=by
 rw[zxE]at h;obtain⟨h1,h2,_⟩:=h;have he:l=(l.map Int.toNat).map (fun(b:Nat)=>(b:Int)):=by
  rw[zDH9]
  conv=>lhs;rw[<- zGI9 l]
  refine zEB9 fun b hb=>?_
  grind
 refine⟨l.map Int.toNat,he,?_⟩;rw[zfQ];refine⟨fun b hb=>?_,?_⟩
 .obtain⟨c,hc,rfl⟩:=zAH9.1 hb
  grind
 .rw[he,List.nodup_iff_pairwise_ne,List.pairwise_map]at h2;exact h2.imp fun h e=>h (by rw[e])
def zhe(mo:zc)(seen:LG):Prop:=(mo=.map0/\seen=[])\/∃mm:Int->LX,mo=.mapI .i64 mm/\∀q:Int,mm q=if seen.contains q=true then some (iv 1)else none
theorem zB6(r0 r1 r2 r3 m4 r6:zc)(p:Nat)(l:LG)(hl:l.length<1000000)(tm:Nat->PV)(D:AK)(G:LP)(h9:tm 9=.map 5)(h69:tm 69=.list p 1 (l.map iv))(h70:tm 70=iv l.length)(h71:tm 71=iv 0){Q:FX->FSt->Prop}
  (hP:okI [] l=false->∀(tm':Nat->PV) (m5:zc) (G':LP),(∀k,k<=7->tm' k=tm k)->Q (.panic (zck 2)) ⟨tm',D,r0::r1::r2::r3::m4::m5::r6::G'⟩)
  (hQ:∀(tm':Nat->PV) (m5:zc) (G':LP),okI [] l=true->(∀k,k≠13->(k<71\/90<k)->tm' k=tm k)->Q .norm ⟨tm',D,r0::r1::r2::r3::m4::m5::r6::G'⟩) :
  W ET ET.caught none c110_2 ⟨tm,D,r0::r1::r2::r3::m4::.map0::r6::G⟩ Q:=by
 unfold c110_2 xC;refine ze (zbk (fun m s=>∃(i:Nat) (seen:LG) (m5:zc),m=l.length-i/\i<=l.length/\zhe m5 seen/\okI [] l=okI seen (l.drop i)/\(∀k,k≠13->k≠71->(k<71\/90<k)->s.tm k=tm k)/\s.tm 71=iv i/\s.df=D/\s.H=r0::r1::r2::r3::m4::m5::r6::G) (n:=l.length) ?_ ?_)
 .exact⟨0,[],.map0,rfl,zAJ9 _,.inl ⟨rfl,rfl⟩,rfl,fun k _ _ _=>rfl,h71,rfl,rfl⟩
 .rintro m ⟨tn,df,H⟩ ⟨i,seen,m5,rfl,hi,hs,hok,hf,h71',rfl,rfl⟩;dsimp only at hf h71';have h9':=(hf 9 zy zy zy).trans h9;have h69':=(hf 69 zy zy zy).trans h69;have h70':=(hf 70 zy zy zy).trans h70;refine zLh (zr3 h69' h70' h71') ?_ ?_;rotate_left
  .intro hlt;have hlt:¬i<l.length:=zfd hlt;obtain rfl:i=l.length:=zo;refine hQ _ m5 G (by rw[hok,zBH9];rfl) (fun k k1 k2=>?_);simp(disch:=omega)only[zbW]
   grind
  intro hlt;have hlt:i<l.length:=ztd hlt;obtain⟨x,hx⟩:=zex (l:=l) hlt;have hxv:(l.map iv)[i]?=some (iv x):=zmg hx;have hdx:l.drop i=x::l.drop (i+1):=zdc hx;rw[hdx,okI]at hok;have bad:∀(t:Nat->PV),(decide (1<=x)&&decide (x<2048) && !seen.contains x)=false->(∀k,k<=7->t k=tn k)->Q (.panic (zck 2)) ⟨t,df,r0::r1::r2::r3::m4::m5::r6::G⟩:=fun t hst hk=>hP (by grind) _ _ _ fun k h=>(hk k h).trans (hf k zo zo zo);refine zBb ?_;refine zB ?_;refine zGF (zr4 h69' h71' hxv hlt) ?_;refine zBr ?_
  by_cases b1:1<=x
  rotate_left
  .refine zb2 (zr2 h9' b1) ?_;refine zcx (zdk 2) ?_;exact bad _ (by simp[b1]) fun k hk=>by simp(disch:=omega)only[zdE,zbW]
  by_cases b2:x<2048
  rotate_left
  .refine zb2 (zr3 h9' b1 b2) ?_;refine zcx (zdk 2) ?_;exact bad _ (by simp[b2]) fun k hk=>by simp(disch:=omega)only[zdE,zbW]
  rcases hs with⟨rfl,rfl⟩|⟨mm,rfl,hmm⟩
  .refine zb2 (zr3 h9' b1 b2) ?_;refine zCN (zek 2) ?_;refine zJF h9' ?_;refine zJF h71' ?_;refine⟨_,?m1,i+1,[x],_,rfl,hlt,.inr ⟨_,rfl,fun q=>?_⟩,by grind,fun k k1 k2 k3=>?_,zu h71',rfl,rfl⟩
   case m1=>omega
   .grind
   .simp(disch:=omega)only[zbW];grind
  .have hq:=hmm x
   by_cases hc:seen.contains x=true
   .rw[if_pos hc]at hq;refine zfx ?_ (by simp(disch:=omega)only[go_sem,h9',b1,b2,hq,e10]<;>rfl);refine zcx (zdk 2) ?_;exact bad _ (by grind) fun k hk=>by simp(disch:=omega)only[zdE,zbW]
   .rw[if_neg hc]at hq;refine zb2 (zr4 h9' b1 b2 hq) ?_;refine zCN (zek 2) ?_;refine zJF h9' ?_;refine zJF h71' ?_;have hc:seen.contains x=false:=by simpa using hc
    refine⟨_,?m2,i+1,x::seen,_,rfl,hlt,.inr ⟨_,rfl,fun q=>?_⟩,by grind,fun k k1 k2 k3=>?_,zu h71',rfl,rfl⟩
    case m2=>omega
    .grind
    .simp(disch:=omega)only[zbW];grind


theorem gq2(r0 r1 r2 r3 r4 r5 r6:α)(G l:List α)(a x:α):(r0::r1::r2::r3::r4::r5::r6::(G++a::l++[x]))[(G++a::l).length+7]?=some x:=by simp
theorem gq3(r0 r1 r2 r3 r4 r5 r6:α)(G l:List α)(a x y:α):(r0::r1::r2::r3::r4::r5::r6::(G++a::l++[x])).set ((G++a::l).length+7) y=r0::r1::r2::r3::r4::r5::r6::(G++a::l++[y]):=by simp
theorem gq4(r0 r1 r2 r3 r4 r5 r6:α)(G l m:List α)(a x:α):(r0::r1::r2::r3::r4::r5::r6::(G++a::l++[x]++m))[(G++a::l).length+7]?=some x:=by simp_all
@[reducible] def bfl (free:LN):LQ:=free.map fun (b:Nat)=>iv (b:Int)
variable {b:Nat}{bs:LN}{i:Nat}{x:zq}(p q:Nat)(l:LJ)
theorem zj2(xs:List (Nat×zq)):(xs.flatMap fun x=>zeq x.1 (zcw x.2)).length=64*xs.length:=by
 induction xs with
 | nil=>rfl
 | cons a xs ih=>rw[zBQ9,zAB9,ih,zAG9];simp[zeq,zgx];omega
theorem zv1{L:LB}(hb:bs[i]?=some b)(hx:L[i]?=some x):(bs.zip L).take (i+1)=(bs.zip L).take i++[(b,x)]:=by
 have:(bs.zip L)[i]?=some (b,x):=by rw[zDW9];exact⟨hb,hx⟩
 rw[zBB9,this];rfl
theorem zCG{l:LB}(hb:bs[i]?=some b)(hx:l[i]?=some x):((l.map zq.low).zip bs).take (i+1)=((l.map zq.low).zip bs).take i++[(x.low,b)]:=by
 have:((l.map zq.low).zip bs)[i]?=some (x.low,b):=by rw[zDW9];exact⟨by grind,hb⟩
 rw[zBB9,this];rfl
theorem zCd(r0 r3 r4 r5:zc)(q z:Nat)(free:LN)(used:Nat)(l:LB)(hfl:free.length<1000000)(hul:used+l.length<=free.length)(hfb:∀b∈free,b<2048)(hg:∀n∈l,zd0 n/\n.sib=0)(tm:Nat->PV)(D:AK)(V0:LQ)(hV0:V0.length+64*l.length<900000)(G:LP)
  (h1:tm 1=.list q 1 (bfl free)) (h5:tm 5=.ptr 1 0 0 0 1) (h6:tm 6=.ptr 2 0 0 0 1) (h14:tm 14=.list 0 6 (l.map (zbr z))) (h16:tm 16=.sl (G.length+7) 0 0 0 0 2) (h103:tm 103=.list 0 6 (l.map (zbr z))) (h104:tm 104=iv l.length) (h105:tm 105=iv 0) {Q:FX->FSt->Prop}
  (hQ:∀(tm':Nat->PV) (V N:LQ) (G2:LP),V=V0++(zeh ((free.drop used).take l.length) (zbY ((free.drop used).take l.length) l)).map zbx->N=((l.map zq.low).zip ((free.drop used).take l.length)).map cv->(∀k,(k<16\/161<k)->tm' k=tm k)->tm' 16=.sl (G.length+7) N.length 0 N.length (2*N.length) 2->Q .norm ⟨tm',D,r0::.row 57 1 0 0 [.sl 6 V.length 0 V.length (2*V.length) 2]::.row 3 1 0 0 [iv used]::r3::r4::r5::.row 120 2 V.length 0 V::(G++.row 265 2 N.length 0 N::G2)⟩) :
  W ET ET.caught none c110_6 ⟨tm,D,r0::.row 57 1 0 0 [.sl 6 V0.length 0 V0.length (2*V0.length) 2]::.row 3 1 0 0 [iv used]::r3::r4::r5::.row 120 2 V0.length 0 V0::(G++[.row 265 2 0 0 []])⟩ Q:=by
 unfold c110_6 xC;have hbl:((free.drop used).take l.length).length=l.length:=by rw[zAT9,zBJ9];omega
 have hbg:∀i,i<l.length->((free.drop used).take l.length)[i]?=some (free.getD (used+i) 0):=fun i hi=>by
  grind
 generalize hbs:(free.drop used).take l.length=bs at *
 have hll:=zeN bs l hbl;have hVl:∀i,(((bs.zip (zbY bs l)).take i).flatMap fun x=>zeq x.1 (zcw x.2)).length<=64*i:=fun i=>by
  rw[zj2,zAT9];omega
 refine ze (zbk (fun m s=>∃(i:Nat) (V N:LQ) (G2:LP),m=l.length-i/\i<=l.length/\V=V0++(((bs.zip (zbY bs l)).take i).flatMap fun x=>zeq x.1 (zcw x.2)).map zbx/\N=(((l.map zq.low).zip bs).take i).map cv/\(∀k,k≠105->(k<16\/(103<=k/\k<106)\/161<k)->s.tm k=tm k)/\s.tm 16=.sl (G.length+7) N.length 0 N.length (2*N.length) 2/\s.tm 105=iv i/\s.df=D/\s.H=r0::.row 57 1 0 0 [.sl 6 V.length 0 V.length (2*V.length) 2]::.row 3 1 0 0 [iv used]::r3::r4::r5::.row 120 2 V.length 0 V::(G++.row 265 2 N.length 0 N::G2)) (n:=l.length) ?_ ?_)
 .exact⟨0,V0,[],[],rfl,zAJ9 _,by simp,rfl,fun k _ _=>rfl,h16,h105,rfl,rfl⟩
 .rintro m ⟨tn,df,H⟩ ⟨i,V,N,G2,rfl,hi,hV,hN,hf,h16',h105',rfl,rfl⟩;dsimp only at hf h16' h105';have h1':=(hf 1 zy zy).trans h1;have h5':=(hf 5 zy zy).trans h5;have h6':=(hf 6 zy zy).trans h6;have h14':=(hf 14 zy zy).trans h14;have h103':=(hf 103 zy zy).trans h103;have h104':=(hf 104 zy zy).trans h104;have hVli:=hVl i;have hVlen:V.length<=V0.length+64*i:=by rw[hV,zAB9,zAP9];omega
  have hNl:N.length=i:=by rw[hN];simp;omega
  refine zLh (zr3 h103' h104' h105') ?_ ?_;rotate_left
  .intro hlt;have hlt:¬i<l.length:=zfd hlt;obtain rfl:i=l.length:=zo;refine hQ _ V N G2 ?_ ?_ (fun k k1=>?_) (by simp[upd,h16'])
   .rw[hV,zBR9 (by simp;omega)];rfl
   .rw[hN,zBR9 (by simp;omega)]
   .simp(disch:=omega)only[zbW];exact hf k zo zo
  intro hlt;have hlt:i<l.length:=ztd hlt;obtain⟨x,hx⟩:=zex (l:=l) hlt;have hxv:(l.map (zbr z))[i]?=some (zbr z x):=zmg hx;obtain⟨b,hb⟩:∃b,b=free.getD (used+i) 0:=⟨_,rfl⟩
  have hbi:=hbg i hlt;rw[<- hb]at hbi;have hfi:used+i<free.length:=zo;have hfv:(bfl free)[used+i]?=some (iv b):=by rw[zAF9,zAA9 hfi,hb,zAK9,zAA9 hfi];rfl
  have hbm:b<2048:=by
   rw[hb,zAK9,zAA9 hfi];exact hfb _ (zBK9 _)
  have hli:=zfZ bs l i x hbl hx;have hgx:=hg x (zAI9 hx);have e1:((used:Int)+(i:Int))=((used+i:Nat):Int):=zo;have e2:((i:Int)+1)=((i+1:Nat):Int):=zo;have e3:(((used+i:Nat):Int)+1)=((used+i+1:Nat):Int):=zo;generalize hx':({ x with sib:=bs.getD (i+1) 0 }:zq)=x' at hli;have hsib:bs.getD (i+1) 0<2048:=by
   rcases zCX9 (i+1) l.length with h|h
   .rw[zAK9,hbg _ h];show free.getD _ 0<2048;rw[zAK9,zAA9 (show used+(i+1)<free.length by omega)];exact hfb _ (zBK9 _)
   .rw[zAK9,zBL9 zo];decide
  have hgx':zd0 x':=by rw[<- hx'];exact hgx.1.setSib hsib
  refine zBb ?_;refine zB ?_;refine zB ?_;refine zbj (zr4 h103' h105' hxv hlt) ?_;refine zB ?_;refine zB ?_;refine zbj (zr5 h1' h6' e1 hfv hfi) ?_;refine zHW (zcJ (Q:=fun y s'=>y=.norm/\(∀k,k≠105->(k<16\/(103<=k/\k<106)\/161<k)->s'.tm k=tn k)/\s'.tm 16=.sl (G.length+7) N.length 0 N.length (2*N.length) 2/\s'.tm 18=.ptr ((G++zc.row 265 2 N.length 0 N::G2).length+7) 0 0 0 6/\s'.tm 19=iv b/\s'.tm 105=iv i/\s'.df=df/\s'.H=r0::.row 57 1 0 0 [.sl 6 V.length 0 V.length (2*V.length) 2]::.row 3 1 0 0 [iv used]::r3::r4::r5::.row 120 2 V.length 0 V::(G++.row 265 2 N.length 0 N::G2++[.row 143 6 0 0 [zbr z x']])) ?_ ?_)
  .by_cases hi1:i+1<l.length
   .have g1:((i+1:Nat):Int)<(l.length:Nat):=zo;have hfi2:used+i+1<free.length:=zo;have hfv2:(bfl free)[used+i+1]?=some (iv (bs.getD (i+1) 0:Nat)):=by
     rw[zAK9,hbg _ hi1,zAF9,zAA9 hfi2];show _=some (iv (free.getD (used+(i+1)) 0:Nat));rw[zAK9,zAA9 (show used+(i+1)<free.length by omega)];rfl
    refine zB ?_;refine zB ?_;refine zbj (zr3 h14' e2 g1) ?_;refine zct ?_;refine zae ?_;refine zfx ?_ (by simp(disch:=omega)only[go_sem,h1',h6',e1,e3,hfv2,gq2,gq3]<;>rfl);refine zcr ?_;refine⟨rfl,fun k k1 k2=>?_,zu h16',zt,zt,zu h105',rfl,?_⟩
    .simp(disch:=omega)only[zbW]
    .rw[<- hx']
   .have g1:¬((i+1:Nat):Int)<(l.length:Nat):=zo;refine zB ?_;refine zB ?_;refine zbj (zr3 h14' e2 g1) ?_;refine zcf ?_;refine zr ⟨rfl,fun k k1 k2=>?_,zu h16',zt,zt,zu h105',rfl,?_⟩
    .simp(disch:=omega)only[zbW]
    .have:x'=x:=by
      rw[<- hx',zAK9,zBL9 (show bs.length<=i+1 by omega)];have:=hgx.2;obtain⟨a1,a2,a3,a4,a5,a6⟩:=x;dsimp only at this;rw[this];rfl
     rw[this]
  rintro y ⟨tq,df2,H⟩ ⟨rfl,hf2,h16q,h18,h19,h105q,rfl,rfl⟩;dsimp only at *
  have hmk:=zES z x' (by have:=hgx'.few;omega);rw[hgx'.make]at hmk;unfold zt2 at hmk;rw[if_pos rfl]at hmk;refine zBr ?_;refine zfx ?_ (by simp(disch:=omega)only[go_sem,h18,gq2]<;>rfl);refine zCN hmk ?_;refine zBr ?_;refine zfx ?_;refine zCN (zek 2) ?_;refine zB ?_;refine zI ?_;refine zcd ?_;have h5q:tq 5=.ptr 1 0 0 0 1:=(hf2 5 zy zy).trans h5';refine zAe r0 _ r3 r4 r5 (zcw x') b hbm (by rw[zgx];omega) _ df2 V zo _ (by simp[upd,h5q]) (by simp[upd,h19]) (by simp[upd]) (by simp[upd]) (by simp[upd]) (fun tm2 V2 G3 hV2 hfr=>?_);have h16x:tm2 16=.sl (G.length+7) N.length 0 N.length (2*N.length) 2:=(hfr 16 zy zy zy).trans (by simp[upd,h16q]);have h18x:tm2 18=.ptr ((G++zc.row 265 2 N.length 0 N::G2).length+7) 0 0 0 6:=(hfr 18 zy zy zy).trans (by simp[upd,h18]);have h19x:tm2 19=iv b:=(hfr 19 zy zy zy).trans (by simp[upd,h19]);have h105x:tm2 105=iv i:=(hfr 105 zy zy zy).trans (by simp[upd,h105q]);have hbN:(N.length+1)*17<=140737488355328:=zo;have hN2:N++[cv (x.low,b)]=(((l.map zq.low).zip bs).take (i+1)).map cv:=by rw[zCG hbi hx,hN];simp
  have hV3:V2=V0++(((bs.zip (zbY bs l)).take (i+1)).flatMap fun x=>zeq x.1 (zcw x.2)).map zbx:=by rw[hV2,hV,zv1 hbi hli];simp
  have hxl:x'.low=x.low:=by rw[<- hx']
  refine zB ?_;refine zB ?_;refine zrg ?_ (by simp(disch:=omega)only[go_sem,h16x,h18x,h19x,gq4,gm0,gm3,sm3,hbN,hxl]<;>rfl);refine zcr ?_;refine zJF h105x ?_;refine⟨_,?m,i+1,V2,N++[cv (x.low,b)],?G5,rfl,hlt,hV3,hN2,fun k k1 k2=>?_,zt,by simp[upd,h105x],zt,?H⟩
  case m=>omega
  case H =>
   (try dsimp only);rw[zAB9];simp only[zAD9,zAS9,zAV9];rfl
  .simp(disch:=omega)only[zbW];rw[hfr k zo zo zo];simp(disch:=omega)only[zbW];exact(hf2 k k1 k2).trans (hf k k1 k2)


@[reducible] def zmt (n:Nat):FE:=.ret (.tuple [iv 0,.list 0 2 (([]:LJ).map zbx),iv 0,iv n])
@[reducible] def bOk (T:LD):FE:=.ret (.tuple [iv (zi6 T),.list 0 2 ((zcH T.reverse).map zbx),iv (T.reverse.flatMap Prod.fst).length,iv 0])
def zdR(l:LJ)(fr:LG):FE:=if okP l&&okI [] fr then match zeV l (fr.map Int.toNat)with
 | none=>zmt 221
 | some T=>bOk T else zmt 2
theorem zFQ(a b c:PV)(r3:zc)(R:LP):FO ET 167 [.ptr 0 0 0 0 1,.ptr 1 0 0 0 1,.ptr 2 0 0 0 1] (.row 3 1 0 0 [a]::.row 57 1 0 0 [b]::.row 3 1 0 0 [c]::r3::R) false fun e H'=>e=.ret (.tuple [])/\H'=.row 3 1 0 0 [iv 0]::.row 57 1 0 0 [.nilsl]::.row 3 1 0 0 [iv 0]::r3::R:=by
 refine zro (eG T167 func167) ?_;refine zJ ?_;exact⟨[],rfl,rfl,rfl⟩
theorem ze2:Lb (.list 0 2 (l.map zbx)):=.list fun x hx=>by
 obtain⟨y,hy,hx⟩:=zAU9.1 hx;obtain⟨n,_,rfl⟩:=zAH9.1 hy;simp[PV.cells]at hx;rcases hx with rfl|rfl<;>exact .int _ _
theorem Lb.four{a b c d:PV}(ha:Lb a)(hb:Lb b)(hc:Lb c)(hd:Lb d):Lb (.tuple [a,b,c,d]):=.tuple fun v hv=>by grind
theorem zup(fr:LG):LbE (zdR l fr):=by
 unfold zdR
 split
 .split
  .exact Lb.four (.int _ _) (ze2 _) (.int _ _) (.int _ _)
  .exact Lb.four (.int _ _) (ze2 _) (.int _ _) (.int _ _)
 .exact Lb.four (.int _ _) (ze2 _) (.int _ _) (.int _ _)
theorem zCx(fr:LG)(hl:l.length<=500)(hfr:fr.length<=2000):FN ET 110 [psv p l,.list q 1 (fr.map iv)] (zdR l fr):=by
 refine zfn (eG T110 func110) (zup l fr) ?_;refine zGI ?_;refine zgt (f:=91) (p:=.ptr 3 0 0 0 1) (cl:=.fn 167 [.ptr 0 0 0 0 1,.ptr 1 0 0 0 1,.ptr 2 0 0 0 1]) ?_ ?_ c35 ?_
 .rfl
 .simp only[go_sem]<;>rfl
 refine zN ?_;refine zG ?_;have bad:∀(tm:Nat->PV) (n:Nat) (a b c:PV) (R:LP),zdR l fr=zmt n->tm 4=.ptr 0 0 0 0 1->tm 5=.ptr 1 0 0 0 1->tm 6=.ptr 2 0 0 0 1->tm 7=.ptr 3 0 0 0 1->zev ET T110 (fun e' H=>zbp H 0 e' (zdR l fr)) (.panic (zck n)) ⟨tm,[.caught (.ptr 3 0 0 0 1) (.fn 167 [.ptr 0 0 0 0 1,.ptr 1 0 0 0 1,.ptr 2 0 0 0 1])],.row 3 1 0 0 [a]::.row 57 1 0 0 [b]::.row 3 1 0 0 [c]::.row 38 1 0 0 [iv 0]::R⟩:=fun tm n a b c R hn h4 h5 h6 h7=>by
  refine⟨n,167,[.ptr 0 0 0 0 1,.ptr 1 0 0 0 1,.ptr 2 0 0 0 1],false,3,0,1,rfl,rfl,rfl,(zFQ a b c _ R).mono fun e H he=>?_⟩;obtain⟨rfl,rfl⟩:=he;refine⟨rfl,_,rfl,[iv 0,.nilsl,iv 0,iv n],?_,?_⟩
  .simp[T110,xT,zaS,okv,h4,h5,h6,h7,zaz,zbl,zbo];rfl
  .rw[hn];exact zLF
 refine zhB 120 2 (id:=1) rfl ?_;simp only[lzy,zAG9,zAN9,zCR9,zCE9,zAS9,zAV9];refine zBQ _ _ _ _ _ _ p l zo _ _ [] (by simp[upd,zn]) (by simp[upd]) (by simp[upd]) (by simp[upd]) (by simp[upd]) (fun hok tm' m4 G hfr0=>?_) (fun tm1 m4 G1 hokP hf1=>?_)
 .exact bad _ 2 _ _ _ _ (by unfold zdR;grind) ((hfr0 4 zy).trans (by simp[upd])) ((hfr0 5 zy).trans (by simp[upd])) ((hfr0 6 zy).trans (by simp[upd])) ((hfr0 7 zy).trans (by simp[upd]))
 have k0:tm1 0=psv p l:=(hf1 0 zy zy zy).trans (by simp[upd,zn]);have k1:tm1 1=.list q 1 (fr.map iv):=(hf1 1 zy zy zy).trans (by simp[upd,zn]);have k4:tm1 4=.ptr 0 0 0 0 1:=(hf1 4 zy zy zy).trans (by simp[upd]);have k5:tm1 5=.ptr 1 0 0 0 1:=(hf1 5 zy zy zy).trans (by simp[upd]);have k6:tm1 6=.ptr 2 0 0 0 1:=(hf1 6 zy zy zy).trans (by simp[upd]);have k7:tm1 7=.ptr 3 0 0 0 1:=(hf1 7 zy zy zy).trans (by simp[upd]);have k9:tm1 9=.map 5:=(hf1 9 zy zy zy).trans (by simp[upd]);clear hf1;refine zB ?_;refine zB ?_;refine zbj k1 ?_;refine zB6 _ _ _ _ _ _ q fr zo _ _ G1 (by simp[upd,k9]) (by simp[upd]) (by simp[upd]) (by simp[upd]) (fun hok tm' m5 G hfr0=>?_) (fun tm2 m5 G2 hokI hf2=>?_)
 .exact bad _ 2 _ _ _ _ (by unfold zdR;grind) ((hfr0 4 zy).trans (by simp[upd,k4])) ((hfr0 5 zy).trans (by simp[upd,k5])) ((hfr0 6 zy).trans (by simp[upd,k6])) ((hfr0 7 zy).trans (by simp[upd,k7]))
 have j0:tm2 0=psv p l:=(hf2 0 zy zy).trans (by simp[upd,k0]);have j1:tm2 1=.list q 1 (fr.map iv):=(hf2 1 zy zy).trans (by simp[upd,k1]);have j4:tm2 4=.ptr 0 0 0 0 1:=(hf2 4 zy zy).trans (by simp[upd,k4]);have j5:tm2 5=.ptr 1 0 0 0 1:=(hf2 5 zy zy).trans (by simp[upd,k5]);have j6:tm2 6=.ptr 2 0 0 0 1:=(hf2 6 zy zy).trans (by simp[upd,k6]);have j7:tm2 7=.ptr 3 0 0 0 1:=(hf2 7 zy zy).trans (by simp[upd,k7]);clear hf2 k0 k1 k4 k5 k6 k7 k9;obtain⟨free,rfl,hokF⟩:=zlK hokI;have hfree:(free.map fun(b:Nat)=>(b:Int)).map Int.toNat=free:=by rw[zDH9];exact zGI9 free
 have hbE:zdR l (free.map fun(b:Nat)=>(b:Int))=match zeV l free with
   | none=>zmt 221
   | some T=>bOk T:=by unfold zdR;rw[hokP,hokI,hfree];rfl
 have hfv:(free.map fun(b:Nat)=>(b:Int)).map iv=bfl free:=by rw[zDH9];rfl
 rw[hfv]at j1;have hfl:free.length<=2000:=by simpa using hfr
 rw[hbE]at bad⊢;refine zBr ?_;refine zb2 j0 ?_;refine zcp (zBA p l zo) ?_;refine zN ?_;refine zG ?_;have hff:=(zfQ free).1 hokF;refine ze (zbk (fun m s=>∃(k:Nat) (nl:LB) (used:Nat) (T:LD) (z:Nat) (V:LQ) (G:LP),m=k/\1<=k/\3<=k+T.length/\zl6 l free nl used T/\zeV l free=zjd free k nl used T/\used=(T.reverse.flatMap Prod.fst).length/\V=(zcH T.reverse).map zbx/\V.length=64*used/\s.tm 1=.list q 1 (bfl free)/\s.tm 4=.ptr 0 0 0 0 1/\s.tm 5=.ptr 1 0 0 0 1/\s.tm 6=.ptr 2 0 0 0 1/\s.tm 7=.ptr 3 0 0 0 1/\s.tm 14=.list 0 6 (nl.map (zbr z))/\s.tm 15=iv (T.length+1:Nat)/\s.df=[.caught (.ptr 3 0 0 0 1) (.fn 167 [.ptr 0 0 0 0 1,.ptr 1 0 0 0 1,.ptr 2 0 0 0 1])]/\s.H=.row 3 1 0 0 [iv 0]::.row 57 1 0 0 [.sl 6 V.length 0 V.length (2*V.length) 2]::.row 3 1 0 0 [iv used]::.row 38 1 0 0 [iv 0]::m4::m5::.row 120 2 V.length 0 V::G) (n:=4) ?_ ?_)
 .exact⟨4,zcA l,0,[],p,[],_,rfl,by decide,by decide,zlA free hokP hl,rfl,rfl,rfl,rfl,by simp[upd,j1],by simp[upd,j4],by simp[upd,j5],by simp[upd,j6],by simp[upd,j7],zt,zt,rfl,rfl⟩
 .clear j0 j1 j4 j5 j6 j7;rintro m ⟨tm,df,H⟩ ⟨k,nl,used,T,z,V,G,rfl,hk1,hk3,hI,hbd,hus,hV,hVl,h1,h4,h5,h6,h7,h14,h15,rfl,rfl⟩;dsimp only at *
  obtain⟨k,rfl⟩:∃k,m=k+1:=⟨m-1,by omega⟩
  have hnl0:0<nl.length:=zCC9.2 hI.ok.ne;have hnlb:nl.length<=28:=by
   have:=hI.bndL;have hb:∀t,bndL t<=28:=fun t=>by match t with|0=>decide|1=>decide|t+2=>exact(show 1<=28 by decide)
   exact zBW9 this (hb _)
  rw[zjd]at hbd;have hul:=hI.used;have hw:IntKind.i64.wrap ((used:Int)+(nl.length:Int))=((used+nl.length:Nat):Int):=zwi;refine zBb ?_;refine zBr ?_
  by_cases hsp:free.length<used+nl.length
  .rw[if_pos hsp]at hbd;have g:¬((used+nl.length:Nat):Int)<=free.length:=zo;refine zb2 (zr5 h6 h14 h1 hw g) ?_;refine zcx (zdk 221) ?_;refine bad _ 221 _ _ _ _ (by rw[hbd]) ?_ ?_ ?_ ?_
   .simp(disch:=omega)only[zdE,zbW];exact h4
   .simp(disch:=omega)only[zdE,zbW];exact h5
   .simp(disch:=omega)only[zdE,zbW];exact h6
   .simp(disch:=omega)only[zdE,zbW];exact h7
  rw[if_neg hsp]at hbd;have g:((used+nl.length:Nat):Int)<=free.length:=zo;refine zb2 (zr5 h6 h14 h1 hw g) ?_;refine zCN (zek 221) ?_;refine zG ?_;refine zcL 265 2 (i:=16) rfl ?_;simp only[lzy,zAG9,zAS9];refine zGF h14 ?_;obtain⟨v1,v2,v3,v4,v5,v6,v7,v8⟩:=hI.level hokF hsp;have hnx:=hI.next hokF hsp;have hlvl:=hI.lvl;refine zCd _ _ _ _ q z free used nl zo zo (fun b hb=>(hff.1 b hb).2) (fun n hn=>⟨(hI.ok.each n hn).1,(hI.ok.each n hn).2.2⟩) _ _ V zo G (by simp[upd,h1]) (by simp[upd,h5]) (by simp[upd,h6]) (by simp[upd,h14]) (by simp[upd]) (by simp[upd]) (by simp[upd]) (by simp[upd]) (fun tm3 V2 N G3 hV2 hN hf3 h16=>?_);have x1:tm3 1=.list q 1 (bfl free):=(hf3 1 zy).trans (by simp[upd,h1]);have x4:tm3 4=.ptr 0 0 0 0 1:=(hf3 4 zy).trans (by simp[upd,h4]);have x5:tm3 5=.ptr 1 0 0 0 1:=(hf3 5 zy).trans (by simp[upd,h5]);have x6:tm3 6=.ptr 2 0 0 0 1:=(hf3 6 zy).trans (by simp[upd,h6]);have x7:tm3 7=.ptr 3 0 0 0 1:=(hf3 7 zy).trans (by simp[upd,h7]);have x14:tm3 14=.list 0 6 (nl.map (zbr z)):=(hf3 14 zy).trans (by simp[upd,h14]);have x15:tm3 15=iv (T.length+1:Nat):=(hf3 15 zy).trans (by simp[upd,h15]);generalize hbs:(free.drop used).take nl.length=bs at *
  have hpl:(zeh bs (zbY bs nl)).length=64*nl.length:=by
   unfold zeh;rw[zj2];simp[v1,zeN bs nl v1]
  have hV3:V2=(zcH ((bs,zbY bs nl)::T).reverse).map zbx:=by
   rw[hV2,hV,zFM9,zcH,zcH,zCI9];simp
  have hV2l:V2.length=64*(used+nl.length):=by rw[hV2,zAB9,zAP9,hpl];omega
  have hus2:used+nl.length=(((bs,zbY bs nl)::T).reverse.flatMap Prod.fst).length:=by
   rw[zFM9,zCI9,zAB9,<- hus];simp[v1]
  clear hf3 h1 h4 h5 h6 h7 h14 h15
  by_cases ho:nl.length=1
  .rw[if_pos ho]at hbd;have g1:((nl.length:Nat):Int)=1:=zo;obtain⟨b0,hb0⟩:=zEC9.1 (v1.trans ho);obtain⟨n0,hn0⟩:=zEC9.1 ho;have hN0:N=[cv (n0.low,b0)]:=by rw[hN,hb0,hn0];rfl
   subst hN0;refine zB ?_;refine zB ?_;refine zbj (zr3 x6 x14 hw) ?_;refine zB ?_;refine zB ?_;refine zbj (zr2 x14 g1) ?_;refine zct ?_;refine zBd ?_;refine zda ?_ (by simp(disch:=omega)only[go_sem,x4,x5,x6,h16,gm0]<;>rfl);refine zda ?_ (by simp(disch:=omega)only[go_sem,x5,gm0]<;>rfl);refine zda ?_ (by simp(disch:=omega)only[go_sem,x6,gm0]<;>rfl);refine zda ?_ (by simp(disch:=omega)only[go_sem,x7,gm0]<;>rfl);refine zQF x4 ?_;refine zbN ?_;have hT:(match zeV l free with
    | none=>zmt 221
    | some T=>bOk T)=bOk ((bs,zbY bs nl)::T):=by rw[hbd]
   rw[hT];have hroot:zi6 ((bs,zbY bs nl)::T)=b0:=by rw[hb0];rfl
   refine⟨[iv b0,.sl 6 V2.length 0 V2.length (2*V2.length) 2,iv (used+nl.length:Nat),iv 0],?_,Frz.tL ⟨?_,?_,?_,.int _ _,trivial⟩⟩
   .simp[zaS,okv,x4,x5,x6,x7,upd,zaz,zbl,zbo];rfl
   .rw[hroot];exact .int _ _
   .rw[<- hV3];refine Frz.wh rfl rfl rfl (zAE9 _) (fun v hv=>?_) (fun v hv=>?_)
    .rw[hV3]at hv;obtain⟨x,_,rfl⟩:=zAH9.1 hv;rfl
    .rw[hV3]at hv;obtain⟨x,hx,hv⟩:=zAU9.1 hv;obtain⟨y,_,rfl⟩:=zAH9.1 hx;simp[PV.cells]at hv;rcases hv with rfl|rfl<;>exact .int _ _
   .rw[<- hus2];exact .int _ _
  .rw[if_neg ho]at hbd;have g1:¬((nl.length:Nat):Int)=1:=zo;have hnx:=hnx ho;have hT1:T.length<=1:=by
    have:=hnx.lvl;simp at this;omega
   have g2:((T.length+1:Nat):Int)<=12:=zo;refine zB ?_;refine zB ?_;refine zbj (zr3 x6 x14 hw) ?_;refine zB ?_;refine zB ?_;refine zbj (zr2 x14 g1) ?_;refine zcf ?_;refine zSk ?_;refine zBr ?_;refine zb2 (zr2 x15 g2) ?_;refine zCN (zek 3) ?_;have hkl:((nl.map zq.low).zip bs).length=nl.length:=by simp[v1]
   have hab:=(zDS 1 (T.length+1) ((nl.map zq.low).zip bs) zo (fun x hx=>(v4 x.2 (zEK9 hx).2).2)).stays (Lb.nodes _);have hflat:∀l:LJ,∀v∈(l.map cv).flatMap PV.cells,Id0 v:=fun l v hv=>by
    obtain⟨x,hx,hv⟩:=zAU9.1 hv;obtain⟨y,_,rfl⟩:=zAH9.1 hx;simp[PV.cells]at hv;rcases hv with rfl|rfl<;>exact .int _ _
   refine zBr ?_;refine zb2 (zr2 h16 x15) ?_;refine zeA (caps:=?_) (vs:=?_) ?_ ?_ hab ?_ ?_;rotate_left 2;(first|rfl|(simp only[zaA,zaF,go_sem]<;>rfl));(simp only[go_sem]<;>rfl)
   .refine⟨?_,.int _ _,trivial⟩;refine Frz.wh (e:=265) (z':=2) (G:=N.length) (l:=((nl.map zq.low).zip bs).map cv) ?_ rfl (by rw[hN]) (by grind) zmm (hflat _);rw[<- hN];simp
   refine zK ?_;refine zJF x15 ?_;refine⟨k,zCS9 _,k,_,used+nl.length,(bs,zbY bs nl)::T,0,V2,_,rfl,by omega,?_,hnx,hbd,hus2,hV3,hV2l,by simp[upd,x1],by simp[upd,x4],by simp[upd,x5],by simp[upd,x6],by simp[upd,x7],zt,?_,rfl,rfl⟩
   .simp;omega
   .simp[upd]


theorem zwF(a b:LJ)(ha:zbQ a.length)(hb:zbQ b.length):FR 22 [.list p 2 (a.map zbx),.list q 2 (b.map zbx)] (.bool (decide (a=b))):=by
 refine zfn (eG T22 func22) (.bool _) ?_;refine zG ?_
 by_cases hl:a.length=b.length
 rotate_left
 .have g:¬(a.length:Int)=b.length:=zo;have hne:¬a=b:=fun h=>hl (by rw[h]);refine zB ?_;refine zfc ?_ ?_
  .intro _;refine zO ?_;exact zbp.bool (decide_eq_false hne).symm
  .intro h;simp[g]at h
 have g:(a.length:Int)=b.length:=zo;refine zB ?_;refine zfc ?_ ?_
 .intro h;simp[g]at h
 intro _;refine zSk ?_;refine zG ?_;refine ze (zbk (fun m s=>∃i:Nat,m=a.length-i/\i<=a.length/\decide (a=b)=decide (a.drop i=b.drop i)/\s.tm 0=.list p 2 (a.map zbx)/\s.tm 1=.list q 2 (b.map zbx)/\s.tm 5=iv i/\s.df=[]/\s.H=[]) (n:=a.length) ?_ ?_)
 .exact⟨0,by simp[upd,zn]⟩
 .rintro m ⟨tm,df,H⟩ ⟨i,rfl,hi,hd,h0,h1,h5,rfl,rfl⟩;dsimp only at h0 h1 h5;refine zLh (zr3 h0 h1 h5) ?_ ?_
  .intro hlt;have hlt:i<a.length:=ztd hlt;have hltb:i<b.length:=zo;have hda:a.drop i=a[i]::a.drop (i+1):=zAM9 hlt;have hdb:b.drop i=b[i]::b.drop (i+1):=zAM9 hltb;have hav:(a.map zbx)[i]?=some (zbx a[i]):=by rw[zAF9,zAA9 hlt];rfl
   have hbv:(b.map zbx)[i]?=some (zbx b[i]):=by rw[zAF9,zAA9 hltb];rfl
   have hee:(decide (((a[i].1:Nat):Int)=(b[i].1:Nat))&&decide (((a[i].2:Nat):Int)=(b[i].2:Nat)))=decide (a[i]=b[i]):=by
    rw[<- Bool.decide_and]
    congr 1
    rw[Prod.ext_iff];simp only[Int.natCast_inj]
   rw[hda,hdb]at hd;generalize a[i]=x at *
   generalize b[i]=y at *
   refine zBb ?_;refine zBd ?_;refine zdl ?_ (by simp(disch:=omega)only[go_sem,h0,h1,h5,hav,hbv,zyE]<;>rfl);refine zb4 ?_;simp only[go_sem];rw[hee]
   by_cases hx:x=y
   .refine zfc ?_ ?_
    .rw[decide_eq_true hx];intro h;cases h
    .intro _;refine zr ?_;refine zJF h5 ?_;refine⟨_,?m,i+1,rfl,hlt,?_,zu h0,zu h1,zu h5,zt,zt⟩
     case m=>omega
     rw[hd];simp only[hx,List.cons.injEq,true_and]
   .refine zfc ?_ ?_
    .intro _;refine zO ?_;exact zbp.bool (by grind)
    .rw[decide_eq_false hx];intro h;cases h
  .intro hlt;have hlt:¬i<a.length:=zfd hlt;obtain rfl:i=a.length:=zo;refine zO ?_;refine zbp.bool ?_
   grind
theorem zeP(x:Nat):FR 122 [iv 0,uv x] (.bool (decide (1<=x)&&decide (x<=1099511627776))):=by
 refine zfn (eG T122 func122) (.bool _) ?_;refine zG ?_;refine zB ?_;refine zct ?_
 by_cases b1:1<=x
 .have a1:(1:Int)<=x:=zo
  by_cases b2:x<=1099511627776
  .have a2:(x:Int)<=1099511627776:=zo;refine zOF (zr2 a1 a2) ?_;exact zbp.bool (by grind)
  .have a2:¬(x:Int)<=1099511627776:=zo;refine zOF (zr2 a1 a2) ?_;exact zbp.bool (by grind)
 .have a1:¬(1:Int)<=x:=zo;refine zOF a1 ?_;exact zbp.bool (by simp[b1])
theorem zu0(n:Nat)(hn:n<=500):FR 74 [iv n] (iv (zes n:Nat)):=by
 refine zfn (eG T74 func74) (.int _ _) ?_;have q1:IntKind.i64.wrap (((n:Int)+17).tdiv 18)=(((n+17)/18:Nat):Int):=by rw[show (n:Int)+17=((n+17:Nat):Int) by omega,IntWalk.i64_quo _ _ zo];omega
 have hm:max (1:Int) (((n+17)/18:Nat):Int)=((max 1 ((n+17)/18):Nat):Int):=zo;refine zGF (zr2 q1 hm) ?_;refine ze (zbk (fun m s=>∃(t m' c:Nat),m=m'/\t<=2/\1<=m'/\m'<=bndL t/\c<=10000*(t+1)/\zes n+m'=c+zhq (4-t) m'/\s.tm 3=iv m'/\s.tm 4=iv c/\s.df=[]/\s.H=[]) (n:=max 1 ((n+17)/18)) ?_ ?_)
 .exact⟨0,_,_,rfl,by decide,by omega,by simp[bndL];omega,by omega,zDS9 _ _,zt,zt,rfl,rfl⟩
 .rintro m ⟨tm,df,H⟩ ⟨t,m',c,rfl,ht,h1,hb,hc,hn,h3,h4,rfl,rfl⟩;dsimp only at h3 h4;refine zLh (zr2 h3 h4) ?_ ?_
  .intro hlt;have hlt:1<m:=ztd hlt;have q2:IntKind.i64.wrap (((m:Int)+18).tdiv 19)=(((m+18)/19:Nat):Int):=by
    have:m<=28:=zBW9 hb (by match t with|0=>decide|1=>decide|t+2=>exact(show 1<=28 by decide));rw[show (m:Int)+18=((m+18:Nat):Int) by omega,IntWalk.i64_quo _ _ zo];omega
   have hm28:m<=28:=zBW9 hb (by match t with|0=>decide|1=>decide|t+2=>exact(show 1<=28 by decide));have q3:IntKind.i64.wrap ((c:Int)+(((m+18)/19:Nat):Int))=((c+(m+18)/19:Nat):Int):=zwi;refine zBb ?_;refine zB ?_;refine zB ?_;refine zbj (zr2 h3 q2) ?_;refine zJF (zr3 h3 h4 q3) ?_;refine⟨(m+18)/19,by omega,t+1,(m+18)/19,c+(m+18)/19,rfl,?_,by omega,?_,by omega,?_,zt,zt,zt,zt⟩
   .match t,ht,hb with
    | 0,_,_=>decide
    | 1,_,_=>decide
    | 2,_,hb=>simp[bndL]at hb;omega
   .match t,ht,hb with
    | 0,_,hb=>simp[bndL]at hb⊢;omega
    | 1,_,hb=>simp[bndL]at hb⊢;omega
    | 2,_,hb=>simp[bndL]at hb;omega
   .have e:4-t=(4-(t+1))+1:=zo;rw[e,zhq,if_neg zo]at hn;omega
  .intro hlt;have hlt:¬1<m:=zfd hlt;obtain rfl:m=1:=zo;refine zOF h4 ?_;have e:4-t=(3-t)+1:=zo;rw[e,zhq,if_pos rfl]at hn;have:zes n=c:=zo;rw[this];exact Frz.int _ _
theorem zs6:∀(l s t:LG),(∀b,b∈s↔b∈t)->okI s l=okI t l
 | [],_,_,_=>rfl
 | b::l,s,t,h=>by
  rw[okI,okI,zs6 l (b::s) (b::t) fun c=>by grind]
  grind
theorem zwR(l:LG)(hl:l.length<1000000):FR 73 [.list p 1 (l.map iv)] (.bool (okI [] l)):=by
 refine zfn (eG T73 func73) (.bool _) ?_;refine zG ?_;refine ze (zbk (fun m s=>∃i:Nat,m=l.length-i/\i<=l.length/\okI [] l=okI (l.take i) (l.drop i)/\s.tm 0=.list p 1 (l.map iv)/\s.tm 3=iv i/\s.df=[]/\s.H=[]) (n:=l.length) ?_ ?_)
 .exact⟨0,by simp[upd,zn]⟩
 .rintro m ⟨tm,df,H⟩ ⟨i,rfl,hi,hd,h0,h3,rfl,rfl⟩;dsimp only at h0 h3;refine zLh (zr2 h0 h3) ?_ ?_;rotate_left
  .intro hlt;have hlt:¬i<l.length:=zfd hlt;obtain rfl:i=l.length:=zo;refine zO ?_;refine zbp.bool ?_;rw[hd,zBH9];rfl
  intro hlt;have hlt:i<l.length:=ztd hlt;obtain⟨x,hx⟩:=zex (l:=l) hlt;have hxv:(l.map iv)[i]?=some (iv x):=zmg hx;have hdx:l.drop i=x::l.drop (i+1):=zdc hx;rw[hdx,okI]at hd;have hle:i<=l.length:=hi;have htk:(l.map iv).take i=(l.take i).map iv:=by rw[zCN9]
  have hhas:=zp7 p (l.take i) x (by grind);refine zBb ?_;refine zBd ?_
  by_cases b1:x<1
  .refine zfw (by first|exact trivial|simp only[go_sem,h0,h3,hxv,hlt,b1]) (by simp(disch:=omega)only[go_sem,h0,h3,hxv,b1]<;>rfl) rfl (by simp only[go_sem,b1]<;>rfl) (by simp only[go_sem]<;>rfl) ?_;refine zQF h0 ?_;refine zfc ?_ ?_
   .intro _;refine zO ?_;refine zbp.bool ?_
    grind
   .intro h;cases h
  by_cases b2:2047<x
  .refine zfw (by first|exact trivial|simp only[go_sem,h0,h3,hxv,hlt,b1,b2]) (by simp(disch:=omega)only[go_sem,h0,h3,hxv,b1,b2]<;>rfl) rfl (by simp only[go_sem,b2]<;>rfl) (by simp only[go_sem]<;>rfl) ?_;refine zQF h0 ?_;refine zfc ?_ ?_
   .intro _;refine zO ?_;refine zbp.bool ?_
    grind
   .intro h;cases h
  refine zcu (zr8 h0 h3 hxv hlt hle b1 b2 htk) hhas ?_;refine zQF h0 ?_
  by_cases hc:(l.take i).contains x=true
  .refine zIe hc ?_ ?_
   .intro _;refine zO ?_;refine zbp.bool ?_
    grind
   .intro h;cases h
  have hc:(l.take i).contains x=false:=by simpa using hc
  refine zIg hc ?_;refine zr ?_;refine zJF h3 ?_;refine⟨_,?m,i+1,rfl,hlt,?_,zu h0,zu h3,zt,zt⟩
  case m=>omega
  rw[hd,hc];have:l.take (i+1)=l.take i++[x]:=by rw[zBB9,hx];rfl
  rw[this,zs6 _ (x::l.take i) (l.take i++[x]) fun b=>by grind]
  grind
theorem zoB(hl:l.length<1000000):FR 72 [psv p l] (.bool (okP l)):=by
 refine zfn (eG T72 func72) (.bool _) ?_;refine zG ?_;refine ze (zbk (fun m s=>∃(i:Nat) (seen:LN) (mo:zc),m=l.length-i/\i<=l.length/\znc mo seen/\okP l=zi7 seen (zeB l i) (l.drop i)/\s.tm 0=psv p l/\s.tm 3=.map 0/\s.tm 4=iv i/\s.df=[]/\s.H=[mo]) (n:=l.length) ?_ ?_)
 .exact⟨0,[],.map0,rfl,zAJ9 _,.inl ⟨rfl,rfl⟩,(zqL l).symm,zt,zt,zt,rfl,rfl⟩
 .rintro m ⟨tm,df,H⟩ ⟨i,seen,mo,rfl,hi,hs,hd,h0,h3,h4,rfl,rfl⟩;dsimp only at h0 h3 h4;refine zLh (zr2 h0 h4) ?_ ?_;rotate_left
  .intro hlt;have hlt:¬i<l.length:=zfd hlt;obtain rfl:i=l.length:=zo;refine zO ?_;refine zbp.bool ?_;rw[hd,zBH9];rfl
  intro hlt;have hlt:i<l.length:=ztd hlt;obtain⟨x,hx⟩:=zex (l:=l) hlt;have hxv:(l.map pv)[i]?=some (pv x):=zmg hx;have hdx:l.drop i=x::l.drop (i+1):=zdc hx;rw[hdx,zi7]at hd;have hpk:some x.1=zeB l (i+1):=by unfold zeB;rw[if_neg zo,zFK9,zAK9,hx];rfl
  rw[hpk]at hd;refine zBb ?_;refine zB ?_;refine zcJ (Q:=fun y s'=>y=.norm/\s'.tm 46=.bool (!zc8 seen (zeB l i) x)/\s'.tm 0=psv p l/\s'.tm 3=.map 0/\s'.tm 4=iv i/\s'.df=[]/\s'.H=[mo]) (zaB ?_) ?_
  .by_cases b0:(decide (1<=x.2)&&decide (x.2<=1099511627776))=true
   rotate_left
   .have b0:(decide (1<=x.2)&&decide (x.2<=1099511627776))=false:=by simpa using b0
    refine zcu (zr6 h0 h3 h4 hxv hlt b0) (zeP x.2) ?_;refine zQF (zr6 h0 h3 h4 hxv hlt b0) ?_;exact⟨by simp[zc8,b0],h0,h3,h4⟩
   have b1:1<=x.2:=by simp at b0;exact b0.1
   have b2:x.2<=1099511627776:=by simp at b0;exact b0.2
   by_cases b3:i=0
   .subst b3;rcases hs with⟨rfl,rfl⟩|⟨mm,rfl,hmm⟩
    .skip
     refine zcu (zr6 h0 h3 h4 hxv hlt b0) (zeP x.2) ?_;refine zQF (zr6 h0 h3 h4 hxv hlt b0) ?_;exact⟨by simp[zc8,b1,b2,zeB,zeu],h0,h3,h4⟩
    .have hq:=hmm x.2
     by_cases hc:seen.contains x.2=true
     .rw[if_pos hc]at hq;have hc2:x.2∈seen:=by simpa using hc
      refine zcu (zr7 h0 h3 h4 hxv hlt b0 hq) (zeP x.2) ?_;refine zQF (zr7 h0 h3 h4 hxv hlt b0 hq) ?_;exact⟨by simp[zc8,b1,b2,zeB,zeu,hc2],h0,h3,h4⟩
     .rw[if_neg hc]at hq;have hc2:¬x.2∈seen:=by simpa using hc
      refine zcu (zr7 h0 h3 h4 hxv hlt b0 hq) (zeP x.2) ?_;refine zQF (zr7 h0 h3 h4 hxv hlt b0 hq) ?_;exact⟨by simp[zc8,b1,b2,zeB,zeu,hc2],h0,h3,h4⟩
   have hi0:(0:Int)<(i:Int):=zo;have hi1:IntKind.i64.wrap ((i:Int)-1)=((i-1:Nat):Int):=zwi;have hil:i-1<l.length:=zo;have hpv:(l.map pv)[i-1]?=some (pv (l.getD (i-1) (0,0))):=by rw[zAF9,get_lt l hil];rfl
   have hpk2:zeB l i=some (l.getD (i-1) (0,0)).1:=by unfold zeB;rw[if_neg b3]
   generalize l.getD (i-1) (0,0)=pr at hpv hpk2
   by_cases b4:pr.1<x.1
   .have hkey:¬((x.1:Nat):Int)<=(pr.1:Nat):=zo;rcases hs with⟨rfl,rfl⟩|⟨mm,rfl,hmm⟩
    .skip
     refine zcu (zhg h0 h3 h4 hxv hlt b0 hi0 hi1 hil hpv hkey) (zeP x.2) ?_;refine zQF (zhg h0 h3 h4 hxv hlt b0 hi0 hi1 hil hpv hkey) ?_;exact⟨by simp[zc8,b1,b2,hpk2,zeu,b4],h0,h3,h4⟩
    .have hq:=hmm x.2
     by_cases hc:seen.contains x.2=true
     .rw[if_pos hc]at hq;have hc2:x.2∈seen:=by simpa using hc
      refine zcu (zef h0 h3 h4 hxv hlt b0 hi0 hi1 hil hpv hkey hq) (zeP x.2) ?_;refine zQF (zef h0 h3 h4 hxv hlt b0 hi0 hi1 hil hpv hkey hq) ?_;exact⟨by simp[zc8,b1,b2,hpk2,zeu,b4,hc2],h0,h3,h4⟩
     .rw[if_neg hc]at hq;have hc2:¬x.2∈seen:=by simpa using hc
      refine zcu (zef h0 h3 h4 hxv hlt b0 hi0 hi1 hil hpv hkey hq) (zeP x.2) ?_;refine zQF (zef h0 h3 h4 hxv hlt b0 hi0 hi1 hil hpv hkey hq) ?_;exact⟨by simp[zc8,b1,b2,hpk2,zeu,b4,hc2],h0,h3,h4⟩
   .have hkey:((x.1:Nat):Int)<=(pr.1:Nat):=zo;refine zcu (zhg h0 h3 h4 hxv hlt b0 hi0 hi1 hil hpv hkey) (zeP x.2) ?_;refine zQF (zhg h0 h3 h4 hxv hlt b0 hi0 hi1 hil hpv hkey) ?_;exact⟨by simp[zc8,b1,b2,hpk2,zeu,b4],h0,h3,h4⟩
  clear h0 h3 h4;rintro y ⟨tm,df,H⟩ ⟨rfl,h46,h0,h3,h4,rfl,rfl⟩;dsimp only at *
  by_cases hst:zc8 seen (zeB l i) x=true
  rotate_left
  .have hst:zc8 seen (zeB l i) x=false:=by simpa using hst
   refine zIe h46 ?_ ?_
   .intro _;refine zO ?_;refine zbp.bool ?_
    grind
   .rw[hst];intro h;cases h
  rw[hst,zCB9]at hd;refine zIe h46 ?_ ?_
  .rw[hst];intro h;cases h
  intro _;refine zSk ?_;rcases hs with⟨rfl,rfl⟩|⟨mm,rfl,hmm⟩
  .refine zJF (zr5 h0 h3 h4 hxv hlt) ?_;refine zJF h4 ?_;refine⟨_,?m1,i+1,[x.2],_,rfl,hlt,.inr ⟨_,rfl,fun q=>?_⟩,hd,zu h0,zu h3,zu h4,rfl,rfl⟩
   case m1=>omega
   by_cases hq:q=x.2
   .subst hq;simp
   .have:¬(q:Int)=x.2:=zo;simp[hq,this]
  .refine zJF (zr5 h0 h3 h4 hxv hlt) ?_;refine zJF h4 ?_;refine⟨_,?m2,i+1,x.2::seen,_,rfl,hlt,.inr ⟨_,rfl,fun q=>?_⟩,hd,zu h0,zu h3,zu h4,rfl,rfl⟩
   case m2=>omega
   by_cases hq:q=x.2
   .subst hq;simp
   .have:¬(q:Int)=x.2:=zo;rw[if_neg this,hmm q];simp[hq]


theorem zzB(n:zq)(h1:n.level<=12)(h2:n.sib<2048)(h3:n.way<=2)(hp:n.pairs.length<=27):FR 75 [zbr p n] (wv 0 (zcw n)):=by
 refine zfn (eG T75 func75) (Lb.uvs _) ?_;have e0:(7522529147838689024:Int)+(n.level:Int)=((7522529147838689024+n.level:Nat):Int):=zo;have g:∀k,k<64->∃v,((zcN n k).map uv)[k]?=some v:=fun k hk=>⟨_,zAA9 (by rw[zAP9,zi1];exact hk)⟩
 have s:∀k,(zcN n (k+1)).map uv=((zcN n k).map uv).set k (uv (zop k n)):=fun k=>by rw[show zcN n (k+1)=(zcN n k).set k (zop k n)from rfl,zDT9]
 obtain⟨v0,g0⟩:=g 0 zy;obtain⟨v1,g1⟩:=g 1 zy;obtain⟨v2,g2⟩:=g 2 zy;obtain⟨v3,g3⟩:=g 3 zy;obtain⟨v4,g4⟩:=g 4 zy;have s0:((zcN n 0).map uv).set 0 (.int .u64 ((7522529147838689024+n.level:Nat):Int))=(zcN n 1).map uv:=(s 0).symm;have s1:((zcN n 1).map uv).set 1 (.int .u64 (n.sib:Int))=(zcN n 2).map uv:=(s 1).symm;have s2:((zcN n 2).map uv).set 2 (.int .u64 (n.low:Int))=(zcN n 3).map uv:=(s 2).symm;have s3:((zcN n 3).map uv).set 3 (.int .u64 (n.left:Int))=(zcN n 4).map uv:=(s 3).symm;have s4:((zcN n 4).map uv).set 4 (.int .u64 (n.way:Int))=(zcN n 5).map uv:=(s 4).symm;refine zB ?_;refine zI ?_;refine zcd ?_;refine zB ?_;refine zI ?_;refine zcd ?_;have h00:List.replicate 64 (PV.int .u64 0)=(zcN n 0).map uv:=by rw[show zcN n 0=List.replicate 64 0 from rfl,zEW9];rfl
 rw[h00];generalize hL0:(zcN n 0).map uv=L0 at *
 generalize hL1:(zcN n 1).map uv=L1 at *
 generalize hL2:(zcN n 2).map uv=L2 at *
 generalize hL3:(zcN n 3).map uv=L3 at *
 generalize hL4:(zcN n 4).map uv=L4 at *
 generalize hL5:(zcN n 5).map uv=L5 at *
 refine zBd ?_;refine zcs (zr3 e0 g0 s0) ?_;refine zcs (zr2 g1 s1) ?_;refine zcs (zr2 g2 s2) ?_;refine zcs (zr2 g3 s3) ?_;refine zcs (zr2 g4 s4) ?_;refine zQF e0 ?_;refine zG ?_;subst hL5;refine ze (zbk (fun m s=>∃(j:Nat) (G:LP),m=n.pairs.length-j/\j<=n.pairs.length/\s.tm 1=.ptr 0 0 0 0 6/\s.tm 3=.sl 1 0 0 64 128 1/\s.tm 4=iv j/\s.df=[]/\s.H=.row 143 6 0 0 [zbr p n]::.row 29 1 0 0 ((zdy n j).map uv)::G) (n:=n.pairs.length) ?_ ?_)
 .exact⟨0,_,rfl,zAJ9 _,zt,zt,zt,rfl,rfl⟩
 .rintro m ⟨tm,df,H⟩ ⟨j,G,rfl,hj,t1,t3,t4,rfl,rfl⟩;dsimp only at t1 t3 t4;refine zLh (zr2 t1 t4) ?_ ?_
  .intro hlt;have hlt:j<n.pairs.length:=ztd hlt;have hpj:(n.pairs.map pv)[j]?=some (pv (n.pairs.getD j (0,0))):=by rw[zAF9,get_lt _ hlt];rfl
   obtain⟨o1,ho1⟩:∃old,(zdy n j)[8+2*j]?=some old:=⟨_,zAA9 (by rw[zet];omega)⟩
   obtain⟨o2,ho2⟩:∃old,((zdy n j).set (8+2*j) (n.pairs.getD j (0,0)).1)[8+2*j+1]?=some old:=⟨_,zAA9 (by rw[zBT9,zet];omega)⟩
   have w1:IntKind.i64.wrap (2*(j:Int))=((2*j:Nat):Int):=zwi;have w2:IntKind.i64.wrap (8+((2*j:Nat):Int))=((8+2*j:Nat):Int):=zwi;have w3:IntKind.i64.wrap (9+((2*j:Nat):Int))=((8+2*j+1:Nat):Int):=zwi;have c1:8+2*j<64:=zo;have c2:8+2*j+1<64:=zo;have z1:((zdy n j).map uv)[8+2*j]?=some (uv o1):=zmg ho1;have z2:(((zdy n j).set (8+2*j) (n.pairs.getD j (0,0)).1).map uv)[8+2*j+1]?=some (uv o2):=zmg ho2;have y1:((zdy n j).map uv).set (8+2*j) (.int .u64 ((n.pairs.getD j (0,0)).1:Int))=((zdy n j).set (8+2*j) (n.pairs.getD j (0,0)).1).map uv:=zDT9.symm;have y2:(((zdy n j).set (8+2*j) (n.pairs.getD j (0,0)).1).map uv).set (8+2*j+1) (.int .u64 ((n.pairs.getD j (0,0)).2:Int))=(zdy n (j+1)).map uv:=zDT9.symm;generalize n.pairs.getD j (0,0)=q at *
   generalize (zdy n j).map uv=K0 at *
   generalize ((zdy n j).set (8+2*j) q.1).map uv=K1 at *
   refine zBb ?_;refine zBd ?_;refine zcs (zh5 t1 t3 t4 hpj w1 w2 w3 c1 z1 y1) ?_;refine zcs (zr3 c2 z2 y2) ?_;refine zdl ?_ (by simp(disch:=omega)only[go_sem]<;>rfl);refine zb4 ?_;simp only[go_sem];refine zB ?_;refine zGM t4 ?_;refine zcr ?_;refine⟨_,?m2,j+1,G,rfl,hlt,by simp[upd,t1],by simp[upd,t3],by simp[upd],rfl,rfl⟩;omega
  .intro hlt;have hlt:¬j<n.pairs.length:=zfd hlt;obtain rfl:j=n.pairs.length:=zo;(repeat(first|refine zHW ?_|refine zbj t3 ?_));refine zbN (zfr ?_);refine Frz.wh (l:=(zdy n n.pairs.length).map uv) rfl rfl (by simp[zet]) (by simp[zet]) (fun v hv=>?_) zod;obtain⟨x,_,rfl⟩:=zAH9.1 hv;rfl
theorem Frz.wM{H:LP}{lab id e z z' G M o n q:Nat}{l:LQ}(hH:H[id]?=some (.row e z' G M l))(hM:M<=G)(ho:o=0)(hl:n=l.length)(hq:2*l.length<=q)(hz:∀v∈l,v.cells.length=z)(hs:∀v∈l.flatMap PV.cells,Id0 v) :
  Frz H lab (.sl id G o n q z) (.list lab z l):=by
 subst ho hl;refine .sl hH hM (zAE9 _) zo hq rfl hz (by simp) fun i x y hx hy=>?_;have:x=y:=by grind
 subst this;exact(hs _ (zAI9 hy)).frz


@[reducible] def zdt (n:zq) (pvl:PV):PV:=.agg [iv n.level,iv n.sib,uv n.low,uv n.left,iv n.way,pvl]
def ziv(H:LP)(pvl:PV)(ps:LJ):Prop:=(pvl=.nilsl/\ps=[])\/∃id g,pvl=.sl id g 0 ps.length (2*ps.length) 2/\H[id]?=some (.row 92 2 g 0 (ps.map pv))
def zfV:PV->LC
 | .sl id _ _ _ _ _=>some id
 | _=>none
structure Lvl(H:LP)(vs:LQ)(ps:LQ)(nodes:LB):Prop where
 lenV:vs.length=nodes.length
 lenP:ps.length=nodes.length
 val:∀(q:Nat) (n:zq) (p:PV),nodes[q]?=some n->ps[q]?=some p->vs[q]?=some (zdt n p)/\ziv H p n.pairs
 dist:∀(q r:Nat) (x y:PV) (a:Nat),ps[q]?=some x->ps[r]?=some y->zfV x=some a->zfV y=some a->q=r
def isP:zc->Prop
 | .row e _ _ _ _=>e=92
 | _=>False
variable {H H':LP}{p:PV}{ps vs:LQ}(lv k:Nat)(ks:LJ)(m i c j:Nat)
theorem ziv.keep{ps:LJ}(h:ziv H p ps)(k:∀(id:Nat) (o:zc),zfV p=some id->isP o->H[id]?=some o->H'[id]?=some o):ziv H' p ps:=by
 rcases h with h|⟨id,g,rfl,h2⟩
 .exact .inl h
 .exact .inr ⟨id,g,rfl,k id _ rfl rfl h2⟩
theorem Lvl.keep{nodes:LB}(h:Lvl H vs ps nodes)(k:∀(id:Nat) (o:zc),isP o->H[id]?=some o->H'[id]?=some o):Lvl H' vs ps nodes :=
 ⟨h.lenV,h.lenP,fun q n p hn hp=>⟨(h.val q n p hn hp).1,(h.val q n p hn hp).2.keep fun id o _ ho hi=>k id o ho hi⟩,h.dist⟩
theorem Lvl.nil(H:LP):Lvl H [] [] []:=⟨rfl,rfl,fun q n p h=>by simp at h,fun q r x y a h=>by simp at h⟩
theorem Lvl.snoc{nodes:LB}(h:Lvl H vs ps nodes)(n:zq)(hn:n.pairs=[]):Lvl H (vs++[zdt n .nilsl]) (ps++[.nilsl]) (nodes++[n]):=by
 refine⟨by simp[h.lenV],by simp[h.lenP],fun q m p hm hp=>?_,fun q r x y a hx hy ha hb=>?_⟩
 .rcases zCX9 q nodes.length with hq|hq
  .rw[zAX9 hq]at hm;rw[zAX9 (by rw[h.lenP];exact hq)]at hp;rw[zAX9 (by rw[h.lenV];exact hq)];exact h.val q m p hm hp
  .rw[zBC9 hq]at hm;rw[zBC9 (by rw[h.lenP];exact hq)]at hp;rw[zBC9 (by rw[h.lenV];exact hq)];rw[h.lenP]at hp;rw[h.lenV];obtain rfl:=zBI9.1 (zAI9 hm);obtain rfl:=zBI9.1 (zAI9 hp);have h0:q-nodes.length=0:=by have:=(zAC9.1 hm).1;simp at this;omega
   rw[h0];exact⟨rfl,.inl ⟨rfl,hn⟩⟩
 .have hl:∀(s:Nat) (z:PV),(ps++[PV.nilsl])[s]?=some z->zfV z=some a->ps[s]?=some z:=fun s z hz he=>by
   rcases zCX9 s ps.length with hs|hs
   .grind
   .rw[zBC9 hs]at hz;obtain rfl:=zBI9.1 (zAI9 hz);simp[zfV]at he
  exact h.dist q r x y a (hl q x hx ha) (hl r y hy hb) ha hb
theorem Lvl.last{vf pf:LQ}{front:LB}{v p':PV}{nd nd':zq}(h:Lvl H (vf++[v]) (pf++[p]) (front++[nd]))(hlv:vf.length=front.length)(hlp:pf.length=front.length)(hp':ziv H' p' nd'.pairs)(hd:∀a,zfV p'=some a->zfV p=some a\/H.length<=a)(k:∀(id:Nat) (o:zc),isP o->H[id]?=some o->H'[id]?=some o\/zfV p=some id):Lvl H' (vf++[zdt nd' p']) (pf++[p']) (front++[nd']):=by
 have hlast:(pf++[p])[front.length]?=some p:=by rw[<- hlp];simp
 have hpq:∀(q:Nat) (x:PV),q<front.length->pf[q]?=some x->(pf++[p])[q]?=some x:=fun q x hq hx=>by grind
 have hbound:∀(q:Nat) (x:PV) (a:Nat),q<front.length->pf[q]?=some x->zfV x=some a->a<H.length:=fun q x a hq hx ha=>by
  obtain⟨n,hn⟩:=zex (l:=front) hq;have:=(h.val q n x (by grind) (hpq q x hq hx)).2;rcases this with⟨rfl,_⟩|⟨id,g,rfl,h2⟩
  .simp[zfV]at ha
  .simp[zfV]at ha;grind
 refine⟨by grind,by grind,fun q m x hm hx=>?_,fun q r x y a hx hy ha hb=>?_⟩
 .rcases zCX9 q front.length with hq|hq
  .rw[zAX9 hq]at hm;rw[zAX9 zo]at hx;rw[zAX9 zo];have hv:=h.val q m x (by grind) (hpq q x hq hx);rw[zAX9 zo]at hv;refine⟨hv.1,hv.2.keep fun id o he ho hi=>?_⟩;rcases k id o ho hi with h1|h1
   .exact h1
   .exact absurd (h.dist q front.length x p id (hpq q x hq hx) hlast he h1) zo
  .rw[zBC9 hq]at hm;rw[zBC9 zo]at hx;rw[zBC9 zo]
   grind
 .have hcase:∀(s:Nat) (z:PV),(pf++[p'])[s]?=some z->(s<front.length/\pf[s]?=some z)\/(s=front.length/\z=p'):=fun s z hz=>by
   rcases zCX9 s front.length with hs|hs
   .grind
   .rw[zBC9 zo]at hz;have h0:s-pf.length=0:=by have:=(zAC9.1 hz).1;simp at this;omega
    grind
  have key:∀(s:Nat) (z:PV),s<front.length->pf[s]?=some z->zfV z=some a->zfV p'=some a->False:=fun s z hs hz he hp=>by
   rcases hd a hp with h1|h1
   .exact absurd (h.dist s front.length z p a (hpq s z hs hz) hlast he h1) zo
   grind
  rcases hcase q x hx with⟨h1,h2⟩|⟨h1,h2⟩
  .rcases hcase r y hy with⟨h3,h4⟩|⟨h3,h4⟩
   .exact h.dist q r x y a (hpq q x h1 h2) (hpq r y h3 h4) ha hb
   grind
  grind
theorem znx(h:j<m)(hm:m<=ks.length):(ks.take m).getD j (0,0)=ks.getD j (0,0):=by grind
theorem zp8(h:k*j+k<=m):((ks.take m).drop (k*j)).take k=(ks.drop (k*j)).take k:=by
 rw[zDJ9,zFF9,zDV9 zo]
theorem zpL(h:m<=k*j+k):((ks.take m).drop (k*j)).take k=(ks.drop (k*j)).take (m-k*j):=by
 rw[zDJ9,zFF9,Nat.min_eq_right zo]
def zen(n:zq)(l:LJ):zq:={ n with pairs:=l }
def zqQ(lv i:Nat)(x:Pr)(L:LB):LB:=if i%19=0 then L++[⟨lv,0,x.1,x.2,0,[]⟩]else
 match L.getLast? with
 | some n=>L.dropLast++[zen n (n.pairs++[x])]
 | none=>L
theorem ztR(hm:m<=ks.length)(hc:19*c<=m):(List.range c).map (zdK lv (ks.take m))=(List.range c).map (zdK lv ks):=by
 refine zEB9 fun j hj=>?_;have hj:j<c:=zCL9.1 hj;unfold zdK;rw[znx ks m _ zo hm,zp8 19 ks m j zo]
theorem zAa(hm:m<=ks.length)(h1:19*c<m)(h2:m<=19*c+19):zdK lv (ks.take m) c=⟨lv,0,(ks.getD (19*c) (0,0)).1,(ks.getD (19*c) (0,0)).2,0,((ks.drop (19*c)).take (m-19*c)).drop 1⟩:=by
 unfold zdK;rw[znx ks m _ h1 hm,zpL 19 ks m c h2]
theorem zkN(hm:m<=ks.length)(h1:19*c<m)(h2:m<=19*c+19):zc5 lv (ks.take m)=(List.range c).map (zdK lv ks)++[⟨lv,0,(ks.getD (19*c) (0,0)).1,(ks.getD (19*c) (0,0)).2,0,((ks.drop (19*c)).take (m-19*c)).drop 1⟩]:=by
 unfold zc5;have:(zbU 19 (ks.take m)).length=c+1:=by rw[zdT,zAT9,zDV9 hm];omega
 rw[this,zCJ9,zBE9,ztR lv ks m c hm zo];simp only[zBY9,zBD9];rw[zAa lv ks m c hm h1 h2]
theorem zH8(hi:i<ks.length):zc5 lv (ks.take (i+1))=zqQ lv i (ks.getD i (0,0)) (zc5 lv (ks.take i)):=by
 unfold zqQ
 by_cases h:i%19=0
 .rw[if_pos h];obtain⟨c,rfl⟩:∃c,i=19*c:=⟨i/19,by omega⟩
  rw[zkN lv ks (19*c+1) c zo zo zo];have e:zc5 lv (ks.take (19*c))=(List.range c).map (zdK lv ks):=by
   unfold zc5;have:(zbU 19 (ks.take (19*c))).length=c:=by rw[zdT,zAT9,zDV9 zo];omega
   rw[this,ztR lv ks (19*c) c zo zo]
  simp_all
 .rw[if_neg h];have hc1:19*(i/19)<i:=zo;rw[zkN lv ks i (i/19) zo hc1 zo,zkN lv ks (i+1) (i/19) zo zo zo];simp only[zFD9,zEL9,zen]
  congr 3
  have e:i+1-19*(i/19)=(i-19*(i/19))+1:=zo;rw[e,zBB9,zEO9 (by grind)]
  grind
def zhO(i:Nat)(x:Pr)(L:LB):LB:=if 0<i/\i%18=0 then L++[⟨0,0,x.1,9223372036854775808,0,[]⟩]else L
def zua(x:Pr)(L:LB):LB:=match L.getLast? with
 | some n=>L.dropLast++[zen n (n.pairs++[x])]
 | none=>L
theorem zC1(hm:m<=ks.length)(hc:18*c<=m):(List.range c).map (zdm (ks.take m))=(List.range c).map (zdm ks):=by
 refine zEB9 fun j hj=>?_;have hj:j<c:=zCL9.1 hj;unfold zdm;rw[znx ks m _ zo hm,zp8 18 ks m j zo]
theorem zjp(hm:m<=ks.length)(h1:18*c<m\/(m=0/\c=0))(h2:m<=18*c+18):zcA (ks.take m)=(List.range c).map (zdm ks)++[⟨0,0,if 0<c then(ks.getD (18*c) (0,0)).1 else 0,9223372036854775808,0,(ks.drop (18*c)).take (m-18*c)⟩]:=by
 rw[zjm,zAT9,zDV9 hm];have:max 1 ((m+17)/18)=c+1:=zo;rw[this,zCJ9,zBE9,zC1 ks m c hm zo];simp only[zBY9,zBD9]
 congr 2
 unfold zdm;rw[zpL 18 ks m c h2]
 grind
theorem zBH(hi:i<ks.length):zcA (ks.take (i+1))=zua (ks.getD i (0,0)) (zhO i (ks.getD i (0,0)) (zcA (ks.take i))):=by
 unfold zhO
 by_cases h:0<i/\i%18=0
 .rw[if_pos h];obtain⟨c,rfl⟩:∃c,i=18*(c+1):=⟨i/18-1,by omega⟩
  rw[zjp ks (18*(c+1)+1) (c+1) zo zo zo,zjp ks (18*(c+1)) c zo zo zo];unfold zua;simp only[zFD9,zEL9,zen];rw[zCJ9,zBE9];simp only[zBY9,zBD9,zAV9]
  congr 2
  .congr 2
   unfold zdm
   grind
  .rw[if_pos (zCU9 _)]
   congr 1
   rw[show 18*(c+1)+1-18*(c+1)=1 by omega];rw[zAM9 hi,zFY9,List.take_zero,zAK9,zAA9 hi];rfl
 .rw[if_neg h];have hc1:18*(i/18)<i\/(i=0/\i/18=0):=zo;rw[zjp ks i (i/18) zo hc1 zo,zjp ks (i+1) (i/18) zo zo zo];unfold zua;simp only[zFD9,zEL9,zen]
  congr 3
  have e:i+1-18*(i/18)=(i-18*(i/18))+1:=zo;rw[e,zBB9]
  grind


def zeX(H H':LP):Prop:=∀(id:Nat) (o:zc),H[id]?=some o->H'[id]?=some o
variable {Hc:LP}{a:Nat}{l:List α}
theorem zeX.refl(H:LP):zeX H H:=fun _ _ h=>h
theorem zeX.app(h:zeX H Hc)(X:LP):zeX H (Hc++X):=fun id o ho=>by
 have:=h id o ho
 grind
theorem zeX.set(h:zeX H Hc)(ha:H.length<=a)(o':zc):zeX H (Hc.set a o'):=fun id o ho=>by
 have hlt:=(zAC9.1 ho).1;rw[zAY9 zo];exact h id o ho
theorem zbR{X:List α}{i:Nat}{x:α}(h:l[i]?=some x):(l++X)[i]?=some x:=by grind
theorem Lvl.other{vs ps:LQ}{nodes:LB}(h:Lvl H vs ps nodes){o o':zc}(ha:H[a]?=some o)(ho:¬isP o)(X:LP):Lvl ((H++X).set a o') vs ps nodes :=
 h.keep fun id q hq hi=>by grind
theorem zmq(h:l ≠ []):∃f x,l=f++[x]:=⟨l.dropLast,l.getLast h,(zFQ9 h).symm⟩
theorem zkx{n:Nat}(h:l.length=n+1):∃f x,l=f++[x]/\f.length=n:=by
 obtain⟨f,x,rfl⟩:=zmq (l:=l) (by grind)
 grind
theorem zA3{lv:Nat}{ks:LJ}{n:zq}(h:n∈zc5 lv ks):n.pairs.length<=18:=by
 unfold zc5 at h;obtain⟨i,_,rfl⟩:=zAH9.1 h;show (((ks.drop (19*i)).take 19).drop 1).length<=18
 grind
theorem zzE(H:LP)(i8 g8 M8 i13 g13:Nat)(vs8 ps8:LQ)(l:LB)(bs:LN)(lv:Nat)(hr8:H[i8]?=some (.row 143 6 g8 M8 vs8))(hM8:M8<=g8)(hlv:Lvl H vs8 ps8 l)(hr13:H[i13]?=some (.row 3 1 g13 0 (bfl bs)))(hlen:bs.length=l.length)(hl:l.length<=1000)(hl0:∀n∈l,n.level=lv)(hlv12:lv<=12)(hb:∀b∈bs,b<2048) :
  FO ET 76 [.sl i8 g8 0 l.length (2*l.length) 6,.sl i13 g13 0 l.length (2*l.length) 1] H false (fun e H'=>zeX H H'/\∃idL g M vs ps,e=.ret (.sl idL g 0 vs.length (2*vs.length) 6)/\M<=g/\H.length<=idL/\H'[idL]?=some (.row 143 6 g M vs)/\Lvl H' vs ps (zc5 (lv+1) ((l.map zq.low).zip bs))/\∀p∈ps,∀a,zfV p=some a->H.length<=a):=by
 refine zro (eG T76 func76) ?_;have hkl:((l.map zq.low).zip bs).length=l.length:=by simp[hlen]
 generalize hks:(l.map zq.low).zip bs=ks at *
 refine zG ?_;refine zcL 143 6 (i:=5) rfl ?_;simp only[lzy];refine ze (zbk (fun m s=>∃(i:Nat) (Hc:LP) (idL g M:Nat) (vs ps:LQ),m=l.length-i/\i<=l.length/\zeX H Hc/\M<=g/\Hc[idL]?=some (.row 143 6 g M vs)/\H.length<=idL/\Lvl Hc vs ps (zc5 (lv+1) (ks.take i))/\(∀p∈ps,∀a,zfV p=some a->H.length<=a)/\s.tm 0=.sl i8 g8 0 l.length (2*l.length) 6/\s.tm 1=.sl i13 g13 0 l.length (2*l.length) 1/\s.tm 5=.sl idL g 0 vs.length (2*vs.length) 6/\s.tm 6=iv i/\s.df=[]/\s.H=Hc) (n:=l.length) ?_ ?_)
 .exact⟨0,_,H.length,0,0,[],[],rfl,zAJ9 _,(zeX.refl H).app _,zAE9 _,by simp,zAE9 _,(by rw[List.take_zero];exact Lvl.nil _),fun p hp=>by simp at hp,zt,zt,zt,zt,rfl,rfl⟩
 .rintro m ⟨tm,df,Hc⟩ ⟨i,Hc',idL,g,M,vs,ps,rfl,hi,hst,hM,hL,hidL,hlvl,hids,h0,h1,h5,h6,rfl,rfl⟩;dsimp only at *
  refine zLh (zr2 h0 h6) ?_ ?_;rotate_left
  .intro hlt;have hlt:¬i<l.length:=zfd hlt;obtain rfl:i=l.length:=zo;refine zOF h5 ?_;rw[<- hkl,zBF9]at hlvl;exact⟨hst,idL,g,M,vs,ps,rfl,hM,hidL,hL,hlvl,hids⟩
  intro hlt;have hlt:i<l.length:=ztd hlt;obtain⟨x,hx⟩:=zex (l:=l) hlt;obtain⟨b,hbb⟩:∃b,bs[i]?=some b:=⟨_,zAA9 zo⟩
  obtain⟨px,hpx⟩:∃px,ps8[i]?=some px:=⟨_,zAA9 (by rw[hlv.lenP];exact hlt)⟩
  have hv8:=(hlv.val i x px hx hpx).1;have hbv:(bfl bs)[i]?=some (iv b):=by rw[zAF9,hbb];rfl
  have hbm:=hb b (zAI9 hbb);have hxl:=hl0 x (zAI9 hx);have hkx:ks.getD i (0,0)=(x.low,b):=by
   have:ks[i]?=some (x.low,b):=by rw[<- hks,zDW9];exact⟨by grind,hbb⟩
   exact getD_some this
  have hstep:=zH8 (lv+1) ks i zo;rw[hkx]at hstep;have h8:=hst i8 _ hr8;have h13:=hst i13 _ hr13;have hblen:(bfl bs).length=l.length:=by rw[zAP9,hlen]
  have r1:(i:Int).tmod 19=((i%19:Nat):Int):=rfl;have hal:(zc5 (lv+1) (ks.take i)).length<=1000:=by rw[zfS,zAT9];omega
  have hvl:=hlvl.lenV;refine zBb ?_
  by_cases hm:i%19=0
  .have g1:((i%19:Nat):Int)=0:=zo;have hl1:IntKind.i64.wrap ((x.level:Int)+1)=((lv+1:Nat):Int):=zwi;have hbb2:(vs.length+1)*65<=140737488355328:=zo;have hLX:∀X,(Hc++X)[idL]?=some (.row 143 6 g M vs):=fun X=>zbR hL;unfold zqQ at hstep;rw[if_pos hm]at hstep;refine zB ?_;refine zB ?_;refine zbj (zr3 h6 r1 g1) ?_;refine zct ?_;refine zBd ?_;refine zcs (zef h0 h1 h5 h6 h8 h13 hL hLX hv8 hbv hlt (zr3 hM8 hl1 hbb2)) ?_;refine zQF h0 ?_;refine zh9 ?_;refine zJF h6 ?_;refine⟨_,?m,i+1,_,idL,g+1,M,vs++[zdt ⟨lv+1,0,x.low,b,0,[]⟩ .nilsl],ps++[.nilsl],rfl,hlt,(hst.app _).set hidL _,by omega,zAZ9 (by grind),hidL,?L,?I,zu h0,zu h1,zt,zu h6,rfl,rfl⟩
   case m=>omega
   case L=>rw[hstep];exact(hlvl.snoc _ rfl).other hL (fun h=>absurd (show (143:Nat)=92 from h) zy) _
   case I =>
    intro p hp a ha;rcases zBG9.1 hp with hp|hp
    .grind
    .obtain rfl:=zBI9.1 hp;cases ha
  .have g1:¬((i%19:Nat):Int)=0:=zo;have hne:(zc5 (lv+1) (ks.take i)).length≠0:=by rw[zfS,zAT9];omega
   obtain⟨front,nd,hfr⟩:=zmq (l:=zc5 (lv+1) (ks.take i)) (fun e=>hne (by grind));rw[hfr]at hlvl hstep hal;have hvl:=hlvl.lenV;have hpl:=hlvl.lenP;rw[zAB9]at hvl hpl;obtain⟨vf,v,rfl,hvf⟩:=zkx hvl;obtain⟨pf,p,rfl,hpf⟩:=zkx hpl;have hat:=hlvl.val front.length nd p (by simp) (by simp_all);have hv:v=zdt nd p:=by
    have h:=hat.1;rw[<- hvf,zBC9 (zAE9 _),zGV9]at h;injection h
   subst hv;have hpa:=hat.2;have hpid:=hids p (zEI9 _ (zBI9.2 rfl));unfold zqQ at hstep;rw[if_neg hm]at hstep;simp only[zFD9,zEL9]at hstep;have hvfl:vf.length<=1000:=by rw[zAB9]at hal;omega
   have hsub:IntKind.i64.wrap (((vf.length+1:Nat):Int)-1)=(vf.length:Int):=zwi;have hvv:(vf++[zdt nd p]).length=vf.length+1:=by simp
   have hvi:vf.length<vf.length+1:=zCS9 _;have hvg:(vf++[zdt nd p])[vf.length]?=some (zdt nd p):=by simp
   have hvs:∀y,(vf++[zdt nd p]).set vf.length y=vf++[y]:=fun y=>by simp
   have hLX:∀X,(Hc++X)[idL]?=some (.row 143 6 g M (vf++[zdt nd p])):=fun X=>zbR hL;rw[hvv]at h5;refine zB ?_;refine zB ?_;refine zbj (zr3 h6 r1 g1) ?_;refine zcf ?_;refine zSk ?_;refine zB ?_;refine zB ?_;refine zbj (zr2 h5 hsub) ?_;refine zBd ?_;rcases hpa with⟨rfl,hnp⟩|⟨idp,gp,rfl,hrp⟩
   .have hbb2:1*17<=140737488355328:=zo;have hLXY:∀X Y,(Hc++X++Y)[idL]?=some (.row 143 6 g M (vf++[zdt nd .nilsl])):=fun X Y=>zbR (zbR hL);refine zcs (zef h0 h1 h5 h6 h8 h13 hL hLX hM hv8 hbv (zr4 hlt hM8 hvg hvi)) ?_;refine zcs (zhg h0 h1 h5 h6 hL hLX hLXY hM hvg hvi hvs) ?_;refine zQF h0 ?_;refine zJF h6 ?_;have hlc:idL<Hc.length:=(zAC9.1 hL).1;refine⟨_,?m,i+1,_,idL,g,g,vf++[zdt (zen nd (nd.pairs++[(x.low,b)])) (.sl (Hc.length+1) 0 0 1 2 2)],pf++[.sl (Hc.length+1) 0 0 1 2 2],rfl,hlt,((hst.app _).app _).set hidL _,zAE9 _,?G,hidL,?L,?I,zu h0,zu h1,zu h5,zu h6,rfl,rfl⟩
    case m=>omega
    case G =>
     rw[zAZ9 (by simp only[zAB9,zAG9,zAN9];omega)];simp[zen]
    case L =>
     rw[hstep];refine hlvl.last hvf hpf ?_ (fun a ha=>?_) (fun id o ho hi=>?_)
     .refine .inr ⟨Hc.length+1,0,by simp[zen,hnp],?_⟩;rw[zAY9 zo];simp[zen,hnp]
     .right
      have:Hc.length+1=a:=by simpa[zfV]using ha
      grind
     .left
      have hne:idL≠id:=fun e=>by subst e;rw[hL]at hi;cases hi;exact absurd (show (143:Nat)=92 from ho) zy
      rw[zAY9 hne];exact zbR (zbR hi)
    case I =>
     intro p hp a ha;rcases zBG9.1 hp with hp|hp
     .exact hids p (zFC9 _ hp) a ha
     .obtain rfl:=zBI9.1 hp;have:Hc.length+1=a:=by simpa[zfV]using ha
      omega
   .have hkl2:nd.pairs.length<=18:=zA3 (n:=nd) (by rw[hfr];simp);have hbb2:(nd.pairs.length+1)*17<=140737488355328:=zo;have hrX:∀X,(Hc++X)[idp]?=some (.row 92 2 gp 0 (nd.pairs.map pv)):=fun X=>zbR hrp;have hipl:idp<Hc.length:=(zAC9.1 hrp).1;have hidp:H.length<=idp:=hpid idp rfl;have d1:idL≠idp:=fun e=>by grind
    have d2:i8≠idp:=by have:=(zAC9.1 hr8).1;omega
    have d3:i13≠idp:=by have:=(zAC9.1 hr13).1;omega
    have d4:Hc.length≠idp:=zo;have b1:(idL==idp)=false:=by simpa using d1
    have b2:(i8==idp)=false:=by simpa using d2
    have b3:(i13==idp)=false:=by simpa using d3
    have b4:(Hc.length==idp)=false:=by simpa using d4
    have b1':(idp==idL)=false:=by simpa using d1.symm
    have b2':(idp==i8)=false:=by simpa using d2.symm
    have b3':(idp==i13)=false:=by simpa using d3.symm
    have b4':(idp==Hc.length)=false:=by simpa using d4.symm
    have hLS:∀X y,((Hc++X).set idp y)[idL]?=some (.row 143 6 g M (vf++[zdt nd (.sl idp gp 0 nd.pairs.length (2*nd.pairs.length) 2)])):=fun X y=>by rw[zAY9 (fun e=>d1 e.symm)];exact zbR hL
    refine zcs (zef h0 h1 h5 h6 h8 h13 hL hLX hM hv8 hbv (zr6 hlt hM8 hvg hvi hrX hbb2)) ?_;refine zH5 (zr9 hLS hvg hvi hvs b1 b2 b3 b4 b4') ?_;refine zQF h0 ?_;refine zJF h6 ?_;have hlc:idL<Hc.length:=(zAC9.1 hL).1;refine⟨_,?m,i+1,_,idL,g,g,vf++[zdt (zen nd (nd.pairs++[(x.low,b)])) (.sl idp (gp+1) 0 (nd.pairs.length+1) (2*(nd.pairs.length+1)) 2)],pf++[.sl idp (gp+1) 0 (nd.pairs.length+1) (2*(nd.pairs.length+1)) 2],rfl,hlt,((hst.app _).set hidp _).set hidL _,zAE9 _,?G,hidL,?L,?I,zu h0,zu h1,zu h5,zu h6,rfl,rfl⟩
    case m=>omega
    case G =>
     rw[zAZ9 (by simp only[zBT9,zAB9,zAG9,zAN9];omega)];simp[zen]
    case L =>
     rw[hstep];refine hlvl.last hvf hpf ?_ (fun a ha=>?_) (fun id o ho hi=>?_)
     .refine .inr ⟨idp,gp+1,by simp[zen],?_⟩;rw[zAY9 d1,zAZ9 (by simp only[zAB9,zAG9,zAN9];omega)];simp[zen]
     .left
      exact ha
     .by_cases he:idp=id
      .right;rw[<- he];rfl
      .left
       have hne:idL≠id:=fun e=>by subst e;rw[hL]at hi;cases hi;exact absurd (show (143:Nat)=92 from ho) zy
       rw[zAY9 hne,zAY9 he];exact zbR hi
    case I =>
     intro p hp a ha;rcases zBG9.1 hp with hp|hp
     .exact hids p (zFC9 _ hp) a ha
     .obtain rfl:=zBI9.1 hp;have:idp=a:=by simpa[zfV]using ha
      omega


def zc3(a:Nat)(H H':LP):Prop:=∀(id:Nat) (o:zc),id≠a->H[id]?=some o->H'[id]?=some o
variable {o o':zc}(p left:Nat)(bs:LN)(q n:Nat)(w:LN)(l:LJ)
theorem zc3.refl(a:Nat)(H:LP):zc3 a H H:=fun _ _ _ h=>h
theorem zc3.app(h:zc3 a H Hc)(X:LP):zc3 a H (Hc++X):=fun id o hi ho=>zbR (h id o hi ho)
theorem zc3.set(h:zc3 a H Hc)(o':zc):zc3 a H (Hc.set a o'):=fun id o hi ho=>by
 rw[zAY9 (fun e=>hi e.symm)];exact h id o hi ho
theorem zc3.trans{H'':LP}(h:zc3 a H H')(k:zc3 a H' H''):zc3 a H H'':=fun id o hi ho=>k id o hi (h id o hi ho)
theorem zhf{X:LP}(h:H[a]?=some o):((H++X).set a o')[a]?=some o':=by grind
theorem zDc(free:LN)(used n:Nat)(hfl:free.length<1000000)(hul:used+n<=free.length)(tm:Nat->PV)(H:LP)(idL g:Nat)(z8:Nat)(idA:Nat)(hA:H[idA]?=some (.row 3 1 0 0 []))(h1:tm 1=.list q 1 (bfl free))(h8:tm 8=.sl idL g 0 n z8 6)(h12:tm 12=iv used)(h13:tm 13=.sl idA 0 0 0 0 1)(h14:tm 14=iv 0)(hQ:∀(tm':Nat->PV) (H':LP),zc3 idA H H'->H'[idA]?=some (.row 3 1 n 0 (bfl ((free.drop used).take n)))->(∀k,k≠13->k≠14->(k<74\/88<k)->tm' k=tm k)->tm' 13=.sl idA n 0 n (2*n) 1->Q .norm ⟨tm',[],H'⟩):
  W ET ET.caught none c36_4 ⟨tm,[],H⟩ Q:=by
 unfold c36_4 xC;have hbg:∀i,i<n->((free.drop used).take n)[i]?=some (free.getD (used+i) 0):=fun i hi=>by
  grind
 have hbl:((free.drop used).take n).length=n:=by rw[zAT9,zBJ9];omega
 generalize hbs:(free.drop used).take n=bs at *
 refine ze (zbk (fun m s=>∃(i:Nat) (Hc:LP),m=n-i/\i<=n/\zc3 idA H Hc/\Hc[idA]?=some (.row 3 1 i 0 (bfl (bs.take i)))/\(∀k,k≠13->k≠14->(k<74\/88<k)->s.tm k=tm k)/\s.tm 13=.sl idA i 0 i (2*i) 1/\s.tm 14=iv i/\s.df=[]/\s.H=Hc) (n:=n) ?_ ?_)
 .exact⟨0,H,rfl,zAJ9 _,.refl _ _,hA,fun k _ _ _=>rfl,h13,h14,rfl,rfl⟩
 .rintro m ⟨tn,df,Hc⟩ ⟨i,Hc',rfl,hi,hst,hr,hf,h13',h14',rfl,rfl⟩;dsimp only at hf h13' h14';have h1':=(hf 1 zy zy zy).trans h1;have h8':=(hf 8 zy zy zy).trans h8;have h12':=(hf 12 zy zy zy).trans h12;refine zLh (zr2 h8' h14') ?_ ?_
  .intro hlt;have hlt:i<n:=ztd hlt;have hfi:used+i<free.length:=zo;have hfv:(bfl free)[used+i]?=some (iv (free.getD (used+i) 0:Nat)):=by rw[zAF9,zAA9 hfi,zAK9,zAA9 hfi];rfl
   have e1:((used:Int)+(i:Int))=((used+i:Nat):Int):=zo;have hb2:(i+1)*9<=140737488355328:=zo;have hlen:(bfl (bs.take i)).length=i:=by rw[zAP9,zAT9];omega
   have hX:∀X,(Hc++X)[idA]?=some (.row 3 1 i 0 (bfl (bs.take i))):=fun X=>zbR hr;have hstep:bfl (bs.take (i+1))=bfl (bs.take i)++[iv (free.getD (used+i) 0:Nat)]:=by
    rw[zBB9,hbg i hlt];simp
   generalize free.getD (used+i) 0=b at *
   refine zBb ?_;refine zB ?_;refine zJF (zh5 h1' h12' h13' h14' e1 hfi hfv hb2 hlen hX) ?_;refine zJF h14' ?_;refine⟨_,?m,i+1,_,rfl,hlt,(hst.app _).set _,?G,fun k k1 k2 k3=>?_,zt,zu h14',rfl,rfl⟩
   case m=>omega
   case G=>grind
   .simp(disch:=omega)only[zbW];grind
  .intro hlt;have hlt:¬i<n:=zfd hlt;obtain rfl:i=n:=zo;refine hQ _ Hc hst (by grind) (fun k k1 k2 k3=>?_) (by simp[upd,h13']);simp(disch:=omega)only[zbW]
   grind
theorem zDC(ws:LN)(i b:Nat)(hb:bs[i]?=some b)(hbm:b<2048)(hws:ws.length=64)(hbs:bs.length<1000000)(tm:Nat->PV)(H:LP)(idO:Nat)(V0:LQ)(hV0:V0.length<1000000)(idA gA:Nat)(hne:idA≠idO)(hO:H[idO]?=some (.row 120 2 V0.length 0 V0))(hA:H[idA]?=some (.row 3 1 gA 0 (bfl bs)))(h11:tm 11=.sl idO V0.length 0 V0.length (2*V0.length) 2)(h13:tm 13=.sl idA gA 0 bs.length (2*bs.length) 1)(h15:tm 15=iv i)(h16:tm 16=wv 0 ws)(h17:tm 17=iv 0)(hQ:∀(tm':Nat->PV) (H':LP) (V:LQ),V=V0++(zeq b ws).map zbx->zc3 idO H H'->H'[idO]?=some (.row 120 2 V.length 0 V)->(∀k,k≠11->k≠17->(k<114\/132<k)->tm' k=tm k)->tm' 11=.sl idO V.length 0 V.length (2*V.length) 2->Q .norm ⟨tm',[],H'⟩):
  W ET ET.caught none c36_8 ⟨tm,[],H⟩ Q:=by
 unfold c36_8 xC;refine ze (zbk (fun m s=>∃(j:Nat) (V:LQ) (Hc:LP),m=64-j/\j<=64/\V=V0++((List.range j).map fun k=>(64*b+k,ws.getD k 0)).map zbx/\zc3 idO H Hc/\Hc[idO]?=some (.row 120 2 V.length 0 V)/\(∀k,k≠11->k≠17->(k<114\/132<k)->s.tm k=tm k)/\s.tm 11=.sl idO V.length 0 V.length (2*V.length) 2/\s.tm 17=iv j/\s.df=[]/\s.H=Hc) (n:=64) ?_ ?_)
 .exact⟨0,V0,H,rfl,zAJ9 _,by simp,.refl _ _,hO,fun k _ _ _=>rfl,h11,h17,rfl,rfl⟩
 .rintro m ⟨tn,df,Hc⟩ ⟨j,V,Hc',rfl,hj,hV,hst,hr,hf,h11',h17',rfl,rfl⟩;dsimp only at hf h11' h17';have h13':=(hf 13 zy zy zy).trans h13;have h15':=(hf 15 zy zy zy).trans h15;have h16':=(hf 16 zy zy zy).trans h16;have hVl:V.length=V0.length+j:=by rw[hV];simp
  refine zLh h17' ?_ ?_
  .intro hlt;have hlt:j<64:=ztd hlt;have hA':=hst idA _ hne hA;have hbv:(bfl bs)[i]?=some (iv b):=by rw[zAF9,hb];rfl
   have hib:i<bs.length:=(zAC9.1 hb).1;have hlt2:j<ws.length:=zo;have hqv:(ws.map uv)[j]?=some (uv (ws.getD j 0)):=by rw[zAF9,zAA9 hlt2,zAK9,zAA9 hlt2];rfl
   have hb2:(V.length+1)*17<=140737488355328:=zo;have hV2:V++[zbx (64*b+j,ws.getD j 0)]=V0++((List.range (j+1)).map fun k=>(64*b+k,ws.getD k 0)).map zbx:=by rw[zCJ9,hV];simp
   have e1:IntKind.i64.wrap (64*(b:Int))=((64*b:Nat):Int):=zwi;have e2:IntKind.i64.wrap (((64*b:Nat):Int)+(j:Int))=((64*b+j:Nat):Int):=zwi;have hX:∀X,(Hc++X)[idO]?=some (.row 120 2 V.length 0 V):=fun X=>zbR hr;refine zBb ?_;refine zBd ?_;refine zcs (zef h11' h13' h15' h16' h17' hA' hbv hib hlt2 hqv e1 (zr3 e2 hb2 hX)) ?_;refine zQF h15' ?_;refine zJF h17' ?_;refine⟨_,?m,j+1,V++[zbx (64*b+j,ws.getD j 0)],_,rfl,hlt,hV2,(hst.app _).set _,?G,fun k k1 k2 k3=>?_,zt,zu h17',rfl,rfl⟩
   case m=>omega
   case G=>rw[zhf hr,zAB9];rfl
   .simp(disch:=omega)only[zbW];grind
  .intro hlt;have hlt:¬j<64:=zfd hlt;obtain rfl:j=64:=zo;refine hQ _ Hc V (by rw[hV,zeq,hws]) hst hr (fun k k1 k2 k3=>?_) (by simp[upd,h11']);simp(disch:=omega)only[zbW]
   grind


theorem zuY{l:LJ}{n:zq}(h:n∈zcA l):n.pairs.length<=18:=by
 rw[zjm]at h;obtain⟨i,_,rfl⟩:=zAH9.1 h;show ((l.drop (18*i)).take 18).length<=18
 grind
theorem zCq(hl:l.length<=500)(tm:Nat->PV)(H:LP)(idL g0 M0:Nat)(vs0 ps0:LQ)(hM0:M0<=g0)(hL0:H[idL]?=some (.row 143 6 g0 M0 vs0))(hlv0:Lvl H vs0 ps0 (zcA []))(h0:tm 0=psv p l)(h8:tm 8=.sl idL g0 0 vs0.length (2*vs0.length) 6)(h9:tm 9=iv 0)(hQ:∀(tm':Nat->PV) (H':LP) (g M:Nat) (vs ps:LQ),M<=g->H'[idL]?=some (.row 143 6 g M vs)->Lvl H' vs ps (zcA l)->(∀k,k≠8->k≠9->k≠10->(k<34\/73<k)->tm' k=tm k)->tm' 8=.sl idL g 0 vs.length (2*vs.length) 6->Q .norm ⟨tm',[],H'⟩):
  W ET ET.caught none c36_0 ⟨tm,[],H⟩ Q:=by
 unfold c36_0 xC;refine ze (zbk (fun m s=>∃(i:Nat) (Hc:LP) (g M:Nat) (vs ps:LQ),m=l.length-i/\i<=l.length/\M<=g/\Hc[idL]?=some (.row 143 6 g M vs)/\Lvl Hc vs ps (zcA (l.take i))/\(∀k,k≠8->k≠9->k≠10->(k<34\/73<k)->s.tm k=tm k)/\s.tm 8=.sl idL g 0 vs.length (2*vs.length) 6/\s.tm 9=iv i/\s.df=[]/\s.H=Hc) (n:=l.length) ?_ ?_)
 .exact⟨0,H,g0,M0,vs0,ps0,rfl,zAJ9 _,hM0,hL0,by rw[List.take_zero];exact hlv0,fun k _ _ _ _=>rfl,h8,h9,rfl,rfl⟩
 .rintro m ⟨tn,df,Hc⟩ ⟨i,Hc',g,M,vs,ps,rfl,hi,hM,hL,hlvl,hf,h8',h9',rfl,rfl⟩;dsimp only at hf h8' h9';have h0':=(hf 0 zy zy zy zy).trans h0;refine zLh (zr2 h0' h9') ?_ ?_;rotate_left
  .intro hlt;have hlt:¬i<l.length:=zfd hlt;obtain rfl:i=l.length:=zo;rw[zBF9]at hlvl;refine hQ _ Hc g M vs ps hM hL hlvl (fun k k1 k2 k3 k4=>?_) (by simp[upd,h8']);simp(disch:=omega)only[zbW]
   grind
  intro hlt;have hlt:i<l.length:=ztd hlt;obtain⟨x,hx⟩:=zex (l:=l) hlt;have hxv:(l.map pv)[i]?=some (pv x):=zmg hx;have hstep:=zBH l i hlt;rw[getD_some hx]at hstep;have r1:(i:Int).tmod 18=((i%18:Nat):Int):=rfl;have hnl:(zcA (l.take i)).length<=28:=by rw[zf9,zAT9];omega
  have hvl:=hlvl.lenV;have hfew:∀n∈zhO i x (zcA (l.take i)),n.pairs.length<=18:=by
   intro n hn;unfold zhO at hn
   split at hn
   .rcases zBG9.1 hn with hn|hn
    .exact zuY hn
    grind
   .exact zuY hn
  have hnz:zhO i x (zcA (l.take i)) ≠ []:=by
   unfold zhO
   split
   .simp
   .intro e;have:=congrArg List.length e;rw[zf9]at this;grind
  have hnw:(zhO i x (zcA (l.take i))).length<=29:=by
   unfold zhO
   split
   .grind
   .omega
  generalize hnodes:zhO i x (zcA (l.take i))=nodes at hstep hfew hnz hnw;refine zBb ?_;refine zHW (zcJ (Q:=fun y s'=>y=.norm/\∃(g M:Nat) (vs ps:LQ),M<=g/\s'.H[idL]?=some (.row 143 6 g M vs)/\Lvl s'.H vs ps nodes/\(∀k,k≠8->k≠9->k≠10->(k<34\/73<k)->s'.tm k=tn k)/\s'.tm 8=.sl idL g 0 vs.length (2*vs.length) 6/\s'.tm 9=iv i/\s'.df=[]) ?_ ?_)
  .by_cases hm:0<i/\i%18=0
   .have g1:((i%18:Nat):Int)=0:=zo;have g0:(0:Int)<(i:Int):=zo;have hbb2:(vs.length+1)*65<=140737488355328:=zo;have hLX:∀X,(Hc++X)[idL]?=some (.row 143 6 g M vs):=fun X=>zbR hL;unfold zhO at hnodes;rw[if_pos hm]at hnodes;refine zB ?_;refine zB ?_;refine zbj (zr4 h9' r1 g1 g0) ?_;refine zct ?_;refine zae ?_;refine zKF (zr7 h0' h8' h9' hxv hlt hbb2 hLX) ?_;refine⟨rfl,g+1,M,vs++[zdt ⟨0,0,x.1,9223372036854775808,0,[]⟩ .nilsl],ps++[.nilsl],by omega,zhf hL,?_,fun k k1 k2 k3 k4=>?_,zt,zu h9',rfl⟩
    .rw[<- hnodes];exact(hlvl.snoc _ rfl).other hL (fun h=>absurd (show (143:Nat)=92 from h) zy) _
    .simp(disch:=omega)only[zbW]
   .unfold zhO at hnodes;rw[if_neg hm]at hnodes
    by_cases g0:0<i
    .have g0':(0:Int)<(i:Int):=zo;have g1:¬((i%18:Nat):Int)=0:=zo;refine zB ?_;refine zB ?_;refine zbj (zr4 h9' r1 g1 g0') ?_;refine zcf ?_;refine zr ⟨rfl,g,M,vs,ps,hM,hL,by rw[<- hnodes];exact hlvl,fun k k1 k2 k3 k4=>?_,zu h8',zu h9',rfl⟩;simp(disch:=omega)only[zbW]
    .obtain rfl:i=0:=zo;refine zB ?_;refine zB ?_;refine zbj h9' ?_;refine zcf ?_;refine zr ⟨rfl,g,M,vs,ps,hM,hL,by rw[<- hnodes];exact hlvl,fun k k1 k2 k3 k4=>?_,zu h8',zu h9',rfl⟩;simp(disch:=omega)only[zbW]
  clear hM hL hlvl hvl h8' h9';rintro y ⟨tq,df,Hc⟩ ⟨rfl,g,M,vs,ps,hM,hL,hlvl,hf2,h8',h9',rfl⟩;dsimp only at hM hL hlvl hf2 h8' h9';have h0q:=(hf2 0 zy zy zy zy).trans h0';obtain⟨front,nd,hfr⟩:=zmq (l:=nodes) hnz;subst hfr;have hvl:=hlvl.lenV;have hpl:=hlvl.lenP;rw[zAB9]at hvl hpl;obtain⟨vf,v,rfl,hvf⟩:=zkx hvl;obtain⟨pf,p',rfl,hpf⟩:=zkx hpl;have hat:=hlvl.val front.length nd p' (by simp) (by rw[<- hpf];simp);have hv:v=zdt nd p':=by
   have h:=hat.1;rw[<- hvf,zBC9 (zAE9 _),zGV9]at h;injection h
  subst hv;have hpa:=hat.2;have hkl2:nd.pairs.length<=18:=hfew nd (zEI9 _ (zBI9.2 rfl));unfold zua at hstep;simp only[zFD9,zEL9]at hstep;have hvfl:vf.length<=1000:=by rw[zAB9]at hnw;omega
  have hsub:IntKind.i64.wrap (((vf.length+1:Nat):Int)-1)=(vf.length:Int):=zwi;have hvv:(vf++[zdt nd p']).length=vf.length+1:=by simp
  have hvi:vf.length<vf.length+1:=zCS9 _;have hvg:(vf++[zdt nd p'])[vf.length]?=some (zdt nd p'):=by simp
  have hvs:∀y,(vf++[zdt nd p']).set vf.length y=vf++[y]:=fun y=>by simp
  have hLX:∀X,(Hc++X)[idL]?=some (.row 143 6 g M (vf++[zdt nd p'])):=fun X=>zbR hL;rw[hvv]at h8';refine zB ?_;refine zB ?_;refine zbj (zr2 h8' hsub) ?_;refine zBd ?_;rcases hpa with⟨rfl,hnp⟩|⟨idp,gp,rfl,hrp⟩
  .have hLXY:∀X Y,(Hc++X++Y)[idL]?=some (.row 143 6 g M (vf++[zdt nd .nilsl])):=fun X Y=>zbR (zbR hL);refine zcs (zh5 h0q h8' h9' hL hLX hM hxv hlt hvg hvi) ?_;refine zcs (zh5 h0q h8' h9' hL hLX hLXY hM hvg hvi hvs) ?_;refine zQF h0q ?_;refine zJF h9' ?_;have hlc:idL<Hc.length:=(zAC9.1 hL).1;refine⟨_,?m,i+1,_,g,g,vf++[zdt (zen nd (nd.pairs++[x])) (.sl (Hc.length+1) 0 0 1 2 2)],pf++[.sl (Hc.length+1) 0 0 1 2 2],rfl,hlt,zAE9 _,?G,?L,fun k k1 k2 k3 k4=>?_,zu h8',zu h9',rfl,rfl⟩
   case m=>omega
   case G =>
    rw[zAZ9 (by simp only[zAB9,zAG9,zAN9];omega)];simp[zen]
   case L =>
    rw[hstep];refine hlvl.last hvf hpf ?_ (fun a ha=>?_) (fun id o ho hi=>?_)
    .refine .inr ⟨Hc.length+1,0,by simp[zen,hnp],?_⟩;rw[zAY9 zo];simp[zen,hnp]
    .right
     have:Hc.length+1=a:=by simpa[zfV]using ha
     omega
    .left
     have hne:idL≠id:=fun e=>by subst e;rw[hL]at hi;cases hi;exact absurd (show (143:Nat)=92 from ho) zy
     rw[zAY9 hne];exact zbR (zbR hi)
   .simp(disch:=omega)only[zbW];exact(hf2 k k1 k2 k3 k4).trans (hf k k1 k2 k3 k4)
  .have hbb2:(nd.pairs.length+1)*17<=140737488355328:=zo;have hrX:∀X,(Hc++X)[idp]?=some (.row 92 2 gp 0 (nd.pairs.map pv)):=fun X=>zbR hrp;have hipl:idp<Hc.length:=(zAC9.1 hrp).1;have d1:idL≠idp:=fun e=>by grind
   have d4:Hc.length≠idp:=zo;have b1:(idL==idp)=false:=by simpa using d1
   have b4:(Hc.length==idp)=false:=by simpa using d4
   have b1':(idp==idL)=false:=by simpa using d1.symm
   have b4':(idp==Hc.length)=false:=by simpa using d4.symm
   have hLS:∀X y,((Hc++X).set idp y)[idL]?=some (.row 143 6 g M (vf++[zdt nd (.sl idp gp 0 nd.pairs.length (2*nd.pairs.length) 2)])):=fun X y=>by rw[zAY9 (fun e=>d1 e.symm)];exact zbR hL
   refine zcs (zef h0q h8' h9' hL hLX hM hxv hlt hvg hvi hrX hbb2) ?_;refine zH5 (zr7 hLS hvg hvi hvs b1 b4 b4') ?_;refine zQF h0q ?_;refine zJF h9' ?_;have hlc:idL<Hc.length:=(zAC9.1 hL).1;refine⟨_,?m,i+1,_,g,g,vf++[zdt (zen nd (nd.pairs++[x])) (.sl idp (gp+1) 0 (nd.pairs.length+1) (2*(nd.pairs.length+1)) 2)],pf++[.sl idp (gp+1) 0 (nd.pairs.length+1) (2*(nd.pairs.length+1)) 2],rfl,hlt,zAE9 _,?G,?L,fun k k1 k2 k3 k4=>?_,zu h8',zu h9',rfl,rfl⟩
   case m=>omega
   case G =>
    rw[zAZ9 (by simp only[zBT9,zAB9,zAG9,zAN9];omega)];simp[zen]
   case L =>
    rw[hstep];refine hlvl.last hvf hpf ?_ (fun a ha=>?_) (fun id o ho hi=>?_)
    .refine .inr ⟨idp,gp+1,by simp[zen],?_⟩;rw[zAY9 d1,zAZ9 (by simp only[zAB9,zAG9,zAN9];omega)];simp[zen]
    .left
     exact ha
    .by_cases he:idp=id
     .right;rw[<- he];rfl
     .left
      have hne:idL≠id:=fun e=>by subst e;rw[hL]at hi;cases hi;exact absurd (show (143:Nat)=92 from ho) zy
      rw[zAY9 hne,zAY9 he];exact zbR hi
   .simp(disch:=omega)only[zbW];exact(hf2 k k1 k2 k3 k4).trans (hf k k1 k2 k3 k4)


theorem Lvl.setNode{nodes:LB}(h:Lvl H vs ps nodes){q:Nat}{n n':zq}{p:PV}(hn:nodes[q]?=some n)(hp:ps[q]?=some p)(he:n'.pairs=n.pairs):Lvl H (vs.set q (zdt n' p)) ps (nodes.set q n'):=by
 have hq:q<nodes.length:=(zAC9.1 hn).1;refine⟨by simp[h.lenV],by simp[h.lenP],fun r m x hm hx=>?_,h.dist⟩
 by_cases hr:r=q
 .subst hr;rw[zAZ9 hq]at hm;rw[zAZ9 (by rw[h.lenV];exact hq)]
  cases hm
  rw[hp]at hx;cases hx
  exact⟨rfl,by rw[he];exact(h.val r n p hn hp).2⟩
 .rw[zAY9 (fun e=>hr e.symm)]at hm⊢;exact h.val r m x hm hx
theorem Lvl.but{nodes:LB}(h:Lvl H vs ps nodes)(ha:H[a]?=some o)(ho:¬isP o)(k:zc3 a H H'):Lvl H' vs ps nodes :=
 h.keep fun id q hq hi=>k id q (fun e=>by grind) hi
theorem Lvl.set0{nodes:LB}(h:Lvl H vs ps nodes)(ha:H[a]?=some o)(ho:¬isP o):Lvl (H.set a o') vs ps nodes :=
 h.but ha ho ((zc3.refl a H).set o')
theorem ziv.frz{p:PV}{ps:LJ}(h:ziv H p ps):Frz H 1 p (psv 1 ps):=by
 rcases h with⟨rfl,rfl⟩|⟨id,g,rfl,h2⟩
 .exact .nil _ _
 .exact Frz.wh h2 rfl (by simp) (by simp) zmm zgE
def ziA(bs:LN)(q:Nat)(n:zq):zq:={ n with sib:=bs.getD (q+1) 0 }
theorem zDM(nl:LB)(hbl:bs.length=nl.length)(hnl:nl.length<=100)(hbm:∀b∈bs,b<2048)(hg:∀n∈nl,zd0 n/\n.sib=0)(tm:Nat->PV)(H:LP)(idL idA idO g M0 gA:Nat)(vs0 ps V0:LQ)(hV0:V0.length<900000)(hM0:M0<=g)(hL0:H[idL]?=some (.row 143 6 g M0 vs0))(hlv0:Lvl H vs0 ps nl)(hA0:H[idA]?=some (.row 3 1 gA 0 (bfl bs)))(hO0:H[idO]?=some (.row 120 2 V0.length 0 V0))(h8:tm 8=.sl idL g 0 nl.length (2*nl.length) 6)(h11:tm 11=.sl idO V0.length 0 V0.length (2*V0.length) 2)(h13:tm 13=.sl idA gA 0 bs.length (2*bs.length) 1)(h15:tm 15=iv 0)(hQ:∀(tm':Nat->PV) (H':LP) (M:Nat) (vs V:LQ),M<=g->H'[idL]?=some (.row 143 6 g M vs)->Lvl H' vs ps (zbY bs nl)->H'[idA]?=some (.row 3 1 gA 0 (bfl bs))->H'[idO]?=some (.row 120 2 V.length 0 V)->V=V0++(zeh bs (zbY bs nl)).map zbx->(∀k,k<11\/(11<k/\k<15)\/132<k->tm' k=tm k)->tm' 11=.sl idO V.length 0 V.length (2*V.length) 2->Q .norm ⟨tm',[],H'⟩):
  W ET ET.caught none c36_6 ⟨tm,[],H⟩ Q:=by
 unfold c36_6 xC;have hll:=zeN bs nl hbl;have hVl:∀i,(((bs.zip (zbY bs nl)).take i).flatMap fun x=>zeq x.1 (zcw x.2)).length<=64*i:=fun i=>by
  rw[zj2,zAT9];omega
 refine ze (zbk (fun m s=>∃(i:Nat) (Hc:LP) (M:Nat) (vs V:LQ) (nodes:LB),m=nl.length-i/\i<=nl.length/\M<=g/\Hc[idL]?=some (.row 143 6 g M vs)/\Lvl Hc vs ps nodes/\nodes.length=nl.length/\(∀(q:Nat) (n:zq),nl[q]?=some n->nodes[q]?=some (if q<i then ziA bs q n else n))/\Hc[idA]?=some (.row 3 1 gA 0 (bfl bs))/\Hc[idO]?=some (.row 120 2 V.length 0 V)/\V=V0++(((bs.zip (zbY bs nl)).take i).flatMap fun x=>zeq x.1 (zcw x.2)).map zbx/\(∀k,k<11\/(11<k/\k<15)\/132<k->s.tm k=tm k)/\s.tm 11=.sl idO V.length 0 V.length (2*V.length) 2/\s.tm 15=iv i/\s.df=[]/\s.H=Hc) (n:=nl.length) ?_ ?_)
 .exact⟨0,H,M0,vs0,V0,nl,rfl,zAJ9 _,hM0,hL0,hlv0,rfl,fun q n hn=>by grind,hA0,hO0,by simp,fun k _=>rfl,h11,h15,rfl,rfl⟩
 .rintro m ⟨tn,df,Hc⟩ ⟨i,Hc',M,vs,V,nodes,rfl,hi,hM,hL,hlvl,hnlen,hnode,hA,hO,hV,hf,h11',h15',rfl,rfl⟩;dsimp only at hf h11' h15';have h8':=(hf 8 zy).trans h8;have h13':=(hf 13 zy).trans h13;have hVli:=hVl i;have hVlen:V.length<=V0.length+64*i:=by rw[hV,zAB9,zAP9];omega
  refine zLh (zr2 h8' h15') ?_ ?_;rotate_left
  .intro hlt;have hlt:¬i<nl.length:=zfd hlt;obtain rfl:i=nl.length:=zo;have hnl2:nodes=zbY bs nl:=by
    apply zDU9
    intro q;rcases zCX9 q nl.length with hq|hq
    .have hn:=zAA9 hq;rw[hnode q _ hn,if_pos hq,zfZ bs nl q _ hbl hn];rfl
    .grind
   rw[hnl2]at hlvl;refine hQ _ Hc M vs V hM hL hlvl hA hO ?_ (fun k k1=>?_) (by simp[upd,h11'])
   .rw[hV,zBR9 (by simp;omega)];rfl
   .simp(disch:=omega)only[zbW];exact hf k k1
  intro hlt;have hlt:i<nl.length:=ztd hlt;obtain⟨x,hx⟩:=zex (l:=nl) hlt;obtain⟨b,hb⟩:∃b,bs[i]?=some b:=⟨_,zAA9 zo⟩
  obtain⟨p,hp⟩:∃p,ps[i]?=some p:=⟨_,zAA9 (by rw[hlvl.lenP];omega)⟩
  have hxn:nodes[i]?=some x:=by have:=hnode i x hx;rwa [if_neg (Nat.lt_irrefl _)]at this
  have hvx:=(hlvl.val i x p hxn hp).1;have hgx:=hg x (zAI9 hx);have hli:=zfZ bs nl i x hbl hx;change (zbY bs nl)[i]?=some (ziA bs i x)at hli;have hbmb:=hbm b (zAI9 hb);have hsib:bs.getD (i+1) 0<2048:=by
   rcases zCX9 (i+1) bs.length with h|h
   .rw[zAK9,zAA9 h];exact hbm _ (zBK9 _)
   .rw[zAK9,zBL9 zo];decide
  have hgx':zd0 (ziA bs i x):=hgx.1.setSib hsib;have dLO:idO≠idL:=fun e=>by grind
  have dLA:idA≠idL:=fun e=>by grind
  have dAO:idA≠idO:=fun e=>by grind
  have e2:((i:Int)+1)=((i+1:Nat):Int):=zo;have hvsl:i<vs.length:=by rw[hlvl.lenV];omega
  refine zBb ?_;refine zHW (zcJ (Q:=fun y s'=>y=.norm/\∃(M:Nat) (vs:LQ) (nodes:LB),M<=g/\s'.H[idL]?=some (.row 143 6 g M vs)/\Lvl s'.H vs ps nodes/\nodes.length=nl.length/\(∀(q:Nat) (n:zq),nl[q]?=some n->nodes[q]?=some (if q<i+1 then ziA bs q n else n))/\s'.H[idA]?=some (.row 3 1 gA 0 (bfl bs))/\s'.H[idO]?=some (.row 120 2 V.length 0 V)/\(∀k,k<15\/132<k->s'.tm k=tn k)/\s'.tm 15=iv i/\s'.df=[]) ?_ ?_)
  .by_cases hi1:i+1<nl.length
   .have g1:((i+1:Nat):Int)<(nl.length:Nat):=zo;have hi1b:i+1<bs.length:=zo;have hbv:(bfl bs)[i+1]?=some (iv (bs.getD (i+1) 0:Nat)):=by rw[zAF9,zAA9 hi1b,zAK9,zAA9 hi1b];rfl
    refine zB ?_;refine zB ?_;refine zbj (zr4 h8' h15' e2 g1) ?_;refine zct ?_;refine zae ?_;refine zKF (zhg h8' h13' h15' e2 hi1b hbv hA hL hM hvx hlt) ?_;refine⟨rfl,g,vs.set i (zdt (ziA bs i x) p),nodes.set i (ziA bs i x),zAE9 _,?G,?L,by simp[hnlen],?N,?A,?O,fun k k1=>?_,zu h15',rfl⟩
    case G=>rw[zAZ9 (zAC9.1 hL).1];rfl
    case L=>exact(hlvl.setNode (n':=ziA bs i x) hxn hp rfl).set0 hL (fun h=>absurd (show (143:Nat)=92 from h) zy)
    case N =>
     intro q n hn
     by_cases hq:q=i
     .subst hq;rw[zAZ9 zo,if_pos (zCS9 _)]
      grind
     .rw[zAY9 (fun e=>hq e.symm),hnode q n hn]
      by_cases h1:q<i
      .grind
      .rw[if_neg h1,if_neg zo]
    case A=>rw[zAY9 (fun e=>dLA e.symm)];exact hA
    case O=>rw[zAY9 (fun e=>dLO e.symm)];exact hO
    .simp(disch:=omega)only[zbW]
   .have g1:¬((i+1:Nat):Int)<(nl.length:Nat):=zo;refine zB ?_;refine zB ?_;refine zbj (zr4 h8' h15' e2 g1) ?_;refine zcf ?_;refine zr ⟨rfl,M,vs,nodes,hM,hL,hlvl,hnlen,?_,hA,hO,fun k k1=>?_,zu h15',rfl⟩
    .intro q n hn;rw[hnode q n hn]
     by_cases h1:q<i
     .grind
     .by_cases hq:q=i
      .subst hq;rw[if_neg h1,if_pos (zCS9 _)];rw[hx]at hn;cases hn
       have h0:=hgx.2;unfold ziA;rw[zAK9,zBL9 (show bs.length<=q+1 by omega)];obtain⟨a1,a2,a3,a4,a5,a6⟩:=x;dsimp only at h0;rw[h0];rfl
      .rw[if_neg h1,if_neg zo]
    .simp(disch:=omega)only[zbW]
  clear hM hL hlvl hA hO hnlen hnode hxn hvx h15' hvsl;rintro y ⟨tq,df,Hc⟩ ⟨rfl,M,vs,nodes,hM,hL,hlvl,hnlen,hnode,hA,hO,hf2,h15',rfl⟩;dsimp only at hM hL hlvl hA hO hf2 h15';have hxn:nodes[i]?=some (ziA bs i x):=by have:=hnode i x hx;rwa [if_pos (zCS9 _)]at this
  have hvx:=hlvl.val i _ p hxn hp;have h8q:=(hf2 8 zy).trans h8';have h11q:=(hf2 11 zy).trans h11';have h13q:=(hf2 13 zy).trans h13';have hw:=zzB 1 (ziA bs i x) hgx'.level hgx'.sib hgx'.way hgx'.few;have hfz:Frz Hc 1 (zdt (ziA bs i x) p) (zbr 1 (ziA bs i x)):=Frz.aggL ⟨.int _ _,.int _ _,.int _ _,.int _ _,.int _ _,hvx.2.frz,trivial⟩;have hvv:=hvx.1;generalize hx':ziA bs i x=x' at *
  refine zBr ?_;refine zb2 (zr6 h8q h15' hL hM hvv hlt) ?_;refine zeA (caps:=?_) (vs:=?_) ?_ ?_ hw ?_ ?_;rotate_left 2;(first|rfl|(simp only[zaA,zaF,go_sem]<;>rfl));(simp only[go_sem]<;>rfl)
  .exact⟨hfz,trivial⟩
  refine zN ?_;refine zB ?_;refine zI ?_;refine zcd ?_;refine zDC bs (zcw x') i b hb hbmb (zgx _) zo _ Hc idO V zo idA gA dAO hO hA (by simp[upd,h11q]) (by simp[upd,h13q]) (by simp[upd,h15']) (by simp[upd]) (by simp[upd]) (fun tm2 H2 V2 hV2 hst hO2 hfr h11x=>?_);have h15x:tm2 15=iv i:=(hfr 15 zy zy zy).trans (by simp[upd,h15']);refine zJF h15x ?_;refine⟨_,?m,i+1,H2,M,vs,V2,nodes,rfl,hlt,hM,hst idL _ dLO.symm hL,hlvl.but hO (fun h=>absurd (show (120:Nat)=92 from h) zy) hst,hnlen,hnode,hst idA _ dAO hA,hO2,?_,fun k k1=>?_,by simp[upd,h11x],by simp[upd],rfl,rfl⟩
  case m=>omega
  .rw[hV2,hV,zv1 hb hli];simp
  .simp(disch:=omega)only[zbW];rw[hfr k zo zo zo];simp(disch:=omega)only[zbW];exact(hf2 k zo).trans (hf k k1)


theorem zpk:Frz H 0 (.tuple [iv 0,.nilsl,iv 0,iv n]) (.tuple [iv 0,.list 0 2 (([]:LJ).map zbx),iv 0,iv n]):=Frz.tL ⟨.int _ _,.nil _ _,.int _ _,.int _ _,trivial⟩
theorem ztP(fr:LG)(hl:l.length<=500)(hfr:fr.length<=2000):FN ET 36 [psv p l,.list q 1 (fr.map iv)] (zdR l fr):=by
 refine zfn (eG T36 func36) (zup l fr) ?_;refine zG ?_;refine zBr ?_;have hris:=zoB p l zo;have hblk:=zwR q fr zo
 by_cases hokP:okP l=true
 rotate_left
 .have hokP:okP l=false:=by simpa using hokP
  have he:zdR l fr=zmt 2:=by unfold zdR;rw[hokP];rfl
  rw[hokP]at hris;refine zfx ?_;refine zCN hris ?_;refine zU ?_;rw[he];exact zpk 2
 rw[hokP]at hris
 by_cases hokI:okI [] fr=true
 rotate_left
 .have hokI:okI [] fr=false:=by simpa using hokI
  have he:zdR l fr=zmt 2:=by unfold zdR;rw[hokI,Bool.and_false];rfl
  rw[hokI]at hblk;refine zfx ?_;refine zca hris ?_;refine zfx ?_;refine zCN hblk ?_;refine zU ?_;rw[he];exact zpk 2
 rw[hokI]at hblk;refine zfx ?_;refine zca hris ?_;refine zfx ?_;refine zCN hblk ?_;refine zcf ?_;refine zSk ?_;obtain⟨free,rfl,hokF⟩:=zlK hokI;have hff:=(zfQ free).1 hokF;have hfree:(free.map fun(b:Nat)=>(b:Int)).map Int.toNat=free:=by rw[zDH9];exact zGI9 free
 have hbE:zdR l (free.map fun(b:Nat)=>(b:Int))=match zeV l free with
   | none=>zmt 221
   | some T=>bOk T:=by unfold zdR;rw[hokP,hokI,hfree];rfl
 have hfv:(free.map fun(b:Nat)=>(b:Int)).map iv=bfl free:=by rw[zDH9];rfl
 have hfl:free.length<=2000:=by simpa using hfr
 rw[hbE,hfv];have hfbl:(bfl free).length=free.length:=by rw[zAP9]
 refine zBr ?_;refine zfx ?_;refine zca (zu0 l.length hl) ?_
 by_cases hsp:free.length<zes l.length
 .have g:((free.length:Nat):Int)<(zes l.length:Nat):=zo;have hn:=(zkL (free:=free) hl).2 hsp;refine zNF g ?_;refine zU ?_;rw[hn];exact zpk 221
 have g:¬((free.length:Nat):Int)<(zes l.length:Nat):=zo;refine zNF g ?_;refine zcf ?_;refine zSk ?_;obtain⟨TT,hTT⟩:∃TT,zeV l free=some TT:=by
  cases h:zeV l free with
  | none=>exact absurd ((zkL (free:=free) hl).1 h) hsp
  | some TT=>grind
 rw[hTT];refine zG ?_;refine zCq p l hl _ _ 0 0 0 [zdt ⟨0,0,0,9223372036854775808,0,[]⟩ .nilsl] [.nilsl] (zAE9 _) rfl ((Lvl.nil _).snoc ⟨0,0,0,9223372036854775808,0,[]⟩ rfl) (by simp[upd,zn]) (by simp[upd]) (by simp[upd]) (fun tm1 H1 g1 M1 vs1 ps1 hM1 hL1 hlv1 hf1 h81=>?_);have k1:tm1 1=.list q 1 (bfl free):=(hf1 1 zy zy zy zy).trans (by simp[upd,zn]);clear hf1;refine zG ?_;refine zcL 120 2 (i:=11) (by simp[upd]) ?_;simp only[lzy];have hO1:(H1++[zc.row 120 2 0 0 []])[H1.length]?=some (.row 120 2 0 0 []):=by simp
 have hL1':(H1++[zc.row 120 2 0 0 []])[0]?=some (.row 143 6 g1 M1 vs1):=zbR hL1;have hlv1':Lvl (H1++[zc.row 120 2 0 0 []]) vs1 ps1 (zcA l):=hlv1.keep fun id o _ h=>zbR h;refine ze (zbk (fun m s=>∃(k:Nat) (nl:LB) (used:Nat) (T:LD) (Hc:LP) (idL g M idO:Nat) (vs ps V:LQ),m=k/\1<=k/\3<=k+T.length/\zl6 l free nl used T/\zjd free k nl used T=some TT/\used=(T.reverse.flatMap Prod.fst).length/\V=(zcH T.reverse).map zbx/\V.length=64*used/\M<=g/\Hc[idL]?=some (.row 143 6 g M vs)/\Lvl Hc vs ps nl/\Hc[idO]?=some (.row 120 2 V.length 0 V)/\s.tm 1=.list q 1 (bfl free)/\s.tm 8=.sl idL g 0 vs.length (2*vs.length) 6/\s.tm 11=.sl idO V.length 0 V.length (2*V.length) 2/\s.tm 12=iv used/\s.df=[]/\s.H=Hc) (n:=4) ?_ ?_)
 .exact⟨4,zcA l,0,[],_,0,g1,M1,H1.length,vs1,ps1,[],rfl,by decide,by decide,zlA free hokP hl,hTT,rfl,rfl,rfl,hM1,hL1',hlv1',hO1,by simp[upd,k1],zu h81,zt,zt,rfl,rfl⟩
 .clear hM1 hL1 hlv1 hL1' hlv1' hO1 k1 h81;rintro m ⟨tm,df,Hc⟩ ⟨k,nl,used,T,Hc',idL,g,M,idO,vs,ps,V,rfl,hk1,hk3,hI,hbd,hus,hV,hVl,hM,hL,hlvl,hO,h1,h8,h11,h12,rfl,rfl⟩;dsimp only at *
  obtain⟨k,rfl⟩:∃k,m=k+1:=⟨m-1,by omega⟩
  have hnl0:0<nl.length:=zCC9.2 hI.ok.ne;have hnlb:nl.length<=28:=by
   have:=hI.bndL;have hb:∀t,bndL t<=28:=fun t=>by match t with|0=>decide|1=>decide|t+2=>exact(show 1<=28 by decide)
   exact zBW9 this (hb _)
  rw[zjd]at hbd;have hul:=hI.used
  by_cases hsp2:free.length<used+nl.length
  .rw[if_pos hsp2]at hbd;cases hbd
  rw[if_neg hsp2]at hbd;have hvn:=hlvl.lenV;rw[hvn]at h8;refine zBb ?_;refine zG ?_;refine zcL 3 1 (i:=13) (by simp[upd]) ?_;simp only[lzy];have hlc:idL<Hc.length:=(zAC9.1 hL).1;have hoc:idO<Hc.length:=(zAC9.1 hO).1;refine zDc q free used nl.length zo zo _ _ idL g _ Hc.length (by simp) (by simp[upd,h1]) (by simp[upd,h8];rfl) (by simp[upd,h12]) (by simp[upd]) (by simp[upd]) (fun tm2 H2 hst2 hA2 hf2 h13=>?_);obtain⟨v1,v2,v3,v4,v5,v6,v7,v8⟩:=hI.level hokF hsp2;have hnx:=hI.next hokF hsp2;have hlvl3:=hI.lvl;have hL2:H2[idL]?=some (.row 143 6 g M vs):=hst2 idL _ zo (zbR hL);have hO2:H2[idO]?=some (.row 120 2 V.length 0 V):=hst2 idO _ zo (zbR hO);have hlv2:Lvl H2 vs ps nl:=hlvl.keep fun id o _ h=>hst2 id o (by grind) (zbR h);have x1:tm2 1=.list q 1 (bfl free):=(hf2 1 zy zy zy).trans (by simp[upd,h1]);have x8:tm2 8=.sl idL g 0 nl.length (2*nl.length) 6:=(hf2 8 zy zy zy).trans (by simp[upd,h8]);have x11:tm2 11=.sl idO V.length 0 V.length (2*V.length) 2:=(hf2 11 zy zy zy).trans (by simp[upd,h11]);have x12:tm2 12=iv used:=(hf2 12 zy zy zy).trans (by simp[upd,h12]);clear hf2 hst2 h1 h8 h11 h12;generalize hbs:(free.drop used).take nl.length=bs at *
  refine zG ?_;refine zDM bs nl v1 zo (fun b hb=>(v4 b hb).2) (fun n hn=>⟨(hI.ok.each n hn).1,(hI.ok.each n hn).2.2⟩) _ H2 idL Hc.length idO g M nl.length vs ps V zo hM hL2 hlv2 hA2 hO2 (by simp[upd,x8]) (by simp[upd,x11]) (by simp[upd,h13,v1]) (by simp[upd]) (fun tm3 H3 M3 vs3 V3 hM3 hL3 hlv3 hA3 hO3 hV3 hf3 h11=>?_);have y1:tm3 1=.list q 1 (bfl free):=(hf3 1 zy).trans (by simp[upd,x1]);have y8:tm3 8=.sl idL g 0 nl.length (2*nl.length) 6:=(hf3 8 zy).trans (by simp[upd,x8]);have y12:tm3 12=iv used:=(hf3 12 zy).trans (by simp[upd,x12]);have y13:tm3 13=.sl Hc.length nl.length 0 nl.length (2*nl.length) 1:=(hf3 13 zy).trans (by simp[upd,h13]);clear hf3 x1 x8 x11 x12;have hpl:(zeh bs (zbY bs nl)).length=64*nl.length:=by
   unfold zeh;rw[zj2];simp[v1,zeN bs nl v1]
  have hV4:V3=(zcH ((bs,zbY bs nl)::T).reverse).map zbx:=by
   rw[hV3,hV,zFM9,zcH,zcH,zCI9];simp
  have hV3l:V3.length=64*(used+nl.length):=by rw[hV3,zAB9,zAP9,hpl];omega
  have hus2:used+nl.length=(((bs,zbY bs nl)::T).reverse.flatMap Prod.fst).length:=by
   rw[zFM9,zCI9,zAB9,<- hus];simp[v1]
  have hw:IntKind.i64.wrap ((used:Int)+(nl.length:Int))=((used+nl.length:Nat):Int):=zwi
  by_cases ho:nl.length=1
  .rw[if_pos ho]at hbd
   cases hbd
   have g1:((nl.length:Nat):Int)=1:=zo;obtain⟨b0,hb0⟩:=zEC9.1 (v1.trans ho);have hA0:(bfl bs)[0]?=some (iv b0):=by rw[hb0];rfl
   have hgA:0<=nl.length:=zAJ9 _;refine zB ?_;refine zB ?_;refine zbj (zr3 y8 y12 hw) ?_;refine zB ?_;refine zB ?_;refine zbj (zr2 y8 g1) ?_;refine zct ?_;refine zB ?_;refine zB ?_;refine zbj (zr6 y13 h11 hA3 hA0 hnl0 hgA) ?_;refine zbN (zfr ?_);have hroot:zi6 ((bs,zbY bs nl)::T)=b0:=by rw[hb0];rfl
   refine Frz.tL ⟨?_,?_,?_,.int _ _,trivial⟩
   .rw[hroot];exact .int _ _
   .rw[<- hV4];refine Frz.wh hO3 rfl rfl (zAE9 _) (fun v hv=>?_) (fun v hv=>?_)
    .rw[hV4]at hv;obtain⟨x,_,rfl⟩:=zAH9.1 hv;rfl
    .rw[hV4]at hv;obtain⟨x,hx,hv⟩:=zAU9.1 hv;obtain⟨y,_,rfl⟩:=zAH9.1 hx;simp[PV.cells]at hv;rcases hv with rfl|rfl<;>exact .int _ _
   .rw[<- hus2];exact .int _ _
  .rw[if_neg ho]at hbd;have g1:¬((nl.length:Nat):Int)=1:=zo;have hnx:=hnx ho;have hT1:T.length<=1:=by
    have:=hnx.lvl;simp at this;omega
   obtain⟨w1,w2,w3⟩:=zgu bs nl v1;have hll:=zeN bs nl v1;have hlevs:∀n∈zbY bs nl,n.level=T.length:=by
    intro n hn;obtain⟨j,hj⟩:=zEH9.1 hn;have hjl:j<nl.length:=by rw[<- hll];exact(zAC9.1 hj).1
    have e:=zfZ bs nl j _ v1 (zAA9 hjl);rw[hj]at e;cases e
    exact(hI.ok.each _ (zBK9 _)).2.1
   have hab:=zzE H3 idL g M3 Hc.length nl.length vs3 ps (zbY bs nl) bs T.length hL3 hM3 hlv3 hA3 (by omega) zo hlevs zo (fun b hb=>(v4 b hb).2);rw[hll,w2]at hab;refine zB ?_;refine zB ?_;refine zbj (zr3 y8 y12 hw) ?_;refine zB ?_;refine zB ?_;refine zbj (zr2 y8 g1) ?_;refine zcf ?_;refine zSk ?_;refine zBr ?_;refine zb2 (zr2 y8 y13) ?_;refine zns (caps:=?caps) (vs:=?vs) ?a1 ?a2 hab ?a3 ?a4 ?a5
   case a1=>first|rfl|(simp only[zaA,zaF,go_sem]<;>rfl)
   case a2=>simp only[go_sem]<;>rfl
   case a3=>rfl
   case a4=>rfl
   rintro e H4 ⟨hst4,idL4,g4,M4,vs4,ps4,rfl,hM4,_,hL4,hlv4,_⟩;refine zK ?_;refine⟨k,zCS9 _,k,_,used+nl.length,(bs,zbY bs nl)::T,H4,idL4,g4,M4,idO,vs4,ps4,V3,rfl,by omega,?_,hnx,hbd,hus2,hV4,hV3l,hM4,hL4,hlv4,hst4 idO _ hO3,by simp[upd,y1],zt,zu h11,zt,rfl,rfl⟩;simp;omega


theorem zjN:∀X:LD,(∀M∈X,M.1.length=M.2.length)->(zcH X).length=64*(X.flatMap Prod.fst).length
 | [],_=>rfl
 | M::X,h=>by
  have h1:=zjN X fun K hK=>h K (zAQ9 _ hK);have h2:=h M (zAR9 ..);unfold zcH at h1⊢;rw[zBQ9,zAB9,h1,zBQ9,zAB9];unfold zeh;rw[zj2,List.length_zip];omega


theorem zzk:zcI left n=(decide (left≠0)&&decide (n%2=0)&&decide (4<=n)&&decide (n<=56)):=by
 rw[zGB9];simp only[zcI,zAO9,decide_eq_true_eq];omega
theorem zxa(hw:zbQ w.length):FR 277 [uv left,wv p w] (.bool (zcI left w.length)):=by
 refine zfn (eG T277 func277) (.bool _) ?_;have r1:(w.length:Int).tmod 2=((w.length%2:Nat):Int):=rfl;rw[zzk]
 by_cases b1:left=0
 .have a1:(left:Int)=0:=zo;refine zOF a1 ?_;exact zbp.bool (by simp[b1])
 have a1:¬(left:Int)=0:=zo
 by_cases b2:w.length%2=0
 rotate_left
 .have a2:¬((w.length%2:Nat):Int)=0:=zo;refine zOF (zr3 a1 r1 a2) ?_;exact zbp.bool (by grind)
 have a2:((w.length%2:Nat):Int)=0:=zo
 by_cases b3:4<=w.length
 rotate_left
 .have a3:¬(4:Int)<=(w.length:Nat):=zo;refine zOF (zr4 a1 r1 a2 a3) ?_;exact zbp.bool (by simp[b3])
 have a3:(4:Int)<=(w.length:Nat):=zo
 by_cases b4:w.length<=56
 .have a4:((w.length:Nat):Int)<=56:=zo;refine zOF (zr5 a1 r1 a2 a3 a4) ?_;exact zbp.bool (by grind)
 .have a4:¬((w.length:Nat):Int)<=56:=zo;refine zOF (zr5 a1 r1 a2 a3 a4) ?_;exact zbp.bool (by simp[b4])
theorem zd8{w:LN}{i:Nat}(h:i<w.length):(w.map uv)[i]?=some (uv (w.getD i 0)):=by grind
theorem zoC(j:Nat)(hw:zbQ w.length)(h:2*j<w.length+1):FR 219 [uv left,wv p w,iv j] (uv (zc1 left w j)):=by
 refine zfn (eG T219 func219) (.int _ _) ?_;unfold zc1;refine zG ?_;refine zfc ?_ ?_
 .intro hj;obtain rfl:j=0:=ztd hj;refine zO ?_;exact Frz.int _ _
 .intro hj;have hj:¬j=0:=zfd hj;rw[if_neg hj];refine zSk ?_;have w1:IntKind.i64.wrap (2*(j:Int))=((2*j:Nat):Int):=zwi;have w2:IntKind.i64.wrap (((2*j:Nat):Int)-1)=((2*(j-1)+1:Nat):Int):=zwi;have c1:2*(j-1)+1<w.length:=zo;have z1:=zd8 c1;refine zOF (zr4 w1 w2 c1 z1) ?_;exact Frz.int _ _
theorem zsR(hw:zbQ w.length):FR 279 [wv p w] (iv (zb3 w:Nat)):=by
 refine zfn (eG T279 func279) (.int _ _) ?_;have e0:IntKind.i64.wrap ((w.length:Int).tdiv 2)=((w.length/2:Nat):Int):=by rw[IntWalk.i64_quo _ _ zo];omega
 refine zG ?_;refine ze (zbk (fun m s=>∃i:Nat,m=w.length-i/\2*i<=w.length/\zb3 w=i+zb3 (w.drop (2*i))/\s.tm 0=wv p w/\s.tm 3=iv i/\s.df=[]/\s.H=[]) (n:=w.length) ?_ ?_)
 .exact⟨0,by simp[upd,zn]⟩
 .rintro m ⟨tm,df,H⟩ ⟨i,rfl,hi,hc,h0,h3,rfl,rfl⟩;dsimp only at h0 h3
  by_cases hlt:i<w.length/2
  .have g1:(i:Int)<((w.length/2:Nat):Int):=zo;have w1:IntKind.i64.wrap (2*(i:Int))=((2*i:Nat):Int):=zwi;have w2:IntKind.i64.wrap (((2*i:Nat):Int)+1)=((2*i+1:Nat):Int):=zwi;have c1:2*i+1<w.length:=zo;have z1:=zd8 c1;have hd:=zpV w i c1;have hx:w[2*i+1]=w.getD (2*i+1) 0:=by rw[zAK9,zAA9 c1];rfl
   rw[hx]at hd;generalize w.getD (2*i+1) 0=x at *
   by_cases hz:x=0
   .have gx:(x:Int)=0:=zo;refine zLh (zr9 h0 h3 e0 g1 w1 w2 c1 z1 gx) ?_ ?_
    .intro h;cases h
    .intro _;refine zOF h3 ?_;rw[hc,hd,zb3,if_pos hz];exact Frz.int _ _
   .have gx:¬(x:Int)=0:=zo;refine zLh (zr9 h0 h3 e0 g1 w1 w2 c1 z1 gx) ?_ ?_
    .intro _;refine ze ?_;refine zJF h3 ?_;refine⟨_,?m,i+1,rfl,by omega,?_,zu h0,zu h3,zt,zt⟩
     case m=>omega
     rw[hc,hd,zb3,if_neg hz];omega
    .intro h;cases h
  .have g1:¬(i:Int)<((w.length/2:Nat):Int):=zo;refine zLh (zr4 h0 h3 e0 g1) ?_ ?_
   .intro h;cases h
   .intro _;refine zOF h3 ?_;rw[hc,zq4 (by grind)];exact Frz.int _ _
def zjc(l:LJ)(x:Nat):Bool:=(l.map Prod.snd).contains x
theorem zAE(x:Nat)(hl:zbQ l.length):FR 278 [psv p l,uv x] (.bool (zjc l x)):=by
 refine zfn (eG T278 func278) (.bool _) ?_;refine zG ?_;refine ze (zbk (fun m s=>∃i:Nat,m=l.length-i/\i<=l.length/\zjc l x=zjc (l.drop i) x/\s.tm 0=psv p l/\s.tm 1=uv x/\s.tm 5=iv i/\s.df=[]/\s.H=[]) (n:=l.length) ?_ ?_)
 .exact⟨0,by simp[upd,zn]⟩
 .rintro m ⟨tm,df,H⟩ ⟨i,rfl,hi,hc,h0,h1,h5,rfl,rfl⟩;dsimp only at h0 h1 h5;refine zLh (zr2 h0 h5) ?_ ?_
  .intro hlt;have hlt:i<l.length:=ztd hlt;obtain⟨q,hq⟩:=zex (l:=l) hlt;have hqv:(l.map pv)[i]?=some (pv q):=zmg hq;have hdr:l.drop i=q::l.drop (i+1):=zdc hq;refine zBb ?_
   by_cases he:q.2=x
   .have g1:(q.2:Int)=x:=zo;refine zB ?_;refine zbj (zr6 h0 h1 h5 hqv hlt g1) ?_;refine zU ?_;exact zbp.bool (by rw[hc,hdr];simp[zjc,he])
   .have g1:¬(q.2:Int)=x:=zo;refine zB ?_;refine zbj (zr6 h0 h1 h5 hqv hlt g1) ?_;refine zH ?_;refine zJF h5 ?_;refine⟨_,?m,i+1,rfl,hlt,?_,zu h0,zu h1,zu h5,zt,zt⟩
    case m=>omega
    rw[hc,hdr];simp[zjc,Ne.symm he]
  .intro hlt;have hlt:¬i<l.length:=zfd hlt;obtain rfl:i=l.length:=zo;refine zO ?_;exact zbp.bool (by rw[hc,zBH9];rfl)
theorem zlF:∀(l:LN) (j prev:Nat),2*(zcZ j prev l).length<=l.length
 | [],_,_=>by simp[zcZ]
 | [_],_,_=>by simp[zcZ]
 | _::p::l,j,prev=>by
  have:=zlF l (j+1) p;rw[zcZ]
  grind
theorem zwJ{l:LN}(h:zb3 l=0)(j prev:Nat):zcZ j prev l=[]:=by
 match l,h with
 | [],_=>simp[zcZ]
 | [_],_=>simp[zcZ]
 | a::b::l,h =>
  rw[zb3]at h
  by_cases hb:b=0
  .rw[zcZ,if_pos hb]
  grind
theorem zl1(hw:w.length<1000000):FR 217 [uv left,wv p w] (.tuple [psv 0 (zbO left w),.list 0 1 ((zcZ 0 left w).map fun x=>iv (x.1:Nat))]):=by
 refine zfn (eG T217 func217) (Lb.two (Lb.pvs _) ?_) ?_
 .have:=Lb.ivs (z:=1) ((zcZ 0 left w).map fun x=>(x.1:Int));rw[zDH9]at this;exact this
 refine zG ?_;refine zcL 92 2 (i:=6) rfl ?_;refine zcL 3 1 (i:=7) rfl ?_;simp only[lzy,zAG9,zAN9,zBS9,zAS9,zAV9];refine ze (zbk (fun m s=>∃(j:Nat) (V1 V2:LQ) (I:List (Nat×Pr)) (G:LP),m=w.length-j/\j<=zb3 w/\zb3 w=j+zb3 (w.drop (2*j))/\zcZ 0 left w=I++zcZ j (zc1 left w j) (w.drop (2*j))/\V1=I.map (fun x=>pv x.2)/\V2=I.map (fun x=>iv (x.1:Nat))/\s.tm 0=uv left/\s.tm 1=wv p w/\s.tm 6=.sl 0 V1.length 0 V1.length (2*V1.length) 2/\s.tm 7=.sl 1 V2.length 0 V2.length (2*V2.length) 1/\s.tm 8=iv j/\s.df=[]/\s.H=.row 92 2 V1.length 0 V1::.row 3 1 V2.length 0 V2::G) (n:=w.length) ?_ ?_)
 .exact⟨0,[],[],[],[],rfl,zAJ9 _,by simp,by simp[zc1],rfl,rfl,zt,zt,zt,zt,zt,rfl,rfl⟩
 .rintro m ⟨tm,df,H⟩ ⟨j,V1,V2,I,G,rfl,hj,hraw,hit,hV1,hV2,h0,h1,h6,h7,h8,rfl,rfl⟩;dsimp only at *
  have hrl:=zrY w;have hIl:I.length<=w.length:=by have:=zlF w 0 left;rw[hit,zAB9]at this;omega
  have hl1:V1.length=I.length:=by rw[hV1,zAP9]
  have hl2:V2.length=I.length:=by rw[hV2,zAP9]
  refine zad ?_;refine zIF (zr2 h1 h8) ?_;refine zCN (zsR p w zo) ?_;refine zwh ?_ ?_
  .intro hlt;have hlt:j<zb3 w:=ztd hlt;have w1:IntKind.i64.wrap (2*(j:Int))=((2*j:Nat):Int):=zwi;have w2:IntKind.i64.wrap (((2*j:Nat):Int)+1)=((2*j+1:Nat):Int):=zwi;have c0:2*j<w.length:=zo;have c1:2*j+1<w.length:=zo;have z0:=zd8 c0;have z1:=zd8 c1;have hd:=zpV w j c1;have hx0:w[2*j]=w.getD (2*j) 0:=by rw[zAK9,zAA9 c0];rfl
   have hx1:w[2*j+1]=w.getD (2*j+1) 0:=by rw[zAK9,zAA9 c1];rfl
   have han:zc1 left w (j+1)=w.getD (2*j+1) 0:=by unfold zc1;rw[if_neg zo,zFK9]
   have hah:=zoC p left w j zo zo;rw[hx0,hx1]at hd;generalize w.getD (2*j) 0=k at *
   generalize w.getD (2*j+1) 0=x at *
   generalize zc1 left w j=a at *
   have hxz:x≠0:=by
    intro e;rw[hraw,hd,zb3,if_pos e]at hlt;omega
   rw[hd,zb3,if_neg hxz]at hraw;rw[hd,zcZ,if_neg hxz]at hit;refine zBb ?_;refine zBd ?_
   by_cases he:x=a
   .have g1:(x:Int)=a:=zo;rw[if_pos he]at hit;refine zcu (zr7 h0 h1 h8 w1 w2 c1 z1) hah ?_;refine zQF (zr2 h0 g1) ?_;refine zfc ?_ ?_
    .intro h;simp at h
    intro _;refine zr ?_;refine zJF h8 ?_;refine⟨_,?m1,j+1,V1,V2,I,G,rfl,hlt,by omega,(by grind),hV1,hV2,zu h0,zu h1,zu h6,zu h7,zu h8,rfl,rfl⟩;omega
   .have g1:¬(x:Int)=a:=zo;rw[if_neg he]at hit;refine zcu (zr7 h0 h1 h8 w1 w2 c1 z1) hah ?_;refine zQF (zr2 h0 g1) ?_;refine zfc ?_ ?_;rotate_left
    .intro h;simp at h
    intro _;have hb1:(V1.length+1)*17<=140737488355328:=zo;have hb2:(V2.length+1)*9<=140737488355328:=zo;refine zBd ?_;refine zcs (zef h0 h1 h6 h7 h8 w1 w2 c0 c1 z0 z1 hb1) ?_;refine zQF h0 ?_;refine zJF (zr3 h7 h8 hb2) ?_;refine zJF h8 ?_;refine⟨_,?m2,j+1,V1++[pv (k,x)],V2++[iv (j:Nat)],I++[(j,(k,x))],?G2,rfl,hlt,by omega,(by grind),(by grind),(by grind),zu h0,zu h1,zt,zt,zu h8,zt,?H⟩
    case m2=>omega
    case H=>simp only[zAB9,zAG9,zAN9,zAD9,zAS9];rfl
  .intro hlt;have hlt:¬j<zb3 w:=zfd hlt;rw[zwJ (l:=w.drop (2*j)) zo,zCY9]at hit;refine zOF (zr2 h6 h7) ?_;have e1:zbO left w=I.map (fun x=>x.2):=by rw[<- zgm w 0 left,hit]
   have e2:(I.map (fun x=>x.2)).map pv=V1:=by rw[hV1,zDH9];rfl
   rw[e1,hit];refine Frz.tL ⟨?_,?_,trivial⟩
   .show Frz _ _ _ (.list 0 2 ((I.map fun x=>x.2).map pv));rw[e2];exact Frz.wh (l:=V1) rfl rfl rfl (zAE9 _) (fun v hv=>by rw[hV1]at hv;obtain⟨x,_,rfl⟩:=zAH9.1 hv;rfl) (by rw[<- e2];exact zgE)
   .rw[<- hV2];have e3:V2=(I.map fun x=>(x.1:Int)).map iv:=by rw[hV2,zDH9];rfl
    exact Frz.wh (l:=V2) rfl rfl rfl (zAE9 _) (fun v hv=>by rw[hV2]at hv;obtain⟨x,_,rfl⟩:=zAH9.1 hv;rfl) (by rw[e3];exact zrc)


def zg4(left:Nat)(l:LJ)(i:Nat):Bool :=
 (decide (i=0)||decide ((l.getD (i-1) (0,0)).1<(l.getD i (0,0)).1)) && !zjc (l.take i) (l.getD i (0,0)).2 && !decide ((l.getD i (0,0)).2=left)
def zjt(left:Nat)(l:LJ):Bool:=zbV l&&zdO [left] l
theorem zwc:zjt left l=true↔∀i,i<l.length->zg4 left l i=true:=by
 unfold zjt;rw[zAO9,zfH,zgK];have hget:∀i,i<l.length->l[i]?=some (l.getD i (0,0)):=fun i hi=>get_lt l hi
 constructor
 .rintro ⟨h1,h2,h3⟩ i hi;unfold zg4;simp only[zAO9,zEA9,zDD9,decide_eq_true_eq,decide_eq_false_iff_not];refine⟨⟨?_,?_⟩,?_⟩
  .by_cases h0:i=0
   .omega
   .right
    refine h1 (i-1) _ _ (hget _ zo) ?_;rw[show i-1+1=i by omega];grind
  .unfold zjc;rw[<- zFS9,zFP9];intro hm;obtain⟨q,hq,e⟩:=zAH9.1 hm;obtain⟨k,hk,hkq⟩:=zBN9.1 hq;rw[zAT9]at hk;rw[zHP9]at hkq;have hp:=zEJ9.1 h2 k i (by grind) (by grind) zo
   grind
  grind
 .intro h;have k:∀i,i<l.length->(i=0\/(l.getD (i-1) (0,0)).1<(l.getD i (0,0)).1)/\zjc (l.take i) (l.getD i (0,0)).2=false/\¬(l.getD i (0,0)).2=left:=fun i hi=>by
   have:=h i hi;unfold zg4 at this
   grind
  refine⟨fun i x y hx hy=>?_,?_,fun p hp hm=>?_⟩
  .grind
  .show List.Pairwise (fun x y=>x≠y) (l.map Prod.snd);rw[zEJ9];intro i j hi hj hij e;rw[zAP9]at hi hj;rw[List.getElem_map,List.getElem_map]at e;have h2:=(k j hj).2.1;unfold zjc at h2;rw[<- zFS9,zFP9]at h2
   apply h2
   rw[zAK9,zAA9 hj];show l[j].2∈_;rw[<- e];exact List.mem_map_of_mem (zBN9.2 ⟨i,by grind,zHP9⟩)
  .obtain⟨i,hi,e⟩:=zBN9.1 hp
   grind
theorem zzK(hl:l.length<1000000):FR 301 [uv left,psv p l] (.bool (zjt left l)):=by
 refine zfn (eG T301 func301) (.bool _) ?_;refine zG ?_;have bad:∀i,i<l.length->zg4 left l i=false->zjt left l=false:=fun i hi h=>by
  cases hf:zjt left l with
  | false=>rfl
  | true=>rw[(zwc left l).1 hf i hi]at h;cases h
 refine ze (zbk (fun m s=>∃i:Nat,m=l.length-i/\i<=l.length/\(∀j,j<i->zg4 left l j=true)/\s.tm 0=uv left/\s.tm 1=psv p l/\s.tm 5=iv i/\s.df=[]/\s.H=[]) (n:=l.length) ?_ ?_)
 .exact⟨0,rfl,zAJ9 _,fun j hj=>by omega,zt,zt,zt,rfl,rfl⟩
 .rintro m ⟨tm,df,H⟩ ⟨i,rfl,hi,hok,h0,h1,h5,rfl,rfl⟩;dsimp only at h0 h1 h5;refine zLh (zr2 h1 h5) ?_ ?_;rotate_left
  .intro hlt;have hlt:¬i<l.length:=zfd hlt;obtain rfl:i=l.length:=zo;refine zO ?_;exact zbp.bool ((zwc left l).2 hok).symm
  intro hlt;have hlt:i<l.length:=ztd hlt;have hxv:(l.map pv)[i]?=some (pv (l.getD i (0,0))):=by rw[zAF9,get_lt l hlt];rfl
  have htk:(l.map pv).take i=(l.take i).map pv:=by rw[zCN9]
  have hle:i<=l.length:=hi;have hhas:=zAE p (l.take i) (l.getD i (0,0)).2 (by rw[zAT9];omega);have hfa:zg4 left l i=((decide (i=0)||decide ((l.getD (i-1) (0,0)).1<(l.getD i (0,0)).1)) && !zjc (l.take i) (l.getD i (0,0)).2 && !decide ((l.getD i (0,0)).2=left)):=rfl;refine zBb ?_;refine zB ?_;refine zcJ (Q:=fun y s'=>y=.norm/\s'.tm 47=.bool (!zg4 left l i)/\s'.tm 0=uv left/\s'.tm 1=psv p l/\s'.tm 5=iv i/\s'.df=[]/\s'.H=[]) (zaB ?_) ?_
  .generalize zjc (l.take i) (l.getD i (0,0)).2=hp at *
   generalize zg4 left l i=fa at *
   by_cases b0:i=0
   .have g0:¬(0:Int)<(i:Int):=zo
    cases hp with
    | true =>
     refine zcu (zr7 h1 h5 g0 hxv hlt hle htk) hhas ?_;refine zQF (zr3 h0 h1 h5) ?_
     grind
    | false =>
     by_cases b2:(l.getD i (0,0)).2=left
     .have g2:((l.getD i (0,0)).2:Int)=left:=zo;refine zcu (zr7 h1 h5 g0 hxv hlt hle htk) hhas ?_;refine zQF (zr6 h0 h1 h5 hxv hlt g2) ?_
      grind
     .have g2:¬((l.getD i (0,0)).2:Int)=left:=zo;refine zcu (zr7 h1 h5 g0 hxv hlt hle htk) hhas ?_;refine zQF (zr6 h0 h1 h5 hxv hlt g2) ?_
      grind
   have g0:(0:Int)<(i:Int):=zo;have hi1:IntKind.i64.wrap ((i:Int)-1)=((i-1:Nat):Int):=zwi;have hil:i-1<l.length:=zo;have hpv:(l.map pv)[i-1]?=some (pv (l.getD (i-1) (0,0))):=by rw[zAF9,get_lt l hil];rfl
   generalize l.getD (i-1) (0,0)=pr at *
   generalize l.getD i (0,0)=x at *
   by_cases b1:pr.1<x.1
   rotate_left
   .have hkey:((x.1:Nat):Int)<=(pr.1:Nat):=zo;refine zfw (by first|exact trivial|simp only[go_sem,h0,h1,h5,g0,hi1,hil,hpv,hxv,hlt,hle,hkey]) (by simp(disch:=omega)only[go_sem,h1,h5,g0,hi1,hpv,hxv,hkey]<;>rfl) rfl (by simp only[go_sem,hkey]<;>rfl) (by simp only[go_sem]<;>rfl) ?_;refine zQF (zhg h0 h1 h5 g0 hi1 hil hpv hxv hlt hle hkey) ?_
    grind
   have hkey:¬((x.1:Nat):Int)<=(pr.1:Nat):=zo
   cases hp with
   | true =>
    refine zcu (zhg h1 h5 g0 hi1 hil hpv hxv hlt hle htk hkey) hhas ?_;refine zQF (zr3 h0 h1 h5) ?_;exact⟨by rw[hfa];simp,h0,h1,h5⟩
   | false =>
    by_cases b2:x.2=left
    .have g2:(x.2:Int)=left:=zo;refine zcu (zhg h1 h5 g0 hi1 hil hpv hxv hlt hle htk hkey) hhas ?_;refine zQF (zr6 h0 h1 h5 hxv hlt g2) ?_;exact⟨by rw[hfa];simp[b2],h0,h1,h5⟩
    .have g2:¬(x.2:Int)=left:=zo;refine zcu (zhg h1 h5 g0 hi1 hil hpv hxv hlt hle htk hkey) hhas ?_;refine zQF (zr6 h0 h1 h5 hxv hlt g2) ?_;exact⟨by rw[hfa];simp[b1,b2],h0,h1,h5⟩
  clear h0 h1 h5;rintro y ⟨tm,df,H⟩ ⟨rfl,h47,h0,h1,h5,rfl,rfl⟩;dsimp only at *
  by_cases hfi:zg4 left l i=true
  rotate_left
  .have hfi:zg4 left l i=false:=by simpa using hfi
   refine zIe h47 ?_ ?_
   .intro _;refine zO ?_;exact zbp.bool (bad i hlt hfi).symm
   .rw[hfi];intro h;cases h
  refine zIe h47 ?_ ?_
  .rw[hfi];intro h;cases h
  intro _;refine zr ?_;refine zJF h5 ?_;refine⟨_,?m,i+1,rfl,hlt,fun j hj=>?_,zu h0,zu h1,zu h5,zt,zt⟩
  case m=>omega
  rcases zCX9 j i with h|h
  .exact hok j h
  .rw[show j=i by omega];exact hfi
theorem zoP(hw:w.length<1000000):FR 231 [uv left,wv p w] (iv (zcg left w:Nat)):=by
 refine zfn (eG T231 func231) (.int _ _) ?_;have hR:=zxa p left w zo;have hRd:=zl1 p left w hw;have hRaw:=zsR p w zo;have e0:IntKind.i64.wrap ((w.length:Int).tdiv 2)=((w.length/2:Nat):Int):=by rw[IntWalk.i64_quo _ _ zo];omega
 refine zMG hR ?_
 by_cases hr:zcI left w.length=true
 rotate_left
 .have hr:zcI left w.length=false:=by simpa using hr
  rw[hr];refine zU ?_;have:zcg left w=2:=by unfold zcg;rw[hr];rfl
  rw[this];exact Frz.int _ _
 rw[hr];refine zcf ?_;refine zSk ?_;refine zM hRd ?_;have hsr:zcq left w=zbO left w:=by unfold zcq;rw[if_pos hr]
 have hrl:=zfG left w;have hset:zde left w=(zjt left (zbO left w)&&decide ((zbO left w).length=zb3 w)&&decide ((zbO left w).length<w.length/2)&&zgS (w.drop (2*(zbO left w).length))):=by unfold zde zjt;rw[hsr]
 have hck:zcg left w=if zde left w=true then 0 else 190:=by unfold zcg;rw[if_pos hr]
 rw[hsr]at hrl;generalize zbO left w=L at *
 have hF:=zzK 0 left L zo;have bad:zde left w=false->zbp [] 0 (.ret (iv 190)) (.ret (iv (zcg left w:Nat))):=fun h=>by rw[hck,h];exact Frz.int _ _
 refine zI ?_;refine zca hF ?_
 by_cases hf:zjt left L=true
 rotate_left
 .have hf:zjt left L=false:=by simpa using hf
  rw[hf];refine zN ?_;refine zU ?_;exact bad (by grind)
 rw[hf];refine zfx ?_;refine zca hRaw ?_
 by_cases hq:L.length=zb3 w
 rotate_left
 .have g1:¬(L.length:Int)=(zb3 w:Nat):=zo;refine zNF g1 ?_;refine zU ?_;exact bad (by grind)
 have g1:(L.length:Int)=(zb3 w:Nat):=zo
 by_cases hlt:L.length<w.length/2
 rotate_left
 .have g2:((w.length/2:Nat):Int)<=(L.length:Nat):=zo;have g2':((w.length/2:Nat):Int)<=(zb3 w:Nat):=zo;refine zNF (zr4 g1 g2 g2' e0) ?_;refine zU ?_;exact bad (by grind)
 have g2:¬((w.length/2:Nat):Int)<=(L.length:Nat):=zo;have g2':¬((w.length/2:Nat):Int)<=(zb3 w:Nat):=zo;refine zNF (zr4 g1 g2 g2' e0) ?_;refine zcf ?_;refine zSk ?_;refine zG ?_;have hset2:zde left w=zgS (w.drop (2*L.length)):=by rw[hset,hf];simp[hq];omega
 clear hset g1 g2 g2';refine ze (zbk (fun m s=>∃i:Nat,m=w.length-i/\L.length<=i/\i<=w.length/2/\zde left w=zgS (w.drop (2*i))/\s.tm 1=wv p w/\s.tm 7=iv i/\s.df=[]/\s.H=[]) (n:=w.length-L.length) ?_ ?_)
 .exact⟨L.length,rfl,zAE9 _,by omega,hset2,zt,by simp[upd];try omega,rfl,rfl⟩
 .rintro m ⟨tm,df,H⟩ ⟨i,rfl,hli,hi,hz,h1,h7,rfl,rfl⟩;dsimp only at h1 h7;refine zLh (zr3 h1 h7 e0) ?_ ?_
  .intro hlt;have hlt:i<w.length/2:=ztd hlt;have w1:IntKind.i64.wrap (2*(i:Int))=((2*i:Nat):Int):=zwi;have w2:IntKind.i64.wrap (((2*i:Nat):Int)+1)=((2*i+1:Nat):Int):=zwi;have c1:2*i+1<w.length:=zo;have z1:=zd8 c1;have hst:=zqM w i c1;have hx:w[2*i+1]=w.getD (2*i+1) 0:=by rw[zAK9,zAA9 c1];rfl
   rw[hx]at hst;generalize w.getD (2*i+1) 0=x at *
   refine zBb ?_
   by_cases hx0:x=0
   .have gx:(x:Int)=0:=zo;refine zB ?_;refine zbj (zr7 h1 h7 w1 w2 c1 z1 gx) ?_;refine zH ?_;refine zJF h7 ?_;refine⟨_,?m,i+1,rfl,by omega,by omega,by grind,zu h1,zu h7,zt,zt⟩;omega
   .have gx:¬(x:Int)=0:=zo;refine zB ?_;refine zbj (zr7 h1 h7 w1 w2 c1 z1 gx) ?_;refine zU ?_;exact bad (by grind)
  .intro hlt;have hlt:¬i<w.length/2:=zfd hlt;refine zO ?_;rw[hck,hz,zsF w i (by omega)];exact Frz.int _ _
def zds(l:LJ)(key:Nat):Nat:=(l.takeWhile fun x=>decide (x.1<key)).length
def sIs(l:LJ)(key:Nat):Bool:=match l[zds l key]? with
 | some x=>decide (x.1=key)
 | none=>false
variable (p:Nat)(w:LN)
theorem zCU(l:LJ)(key:Nat):zds l key<=l.length:=by
 unfold zds;exact(List.takeWhile_sublist _).length_le
theorem zy4(key:Nat)(l:LJ)(hl:l.length<1000000):FR 218 [psv p l,uv key] (.tuple [iv (zds l key:Nat),.bool (sIs l key)]):=by
 refine zfn (eG T218 func218) (Lb.two (.int _ _) (.bool _)) ?_;refine zG ?_;refine ze (zbk (fun m s=>∃i:Nat,m=l.length-i/\i<=l.length/\zds l key=i+((l.drop i).takeWhile fun x=>decide (x.1<key)).length/\s.tm 0=psv p l/\s.tm 1=uv key/\s.tm 6=iv i/\s.df=[]/\s.H=[]) (n:=l.length) ?_ ?_)
 .exact⟨0,rfl,zAJ9 _,by simp[zds],zt,zt,zt,rfl,rfl⟩
 .rintro m ⟨tm,df,H⟩ ⟨i,rfl,hi,hc,h0,h1,h6,rfl,rfl⟩;dsimp only at h0 h1 h6
  by_cases hlt:i<l.length
  .have g1:(i:Int)<(l.length:Nat):=zo;obtain⟨q,hq⟩:=zex (l:=l) hlt;have hqv:(l.map pv)[i]?=some (pv q):=zmg hq;have hdr:l.drop i=q::l.drop (i+1):=zdc hq;rw[hdr,List.takeWhile_cons]at hc
   by_cases hk:q.1<key
   .have gk:(q.1:Int)<key:=zo;rw[if_pos (decide_eq_true hk)]at hc;refine zLh (zr7 h0 h1 h6 g1 hqv hlt gk) ?_ ?_
    .intro _;refine ze ?_;refine zJF h6 ?_;refine⟨_,?m,i+1,rfl,hlt,by grind,zu h0,zu h1,zu h6,zt,zt⟩;omega
    .intro h;cases h
   .have gk:¬(q.1:Int)<key:=zo;rw[if_neg (by grind)]at hc;have hf:zds l key=i:=by simpa using hc
    refine zLh (zr7 h0 h1 h6 g1 hqv hlt gk) ?_ ?_
    .intro h;cases h
    .intro _;have hsi:sIs l key=decide (q.1=key):=by unfold sIs;rw[hf,hq]
     rw[hf,hsi];refine zBd ?_
     by_cases he:q.1=key
     .have ge:(q.1:Int)=key:=zo;refine zQF (zr7 h0 h1 h6 g1 hqv hlt ge) ?_;refine zbN (zfr ?_);rw[decide_eq_true he];exact zLF
     .have ge:¬(q.1:Int)=key:=zo;refine zQF (zr7 h0 h1 h6 g1 hqv hlt ge) ?_;refine zbN (zfr ?_);rw[decide_eq_false he];exact zLF
  .obtain rfl:i=l.length:=zo;have g1:¬(l.length:Int)<(l.length:Nat):=zo;rw[zBH9]at hc;have hf:zds l key=l.length:=by simpa using hc
   have hsi:sIs l key=false:=by unfold sIs;rw[hf,zBL9 (zAE9 _)]
   rw[hf,hsi];refine zLh (zr4 h0 h1 h6 g1) ?_ ?_
   .intro h;cases h
   .intro _;refine zBd ?_;refine zQF (zr4 h0 h1 h6 g1) ?_;refine zbN (zfr ?_);exact zLF


def zuU(left:Nat)(w:LN)(x:Pr):Nat :=
 if(zcI left w.length && !decide (x.2=0) && !decide (x.2=left))=true then(if(decide (zcg left w=0)&&zjc (zbO left w) x.2)=true then 2 else zcg left w)else 2
theorem zdI{l:LJ}:∀v∈(l.map zbx).flatMap PV.cells,Id0 v:=fun v hv=>by
 obtain⟨x,hx,hv⟩:=zAU9.1 hv;obtain⟨n,_,rfl⟩:=zAH9.1 hx;simp[PV.cells]at hv;rcases hv with rfl|rfl<;>exact .int _ _
def upL(l:LJ)(i:Nat):Nat->LJ
 | 0=>[]
 | m+1=>if i<=m then(2*m+3,(l.getD m (0,0)).2)::(2*m+2,(l.getD m (0,0)).1)::upL l i m else[]
def zHt(left:Nat)(w:LN)(l:LJ)(i:Nat)(x:Pr):LJ:=(2*l.length+3,0)::(upL l i l.length++[(2*i+1,zc1 left w i),(2*i,x.1),(2*i+1,x.2)])
def zHO(left:Nat)(w:LN)(x:Pr):LJ×Nat :=
 if zuU left w x=0 then(if sIs (zbO left w) x.1=true then([],191)else if w.length/2<=(zbO left w).length+1 then([],3)else(zHt left w (zbO left w) (zds (zbO left w) x.1) x,0))else([],zuU left w x)
theorem zqw{left:Nat}{w:LN}(h:zcI left w.length=true):(zbO left w).length<=28:=by
 have:=zfG left w;unfold zcq at this;grind
def dnL(w:LN)(d k:Nat):LJ:=(List.range k).flatMap fun q=>[(2*(d+q),w.getD (2*(d+q)+2) 0),(2*(d+q)+1,w.getD (2*(d+q)+3) 0)]
def zdC(w:LN)(d m:Nat):LJ:=dnL w d (m-1-d)++[(2*m-1,0)]
theorem zmf(d k:Nat):dnL w d (k+1)=dnL w d k++[(2*(d+k),w.getD (2*(d+k)+2) 0),(2*(d+k)+1,w.getD (2*(d+k)+3) 0)]:=by
 unfold dnL;rw[zCJ9,zCI9];simp
theorem zjH(d k:Nat):(dnL w d k).length=2*k:=by
 induction k with
 | zero=>rfl
 | succ k ih=>rw[zmf,zAB9,ih];grind
theorem zxf(d m:Nat)(w:LN)(hw:w.length<1000000)(hd:d<m)(hm:2*m<=w.length):FR 232 [wv p w,iv d,iv m] (.list 0 2 ((zdC w d m).map zbx)):=by
 refine zfn (eG T232 func232) (ze2 _) ?_;refine zG ?_;refine zcL 120 2 (i:=7) rfl ?_;simp only[lzy,zAN9,zAV9];refine ze (zbk (fun n s=>∃(q:Nat) (V:LQ) (g:Nat) (G:LP),n=m-q/\d+q+1<=m/\V=(dnL w d q).map zbx/\s.tm 0=wv p w/\s.tm 2=iv m/\s.tm 7=.sl 0 g 0 V.length (2*V.length) 2/\s.tm 8=iv ((d+q:Nat):Int)/\s.df=[]/\s.H=.row 120 2 g 0 V::G) (n:=m) ?_ ?_)
 .exact⟨0,[],0,_,rfl,hd,rfl,zt,zt,zt,zt,rfl,rfl⟩
 .rintro n ⟨tm,df,H⟩ ⟨q,V,g,G,rfl,hq,hV,h0,h2,h7,h8,rfl,rfl⟩;dsimp only at *
  have hVl:V.length=2*q:=by rw[hV,zAP9,zjH]
  by_cases hlt:d+q+2<=m
  .have g1:((d+q:Nat):Int)<=(m:Int)-2:=zo;have hs:=zmf w d q;generalize hj:d+q=j at *
   have w1:IntKind.i64.wrap (2*(j:Int))=((2*j:Nat):Int):=zwi;have w2:IntKind.i64.wrap (((2*j:Nat):Int)+1)=((2*j+1:Nat):Int):=zwi;have w3:IntKind.i64.wrap (((2*j:Nat):Int)+2)=((2*j+2:Nat):Int):=zwi;have w4:IntKind.i64.wrap (((2*j:Nat):Int)+3)=((2*j+3:Nat):Int):=zwi;have c2:2*j+2<w.length:=zo;have c3:2*j+3<w.length:=zo;have z2:=zd8 c2;have z3:=zd8 c3;have hb:(V.length+2)*17<=140737488355328:=zo;generalize w.getD (2*j+2) 0=a at *
   generalize w.getD (2*j+3) 0=b at *
   refine zLh (zr3 h2 h8 g1) ?_ ?_
   .intro _;refine zBb ?_;refine zBd ?_;refine zcs (zef h0 h7 h8 w1 w2 w3 w4 c2 c3 z2 z3 hb) ?_;refine zQF h0 ?_;refine zJF h8 ?_;refine⟨_,?m1,q+1,V++[zbx (2*j,a),zbx (2*j+1,b)],g+1,?G2,rfl,by omega,(by grind),zu h0,zu h2,zt,?T,zt,?H⟩
    case m1=>omega
    case T=>rw[show d+(q+1)=j+1 by omega];simp[upd]
    case H=>rfl
   .intro h;cases h
  .have g1:¬((d+q:Nat):Int)<=(m:Int)-2:=zo;have hsh:(zdC w d m).map zbx=V++[zbx (2*m-1,0)]:=by unfold zdC;rw[show m-1-d=q by omega,hV];simp
   have w1:IntKind.i64.wrap (2*(m:Int))=((2*m:Nat):Int):=zwi;have w2:IntKind.i64.wrap (((2*m:Nat):Int)-1)=((2*m-1:Nat):Int):=zwi;have hb:(V.length+1)*17<=140737488355328:=zo;refine zLh (zr3 h2 h8 g1) ?_ ?_
   .intro h;cases h
   intro _;refine zOF (zr5 h2 h7 w1 w2 hb) ?_;have hfl:∀v∈(V++[zbx (2*m-1,0)]).flatMap PV.cells,Id0 v:=by rw[<- hsh];exact zdI
   rw[hsh];exact Frz.wh rfl rfl (by simp) (by simp) (fun v hv=>by rw[<- hsh]at hv;obtain⟨x,_,rfl⟩:=zAH9.1 hv;rfl) hfl
def zcQ(left:Nat)(w:LN)(key:Nat):LJ×Nat :=
 if zcg left w=0 then(if sIs (zbO left w) key=true then((2*zds (zbO left w) key+1,zc1 left w (zds (zbO left w) key))::zdC w (zds (zbO left w) key) (zbO left w).length,0)else([],5))else([],zcg left w)
variable {l:LJ}{left:Nat}(p lv key a:Nat)(w:LN)(x:Nat)(n:zq)
theorem zfz{w:LN}(h:zcg left w=0):zcI left w.length=true:=by
 unfold zcg at h
 grind
theorem zlf{key:Nat}(h:sIs l key=true):zds l key<l.length:=by
 unfold sIs at h
 grind
theorem zoM(left:Nat)(w:LN):2*(zbO left w).length<=w.length:=by
 have:=zlF w 0 left;have h2:=congrArg List.length (zgm w 0 left)
 grind
theorem zBj(left key:Nat)(w:LN)(hw:w.length<1000000):FR 174 [uv left,wv p w,uv key] (.tuple [.list 0 2 ((zcQ left w key).1.map zbx),iv ((zcQ left w key).2:Nat)]):=by
 refine zfn (eG T174 func174) (Lb.two (ze2 _) (.int _ _)) ?_;have hC:=zoP p left w hw;have hRd:=zl1 p left w hw;refine zMG hC ?_
 by_cases hc0:zcg left w=0
 rotate_left
 .have g:¬(zcg left w:Int)=0:=zo;refine zSF g ?_;refine zO ?_;have:zcQ left w key=([],zcg left w):=by unfold zcQ;rw[if_neg hc0]
  rw[this];exact zLF
 have g:(zcg left w:Int)=0:=zo;refine zTF g ?_;refine zSk ?_;have hr:=zfz hc0;have hst:zcQ left w key=if sIs (zbO left w) key=true then((2*zds (zbO left w) key+1,zc1 left w (zds (zbO left w) key))::zdC w (zds (zbO left w) key) (zbO left w).length,0)else([],5):=by unfold zcQ;rw[if_pos hc0]
 rw[hst];have hLl:=zqw hr;have hL2:=zoM left w;clear hst g hC;generalize zbO left w=L at *
 have hF:=zy4 0 key L zo;refine zM hRd ?_;refine zM hF ?_
 by_cases his:sIs L key=true
 rotate_left
 .have his:sIs L key=false:=by simpa using his
  rw[if_neg (by omega),his];refine zS ?_;refine zO ?_;exact zLF
 have hfl:=zlf his;rw[if_pos his,his];generalize zds L key=i at *
 refine zT ?_;refine zSk ?_;have w2:IntKind.i64.wrap (2*(i:Int))=((2*i:Nat):Int):=zwi;have w3:IntKind.i64.wrap (((2*i:Nat):Int)+1)=((2*i+1:Nat):Int):=zwi;have hah:=zoC p left w i zo zo;have hsh:=zxf p i L.length w hw hfl hL2;have hsl:(zdC w i L.length).length=2*(L.length-1-i)+1:=by unfold zdC;rw[zAB9,zjH];rfl
 generalize zdC w i L.length=S at *
 have hne:¬S.length=0:=zo;have hb:(1+S.length)*17<=140737488355328:=zo;refine zIF (zr2 w2 w3) ?_;refine zca hah ?_;refine zb2 (zr2 w2 w3) ?_;refine zca hsh ?_;refine zPF (zr2 hne hb) ?_;refine Frz.tL ⟨?_,.int _ _,trivial⟩;have hS:((2*i+1,zc1 left w i)::S).map zbx=[zbx (2*i+1,zc1 left w i)]++S.map zbx:=rfl;have hfl2:∀v∈([zbx (2*i+1,zc1 left w i)]++S.map zbx).flatMap PV.cells,Id0 v:=by rw[<- hS];exact zdI
 rw[hS];exact Frz.wh rfl rfl (by grind) (by grind) (fun v hv=>by rw[<- hS]at hv;obtain⟨x,_,rfl⟩:=zAH9.1 hv;rfl) hfl2


theorem zoJ:FR 181 [uv x] (.bool (zd6 x)):=by
 refine zfn (eG T181 func181) (.bool _) ?_
 by_cases h:1<=x
 .have g:(1:Int)<=x:=zo
  by_cases h2:x<=2047
  .have g2:(x:Int)<=2047:=zo;refine zOF (zr2 g g2) ?_;exact zbp.bool (by simp[zd6,h];omega)
  .have g2:¬(x:Int)<=2047:=zo;refine zOF (zr2 g g2) ?_;exact zbp.bool (by simp[zd6,h];omega)
 .have g:¬(1:Int)<=x:=zo;refine zOF g ?_;exact zbp.bool (by simp[zd6,h])
def zlw(lv x:Nat):Bool:=if lv=0 then decide (1<=x)&&decide (x<=1099511627776)else zd6 x
theorem zw6:FR 122 [iv lv,uv x] (.bool (zlw lv x)):=by
 by_cases h:lv=0
 .subst h;exact zeP x
 have g:¬(lv:Int)=0:=zo;have:zlw lv x=zd6 x:=by unfold zlw;rw[if_neg h]
 rw[this];refine zfn (eG T122 func122) (.bool _) ?_;refine zTF g ?_;refine zSk ?_;refine zI ?_;refine zca (zoJ x) ?_;refine zP ?_;exact Frz.bool _
def zfI(w:LN):Bool:=decide (w.length=64)&&decide (7522529147838689024<=w.getD 0 0)&&decide (w.getD 0 0<=7522529147838689024+12)&&decide (w.getD 1 0<=2047)&&decide (w.getD 4 0<=2)&&decide (w.getD 5 0=0)&&decide (w.getD 6 0=0)&&decide (w.getD 7 0=0)
def zh2(lv x:Nat):Bool:=(decide (lv=0)&&decide (x=9223372036854775808))||(decide (0<lv)&&zd6 x)
theorem mp0:zdV 0 lv a=(decide (7522529147838689024<=a)&&decide (a<=7522529147838689024+12)):=by rw[zdV]
theorem mp3:zdV 3 lv a=zh2 lv a:=by rw[zdV,zh2]
theorem mp1:zdV 1 lv a=decide (a<=2047):=by
 rw[zdV,zGB9,decide_eq_true_eq,decide_eq_true_eq];omega
theorem mp4:zdV 4 lv a=decide (a<=2):=by rw[zdV];all_goals (intro h;cases h)
theorem zkJ:headB w=(zfI w&&zh2 (zhp (w.getD 0 0)) (w.getD 3 0)):=by
 by_cases hl:w.length=64
 rotate_left
 .unfold headB zfI;grind
 obtain⟨lv,hlv⟩:=zzW w;rw[zuy w hl lv hlv,<- hlv];have h567:((w.take 8).drop 5)=[w.getD 5 0,w.getD 6 0,w.getD 7 0]:=by
  apply List.ext_getElem
  all_goals grind
 have hr:List.range 5=[0,1,2,3,4]:=rfl;rw[h567,hr];unfold zfI;rw[decide_eq_true hl,zCB9];simp only[List.any_cons,List.any_nil,zHL9,List.all_nil,zFH9,Bool.or_false];rw[mp0,mp1,mp3,mp4];have m2:zdV 2 lv (w.getD 2 0)=true:=rfl
 grind
theorem zpc(hw:zbQ w.length):FN ET 191 [wv p w] (zft w):=by
 refine zfn (eG T191 func191) ?_ ?_
 .unfold zft;split
  .exact Lb.two (Lb.node _) (.int _ _)
  .exact Lb.two (Lb.node _) (.int _ _)
 have hsp:=zkJ w;refine zG ?_;refine zB ?_;refine zcJ (Q:=fun y s'=>y=.norm/\s'.tm 49=.bool (!zfI w)/\s'.tm 0=wv p w/\s'.tm 2=.ptr 0 0 0 0 6/\s'.df=[]/\s'.H=[.row 143 6 0 0 [zg6]]) (zae ?_) ?_
 .have h0:True:=trivial;have fin:∀(tm:Nat->PV) (b:Bool),b=zfI w->tm 49=.bool (!b)->tm 0=wv p w->tm 2=.ptr 0 0 0 0 6->(FX.norm=FX.norm/\tm 49=.bool (!zfI w)/\tm 0=wv p w/\tm 2=.ptr 0 0 0 0 6/\([]:AK)=[]/\[zc.row 143 6 0 0 [zg6]]=[.row 143 6 0 0 [zg6]]):=fun tm b hb h49 h0 h2=>⟨rfl,by rw[h49,hb],h0,h2,rfl,rfl⟩
  by_cases hl:w.length=64
  rotate_left
  .have g:¬(w.length:Int)=64:=zo;refine zKF g ?_;exact fin _ false (by unfold zfI;rw[decide_eq_false hl];rfl) (by simp[upd]) (by simp[upd,zn]) (by simp[upd])
  have g:(w.length:Int)=64:=zo;have c0:0<w.length:=zo;have c1:1<w.length:=zo;have c4:4<w.length:=zo;have c5:5<w.length:=zo;have c6:6<w.length:=zo;have c7:7<w.length:=zo;have z0:=zd8 c0;have z1:=zd8 c1;have z4:=zd8 c4;have z5:=zd8 c5;have z6:=zd8 c6;have z7:=zd8 c7;have h8:zfI w=(decide (7522529147838689024<=w.getD 0 0)&&decide (w.getD 0 0<=7522529147838689024+12)&&decide (w.getD 1 0<=2047)&&decide (w.getD 4 0<=2)&&decide (w.getD 5 0=0)&&decide (w.getD 6 0=0)&&decide (w.getD 7 0=0)):=by unfold zfI;rw[decide_eq_true hl,zCB9]
  generalize zfI w=hd at *
  generalize w.getD 0 0=a0 at *
  generalize w.getD 1 0=a1 at *
  generalize w.getD 4 0=a4 at *
  generalize w.getD 5 0=a5 at *
  generalize w.getD 6 0=a6 at *
  generalize w.getD 7 0=a7 at *
  by_cases b0:7522529147838689024<=a0
  rotate_left
  .have g0:(a0:Int)<7522529147838689024:=zo;refine zKF (zr5 g hl c0 z0 g0) ?_;exact fin _ false (by rw[h8,decide_eq_false b0];rfl) (by simp[upd]) (by simp[upd,zn]) (by simp[upd])
  have g0:¬(a0:Int)<7522529147838689024:=zo;rw[decide_eq_true b0]at h8
  by_cases b1:a0<=7522529147838689024+12
  rotate_left
  .have g1:(7522529147838689036:Int)<a0:=zo;refine zKF (zr6 g hl c0 z0 g0 g1) ?_;exact fin _ false (by rw[h8,decide_eq_false b1];simp) (by simp[upd]) (by simp[upd,zn]) (by simp[upd])
  have g1:¬(7522529147838689036:Int)<a0:=zo;rw[decide_eq_true b1]at h8
  by_cases b2:a1<=2047
  rotate_left
  .have g2:(2047:Int)<a1:=zo;refine zKF (zr9 g hl c0 z0 g0 g1 c1 z1 g2) ?_;exact fin _ false (by rw[h8,decide_eq_false b2];simp) (by simp[upd]) (by simp[upd,zn]) (by simp[upd])
  have g2:¬(2047:Int)<a1:=zo;rw[decide_eq_true b2]at h8
  by_cases b4:a4<=2
  rotate_left
  .have g4:(2:Int)<a4:=zo;refine zKF (zef g hl c0 z0 g0 g1 c1 z1 g2 c4 z4 g4) ?_;exact fin _ false (by rw[h8,decide_eq_false b4];simp) (by simp[upd]) (by simp[upd,zn]) (by simp[upd])
  have g4:¬(2:Int)<a4:=zo;rw[decide_eq_true b4]at h8
  by_cases b5:a5=0
  rotate_left
  .have g5:¬(a5:Int)=0:=zo;refine zKF (zef g hl c0 z0 g0 g1 c1 z1 g2 c4 z4 (zr4 g4 c5 z5 g5)) ?_;exact fin _ false (by rw[h8,decide_eq_false b5];simp) (by simp[upd]) (by simp[upd,zn]) (by simp[upd])
  have g5:(a5:Int)=0:=zo;rw[decide_eq_true b5]at h8
  by_cases b6:a6=0
  rotate_left
  .have g6:¬(a6:Int)=0:=zo;refine zKF (zef g hl c0 z0 g0 g1 c1 z1 g2 c4 z4 (zr7 g4 c5 z5 g5 c6 z6 g6)) ?_;exact fin _ false (by rw[h8,decide_eq_false b6];simp) (by simp[upd]) (by simp[upd,zn]) (by simp[upd])
  have g6:(a6:Int)=0:=zo;rw[decide_eq_true b6]at h8
  by_cases b7:a7=0
  rotate_left
  .have g7:¬(a7:Int)=0:=zo;refine zKF (zef g hl c0 z0 g0 g1 c1 z1 g2 c4 z4 (zh5 g4 c5 z5 g5 c6 z6 g6 c7 z7 g7)) ?_;exact fin _ false (by rw[h8,decide_eq_false b7];simp) (by simp[upd]) (by simp[upd,zn]) (by simp[upd])
  have g7:(a7:Int)=0:=zo;rw[decide_eq_true b7]at h8;refine zKF (zef g hl c0 z0 g0 g1 c1 z1 g2 c4 z4 (zh5 g4 c5 z5 g5 c6 z6 g6 c7 z7 g7)) ?_;exact fin _ true (by rw[h8];rfl) (by simp[upd]) (by simp[upd,zn]) (by simp[upd])
 rintro y ⟨tm,df,H⟩ ⟨rfl,h49,h0,h2,rfl,rfl⟩;dsimp only at h49 h0 h2;have badE:headB w=false->zft w=.ret (.tuple [zbr 0 zfq,iv 210]):=fun h=>by unfold zft;rw[if_neg (by rw[h];decide)]
 by_cases h8:zfI w=true
 rotate_left
 .have h8:zfI w=false:=by simpa using h8
  rw[h8]at h49 hsp;refine zIf h49 ?_;refine zGF h2 ?_;refine zbN ?_;(try simp only[zfj,zgB,zgz,zfu,zgW]);refine zdw (vs:=[zg6,iv 210]) ?_ ?_
  .simp only[T191,zaS,go_sem,h2];rfl
  rw[badE hsp];exact zsi
 rw[h8]at h49;refine zHF h49 ?_;rw[h8,zCB9]at hsp;have h8':=h8;unfold zfI at h8';simp only[zAO9,decide_eq_true_eq]at h8';obtain⟨⟨⟨⟨⟨⟨⟨hl,b0⟩,b1⟩,b2⟩,b4⟩,_⟩,_⟩,_⟩:=h8';obtain⟨lv,hlv⟩:=zzW w;have hN:=zvv w lv hlv;rw[<- hlv]at hsp;have hlv2:lv=w.getD 0 0-7522529147838689024:=by rw[hlv,zn5]
 have okE:headB w=true->zft w=.ret (.tuple [zbr 0 (headN w),iv 0]):=fun h=>by unfold zft;rw[if_pos h]
 rw[hN]at okE;have c0:0<w.length:=zo;have c1:1<w.length:=zo;have c2:2<w.length:=zo;have c3:3<w.length:=zo;have c4:4<w.length:=zo;have z0:=zd8 c0;have z1:=zd8 c1;have z2:=zd8 c2;have z3:=zd8 c3;have z4:=zd8 c4;have q0:IntKind.i64.wrap (IntKind.u64.wrap ((w.getD 0 0:Int)-7522529147838689024))=(lv:Int):=by
  rw[wrap_u64 zo zo,wrap_i64 zo zo];omega
 have q0a:IntKind.u64.wrap ((w.getD 0 0:Int)-7522529147838689024)=(lv:Int):=by
  rw[wrap_u64 zo zo];omega
 have hl12:lv<=12:=zo;clear hlv hlv2 h8 h49;have hd8:List.drop 8 (List.map uv w)=(w.drop 8).map uv:=by rw[zCA9]
 have hRd:=zl1 p (w.getD 3 0) (w.drop 8) (by rw[zBJ9];omega);have hdl:(w.drop 8).length=56:=by rw[zBJ9];omega
 have hle8:8<=w.length:=zo;generalize w.getD 0 0=a0 at *
 generalize w.getD 1 0=a1 at *
 generalize w.getD 2 0=a2 at *
 generalize w.getD 3 0=a3 at *
 generalize w.getD 4 0=a4 at *
 refine zBd ?_;refine zcs (zef h0 h2 c0 c1 c2 c3 c4 z0 z1 z2 z3 (zr3 z4 q0 q0a)) ?_;refine zQF h0 ?_;have stop:∀(tm:Nat->PV) (H:LP) (o:zc) (k:FSt->Prop),headB w=false->tm 2=.ptr 0 0 0 0 6->H=[zc.row 143 6 0 0 [zg6],o]->W ET ET.caught none (.seq (.region [⟨some 90,.build [.int .i64 0,.int .i64 0,.int .u64 0,.int .u64 0,.int .i64 0,.nilsl] [],[],none⟩,⟨none,.store 6,[.tmp 2,.tmp 90],none⟩,⟨some 3,.mov,[.const (.int .i64 210)],none⟩]) .ret) ⟨tm,[],H⟩ (zfj k (zev ET T191 fun e' H=>zbp H 0 e' (zft w))):=fun tm H o k hb h2 hH=>by
  subst hH;refine zGF h2 ?_;refine zbN ?_;(try simp only[zfj,zgB,zgz,zfu,zgW]);refine zdw (vs:=[zg6,iv 210]) ?_ ?_
  .simp only[T191,zaS,go_sem,h2];rfl
  rw[badE hb];exact zsi
 have hgo:zh2 lv a3=true->a3≠0:=fun h=>by
  unfold zh2 at h;simp only[zEA9,zAO9,decide_eq_true_eq,ze4]at h;omega
 have hrd:a3≠0->zcq a3 (w.drop 8)=zbO a3 (w.drop 8):=fun h=>by
  unfold zcq;rw[if_pos (by unfold zcI;rw[hdl];simp[h])]
 by_cases hz:lv=0
 .have g0:(lv:Int)=0:=zo;have g0':¬(0:Int)<(lv:Int):=zo
  by_cases he:a3=9223372036854775808
  rotate_left
  .have ge:¬(a3:Int)=9223372036854775808:=zo;refine zB ?_;refine zbj (zr3 g0 g0' ge) ?_;refine zct ?_;refine stop _ _ ?so1 _ ?sa1 ?sb1 ?sc1
   case sc1=>rfl
   case sa1=>rw[hsp];simp[zh2,hz,he]
   case sb1=>simp[upd,h2]
  have ge:(a3:Int)=9223372036854775808:=zo;have hh:zh2 lv a3=true:=by unfold zh2;simp[hz,he]
  rw[hh]at hsp;rw[okE hsp,hrd (hgo hh)];refine zB ?_;refine zbj (zr3 g0 g0' ge) ?_;refine zcf ?_;refine zSk ?_;refine zBd ?_;refine zcu (zr4 h0 h2 hd8 hle8) hRd ?_;refine zcs (zr2 h0 h2) ?_;refine zH6 h0 ?_;refine zb4 ?_;simp only[go_sem];refine zGF h2 ?_;refine zbN ?_;(try simp only[zfj,zgB,zgz,zfu,zgW]);refine zdw (vs:=?_) ?_ ?_;rotate_left
  .simp only[T191,zaS,go_sem,h2];rfl
  exact Frz.tL ⟨Frz.aggL ⟨(by subst hz;exact .int _ _),.int _ _,.int _ _,.int _ _,.int _ _,.list _ _ _,trivial⟩,.int _ _,trivial⟩
 .have g0:¬(lv:Int)=0:=zo;have g0':(0:Int)<(lv:Int):=zo;refine zBr ?_;refine zb2 (zr2 g0 g0') ?_;refine zca (zoJ a3) ?_
  by_cases hb:zd6 a3=true
  rotate_left
  .have hb:zd6 a3=false:=by simpa using hb
   rw[hb];refine zN ?_;refine zct ?_;refine stop _ _ ?so2 _ ?sa2 ?sb2 ?sc2
   case sc2=>rfl
   case sa2=>rw[hsp];simp[zh2,hz,hb]
   case sb2=>simp[upd,h2]
  have hh:zh2 lv a3=true:=by unfold zh2;rw[hb];simp;omega
  rw[hh]at hsp;rw[okE hsp,hrd (hgo hh),hb];refine zN ?_;refine zcf ?_;refine zSk ?_;refine zBd ?_;refine zcu (zr4 h0 h2 hd8 hle8) hRd ?_;refine zcs (zr2 h0 h2) ?_;refine zH6 h0 ?_;refine zb4 ?_;simp only[go_sem];refine zGF h2 ?_;refine zbN ?_;(try simp only[zfj,zgB,zgz,zfu,zgW]);refine zdw (vs:=?_) ?_ ?_;rotate_left
  .simp only[T191,zaS,go_sem,h2];rfl
  exact zLF


theorem zz7(q:Pr):zdu n q=(zlw n.level q.2 && !decide (q.1<n.low) && !(decide (0<n.level)&&decide (q.1=n.low))):=by
 unfold zdu zlw
 grind
theorem zvy{w:LN}(h:headB w=false):zft w=.ret (.tuple [zbr 0 zfq,iv 210]):=by unfold zft;grind
theorem zzi(hO:FR 191 [wv p w] (.tuple [zbr 0 zfq,iv 210])):FR 173 [wv p w] (iv (210:Nat)):=by
 refine zfn (eG T173 func173) (.int _ _) ?_;refine zMG hO ?_;refine zS ?_;refine zO ?_;exact Frz.int _ _
def zk9(n:zq)(sc:Nat):Nat:=if(decide (sc=0) && !(n.pairs.any fun q=>!zdu n q))=true then 0 else 190
theorem zzL(sc:Nat)(hwl:w.length=64)(hpl:n.pairs.length<=28)(hO:FR 191 [wv p w] (.tuple [zbr 0 n,iv 0]))(hC:FR 231 [uv n.left,wv p (w.drop 8)] (iv (sc:Nat))):FR 173 [wv p w] (iv (zk9 n sc:Nat)):=by
 refine zfn (eG T173 func173) (.int _ _) ?_;refine zGI ?_;have hd8:List.drop 8 (List.map uv w)=(w.drop 8).map uv:=by rw[zCA9]
 have hle8:8<=w.length:=zo;refine zCN hO ?_;refine zT ?_;refine zSk ?_;obtain⟨ok,hpk⟩:∃ok,ok=(decide (sc=0) && !(n.pairs.any fun q=>!zdu n q)):=⟨_,rfl⟩
 have hck:zk9 n sc=if ok=true then 0 else 190:=by unfold zk9;rw[hpk]
 have bad:∀H,ok=false->zbp H 0 (.ret (iv 190)) (.ret (iv (zk9 n sc:Nat))):=fun H h=>by rw[hck,h];exact Frz.int _ _
 refine zBd ?_
 by_cases hs:sc=0
 rotate_left
 .have g:¬(sc:Int)=0:=zo;refine zcu (zr2 hd8 hle8) hC ?_;refine zQF g ?_;refine zfc ?_ ?_;rotate_left
  .intro h;simp at h
  intro _;refine zO ?_;exact bad _ (by grind)
 have g:(sc:Int)=0:=zo;rw[decide_eq_true hs,zCB9]at hpk;refine zcu (zr2 hd8 hle8) hC ?_;refine zQF g ?_;refine zfc ?_ ?_
 .intro h;simp at h
 intro _;refine zSk ?_;refine zG ?_;refine ze (zbk (fun m s=>∃(i:Nat) (G:LP),m=n.pairs.length-i/\i<=n.pairs.length/\ok=!((n.pairs.drop i).any fun q=>!zdu n q)/\s.tm 3=.ptr 0 0 0 0 6/\s.tm 5=iv i/\s.df=[]/\s.H=.row 143 6 0 0 [zbr 0 n]::G) (n:=n.pairs.length) ?_ ?_)
 .exact⟨0,_,rfl,zAJ9 _,hpk,zt,zt,rfl,rfl⟩
 .rintro m ⟨tm,df,H⟩ ⟨i,G,rfl,hi,hp,h3,h5,rfl,rfl⟩;dsimp only at h3 h5;refine zLh (zr2 h3 h5) ?_ ?_;rotate_left
  .intro hlt;have hlt:¬i<n.pairs.length:=zfd hlt;obtain rfl:i=n.pairs.length:=zo;refine zO ?_;rw[zBH9]at hp;rw[hck,hp];exact Frz.int _ _
  intro hlt;have hlt:i<n.pairs.length:=ztd hlt;obtain⟨q,hq⟩:=zex (l:=n.pairs) hlt;have hqv:(n.pairs.map pv)[i]?=some (pv q):=zmg hq;have hdr:n.pairs.drop i=q::n.pairs.drop (i+1):=zdc hq;rw[hdr,List.any_cons]at hp;have hma:=zz7 n q;have hRt:=zw6 n.level q.2;refine zBb ?_;refine zBr ?_;refine zNF (zr4 h3 h5 hqv hlt) ?_;refine zB ?_;refine zcJ (Q:=fun y s'=>y=.norm/\s'.tm 57=.bool (!zdu n q)/\s'.tm 3=.ptr 0 0 0 0 6/\s'.tm 5=iv i/\s'.df=[]/\∃G,s'.H=.row 143 6 0 0 [zbr 0 n]::G) (zae ?_) ?_
  .generalize zdu n q=mq at *
   refine zb2 (zr2 h3 h5) ?_;refine zca hRt ?_
   cases hr:zlw n.level q.2 with
   | false =>
    refine zKF (zr2 h3 h5) ?_;exact⟨rfl,by rw[hma,hr];simp[upd],zu h3,zu h5,rfl,_,rfl⟩
   | true =>
    by_cases b1:q.1<n.low
    .have g1:(q.1:Int)<n.low:=zo;refine zKF (zr3 h3 h5 g1) ?_;exact⟨rfl,by rw[hma,decide_eq_true b1];simp[upd],zu h3,zu h5,rfl,_,rfl⟩
    have g1:¬(q.1:Int)<n.low:=zo
    by_cases b2:0<n.level
    rotate_left
    .have g2:¬(0:Int)<n.level:=zo;refine zKF (zr4 h3 h5 g1 g2) ?_;exact⟨rfl,by rw[hma,hr,decide_eq_false b1,decide_eq_false b2];simp[upd],zu h3,zu h5,rfl,_,rfl⟩
    have g2:(0:Int)<n.level:=zo
    by_cases b3:q.1=n.low
    .have g3:(q.1:Int)=n.low:=zo;have g1':¬(n.low:Int)<n.low:=zo;refine zKF (zr6 h3 h5 g1 g1' g2 g3) ?_;exact⟨rfl,by rw[hma,hr,decide_eq_false b1,decide_eq_true b2,decide_eq_true b3];simp[upd],zu h3,zu h5,rfl,_,rfl⟩
    .have g3:¬(q.1:Int)=n.low:=zo;refine zKF (zr5 h3 h5 g1 g2 g3) ?_;exact⟨rfl,by rw[hma,hr,decide_eq_false b1,decide_eq_true b2,decide_eq_false b3];simp[upd],zu h3,zu h5,rfl,_,rfl⟩
  clear h3 h5;rintro y ⟨tm,df,H⟩ ⟨rfl,h57,h3,h5,rfl,G,rfl⟩;dsimp only at h57 h3 h5
  cases hmq:zdu n q with
  | false =>
   rw[hmq]at h57 hp;refine zIf h57 ?_;refine zO ?_;exact bad _ (by grind)
  | true =>
   rw[hmq]at h57 hp;refine zIg h57 ?_;refine zr ?_;refine zJF h5 ?_;refine⟨_,?m1,i+1,_,rfl,hlt,hp,zu h3,zu h5,rfl,rfl⟩;omega
theorem zmo(hw:zbQ w.length):FR 173 [wv p w] (iv (zbZ w:Nat)):=by
 have hO:=zpc p w hw
 by_cases hh:headB w=true
 rotate_left
 .have hh:headB w=false:=by simpa using hh
  rw[zvy hh]at hO;have:=zzi p w hO;have e:zbZ w=210:=by unfold zbZ;rw[if_neg (by omega)]
  grind
 rw[zil _ hh]at hO;have hwl:w.length=64:=by unfold headB at hh;simp only[zAO9,decide_eq_true_eq]at hh;exact hh.1.1
 have hC:=zoP p (headN w).left (w.drop 8) (by grind);have:=zzL p w (headN w) _ hwl (zjn w) hO hC;have e:zbZ w=zk9 (headN w) (zcg (headN w).left (w.drop 8)):=by unfold zbZ;rw[if_pos hh];unfold zfO zk9;rfl
 grind
def zGQ(w:LN)(x:Pr):Nat:=if zbZ w=0 then(if zdu (headN w) x=true then 0 else 2)else zbZ w
def zfX(w:LN)(v:Nat):LJ:=if w.getD 4 0=v then[]else[(4,v)]
theorem zD1(v:Nat)(hw:4<w.length)(H:LP):FO ET 155 [wv p w,uv v] H false fun e H'=>∃(g:Nat) (G:LP),e=.ret (.sl H.length g 0 (zfX w v).length (2*(zfX w v).length) 2)/\H'=H++.row 120 2 g 0 ((zfX w v).map zbx)::G:=by
 refine zro (eG T155 func155) ?_;have z4:=zd8 hw;unfold zfX;generalize w.getD 4 0=a at *
 refine zG ?_
 by_cases h:a=v
 .have g:(a:Int)=v:=zo;rw[if_pos h];refine zSF (zr3 hw z4 g) ?_;refine zG ?_;refine zcL 120 2 (i:=4) rfl ?_;simp only[lzy];refine zbN (zfr ?_)
  simp_all
 .have g:¬(a:Int)=v:=zo;rw[if_neg h];refine zTF (zr3 hw z4 g) ?_;refine zSk ?_;refine zO ?_
  simp_all
def zcP(l:LJ):LJ:=l.map fun x=>(x.1+8,x.2)
theorem zzO(l:LJ)(hl:l.length<1000000)(hat:∀x∈l,x.1<1000000):FR 156 [.list p 2 (l.map zbx)] (.list 0 2 ((zcP l).map zbx)):=by
 refine zfn (eG T156 func156) (ze2 _) ?_;refine zG ?_;refine zcL 120 2 (i:=3) rfl ?_;simp only[lzy,zAN9,zAV9];refine ze (zbk (fun m s=>∃(i:Nat) (V:LQ) (G:LP),m=l.length-i/\i<=l.length/\V=(zcP (l.take i)).map zbx/\s.tm 0=.list p 2 (l.map zbx)/\s.tm 3=.sl 0 V.length 0 V.length (2*V.length) 2/\s.tm 4=iv i/\s.df=[]/\s.H=.row 120 2 V.length 0 V::G) (n:=l.length) ?_ ?_)
 .exact⟨0,[],_,rfl,zAJ9 _,rfl,zt,zt,zt,rfl,rfl⟩
 .rintro m ⟨tm,df,H⟩ ⟨i,V,G,rfl,hi,hV,h0,h3,h4,rfl,rfl⟩;dsimp only at h0 h3 h4;have hVl:V.length=i:=by rw[hV];simp[zcP];omega
  refine zLh (zr2 h0 h4) ?_ ?_
  .intro hlt;have hlt:i<l.length:=ztd hlt;obtain⟨q,hq⟩:=zex (l:=l) hlt;have hqv:(l.map zbx)[i]?=some (zbx q):=zmg hq;have hq1:=hat q (zAI9 hq);have w1:IntKind.i64.wrap ((q.1:Int)+8)=((q.1+8:Nat):Int):=zwi;have hb:(V.length+1)*17<=140737488355328:=zo;refine zBb ?_;refine zBd ?_;refine zcs (zr7 h0 h3 h4 hqv hlt w1 hb) ?_;refine zQF h0 ?_;refine zJF h4 ?_;refine⟨_,?m1,i+1,V++[zbx (q.1+8,q.2)],?G2,rfl,hlt,(by rw[zBB9,hq,hV];simp[zcP]),zu h0,zt,zu h4,zt,?H⟩
   case m1=>omega
   case H=>(try dsimp only);rw[zAB9];rfl
  .intro hlt;have hlt:¬i<l.length:=zfd hlt;obtain rfl:i=l.length:=zo;refine zOF h3 ?_;rw[zBF9]at hV;rw[<- hV];exact Frz.wh rfl rfl rfl (zAE9 _) (fun v hv=>by rw[hV]at hv;obtain⟨x,_,rfl⟩:=zAH9.1 hv;rfl) (by rw[hV];exact zdI)


theorem zo2{w:LN}{key:Nat}(h:(zcQ left w key).2=0):0<(zcQ left w key).1.length/\(zcQ left w key).1.length<=1000/\∀y∈(zcQ left w key).1,y.1<1000:=by
 unfold zcQ at h⊢
 by_cases hc:zcg left w=0
 rotate_left
 .grind
 rw[if_pos hc]at h⊢;have hl:=zqw (zfz hc)
 by_cases hs:sIs (zbO left w) key=true
 rotate_left
 .grind
 rw[if_pos hs];have hf:=zlf hs;generalize zbO left w=L at *
 generalize zds L key=i at *
 refine⟨by simp,?_,fun y hy=>?_⟩
 .simp[zdC,zjH];omega
 rcases zBA9.1 hy with rfl|hy
 .omega
 unfold zdC at hy;rcases zBG9.1 hy with hy|hy
 .unfold dnL at hy
  grind
 grind
def chg(w:LN)(v:Nat)(no:Nat)(r:LJ×Nat):LJ×Nat:=if no=0 then(if r.2=0 then(zfX w v++zcP r.1,0)else([],r.2))else([],no)
def zGN(w:LN)(x:Pr):LJ×Nat:=chg w 1 (zGQ w x) (zHO (w.getD 3 0) (w.drop 8) x)
def zdZ(w:LN)(key:Nat):LJ×Nat:=chg w 2 (zbZ w) (zcQ (w.getD 3 0) (w.drop 8) key)
theorem zza{w:LN}(h:zbZ w=0):w.length=64:=by
 have:=zg5 h;unfold headB at this
 grind
theorem zFq{H:LP}{id g:Nat}{A B:LJ}{n q:Nat}(hH:H[id]?=some (.row 120 2 g 0 (A.map zbx++B.map zbx)))(hn:n=A.length+B.length)(hq:2*(A.length+B.length)<=q):Frz H 0 (.sl id g 0 n q 2) (.list 0 2 ((A++B).map zbx)):=by
 rw[<- zBE9]at hH;refine Frz.wh hH rfl (by grind) (by grind) zmm zdI
theorem zB8(hw:zbQ w.length):FR 113 [wv p w,uv key] (.tuple [.list 0 2 ((zdZ w key).1.map zbx),iv ((zdZ w key).2:Nat)]):=by
 refine zfn (eG T113 func113) (Lb.two (ze2 _) (.int _ _)) ?_;have hC:=zmo p w hw;unfold zdZ chg
 by_cases hc:zbZ w=0
 rotate_left
 .rw[if_neg hc];have g:¬(zbZ w:Int)=0:=zo;generalize zbZ w=c at *
  refine zMG hC ?_;refine zSF g ?_;refine zO ?_;exact zLF
 rw[if_pos hc];rw[hc]at hC;have hwl:=zza (hc);have hP:=zBj p (w.getD 3 0) key (w.drop 8) (by grind);have hsm:=zo2 (left:=w.getD 3 0) (w:=w.drop 8) (key:=key);have hd8:List.drop 8 (List.map uv w)=(w.drop 8).map uv:=by rw[zCA9]
 have hle8:8<=w.length:=zo;have c3:3<w.length:=zo;have z3:=zd8 c3;generalize w.getD 3 0=a3 at *
 generalize zcQ a3 (w.drop 8) key=r at *
 obtain⟨L,no⟩:=r;dsimp only at hP hsm⊢;refine zMG hC ?_;refine zT ?_;refine zSk ?_;refine zBd ?_;refine zcu (zr4 c3 z3 hd8 hle8) hP ?_;refine zQF hwl ?_
 by_cases hn:no=0
 rotate_left
 .rw[if_neg hn];have g:¬(no:Int)=0:=zo;refine zSF g ?_;refine zO ?_;exact zLF
 rw[if_pos hn];have g:(no:Int)=0:=zo;obtain⟨s1,s2,s3⟩:=hsm hn;refine zTF g ?_;refine zSk ?_;refine zI ?_;refine zco (zD1 p w 2 zo []) ?_ (by first|rfl|(simp only[go_sem,hwl]<;>rfl)) (by simp only[go_sem]<;>rfl);rintro e H' ⟨g1,G,rfl,rfl⟩;have hM:=zzO 0 L zo (fun y hy=>by grind);have hml:(zcP L).length=L.length:=by unfold zcP;rw[zAP9]
 have hwl2:(zfX w 2).length<=1:=by unfold zfX;split<;>simp
 have hne:¬(zcP L).length=0:=zo;have hb:((zfX w 2).length+(zcP L).length)*17<=140737488355328:=zo;generalize zcP L=M at *
 generalize zfX w 2=A at *
 refine zfx ?_;refine zca hM ?_;refine zPF (zr2 hne hb) ?_;refine Frz.tL ⟨zFq rfl ?_ ?_,.int _ _,trivial⟩
 .rfl
 .omega
def zfo(left:Nat)(l:LJ)(key:Nat):Nat:=l.foldl (fun a q=>if q.1<=key then q.2 else a) left
def zdB(w:LN)(key:Nat):Nat×Nat:=if zbZ w=0 then(if(headN w).level=0 then(0,2)else(zfo (headN w).left (headN w).pairs key,0))else(0,zbZ w)
theorem zti(l:LJ)(key:Nat):∀left,zfo left l key=left\/∃q∈l,zfo left l key=q.2:=by
 induction l with
 | nil=>exact fun left=>.inl rfl
 | cons a l ih =>
  intro left;have h:=ih (if a.1<=key then a.2 else left);have e:zfo left (a::l) key=zfo (if a.1<=key then a.2 else left) l key:=rfl
  grind
theorem zwf{key:Nat}(h:∀x∈(0,left)::l,x.2<2048):zfo left l key<2048:=by
 rcases zti l key left with e|⟨q,hq,e⟩
 .simp_all
 grind
theorem zzb(c:Nat)(hc:¬c=0)(hC:FR 173 [wv p w] (iv (c:Nat))):FR 152 [wv p w,uv key] (.tuple [iv 0,iv (c:Nat)]):=by
 refine zfn (eG T152 func152) (Lb.two (.int _ _) (.int _ _)) ?_;refine zMG hC ?_;have g:¬(c:Int)=0:=zo;refine zSF g ?_;refine zO ?_;exact zLF
theorem zze(hpl:n.pairs.length<=28)(hk:0<n.level->∀x∈(0,n.left)::n.pairs,x.2<2048)(hC:FR 173 [wv p w] (iv (0:Nat)))(hO:FR 191 [wv p w] (.tuple [zbr 0 n,iv 0])):FN ET 152 [wv p w,uv key] (if n.level=0 then .ret (.tuple [iv 0,iv 2])else .ret (.tuple [iv (zfo n.left n.pairs key:Nat),iv 0])):=by
 refine zfn (eG T152 func152) ?_ ?_
 .split<;>exact Lb.two (.int _ _) (.int _ _)
 refine zMG hC ?_;refine zT ?_;refine zSk ?_;refine zM hO ?_
 by_cases hz:n.level=0
 .have g:(n.level:Int)=0:=zo;rw[if_pos hz];refine zSF g ?_;refine zO ?_;exact zLF
 have g:¬(n.level:Int)=0:=zo;have hkl:=zwf (key:=key) (hk zo);rw[if_neg hz];refine zTF g ?_;refine zSk ?_;refine zG ?_;refine ze (zbk (fun m s=>∃(i a:Nat),m=n.pairs.length-i/\i<=n.pairs.length/\zfo n.left n.pairs key=zfo a (n.pairs.drop i) key/\s.tm 1=uv key/\s.tm 7=.ptr 0 0 0 0 6/\s.tm 9=uv a/\s.tm 10=iv i/\s.df=[]/\s.H=[.row 143 6 0 0 [zbr 0 n]]) (n:=n.pairs.length) ?_ ?_)
 .exact⟨0,n.left,rfl,zAJ9 _,rfl,zt,zt,zt,zt,rfl,rfl⟩
 .rintro m ⟨tm,df,H⟩ ⟨i,a,rfl,hi,hka,h1,h7,h9,h10,rfl,rfl⟩;dsimp only at *
  refine zLh (zr2 h7 h10) ?_ ?_
  .intro hlt;have hlt:i<n.pairs.length:=ztd hlt;obtain⟨q,hq⟩:=zex (l:=n.pairs) hlt;have hqv:(n.pairs.map pv)[i]?=some (pv q):=zmg hq;have hdr:n.pairs.drop i=q::n.pairs.drop (i+1):=zdc hq;rw[hdr]at hka;change _=zfo (if q.1<=key then q.2 else a) _ key at hka;refine zBb ?_
   by_cases hle:q.1<=key
   .have g1:(q.1:Int)<=key:=zo;rw[if_pos hle]at hka;refine zB ?_;refine zbj (zr6 h1 h7 h10 hqv hlt g1) ?_;refine zct ?_;refine zJF (zr4 h7 h10 hqv hlt) ?_;refine zJF h10 ?_;refine⟨_,?m1,i+1,q.2,rfl,hlt,hka,zu h1,zu h7,zt,zu h10,zt,zt⟩;omega
   .have g1:¬(q.1:Int)<=key:=zo;rw[if_neg hle]at hka;refine zB ?_;refine zbj (zr6 h1 h7 h10 hqv hlt g1) ?_;refine zH ?_;refine zJF h10 ?_;refine⟨_,?m2,i+1,a,rfl,hlt,hka,zu h1,zu h7,zu h9,zu h10,zt,zt⟩;omega
  .intro hlt;have hlt:¬i<n.pairs.length:=zfd hlt;obtain rfl:i=n.pairs.length:=zo;rw[zBH9]at hka;change _=a at hka;rw[hka]at hkl⊢;have w1:IntKind.i64.wrap (a:Int)=(a:Int):=zwi;refine zOF (zr2 h9 w1) ?_;exact zLF
theorem zzx(hw:zbQ w.length):FR 152 [wv p w,uv key] (.tuple [iv ((zdB w key).1:Nat),iv ((zdB w key).2:Nat)]):=by
 have hC:=zmo p w hw;have hO:=zpc p w hw;unfold zdB
 by_cases hc:zbZ w=0
 .rw[if_pos hc];rw[zil _ (zg5 hc)]at hO;rw[hc]at hC;have h:=zze p key w _ (zjn w) (fun hl x hx=>by
   rcases zBA9.1 hx with rfl|hx
   .exact zhX hc hl ((headN w).low,(headN w).left) (zAR9 ..)
   .exact zhX hc hl x (zAQ9 _ hx)) hC hO
  by_cases hz:(headN w).level=0
  .rw[if_pos hz]at h⊢;exact h
  .rw[if_neg hz]at h⊢;exact h
 .rw[if_neg hc];exact zzb p key w _ hc hC


theorem Lb.three{a b c:PV}(ha:Lb a)(hb:Lb b)(hc:Lb c):Lb (.tuple [a,b,c]):=.tuple fun v hv=>by grind
def zHB(n:zq):zq:=⟨n.level,n.sib,(n.pairs.getD (n.pairs.length/2) (0,0)).1,(if 0<n.level then(n.pairs.getD (n.pairs.length/2) (0,0)).2 else 9223372036854775808),0,(if 0<n.level then n.pairs.drop (n.pairs.length/2+1)else n.pairs.drop (n.pairs.length/2))⟩
def zGp(m:Nat):Nat->LJ
 | 0=>[]
 | k+1=>if m<=k then(9+2*k,0)::zGp m k else[]
def zHK(n:zq)(a:Nat):LJ:=(1,a)::zGp (n.pairs.length/2) n.pairs.length


theorem zzQ(q:Nat)(w:LN)(x:Pr)(hw:w.length<1000000)(hx:x.1<w.length):FR 161 [wv p w,iv 1,.list q 2 [zbx x]] (.tuple [wv 0 (w.set x.1 x.2),iv 0]):=by
 refine zfn (eG T161 func161) (Lb.two (Lb.uvs _) (.int _ _)) ?_;have hb:w.length*9<=140737488355328:=zo;have hne:¬w.length=0:=zo;have hxv:([zbx x]:LQ)[0]?=some (zbx x):=rfl;have g0:¬((x.1:Nat):Int)<0:=zo;have g1:((x.1:Nat):Int)<(w.length:Nat):=zo;have g2:¬((w.length:Nat):Int)<=(x.1:Nat):=zo;obtain⟨o,ho⟩:∃old,w[x.1]?=some old:=⟨_,zAA9 hx⟩
 have z1:(w.map uv)[x.1]?=some (uv o):=zmg ho;have y1:(w.map uv).set x.1 (.int .u64 (x.2:Int))=(w.set x.1 x.2).map uv:=zDT9.symm;refine zTF (zr2 hb hne) ?_;refine zSk ?_;refine zGF (zr2 hb hne) ?_;refine ze (zbk (fun m s=>∃(i M:Nat) (K:LN),m=1-i/\i<=1/\M<=1/\(i=0->K=w)/\(i=1->K=w.set x.1 x.2)/\s.tm 1=iv 1/\s.tm 2=.list q 2 [zbx x]/\s.tm 8=.sl 0 1 0 w.length (2*w.length) 1/\s.tm 9=iv i/\s.df=[]/\s.H=[.row 29 1 1 M (K.map uv)]) (n:=1) ?_ ?_)
 .exact⟨0,0,w,rfl,zAJ9 _,by decide,fun _=>rfl,fun h=>absurd h zy,zt,zt,zt,zt,rfl,rfl⟩
 .rintro m ⟨tm,df,Hx⟩ ⟨i,M,K,rfl,hi,hM,hK0,hK1,h1,h2,h8,h9,rfl,rfl⟩;dsimp only at *
  obtain rfl|rfl:i=0\/i=1:=zo
  .obtain rfl:=hK0 rfl;refine zLh (zr2 h1 h9) ?_ ?_
   .intro _;refine zBb ?_;refine zB ?_;generalize K.map uv=K0 at *
    refine zB ?_;refine zbj (zr7 h2 h8 h9 hxv g0 g1 g2) ?_;refine zcf ?_;refine zSk ?_;refine zaB ?_;refine zcs (zr8 h2 h8 h9 hxv hx hM z1 y1) ?_;refine zQF h8 ?_;refine zJF h9 ?_;refine⟨_,?m,1,1,K.set x.1 x.2,rfl,zAE9 _,zAE9 _,fun h=>absurd h zy,fun _=>rfl,zu h1,zu h2,zu h8,zu h9,rfl,rfl⟩;omega
   .intro h;cases h
  .obtain rfl:=hK1 rfl;refine zLh (zr2 h1 h9) ?_ ?_
   .intro h;cases h
   intro _;refine zOF h8 ?_;exact Frz.tL ⟨Frz.wM rfl hM rfl (by simp) (by simp) zmm zod,.int _ _,trivial⟩


section mid
variable {α:Type}
theorem ga0(G l:List α)(a:α):(G++a::l)[G.length]?=some a:=by simp
theorem ga1(G l:List α)(a b:α):(G++a::b::l)[G.length+1]?=some b:=by simp
theorem ga2(G l:List α)(a b c:α):(G++a::b::c::l)[G.length+1+1]?=some c:=by grind
theorem sa0(G l:List α)(a x:α):(G++a::l).set G.length x=G++x::l:=by grind
theorem sa1(G l:List α)(a b x:α):(G++a::b::l).set (G.length+1) x=G++a::x::l:=by simp_all
theorem sa2(G l:List α)(a b c x:α):(G++a::b::c::l).set (G.length+1+1) x=G++a::b::x::l:=by
 rw[zCG9 _ _ zo,show G.length+1+1-G.length=2 by omega];rfl
theorem ga3(G l:List α)(a b c d:α):(G++a::b::c::d::l)[G.length+3]?=some d:=by grind
end mid
def zyA:=And.intro (@ga0 zc) (And.intro (@ga1 zc) (And.intro (@ga2 zc) (And.intro (@sa0 zc) (And.intro (@sa1 zc) (@sa2 zc)))))
structure Wk where
 p:Nat
 q:Nat
 W:LN
 L:LJ
 fr:PV
 used:Nat
variable (p:Nat)(x:Wk)
def wkv(x:Wk):PV:=.agg [wv x.p x.W,.list x.q 2 (x.L.map zbx),x.fr,iv x.used]
def Wk.one(x:Wk)(c:Pr):Wk:=⟨0,0,x.W.set c.1 c.2,x.L++[c],x.fr,x.used⟩
def Wk.does(x:Wk)(l:LJ):Wk:=l.foldl Wk.one x
def zb8(a:Nat)(l:LJ):LJ:=l.map fun c=>(a+c.1,c.2)
theorem zBP(l:LJ)(c:Pr):x.does (l++[c])=(x.does l).one c:=by unfold Wk.does;grind
theorem zlp:∀(l:LJ) (x:Wk),(x.does l).W.length=x.W.length/\(x.does l).L.length=x.L.length+l.length/\(x.does l).fr=x.fr/\(x.does l).used=x.used
 | [],x=>⟨rfl,rfl,rfl,rfl⟩
 | c::l,x=>by
  have h:=zlp l (x.one c);have e:x.does (c::l)=(x.one c).does l:=rfl;rw[e];refine⟨h.1.trans (by simp[Wk.one]),h.2.1.trans (by simp[Wk.one];omega),h.2.2.1,h.2.2.2⟩
theorem zob{x:Wk}(h:Id0 x.fr):Id0 (wkv x):=.agg fun v hv=>by
 simp at hv;rcases hv with rfl|rfl|rfl|rfl
 .exact .list _ _ _
 .exact .list _ _ _
 .exact h
 .exact .int _ _
theorem zmT(hfr:Id0 x.fr)(a r:Nat)(l:LJ)(hl:x.L.length+l.length<1000000)(hw:x.W.length<1000000)(hin:∀c∈l,a+c.1<x.W.length):FP ET 105 [wkv x,iv a,.list r 2 (l.map zbx)] (.ret (wkv (x.does (zb8 a l)))):=by
 refine zfp (eG T105 func105) ?_;refine zG ?_;refine ze (zbk (fun m s=>∃(i:Nat) (G:LP),m=l.length-i/\i<=l.length/\s.tm 1=iv a/\s.tm 2=.list r 2 (l.map zbx)/\s.tm 3=.ptr 0 0 0 0 4/\s.tm 6=.ptr 1 0 0 0 4/\s.tm 7=iv i/\s.df=[]/\s.H=.row 185 4 0 0 [wkv (x.does (zb8 a (l.take i)))]::.row 185 4 0 0 [.agg [.nilsl,.nilsl,.nilsl,iv 0]]::G) (n:=l.length) ?_ ?_)
 .exact⟨0,[],rfl,zAJ9 _,zt,zt,zt,zt,zt,rfl,rfl⟩
 .rintro m ⟨tm,df,Hx⟩ ⟨i,G,rfl,hi,h1,h2,h3,h6,h7,rfl,rfl⟩;dsimp only at *
  refine zLh (zr2 h2 h7) ?_ ?_;rotate_left
  .intro hlt;have hlt:¬i<l.length:=zfd hlt;obtain rfl:i=l.length:=zo;rw[zBF9];unfold wkv;refine zGF (zr2 h3 h6) ?_;refine zbN ?_;refine zdw (vs:=[wkv (x.does (zb8 a l))]) ?_ ?_
   .simp[T105,xT,zaS,okv,upd,h6,zaz,zbl,zbo,PV.cells,wkv]
   .exact(zob (by rw[(zlp _ x).2.2.1];exact hfr)).frz
  intro hlt;have hlt:i<l.length:=ztd hlt;obtain⟨c,hc⟩:=zex (l:=l) hlt;have hcv:(l.map zbx)[i]?=some (zbx c):=zmg hc;have hcin:=hin c (zAI9 hc);have htk:x.does (zb8 a (l.take (i+1)))=(x.does (zb8 a (l.take i))).one (a+c.1,c.2):=by
   rw[<- zBP,zBB9,hc];simp[zb8]
  obtain⟨d1,d2,d3,d4⟩:=zlp (zb8 a (l.take i)) x;have hol:(zb8 a (l.take i)).length<=l.length:=by simp[zb8];omega
  generalize x.does (zb8 a (l.take i))=y at *
  have w1:IntKind.i64.wrap ((a:Int)+((c.1:Nat):Int))=((a+c.1:Nat):Int):=zwi;refine zBb ?_;refine zBd ?_;unfold wkv;refine zcs (zr7 h1 h2 h7 hcv w1 zyA zyB) ?_;refine zQF h7 ?_;have hbb:y.L.length*17<=140737488355328:=zo;have hbc:(y.L.length+1)*17<=140737488355328:=zo;refine zHW (zcJ (Q:=fun yy s'=>yy=.norm/\∃g,s'.tm 1=iv a/\s'.tm 2=.list r 2 (l.map zbx)/\s'.tm 3=.ptr 0 0 0 0 4/\s'.tm 6=.ptr 1 0 0 0 4/\s'.tm 7=iv i/\s'.tm 8=.ptr (G.length+1+1) 0 0 0 2/\s'.df=[]/\s'.H=.row 185 4 0 0 [.agg [wv y.p y.W,.sl (G.length+1+1+1) g 0 (y.L.length+1) (2*(y.L.length+1)) 2,y.fr,iv y.used]]::.row 185 4 0 0 [.agg [.nilsl,.nilsl,.nilsl,iv 0]]::(G++.row 120 2 0 0 [zbx (a+c.1,c.2)]::.row 120 2 g 0 (y.L.map zbx++[zbx (a+c.1,c.2)])::.row 120 2 0 0 [zbx (a+c.1,c.2)]::[])) (zaB ?_) ?_)
  .by_cases hy:y.L=[]
   .have hy0:y.L.length=0:=by rw[hy];rfl
    rw[hy];refine zH5 (zef h3 zcD hbb hbc h1 h2 h6 h7 zcC zcE zcF (zr3 zyA zyB zyC)) ?_;refine zH5 (zr2 zcD zyA) ?_;refine zH5 (zef h3 zcC zcE zcD hbb hbc h1 h2 h6 h7 zcF (zr3 zyA zyB zyC)) ?_;refine zH6 (zef zcD h1 h2 h3 h6 h7 zcC zcE zcF zyA zyB zyC) ?_;refine zb4 ?_;simp only[go_sem]
    grind
   .have hy0:¬y.L.length=0:=by simpa using hy
    refine zH5 (zef hy0 hbb h3 zcD hbc h1 h2 h6 h7 zcC zcE (zr4 zcF zyA zyB zyC)) ?_;refine zH5 (zr5 hbc zcC zcE zcD zyA) ?_;refine zH5 (zef h3 zcC zcE zcD hy0 hbb hbc h1 h2 h6 h7 (zr4 zcF zyA zyB zyC)) ?_;refine zH6 (zef zcD h1 h2 h3 h6 h7 zcC zcE zcF zyA zyB zyC) ?_;refine zb4 ?_;simp only[go_sem]
    grind
  clear h1 h2 h3 h6 h7;rintro yy ⟨tm,df,H⟩ ⟨rfl,g,h1,h2,h3,h6,h7,h8,rfl,rfl⟩;dsimp only at *
  have hV:y.L.map zbx++[zbx (a+c.1,c.2)]=(y.L++[(a+c.1,c.2)]).map zbx:=by simp
  have hVl:y.L.length+1=(y.L++[(a+c.1,c.2)]).length:=by simp
  rw[hV,hVl];refine zwA 0 (G.length+1+1+1) (v':=.agg [wv y.p y.W,.list 0 2 ((y.L++[(a+c.1,c.2)]).map zbx),y.fr,iv y.used]) rfl (by simp only[zBO9,ga1]<;>rfl) zo rfl rfl (fun k u v hu hv=>?_) ?_
  .match k with
   | 0=>injection hu with hu;injection hv with hv;subst hu hv;exact .inl rfl
   | 1 =>
    injection hu with hu;injection hv with hv;subst hu hv;exact .inr (Frz.wh (znU (by simp only[zBO9,ga1]<;>rfl)) rfl (by simp) (by simp) zmm zdI)
   | 2=>injection hu with hu;injection hv with hv;subst hu hv;exact .inl rfl
   | 3=>injection hu with hu;injection hv with hv;subst hu hv;exact .inl rfl
   | k+4=>simp[PV.cells]at hu
  simp only[zCR9,zCE9,sa1];have hap:=zzQ y.p 1 y.W (a+c.1,c.2) zo (by omega);refine zBr ?_;refine zb2 (zr4 h3 h8 zyA zyB) ?_;refine zcm hap ?_ ?_
  .exact Frz.wh (l:=[zbx (a+c.1,c.2)]) (by simp only[zBO9,ga3]<;>rfl) rfl rfl (zAE9 _) (fun v hv=>by obtain rfl:=zBI9.1 hv;rfl) (zdI (l:=[(a+c.1,c.2)]))
  refine zN ?_;refine zB ?_;refine zJF h3 ?_;refine zJF h7 ?_;refine⟨_,?m,i+1,?G,rfl,hlt,zu h1,zu h2,zu h3,zu h6,zu h7,zt,?H⟩
  case m=>omega
  case H=>(try dsimp only);rw[htk];rfl


theorem zlV(q:Nat)(bs:LN)(L:LB)(hl:L.length<1000000)(hp:∀n∈L,n.pairs.length<=28)(hall:(levP L).length<1000000):FN ET 83 [zb9 p q bs L] (zic L):=by
 refine zfn (eG T83 func83) ?_ ?_
 .unfold zic;split
  .exact Lb.two (Lb.pvs _) (.bool _)
  .exact Lb.two (Lb.pvs _) (.bool _)
 refine zG ?_;refine zcL 92 2 (i:=4) rfl ?_;simp only[lzy,zAG9,zAN9,zAS9,zAV9];refine zG ?_;refine ze (zbk (fun m s=>∃(i:Nat) (acc:LJ) (G:LP),m=L.length-i/\i<=L.length/\levP L=acc++levP (L.drop i)/\zbV acc=true/\s.tm 1=.ptr 0 0 0 0 2/\s.tm 4=.sl 1 acc.length 0 acc.length (2*acc.length) 2/\s.tm 5=iv i/\s.df=[]/\s.H=.row 163 2 0 0 [zb9 p q bs L]::.row 92 2 acc.length 0 (acc.map pv)::G) (n:=L.length) ?_ ?_)
 .exact⟨0,[],[],rfl,by omega,rfl,rfl,zt,zt,zt,rfl,rfl⟩
 .rintro m ⟨tm,df,H⟩ ⟨i,acc,G,rfl,hi,hac,hri,h1,h4,h5,rfl,rfl⟩;dsimp only at h1 h4 h5;refine zLh (zr2 h1 h5) ?_ ?_
  .intro hlt;have hlt:i<L.length:=ztd hlt;have hLi:=zAA9 hlt;rw[zts L i hlt]at hac;have hn28:=hp _ (zBK9 hlt);have hLiv:(L.map (zbr q))[i]?=some (zbr q L[i]):=zmg hLi;generalize L[i]=n at *
   refine zBb ?_;refine zGF (zr4 h1 h5 hLiv hlt) ?_;generalize hR:levP (List.drop (i+1) L)=R at hac;refine ze (zbk (fun m s=>∃(j:Nat) (acc:LJ) (G:LP),m=n.pairs.length-j/\j<=n.pairs.length/\levP L=acc++((n.pairs.drop j).filter (zeI L[i+1]?)++R)/\zbV acc=true/\s.tm 1=.ptr 0 0 0 0 2/\s.tm 4=.sl 1 acc.length 0 acc.length (2*acc.length) 2/\s.tm 5=iv i/\s.tm 6=psv q n.pairs/\s.tm 7=iv j/\s.df=[]/\s.H=.row 163 2 0 0 [zb9 p q bs L]::.row 92 2 acc.length 0 (acc.map pv)::G) (n:=n.pairs.length) ?_ ?_)
   .exact⟨0,acc,_,rfl,by omega,hac,hri,zu h1,zu h4,zu h5,zt,zt,rfl,rfl⟩
   .clear h1 h4 h5 hac hri;rintro m ⟨tm,df,H⟩ ⟨j,acc,G,rfl,hj,hac,hri,h1,h4,h5,h6,h7,rfl,rfl⟩;dsimp only at *
    refine zLh (zr2 h6 h7) ?_ ?_
    .intro hltj;have hltj:j<n.pairs.length:=ztd hltj;have hxj:=zAA9 hltj;rw[zAM9 hltj,zGM9]at hac;have hxv:(n.pairs.map pv)[j]?=some (pv n.pairs[j]):=zmg hxj;generalize n.pairs[j]=x at *
     refine zBb ?_;refine zB ?_;refine zcJ (Q:=fun y s'=>y=.norm/\s'.tm 1=.ptr 0 0 0 0 2/\s'.tm 4=.sl 1 acc.length 0 acc.length (2*acc.length) 2/\s'.tm 5=iv i/\s'.tm 6=psv q n.pairs/\s'.tm 7=iv j/\s'.tm 48=.bool (!zeI L[i+1]? x)/\s'.df=[]/\s'.H=.row 163 2 0 0 [zb9 p q bs L]::.row 92 2 acc.length 0 (acc.map pv)::G) (zaB ?_) ?_
     .have e1:((i:Int)+1)=((i+1:Nat):Int):=zo
      by_cases hi1:i+1<L.length
      .have g1:((i+1:Nat):Int)<(L.length:Nat):=zo;have hz:=zAA9 hi1;have hzv:(L.map (zbr q))[i+1]?=some (zbr q L[i+1]):=zmg hz;rw[hz];generalize L[i+1]=z at *
       refine zQF (zh5 h1 h5 h6 h7 e1 g1 hzv hxv hltj hi1) ?_;exact⟨h1,h4,h5,h6,h7,by simp[zeI]⟩
      .have g1:¬((i+1:Nat):Int)<(L.length:Nat):=zo;have hz:L[i+1]?=none:=zBL9 zo;rw[hz];refine zQF (zr7 h1 h5 h6 h7 e1 g1 hltj) ?_;exact⟨h1,h4,h5,h6,h7,by simp[zeI]⟩
     .clear h1 h4 h5 h6 h7;rintro y ⟨tm,df,H⟩ ⟨rfl,h1,h4,h5,h6,h7,h48,rfl,rfl⟩;dsimp only at *
      by_cases hk:zeI L[i+1]? x=true
      rotate_left
      .rw[if_neg hk]at hac;have hk:zeI L[i+1]? x=false:=by simpa using hk
       refine zIe h48 ?_ ?_
       .intro _;refine zh9 ?_;refine zJF h7 ?_;refine⟨_,?m1,j+1,acc,_,rfl,hltj,hac,hri,zu h1,zu h4,zu h5,zu h6,zu h7,rfl,rfl⟩;omega
       .rw[hk];intro h;cases h
      rw[if_pos hk]at hac;refine zIe h48 ?_ ?_
      .rw[hk];intro h;cases h
      intro _;refine zSk ?_;refine zGF h4 ?_;have hal:acc.length<1000000:=by have:=congrArg List.length hac;simp only[zAB9]at this;omega
      refine zcJ (Q:=fun y s'=>y=.norm/\s'.tm 1=.ptr 0 0 0 0 2/\s'.tm 4=.sl 1 acc.length 0 acc.length (2*acc.length) 2/\s'.tm 5=iv i/\s'.tm 6=psv q n.pairs/\s'.tm 7=iv j/\s'.tm 66=.bool (ze1 acc x)/\s'.df=[]/\s'.H=.row 163 2 0 0 [zb9 p q bs L]::.row 92 2 acc.length 0 (acc.map pv)::G) (zaB ?_) ?_
      .by_cases ha0:acc.length=0
       .have g1:¬(0:Int)<(acc.length:Nat):=zo;have g2:¬(0:Int)<=(acc.length:Int)-1:=zo;refine zQF (zr7 h4 h6 h7 g1 g2 hltj hxv) ?_;obtain rfl:acc=[]:=zBZ9 ha0;exact⟨h1,h4,h5,h6,h7,rfl⟩
       .have e1:(acc.length:Int)-1=((acc.length-1:Nat):Int):=zo;have g2:(0:Int)<=((acc.length-1:Nat):Int):=zo;have e2:acc.length-1<acc.length:=zo;obtain⟨y,hy⟩:∃y,acc.getLast?=some y:=by
         grind
        have hy2:acc[acc.length-1]?=some y:=by rw[<- zCF9];exact hy
        have hyv:(acc.map pv)[acc.length-1]?=some (pv y):=zmg hy2;refine zQF (zr9 h4 h6 h7 e1 g2 e2 hyv hltj hxv) ?_;exact⟨h1,h4,h5,h6,h7,by simp[ze1,hy]⟩
      .clear h1 h4 h5 h6 h7 h48;rintro y ⟨tm,df,H⟩ ⟨rfl,h1,h4,h5,h6,h7,h66,rfl,rfl⟩;dsimp only at *
       by_cases hk2:ze1 acc x=true
       .refine zIe h66 ?_ ?_
        .intro _;refine zO ?_;exact zEx hac (zpI hk2)
        .rw[hk2];intro h;cases h
       have hk2:ze1 acc x=false:=by simpa using hk2
       refine zIe h66 ?_ ?_
       .rw[hk2];intro h;cases h
       intro _;refine zr ?_;have hbb:(acc.length+1)*17<=140737488355328:=zo;refine zJF (zr6 h4 h6 h7 hxv hltj hbb) ?_;refine zJF h7 ?_;refine⟨_,?m3,j+1,acc++[x],?G3,rfl,hltj,by grind,zut hri hk2,zu h1,zt,zu h5,zu h6,zu h7,zt,?H3⟩
       case m3=>omega
       case H3=>(try dsimp only);rw[zBE9,zAB9];rfl
    .intro hltj;have hltj:¬j<n.pairs.length:=zfd hltj;obtain rfl:j=n.pairs.length:=zo;refine zJF h5 ?_;rw[zBH9,List.filter_nil,zAV9,<- hR]at hac;refine⟨_,?m9,i+1,acc,G,rfl,hlt,hac,hri,zu h1,zu h4,zu h5,rfl,rfl⟩;omega
  .intro hlt;have hlt:¬i<L.length:=zfd hlt;obtain rfl:i=L.length:=zo;refine zOF h4 ?_;rw[zBH9,levP,zCY9]at hac;unfold zic;rw[hac,if_pos hri];refine Frz.tL ⟨?_,.bool _,trivial⟩;exact Frz.wh (l:=acc.map pv) rfl rfl (by simp) (by simp) zmm zgE
theorem zwB(w:LN)(b:Nat)(hw:zbQ w.length):FR 190 [wv p w,uv b] (.bool (decide (1<=b)&&decide (b<w.length/64))):=by
 refine zfn (eG T190 func190) (.bool _) ?_;unfold zbQ at hw;have w1:IntKind.u64.wrap (((w.length/64:Nat):Int))=((w.length/64:Nat):Int):=zwu;have hq:IntKind.i64.wrap ((w.length:Int)/64)=((w.length/64:Nat):Int):=zwi;have q1:IntKind.i64.wrap ((w.length:Int).tdiv 64)=((w.length/64:Nat):Int):=by rw[IntWalk.i64_quo _ _ zo];omega
 by_cases h:1<=b
 .have g:(1:Int)<=b:=zo
  by_cases h2:b<w.length/64
  .have g2:(b:Int)<((w.length/64:Nat):Int):=zo;refine zOF (zr5 g q1 hq w1 g2) ?_;exact zbp.bool (by grind)
  .have g2:¬(b:Int)<((w.length/64:Nat):Int):=zo;refine zOF (zr5 g q1 hq w1 g2) ?_;exact zbp.bool (by grind)
 .have g:¬(1:Int)<=b:=zo;refine zOF g ?_;exact zbp.bool (by simp[h])


def zhJ(w:LN)(lv:Int):Nat->LN->LN->LB->Nat->LN×LB×Bool
 | 0,_,bs,ns,b=>(bs,ns,decide (b=0) && !ns.isEmpty)
 | k+1,seen,bs,ns,b=>if b=0 then(bs,ns,!ns.isEmpty)else
  if decide (w.length/64<=b)||seen.contains b then(bs,ns,false)else
  if headB (zap w b)&&zcy ns (headN (zap w b)) lv then zhJ w lv k (b::seen) (bs++[b]) (ns++[headN (zap w b)]) (headN (zap w b)).sib else(bs,ns,false)
variable {lv:Int}{w:LN}(p:Nat)(l:LN)
theorem ztJ:∀(k:Nat) (seen bs:LN) (ns:LB) (b:Nat),zb5 w lv k seen bs ns b=none->(zhJ w lv k seen bs ns b).2.2=false
 | 0,seen,bs,ns,b,h=>by
  rw[zb5]at h;rw[zhJ]
  grind
 | k+1,seen,bs,ns,b,h=>by
  rw[zb5]at h;rw[zhJ]
  split
  .grind
  .rename_i hb;rw[if_neg hb]at h
   split
   .rfl
   .rename_i h2;rw[if_neg h2]at h
    split
    .rename_i h3;rw[if_pos h3]at h;exact ztJ k _ _ _ _ h
    .rfl
theorem ztu{r:LN×LN×LB}:∀(k:Nat) (seen bs:LN) (ns:LB) (b:Nat),zb5 w lv k seen bs ns b=some r->zhJ w lv k seen bs ns b=(r.2.1,r.2.2,!r.2.2.isEmpty)
 | 0,seen,bs,ns,b,h=>by
  rw[zb5]at h;rw[zhJ]
  grind
 | k+1,seen,bs,ns,b,h=>by
  rw[zb5]at h;rw[zhJ]
  split
  .grind
  .rename_i hb;rw[if_neg hb]at h
   split
   .grind
   .rename_i h2;rw[if_neg h2]at h
    split
    .rename_i h3;rw[if_pos h3]at h;exact ztu k _ _ _ _ h
    simp_all
theorem znl(b:Nat):(l.map fun(x:Nat)=>(x:Int)).contains (b:Int)=l.contains b:=by grind
theorem zx9:(l.map fun(x:Nat)=>(x:Int)).map iv=l.map fun(b:Nat)=>iv (b:Int):=by simp_all
theorem zjy(n:Nat)(hl:l.length<4611686018427387904):FR 123 [.list p 1 (l.map fun(b:Nat)=>iv (b:Int)),iv (n:Nat)] (.bool (l.contains n)):=by
 have:=zp7 p (l.map fun(x:Nat)=>(x:Int)) n (by grind);rw[zx9,znl]at this;exact this
theorem zGy(bs:LN)(ns:LB):Lb (zb9 0 0 bs ns):=.agg fun x hx=>by
 simp at hx;rcases hx with rfl|rfl
 .exact Lb.ivn _
 .exact Lb.nodes _
def lvH(z:PV)(bs:LN)(ns:LB)(G:LP):LP :=
 .row 163 2 0 0 [z]::.row 163 2 0 0 [.agg [.sl 2 bs.length 0 bs.length (2*bs.length) 1,.sl 3 ns.length 0 ns.length (2*ns.length) 6]]::.row 3 1 bs.length 0 (bs.map fun(b:Nat)=>iv (b:Int))::.row 143 6 ns.length 0 (ns.map (zbr 0))::G
theorem zxG(z:PV)(bs:LN)(ns:LB)(G:LP)(lab:Nat):LF (lvH z bs ns G) lab [.sl 2 bs.length 0 bs.length (2*bs.length) 1,.sl 3 ns.length 0 ns.length (2*ns.length) 6] [.list lab 1 (bs.map fun(b:Nat)=>iv (b:Int)),.list lab 6 (ns.map (zbr 0))] :=
  ⟨Frz.wh (e:=3) (z':=1) (G:=bs.length) (l:=bs.map fun(b:Nat)=>iv (b:Int)) rfl rfl (by simp) (by simp) zmm zhn,
   Frz.wh (e:=143) (z':=6) (G:=ns.length) (l:=ns.map (zbr 0)) rfl rfl (by simp) (by simp) zmm zht,trivial⟩
theorem zk5{bs:LN}{ns:LB}{G:LP}{tm:Nat->PV}{b:Bool}{R:LN×LB×Bool}(h8:tm 8=.ptr 0 0 0 0 2)(h9:tm 9=.bool b)(hR:R=(bs,ns,b)):zev ET T132 (fun e' H=>zbp H 0 e' (.ret (.tuple [zb9 0 0 R.1 R.2.1,.bool R.2.2]))) .ret ⟨tm,[],lvH (.agg [.sl 2 bs.length 0 bs.length (2*bs.length) 1,.sl 3 ns.length 0 ns.length (2*ns.length) 6]) bs ns G⟩:=by
 subst hR;refine zdw (vs:=[.agg [.sl 2 bs.length 0 bs.length (2*bs.length) 1,.sl 3 ns.length 0 ns.length (2*ns.length) 6],.bool b]) ?_ ?_
 .simp[T132,xT,zaS,okv,h8,h9,zaz,zbl,zbo,lvH,PV.cells]
 .exact Frz.tL ⟨Frz.aggL (zxG _ bs ns G 0),.bool _,trivial⟩


theorem zgi{E:Env}{caught:LH}{rnd:LC}{code:zbS}{s:FSt}{Q:FX->FSt->Prop}(F:(Nat->PV)->Prop)(hF:F s.tm)(k:∀tm,F tm->W E caught rnd code ⟨tm,s.df,s.H⟩ Q):W E caught rnd code s Q:=k s.tm hF
theorem zzc(r:Nat)(w:LN)(hw:64<=w.length/\w.length<=131072)(b:Nat)(lv:Int)(sR seen:LN)(hs:∀x,x∈sR↔x∈seen)(hsl:sR.length<1000000)(R:LN×LB×Bool)(hR:zhJ w lv (w.length/64) seen [] [] b=R):
  FR 132 [wv p w,uv b,iv lv,.list r 1 (sR.map fun(b:Nat)=>iv (b:Int))] (.tuple [zb9 0 0 R.1 R.2.1,.bool R.2.2]):=by
 refine zfn (eG T132 func132) (Lb.two (zGy _ _) (.bool _)) ?_;refine zG ?_;refine zfF 3 1 (id:=1) (v:=.agg [.nilsl,.nilsl]) (v':=.agg [.sl 2 0 0 0 0 1,.nilsl]) (e0:=163) (z0:=2) (G:=0) (M:=0) rfl rfl (fun k x y hx hy=>?_) ?_
 .match k with
  | 0=>injection hx with hx;injection hy with hy;subst hx hy;exact .inr ⟨rfl,by simp[lzy]⟩
  | 1=>injection hx with hx;injection hy with hy;grind
  | k+2=>simp[PV.cells]at hx
 simp only[zCR9,zCE9,zAS9,zAV9];refine zfF 143 6 (id:=1) (v:=.agg [.sl 2 0 0 0 0 1,.nilsl]) (v':=.agg [.sl 2 0 0 0 0 1,.sl 3 0 0 0 0 6]) (e0:=163) (z0:=2) (G:=0) (M:=0) rfl rfl (fun k x y hx hy=>?_) ?_
 .match k with
  | 0=>injection hx with hx;injection hy with hy;grind
  | 1=>injection hx with hx;injection hy with hy;subst hx hy;exact .inr ⟨rfl,by simp[lzy]⟩
  | k+2=>simp[PV.cells]at hx
 simp only[zCR9,zCE9,zAS9,zAV9];have hnb:w.length/64<=2048:=zo;have hsm:zbQ w.length:=by unfold zbQ;omega
 refine ze (zbk (fun m s=>∃(k:Nat) (S:LN) (bs:LN) (ns:LB) (b2:Nat) (G:LP),m=k/\zeH (w.length/64) S<=k/\zhJ w lv k S bs ns b2=R/\bs.length=ns.length/\bs.length+k<=2048/\(∀x,x∈S↔x∈sR\/x∈bs)/\(∀n∈ns,lv<0\/(n.level:Int)=lv)/\b2<2048+b+1/\s.tm 0=wv p w/\s.tm 1=uv b2/\s.tm 2=iv lv/\s.tm 3=.list r 1 (sR.map fun(b:Nat)=>iv (b:Int))/\s.tm 8=.ptr 0 0 0 0 2/\s.tm 10=.ptr 1 0 0 0 2/\s.df=[]/\s.H=lvH (.agg [.nilsl,.nilsl]) bs ns G) (n:=w.length/64) ?_ ?_)
 .exact⟨_,seen,[],[],b,[],rfl,zjr _ _,hR,rfl,by grind,fun x=>by grind,fun n hn=>by grind,by omega,zt,zt,zt,zt,zt,zt,rfl,rfl⟩
 .clear hR;rintro m ⟨tm,df,H⟩ ⟨k,S,bs,ns,b2,G,rfl,hun,hR,hbn,hbk,hS,hlvs,hb2,h0,h1,h2,h3,h8,h10,rfl,rfl⟩;dsimp only at *
  refine zLh h1 ?_ ?_;rotate_left
  .intro hb0;have hb0:b2=0:=by simpa using hb0
   subst hb0;have hR2:R=(bs,ns,!ns.isEmpty):=by rw[<- hR];cases m<;>simp[zhJ]
   unfold lvH;refine zBd ?_
   by_cases hne:ns=[]
   .subst hne;refine zcs (zr2 h8 h10) ?_;refine zdl ?_ (by simp(disch:=omega)only[go_sem]<;>rfl) (by first|exact trivial|simp only[go_sem]);refine zb4 ?_;simp only[go_sem];refine zbN ?_;exact zk5 (by simp[upd,h8]) (by simp[upd]) hR2
   .have g:(0:Int)<(ns.length:Nat):=by have:=zCC9.2 hne;omega
    refine zcs (zr3 h8 h10 g) ?_;refine zH6 g ?_;refine zb4 ?_;simp only[go_sem];refine zbN ?_;exact zk5 (b:=true) (by simp[upd,h8]) (by simp[upd]) (by grind)
  intro hb0;have hb0:¬b2=0:=by simpa using hb0
  refine zBb ?_;refine zB ?_;have hth:=zwB p w b2 hsm;have hb1:1<=b2:=zo;rw[decide_eq_true hb1,zCB9]at hth;refine zcJ (Q:=fun y s'=>y=.norm/\s'.tm 0=wv p w/\s'.tm 1=uv b2/\s'.tm 2=iv lv/\s'.tm 3=.list r 1 (sR.map fun(b:Nat)=>iv (b:Int))/\s'.tm 8=.ptr 0 0 0 0 2/\s'.tm 10=.ptr 1 0 0 0 2/\s'.tm 32=.bool (decide (w.length/64<=b2)||S.contains b2)/\s'.df=[]/\s'.H=lvH (.agg [.nilsl,.nilsl]) bs ns G) (zae ?_) ?_
  .by_cases hge:b2<w.length/64
   rotate_left
   .rw[decide_eq_false hge]at hth;refine zb2 (zr2 h0 h1) ?_;refine zca hth ?_;refine zK ?_;exact⟨zt,h0,h1,h2,h3,h8,h10,by simp[upd];omega,rfl,rfl⟩
   rw[decide_eq_true hge]at hth;have w1:IntKind.i64.wrap (b2:Int)=(b2:Int):=zwi;have hh1:=zjy r sR b2 zo;have hh2:=zjy 1 bs b2 zo;have hSc:S.contains b2=(sR.contains b2||bs.contains b2):=by
    rw[zGB9];simp[hS b2]
   have hng:decide (w.length/64<=b2)=false:=decide_eq_false zo;rw[hSc,hng,zFV9];refine zb2 (zr2 h0 h1) ?_;refine zca hth ?_;refine zb2 (zr3 h1 h3 w1) ?_;refine zca hh1 ?_
   by_cases hc1:sR.contains b2=true
   .rw[hc1,Bool.true_or];refine zK ?_;exact⟨zt,h0,h1,h2,h3,h8,h10,zt,rfl,rfl⟩
   have hc1:sR.contains b2=false:=by simpa using hc1
   rw[hc1,zFV9];unfold lvH;refine zb2 (zr3 h1 h10 w1) ?_;refine zcm hh2 ?_ ?_
   .exact(zxG (.agg [.nilsl,.nilsl]) bs ns G 1).1
   refine zK ?_;exact⟨zt,h0,h1,h2,h3,h8,h10,zt,rfl,rfl⟩
  clear h0 h1 h2 h3 h8 h10;rintro y ⟨tm,df,H⟩ ⟨rfl,h0,h1,h2,h3,h8,h10,h32,rfl,rfl⟩;dsimp only at *
  by_cases hbad:(decide (w.length/64<=b2)||S.contains b2)=true
  .rw[hbad]at h32;refine zIf h32 ?_;unfold lvH;refine zGF (zr2 h8 h10) ?_;refine zbN ?_;exact zk5 (b:=false) (by simp[upd,h8]) (by simp[upd]) (by
    rw[<- hR]
    cases m with
    | zero=>rw[zhJ];grind
    | succ m=>rw[zhJ,if_neg hb0,if_pos hbad])
  have hbad:(decide (w.length/64<=b2)||S.contains b2)=false:=by simpa using hbad
  rw[hbad]at h32;refine zHF h32 ?_;have hbl:b2<w.length/64:=by
   cases h:decide (w.length/64<=b2)with
   | true=>grind
   | false=>grind
  have hbs:¬S.contains b2=true:=by intro h;rw[h,Bool.or_true]at hbad;cases hbad
  have hm1:∃m',m=m'+1:=by
   cases m with
   | zero=>exact absurd (zk4 _ b2 S zo hbl) hbs
   | succ m=>grind
  obtain⟨m',rfl⟩:=hm1;rw[zhJ,if_neg hb0,if_neg (by omega)]at hR;have hOf:=zpc p (zap w b2) (by unfold zap zbQ;simp;omega);have e1:IntKind.u64.wrap ((64:Int)*(b2:Int))=((64*b2:Nat):Int):=zwu;have e2:IntKind.u64.wrap (((64*b2:Nat):Int)+64)=((64*b2+64:Nat):Int):=zwu;have e3:64*b2<=64*b2+64:=zo;have e4:64*b2+64<=w.length:=zo;have e6:0<w.length:=zo;have e5:List.drop (64*b2) (List.take (64*b2+64) (List.map uv w))=(zap w b2).map uv:=by simp[zap,zCA9,zCN9]
  refine zBr ?_;refine zb2 (zr8 h0 h1 e1 e2 e3 e4 e5 e6) ?_
  by_cases hh:headB (zap w b2)=true
  rotate_left
  .have hh:headB (zap w b2)=false:=by simpa using hh
   rw[zvy hh]at hOf;rw[hh,zDZ9,if_neg zy]at hR;refine zca hOf ?_;unfold lvH;refine zN ?_;refine zGF h10 ?_;refine zgi (fun tm=>tm 8=.ptr 0 0 0 0 2/\tm 10=.ptr 1 0 0 0 2/\tm 12=iv 210) ⟨zu h8,zu h10,by simp[upd]⟩ ?_;clear h8 h10;rintro tm ⟨h8,h10,h12⟩;refine(zcJ (Q:=fun y s'=>y=.norm/\s'.tm 8=.ptr 0 0 0 0 2/\s'.tm 10=.ptr 1 0 0 0 2/\s'.tm 95=.bool true/\s'.df=[]/\∃G2,s'.H=lvH (.agg [.nilsl,.nilsl]) bs ns G2) (zaB ?_) ?_)
   .have g210:¬(210:Int)=0:=by decide
    refine zQF (zr2 h12 g210) ?_;exact⟨h8,h10,G++_,rfl⟩
   rintro y ⟨tm,df,H⟩ ⟨rfl,h8,h10,h95,rfl,G2,rfl⟩;dsimp only at h8 h10 h95;refine zIf h95 ?_;unfold lvH;refine zGF (zr2 h8 h10) ?_;refine zbN ?_;exact zk5 (b:=false) (by simp[upd,h8]) (by simp[upd]) hR.symm
  obtain⟨b12,b2048,bw⟩:=zkW hh;rw[zil _ hh]at hOf;rw[hh,zCB9]at hR;generalize headN (zap w b2)=nd at hOf hR b12 b2048 bw;refine zca hOf ?_;unfold lvH;refine zN ?_;refine zGF h10 ?_;refine zgi (fun tm=>tm 0=wv p w/\tm 1=uv b2/\tm 2=iv lv/\tm 3=.list r 1 (sR.map fun(b:Nat)=>iv (b:Int))/\tm 8=.ptr 0 0 0 0 2/\tm 10=.ptr 1 0 0 0 2/\tm 11=.ptr (G.length+1+1+1+1) 0 0 0 6/\tm 12=iv 0/\tm 13=iv ((ns.length:Int)-1)) ⟨zu h0,zu h1,zu h2,zu h3,zu h8,zu h10,zt,zt,by simp[upd]⟩ ?_;clear h0 h1 h2 h3 h8 h10 h32;rintro tm ⟨h0,h1,h2,h3,h8,h10,h11,h12,h13⟩;refine(zcJ (Q:=fun y s'=>y=.norm/\s'.tm 0=wv p w/\s'.tm 1=uv b2/\s'.tm 2=iv lv/\s'.tm 3=.list r 1 (sR.map fun(b:Nat)=>iv (b:Int))/\s'.tm 8=.ptr 0 0 0 0 2/\s'.tm 10=.ptr 1 0 0 0 2/\s'.tm 11=.ptr (G.length+1+1+1+1) 0 0 0 6/\s'.tm 95=.bool (!zcy ns nd lv)/\s'.df=[]/\s'.H=lvH (.agg [.nilsl,.nilsl]) bs ns (G++[.row 143 6 0 0 [zbr 0 nd]])) (zaB ?_) ?_)
  .skip
   by_cases g0:(0:Int)<=lv
   .by_cases g1:(nd.level:Int)=lv
    rotate_left
    .have hgo:zcy ns nd lv=false:=by
      rw[zcy]
      cases hh:ns.getLast? with
      | none=>grind
      | some z =>
       grind
     refine zrX (zr7 h2 g0 g1 h11 h12 zyA zyB) ?_;refine zb4 ?_;simp only[go_sem];have hgv:zcy ns nd lv=!true:=(by grind)
     exact⟨h0,h1,h2,h3,h8,h10,h11,by first|(simp[hgv,lvH];done)|(simp[hgv,lvH];omega)⟩
    by_cases hns:ns=[]
    .have hn0:ns.length=0:=by rw[hns];rfl
     have c0:(ns.length:Int)-1<0:=zo;have c1:¬(0:Int)<=(ns.length:Int)-1:=zo
     by_cases hz:nd.low=0
     .have c2:(nd.low:Int)=0:=zo;refine zrX (zhg h2 g0 g1 c0 c1 c2 h11 h12 h13 zyA zyB) ?_;refine zb4 ?_;simp only[go_sem];have hgv:zcy ns nd lv=!false:=(by rw[zcy,hns];grind)
      exact⟨h0,h1,h2,h3,h8,h10,h11,by first|(simp[hgv,lvH];done)|(simp[hgv,lvH];omega)⟩
     .have c2:¬(nd.low:Int)=0:=zo;refine zrX (zh5 h2 g0 g1 c0 c2 h11 h12 h13 zyA zyB) ?_;refine zb4 ?_;simp only[go_sem];have hgv:zcy ns nd lv=!true:=(by rw[zcy,hns];simp[hz])
      exact⟨h0,h1,h2,h3,h8,h10,h11,by first|(simp[hgv,lvH];done)|(simp[hgv,lvH];omega)⟩
    have hnl:0<ns.length:=zCC9.2 hns;obtain⟨z,hz⟩:∃z,ns.getLast?=some z:=by
     cases hh:ns.getLast? with
     | none=>grind
     | some z=>grind
    have hz2:ns[ns.length-1]?=some z:=by rw[<- zCF9];exact hz
    have hzv:(ns.map (zbr 0))[ns.length-1]?=some (zbr 0 z):=zmg hz2;have hzl:=hlvs z (zAI9 hz2);have d0:(ns.length:Int)-1=((ns.length-1:Nat):Int):=zo;have d1:¬((ns.length-1:Nat):Int)<0:=zo;have d2:(0:Int)<=((ns.length-1:Nat):Int):=zo;have d3:ns.length-1<ns.length:=zo;have hgo:zcy ns nd lv=(decide (z.low<nd.low)&&decide (nd.level=z.level)):=by rw[zcy,hz]
    by_cases b1:z.low<nd.low
    rotate_left
    .have d4:(nd.low:Int)<=z.low:=zo;refine zrX (zef h2 g0 g1 d0 d1 d2 d3 d4 hzv h10 h11 (zr4 h12 h13 zyA zyB)) ?_;refine zb4 ?_;simp only[go_sem];have hgv:zcy ns nd lv=!true:=(by grind)
     exact⟨h0,h1,h2,h3,h8,h10,h11,by first|(simp[hgv,lvH];done)|(simp[hgv,lvH];omega)⟩
    have d4:¬(nd.low:Int)<=z.low:=zo
    by_cases b2':nd.level=z.level
    .have d5:(z.level:Int)=nd.level:=zo;refine zrX (zef h2 g0 g1 d0 d1 d2 d3 d4 d5 hzv h10 (zr5 h11 h12 h13 zyA zyB)) ?_;refine zb4 ?_;simp only[go_sem];have hgv:zcy ns nd lv=!false:=(by grind)
     exact⟨h0,h1,h2,h3,h8,h10,h11,by first|(simp[hgv,lvH];done)|(simp[hgv,lvH];omega)⟩
    .have d5:¬(z.level:Int)=nd.level:=zo;refine zrX (zef h2 g0 g1 d0 d1 d2 d3 d4 hzv h10 h11 (zr4 h12 h13 zyA zyB)) ?_;refine zb4 ?_;simp only[go_sem];omega
   .have g0:¬(0:Int)<=lv:=g0
    by_cases hns:ns=[]
    .have hn0:ns.length=0:=by rw[hns];rfl
     have c0:(ns.length:Int)-1<0:=zo;have c1:¬(0:Int)<=(ns.length:Int)-1:=zo
     by_cases hz:nd.low=0
     .have c2:(nd.low:Int)=0:=zo;refine zrX (zh5 h2 g0 c0 c1 c2 h11 h12 h13 zyA zyB) ?_;refine zb4 ?_;simp only[go_sem];have hgv:zcy ns nd lv=!false:=(by rw[zcy,hns];grind)
      exact⟨h0,h1,h2,h3,h8,h10,h11,by first|(simp[hgv,lvH];done)|(simp[hgv,lvH];omega)⟩
     .have c2:¬(nd.low:Int)=0:=zo;refine zrX (zr9 h2 g0 c0 c2 h11 h12 h13 zyA zyB) ?_;refine zb4 ?_;simp only[go_sem];have hgv:zcy ns nd lv=!true:=(by rw[zcy,hns];simp[hz])
      exact⟨h0,h1,h2,h3,h8,h10,h11,by first|(simp[hgv,lvH];done)|(simp[hgv,lvH];omega)⟩
    have hnl:0<ns.length:=zCC9.2 hns;obtain⟨z,hz⟩:∃z,ns.getLast?=some z:=by
     cases hh:ns.getLast? with
     | none=>grind
     | some z=>grind
    have hz2:ns[ns.length-1]?=some z:=by rw[<- zCF9];exact hz
    have hzv:(ns.map (zbr 0))[ns.length-1]?=some (zbr 0 z):=zmg hz2;have hzl:=hlvs z (zAI9 hz2);have d0:(ns.length:Int)-1=((ns.length-1:Nat):Int):=zo;have d1:¬((ns.length-1:Nat):Int)<0:=zo;have d2:(0:Int)<=((ns.length-1:Nat):Int):=zo;have d3:ns.length-1<ns.length:=zo;have hgo:zcy ns nd lv=(decide (z.low<nd.low)&&decide (nd.level=z.level)):=by rw[zcy,hz]
    by_cases b1:z.low<nd.low
    rotate_left
    .have d4:(nd.low:Int)<=z.low:=zo;refine zrX (zef h2 g0 d0 d1 d2 d3 d4 hzv h10 h11 h12 (zr3 h13 zyA zyB)) ?_;refine zb4 ?_;simp only[go_sem];have hgv:zcy ns nd lv=!true:=(by grind)
     exact⟨h0,h1,h2,h3,h8,h10,h11,by first|(simp[hgv,lvH];done)|(simp[hgv,lvH];omega)⟩
    have d4:¬(nd.low:Int)<=z.low:=zo
    by_cases b2':nd.level=z.level
    .have d5:(z.level:Int)=nd.level:=zo;refine zrX (zef h2 g0 d0 d1 d2 d3 d4 d5 hzv h10 h11 (zr4 h12 h13 zyA zyB)) ?_;refine zb4 ?_;simp only[go_sem];have hgv:zcy ns nd lv=!false:=(by grind)
     exact⟨h0,h1,h2,h3,h8,h10,h11,by first|(simp[hgv,lvH];done)|(simp[hgv,lvH];omega)⟩
    .have d5:¬(z.level:Int)=nd.level:=zo;refine zrX (zef h2 g0 d0 d1 d2 d3 d4 d5 hzv h10 h11 (zr4 h12 h13 zyA zyB)) ?_;refine zb4 ?_;simp only[go_sem];have hgv:zcy ns nd lv=!true:=(by grind)
     exact⟨h0,h1,h2,h3,h8,h10,h11,by first|(simp[hgv,lvH];done)|(simp[hgv,lvH];omega)⟩
  clear h0 h1 h2 h3 h8 h10 h11 h12 h13;rintro y ⟨tm,df,H⟩ ⟨rfl,h0,h1,h2,h3,h8,h10,h11,h95,rfl,rfl⟩;dsimp only at *
  by_cases hg:zcy ns nd lv=true
  rotate_left
  .have hg:zcy ns nd lv=false:=by simpa using hg
   rw[hg]at hR h95;rw[if_neg zy]at hR;refine zIf h95 ?_;unfold lvH;refine zGF (zr2 h8 h10) ?_;refine zbN ?_;exact zk5 (b:=false) (by simp[upd,h8]) (by simp[upd]) hR.symm
  rw[hg]at hR h95;rw[if_pos rfl]at hR;refine zHF h95 ?_;unfold lvH;have hba:(bs.length+1)*9<=140737488355328:=zo;have hbb:(ns.length+1)*65<=140737488355328:=zo;have w1:IntKind.i64.wrap (b2:Int)=(b2:Int):=zwi;refine zBd ?_;refine zH5 (zef h1 h10 h11 w1 hba hbb zcC zcE zcF zcD zyA zyB) ?_;refine zH5 (zr5 h10 hbb zcC zyA zyB) ?_;refine zH5 (zr2 zcF zyB) ?_;refine zH5 (zef h10 h1 h11 w1 hba hbb zcC zcE zcF zcD zyB zyA) ?_;refine zH6 (zef h1 h10 h11 w1 hba hbb zcC zcE zcF zcD zyB zyA) ?_;refine zb4 ?_;simp only[go_sem];refine zB ?_;refine zGM (zr2 h11 zyA) ?_;refine zcr ?_;refine⟨_,?m,m',b2::S,bs++[b2],ns++[nd],nd.sib,?G,rfl,?hu,hR,?b1,?b2,?sx,?lev,?nb,zu h0,zt,zu h2,zu h3,zu h8,zu h10,zt,?H⟩
  case m=>omega
  case hu=>have:=zkp _ _ _ hbl hbs;omega
  case b1=>grind
  case b2=>grind
  case sx=>intro x;simp[hS x];constructor<;>(intro h;grind)
  case nb=>omega
  case lev =>
   intro n hn;rcases zBG9.1 hn with hn|hn
   .grind
   .obtain rfl:=zBI9.1 hn;rw[zcy]at hg
    cases hh:ns.getLast? with
    | none=>grind
    | some z=>rw[hh]at hg;grind
  case H =>
   simp only[zAB9,zAG9,zAN9,zBS9,zBE9,zBY9,zBD9];rfl


def zfY(w:LN):Nat->LN->LD->Nat->Int->LD×Bool
 | 0,_,_,_,_=>([],false)
 | d+1,seen,acc,b,lv=>match zb5 w lv (w.length/64) seen [] [] b with
  | none=>([],false)
  | some (_,_,[])=>([],false)
  | some (seen',bs,n::ns)=>if n.level=0 then(acc++[(bs,n::ns)],zbV (levP (n::ns)))else zfY w d seen' (acc++[(bs,n::ns)]) n.left ((n.level:Int)-1)
def zcS(w:LN)(a:Nat):LD×Bool:=zfY w 14 [] [] (w.getD a 0) (-1)
theorem zvT:∀(d:Nat) (seen:LN) (acc:LD) (b:Nat) (lv:Int),(zfY w d seen acc b lv).2=(zcb w d seen acc b lv).2/\((zfY w d seen acc b lv).2=true->(zfY w d seen acc b lv).1=(zcb w d seen acc b lv).1)
 | 0,seen,acc,b,lv=>⟨rfl,fun h=>by cases h⟩
 | d+1,seen,acc,b,lv=>by
  rw[zfY,zcb]
  cases hr:zb5 w lv (w.length/64) seen [] [] b with
  | none=>grind
  | some r =>
   obtain⟨s',bs,ns⟩:=r
   cases ns with
   | nil=>grind
   | cons n ns =>
    simp only
    by_cases hl:n.level=0
    .grind
    .rw[if_neg hl,if_neg hl];exact zvT d _ _ _ _
theorem zgc(w:LN)(a:Nat):(zcS w a).2=(zaL w a).2/\((zaL w a).2=true->(zcS w a).1=(zaL w a).1):=by
 have:=zvT (w:=w) 14 [] [] (w.getD a 0) (-1);exact⟨this.1,fun h=>this.2 (by rw[this.1];exact h)⟩
theorem zCc{T:LD}:∀v∈(T.map fun L=>zb9 0 0 L.1 L.2).flatMap PV.cells,Id0 v:=fun v hv=>by
 obtain⟨y,hy,hv⟩:=zAU9.1 hv;obtain⟨L,_,rfl⟩:=zAH9.1 hy;simp[PV.cells]at hv;rcases hv with rfl|rfl<;>exact .list _ _ _
theorem ziN:∀(k:Nat) (seen bs:LN) (ns:LB) (b:Nat) (r:LN×LN×LB),zb5 w lv k seen bs ns b=some r->∃X,r.2.1=bs++X/\r.1=X.reverse++seen/\X.Nodup/\∀x∈X,x ∉ seen/\x≠0
 | 0,seen,bs,ns,b,r,h=>by
  rw[zb5]at h
  split at h
  .cases h;simp_all
  grind
 | k+1,seen,bs,ns,b,r,h=>by
  rw[zb5]at h
  split at h
  .cases h;simp_all
  rename_i hb0
  split at h
  .cases h
  rename_i hbad
  split at h
  rotate_left
  .cases h
  obtain⟨X,h1,h2,h3,h4⟩:=ziN k _ _ _ _ r h;have hbs:b ∉ seen:=fun hm=>hbad (by simp[hm]);refine⟨b::X,by rw[h1];simp,by rw[h2];simp,zEX9.2 ⟨fun hm=>(h4 b hm).1 (zAR9 ..),h3⟩,fun x hx=>?_⟩;rcases zBA9.1 hx with rfl|hx
  all_goals grind
theorem zg3(w:LN)(hw:64<=w.length/\w.length<=131072)(a:Nat)(ha:a<w.length):FR 82 [wv p w,iv a] (.tuple [zcB (zcS w a).1,.bool (zcS w a).2]):=by
 refine zfn (eG T82 func82) (Lb.two (zoq _) (.bool _)) ?_;have hwa:=zd8 ha;unfold zcS;generalize w.getD a 0=b0 at *
 obtain⟨R,hR⟩:∃R,zfY w 14 [] [] b0 (-1)=R:=⟨_,rfl⟩
 rw[hR];refine zGF (zr2 hwa ha) ?_;refine zcL 163 2 (i:=6) rfl ?_;refine zcL 3 1 (i:=7) rfl ?_;simp only[lzy,zAG9,zAN9,zBS9,zAS9,zAV9];refine ze (zbk (fun m s=>∃(d:Nat) (seen:LN) (acc:LD) (b:Nat) (lv:Int) (sR:LN) (g:Nat) (G:LP),m=d/\d<=14/\((0<=lv/\lv+1<=d)\/14<=d)/\zfY w d seen acc b lv=R/\(∀x,x∈sR↔x∈seen)/\acc.length+d=14/\sR.length<=2048*acc.length/\s.tm 0=wv p w/\s.tm 6=.sl 0 acc.length 0 acc.length (2*acc.length) 2/\s.tm 7=.sl 1 g 0 sR.length (2*sR.length) 1/\s.tm 8=uv b/\s.tm 9=iv lv/\s.tm 10=iv ((14-d:Nat):Int)/\s.df=[]/\s.H=.row 163 2 acc.length 0 (acc.map fun L=>zb9 0 0 L.1 L.2)::.row 3 1 g 0 (sR.map fun(b:Nat)=>iv (b:Int))::G) (n:=14) ?_ ?_)
 .exact⟨14,[],[],b0,-1,[],0,[],rfl,zAE9 _,.inr (zAE9 _),hR,fun x=>Iff.rfl,rfl,zAJ9 _,zt,zt,zt,zt,zt,zt,rfl,rfl⟩
 .clear hR;rintro m ⟨tm,df,H⟩ ⟨d,seen,acc,b,lv,sR,g,G,rfl,hd14,hd,hR,hS,had,hsl,h0,h6,h7,h8,h9,h10,rfl,rfl⟩;dsimp only at *
  obtain⟨d,rfl⟩:∃e,m=e+1:=⟨m-1,by omega⟩
  have g10:((14-(d+1):Nat):Int)<20:=zo;refine zLh (zr2 h10 g10) ?_ ?_;rotate_left
  .intro h;cases h
  intro _;refine zBb ?_;have hc:=zzc p 1 w hw b lv sR seen hS zo _ rfl;rw[zfY]at hR;have fz:Frz (.row 163 2 acc.length 0 (acc.map fun L=>zb9 0 0 L.1 L.2)::.row 3 1 g 0 (sR.map fun(b:Nat)=>iv (b:Int))::G) 1 (.sl 1 g 0 sR.length (2*sR.length) 1) (.list 1 1 (sR.map fun(b:Nat)=>iv (b:Int))) :=
   Frz.wh (e:=3) (z':=1) (l:=sR.map fun(b:Nat)=>iv (b:Int)) rfl rfl (by simp) (by simp) zmm zhn
  cases hr:zb5 w lv (w.length/64) seen [] [] b with
  | none =>
   rw[hr]at hR;have hf:=ztJ _ _ _ _ _ hr;generalize zhJ w lv (w.length/64) seen [] [] b=R0 at hc hf;rw[hf]at hc;refine zBr ?_;refine zb2 (zr4 h0 h7 h8 h9) ?_;refine zcm hc ?_ ?_
   .exact fz
   refine zN ?_;refine zS ?_;refine zO ?_;rw[<- hR];exact zLF
  | some r =>
   obtain⟨s',bs,ns⟩:=r;rw[hr]at hR;rw[ztu _ _ _ _ _ hr]at hc;obtain⟨X,x1,x2,x3,x4⟩:=ziN _ _ _ _ _ _ hr;obtain⟨hF,hfst,hbl⟩:=zgO (N:=2048) _ _ _ _ _ _ hr (LvF.nil w) (fun n hn=>by grind) (by grind);dsimp only at x1 x2 hF hfst hbl hc;rw[zAV9]at x1;subst x1
   cases ns with
   | nil =>
    simp only[List.isEmpty_nil,Bool.not_true]at hc;refine zBr ?_;refine zb2 (zr4 h0 h7 h8 h9) ?_;refine zcm hc ?_ ?_
    .exact fz
    refine zN ?_;refine zS ?_;refine zO ?_;rw[<- hR];exact zLF
   | cons nd ns =>
    simp only[List.isEmpty_cons,Bool.not_false]at hc;simp only at hR;have hlen:=hF.len;obtain⟨hpp,b12,b2048⟩:=hF.node (zAR9 ..);have hfl:=hfst nd rfl;refine zBr ?_;refine zb2 (zr4 h0 h7 h8 h9) ?_;refine zcm hc ?_ ?_
    .exact fz
    refine zN ?_;refine zT ?_;refine zSk ?_;have hba:(acc.length+1)*49<=140737488355328:=zo;have hbb:(sR.length+bs.length)*9<=140737488355328:=zo;refine zBd ?_;have hXne:¬bs.length=0:=by rw[hlen];simp
    refine zH5 (zhg h6 h7 hba hXne hbb zcC zcE zcF zcD zyA zyB) ?_;refine zH5 (zr3 hXne hbb zyB) ?_;refine zH6 (zh5 h6 h7 hba hbb zcC zcE zcF zcD zyB zyA) ?_;refine zb4 ?_;simp only[go_sem];have hg0:(List.map (zbr 0) (nd::ns))[0]?=some (zbr 0 nd):=rfl;have hi0:0<(nd::ns).length:=zCU9 _;generalize hNS:nd::ns=NS at *
    have hll:=zhl NS fun n hn=>(hF.node hn).1;have hfew:NS.length<=2048:=zo
    by_cases hlv:nd.level=0
    .have g1:(nd.level:Int)-1<0:=zo;rw[if_pos hlv]at hR;(repeat(first|refine zHW ?_|refine zbj (zr3 hg0 g1 zyA) ?_));refine zct ?_;have hlp:=zlV 0 0 bs NS zo (fun n hn=>(hF.node hn).1) zo;unfold zic at hlp;have fzL:∀(G:LP),Frz (.row 163 2 (acc.length+1) 0 ((acc.map fun L=>zb9 0 0 L.1 L.2)++[zb9 0 0 bs NS])::G) 0 (.sl 0 (acc.length+1) 0 (acc.length+1) (2*(acc.length+1)) 2) (zcB (acc++[(bs,NS)])):=fun G=>by
      have e:(acc.map fun L=>zb9 0 0 L.1 L.2)++[zb9 0 0 bs NS]=(acc++[(bs,NS)]).map fun L=>zb9 0 0 L.1 L.2:=by simp
      rw[e];exact Frz.wh rfl rfl (by simp) (by simp) zmm zCc
     by_cases hri:zbV (levP NS)=true
     .rw[if_pos hri]at hlp;refine zBr ?_;refine zb2 zyA ?_;refine zCN hlp ?_;refine zOF h6 ?_;rw[<- hR,hri];exact Frz.tL ⟨fzL _,.bool _,trivial⟩
     .rw[if_neg hri]at hlp;refine zBr ?_;refine zb2 zyA ?_;refine zCN hlp ?_;refine zOF h6 ?_;rw[<- hR,show zbV (levP NS)=false by grind];exact Frz.tL ⟨fzL _,.bool _,trivial⟩
    .have g1:¬(nd.level:Int)-1<0:=zo;rw[if_neg hlv]at hR;(repeat(first|refine zHW ?_|refine zbj (zr3 hg0 g1 zyA) ?_));refine zcf ?_;refine zSk ?_;refine zB ?_;refine zGM (zr2 hg0 zyA) ?_;refine zcr ?_;have e14:((14-(d+1):Nat):Int)+1=((14-d:Nat):Int):=zo;refine zJF (zr2 h10 e14) ?_;refine⟨d,zCS9 _,d,s',acc++[(bs,NS)],nd.left,(nd.level:Int)-1,sR++bs,g+1,?G,rfl,?c1,?c2,hR,?c3,?c4,?c5,zu h0,zt,zt,zt,zt,zu h10,zt,?H⟩
     case c1=>omega
     case c2=>omega
     case c3=>intro x;rw[x2];simp[hS x,or_comm]
     case c4=>grind
     case c5=>grind
     case H=>simp only[zAB9,zAG9,zAN9,zBS9,zBE9,zBY9,zBD9];rfl


section mid2
variable {α:Type}
variable (G G2 l:List α)(a b c:α)
theorem gb0:(G++a::(G2++b::l))[G.length+(G2.length+1)]?=some b:=by grind
theorem gb1:(G++a::(G2++b::c::l))[G.length+(G2.length+1)+1]?=some c:=by grind
theorem zyX:(G++a::(G2++b::c::l))[G.length+(G2.length+1+1)]?=some c:=gb1 G G2 l a b c
end mid2
variable (p:Nat)(w:LN)
@[reducible] def kP (K:LJ):LQ:=K.map fun x=>uv x.2
@[reducible] def kL (K:LJ):LQ:=K.map fun x=>uv x.1
def chH(z:PV)(K:LJ)(G:LP):LP:=.row 163 2 0 0 [z]::.row 29 1 K.length 0 (kP K)::.row 29 1 K.length 0 (kL K)::G
theorem ztT(q:Nat)(bs:LN)(L:LB)(hl:L.length<=3000)(hp:∀n∈L,n.pairs.length<=28):FR 215 [zb9 p q bs L] (.tuple [.list 0 1 (kP (L.flatMap zdF)),.list 0 1 (kL (L.flatMap zdF))]):=by
 have lbk:∀(f:Pr->Nat) (K:LJ),Lb (.list 0 1 (K.map fun x=>uv (f x))):=fun f K=>by
  have:(K.map fun x=>uv (f x))=(K.map f).map uv:=by rw[zDH9];rfl
  rw[this];exact Lb.uvs _
 refine zfn (eG T215 func215) (Lb.two (lbk _ _) (lbk _ _)) ?_;refine zG ?_;refine zcL 29 1 (i:=4) rfl ?_;refine zcL 29 1 (i:=5) rfl ?_;simp only[lzy,zAG9,zAN9,zBS9,zAS9,zAV9];refine zG ?_;refine ze (zbk (fun m s=>∃(i:Nat) (K:LJ) (G:LP),m=L.length-i/\i<=L.length/\K=(L.take i).flatMap zdF/\s.tm 1=.ptr 0 0 0 0 2/\s.tm 4=.sl 1 K.length 0 K.length (2*K.length) 1/\s.tm 5=.sl 2 K.length 0 K.length (2*K.length) 1/\s.tm 6=iv i/\s.df=[]/\s.H=chH (zb9 p q bs L) K G) (n:=L.length) ?_ ?_)
 .exact⟨0,[],[],rfl,by omega,rfl,zt,zt,zt,zt,rfl,rfl⟩
 .rintro m ⟨tm,df,H⟩ ⟨i,K,G,rfl,hi,hK,h1,h4,h5,h6,rfl,rfl⟩;dsimp only at *
  unfold chH;refine zLh (zr2 h1 h6) ?_ ?_;rotate_left
  .intro hlt;have hlt:¬i<L.length:=zfd hlt;obtain rfl:i=L.length:=zo;rw[zBF9]at hK;refine zOF (zr2 h4 h5) ?_;rw[<- hK];have fk:∀(f:Pr->Nat),∀v∈(K.map fun x=>uv (f x)).flatMap PV.cells,Id0 v:=fun f v hv=>by
    obtain⟨y,hy,hv⟩:=zAU9.1 hv;obtain⟨x,_,rfl⟩:=zAH9.1 hy;simp[PV.cells]at hv;subst hv;exact .int _ _
   refine Frz.tL ⟨?_,?_,trivial⟩
   .exact Frz.wh (l:=kP K) rfl rfl (by simp) (by simp) zmm (fk _)
   .exact Frz.wh (l:=kL K) rfl rfl (by simp) (by simp) zmm (fk _)
  intro hlt;have hlt:i<L.length:=ztd hlt;obtain⟨n,hn⟩:=zex (l:=L) hlt;have hnv:(L.map (zbr q))[i]?=some (zbr q n):=zmg hn;have hp28:=hp n (zAI9 hn);have hK2:(L.take (i+1)).flatMap zdF=(K++[(n.low,n.left)])++n.pairs:=by
   rw[zBB9,hn,zCI9,<- hK];simp[zdF]
  have hKl:K.length<=29*i:=by
   rw[hK];have:∀M:LB,(∀n∈M,n.pairs.length<=28)->(M.flatMap zdF).length<=29*M.length:=fun M=>by
    induction M with
    | nil=>intro _;simp
    | cons z M ih =>
     intro h;have h1:=h z (zAR9 ..);have h2:=ih fun n hn=>h n (zAQ9 _ hn);rw[zBQ9,zAB9,zAG9];simp only[zdF,zAG9];omega
   have:=this (L.take i) fun n hn=>hp n (zBP9 hn);rw[zAT9]at this;omega
  refine zBb ?_;refine zGF (zr4 h1 h6 hnv hlt) ?_;have hbb:(K.length+1)*9<=140737488355328:=zo;refine zBd ?_;refine zH5 (zhg h4 h5 hbb h1 h6 zcC zcE zcF zcD zyA zyB) ?_;refine zH5 (zr3 hbb zyA zyB) ?_;refine zH6 (zhg h1 h4 h5 h6 hbb zcC zcE zcF zcD zyB zyA) ?_;refine zb4 ?_;simp only[go_sem];refine zG ?_;have hKa:K.length+1=(K++[(n.low,n.left)]).length:=by simp
  have hKb:kP K++[uv n.left]=kP (K++[(n.low,n.left)]):=by simp
  have hKc:kL K++[uv n.low]=kL (K++[(n.low,n.left)]):=by simp
  refine ze (zbk (fun m s=>∃(j:Nat) (K2:LJ) (G2:LP),m=n.pairs.length-j/\j<=n.pairs.length/\K2=K++[(n.low,n.left)]++n.pairs.take j/\s.tm 1=.ptr 0 0 0 0 2/\s.tm 4=.sl 1 K2.length 0 K2.length (2*K2.length) 1/\s.tm 5=.sl 2 K2.length 0 K2.length (2*K2.length) 1/\s.tm 6=iv i/\s.tm 7=.ptr (G.length+1+1+1) 0 0 0 6/\s.tm 8=iv j/\s.df=[]/\s.H=chH (zb9 p q bs L) K2 (G++.row 143 6 0 0 [zbr q n]::G2)) (n:=n.pairs.length) ?_ ?_)
  .refine⟨0,K++[(n.low,n.left)],?G0,rfl,zAJ9 _,by simp,zu h1,zt,zt,zu h6,zt,zt,rfl,?H0⟩
   case H0 =>
    unfold chH;rw[<- hKa,<- hKb,<- hKc]
  .clear h1 h4 h5 h6;rintro m ⟨tm,df,H⟩ ⟨j,K2,G2,rfl,hj,hK3,h1,h4,h5,h6,h7,h8,rfl,rfl⟩;dsimp only at *
   have hK2l:K2.length<=100000:=by rw[hK3];simp;omega
   have hbb:(K2.length+1)*9<=140737488355328:=zo;unfold chH;refine zLh (zr3 h7 h8 zyA) ?_ ?_;rotate_left
   .intro hltj;have hltj:¬j<n.pairs.length:=zfd hltj;obtain rfl:j=n.pairs.length:=zo;refine zJF h6 ?_;refine⟨_,?m9,i+1,K2,_,rfl,hlt,by grind,zu h1,zu h4,zu h5,zu h6,rfl,rfl⟩;omega
   intro hltj;have hltj:j<n.pairs.length:=ztd hltj;obtain⟨x,hx⟩:=zex (l:=n.pairs) hltj;have hxv:(n.pairs.map pv)[j]?=some (pv x):=zmg hx;refine zBb ?_;refine zBd ?_;refine zda ?_ (by simp(disch:=omega)only[go_sem,hxv,h7,h8,gb0,h4,h5,hbb,ga0,zAD9,zAB9]<;>rfl) (by first|exact trivial|simp only[go_sem,hxv,hltj,h7,h8,gb0,gb1,zyX,h1,h4,h5,h6,hbb,zcC,zcE,zcF,zcD,ga0,ga1,ga2,zAD9,zAB9]);refine zda ?_ (by simp(disch:=omega)only[go_sem,zyX,hbb,zAB9]<;>rfl) (by first|exact trivial|simp only[go_sem,zAB9]);refine zH6 (zhg h1 h4 h5 h6 hbb zcC zcE zcF zcD zyB zyA) ?_;refine zb4 ?_;simp only[go_sem];refine zJF h8 ?_;refine⟨_,?m8,j+1,K2++[x],?G8,rfl,hltj,?k8,zu h1,zt,zt,zu h6,zu h7,zu h8,zt,?H8⟩
   case m8=>omega
   case k8=>rw[hK3,zBB9,hx];simp
   case H8 =>
    simp only[zAB9,zAG9,zAN9,zBS9,zBE9,zBY9,zBD9];rfl


theorem f151:ET.funcs.get 151=some T151:=eG _ func151
theorem zju(a:Int)(hw:zbQ w.length):FR 81 [wv p w,iv a] (.bool (zci w.length a)):=by
 refine zfn (eG T81 func81) (.bool _) ?_
 by_cases h1:64<=w.length
 rotate_left
 .have g1:¬(64:Int)<=w.length:=zo;refine zOF g1 ?_;exact zbp.bool (by simp[zci,h1])
 have g1:(64:Int)<=w.length:=zo
 by_cases h2:w.length%64=0
 rotate_left
 .have g2:¬(w.length:Int).tmod 64=0:=by rw[IntWalk.rem_in _ _ zo];omega
  refine zOF (zr2 g1 g2) ?_;exact zbp.bool (by simp[zci,h1,h2])
 have g2:(w.length:Int).tmod 64=0:=by rw[IntWalk.rem_in _ _ zo];omega
 by_cases h3:w.length<=131072
 rotate_left
 .have g3:¬(w.length:Int)<=131072:=zo;refine zOF (zr3 g1 g2 g3) ?_;exact zbp.bool (by simp[zci,h1,h2,h3])
 have g3:(w.length:Int)<=131072:=zo
 by_cases h4:(0:Int)<=a
 rotate_left
 .refine zOF (zr4 g1 g2 g3 h4) ?_;exact zbp.bool (by simp[zci,h1,h2,h3,h4])
 refine zOF (zr4 g1 g2 g3 h4) ?_;exact zbp.bool (by simp[zci,h1,h2,h3,h4])
theorem zuu(bs:LN)(ns:LB)(k:Nat)(h:ns.length<=k):zdr w (bs.drop k) (ns.drop k)=true:=by
 rw[zGG9 h]
 cases bs.drop k<;>rfl
theorem zvr(T:LD)(i:Nat)(L:Lev)(hL:T[i]?=some L):zcO w (T.drop i)=(zdr w L.1 L.2&&(match T[i+1]? with|some M=>decide (L.2.flatMap zdF=zd1 M)&&zcO w (T.drop (i+1))|none=>true)):=by
 have hi:=(zAC9.1 hL).1;have e:T.drop i=L::T.drop (i+1):=by
  rw[zAM9 hi];rw[zAA9 hi]at hL;injection hL with hL;rw[hL]
 rw[e]
 cases hM:T[i+1]? with
 | none=>rw[zGG9 (by grind)];simp[zcO]
 | some M =>
  have hi1:=(zAC9.1 hM).1;have e1:T.drop (i+1)=M::T.drop (i+2):=by
   rw[zAM9 hi1];rw[zAA9 hi1]at hM;injection hM with hM;rw[hM]
  rw[e1,zcO,Bool.and_assoc]
def znC(w:LN)(b:Nat)(n:zq)(z:Option zq):Bool:=decide (zbZ (zap w b)=0)&&zez n z
theorem zzC(a:Int)(hw:64<=w.length/\w.length<=131072)(T:LD)(hr:FR 81 [wv p w,iv a] (.bool true))(hl:FR 82 [wv p w,iv a] (.tuple [zcB T,.bool true]))(f1:∀L∈T,zjZ w L)(f3:T ≠ [])(f5:T.length<=14):
  FR 151 [wv p w,iv a] (iv ((if zgh w T=true then 0 else 220:Nat):Int)):=by
 refine zfn f151 (.int _ _) ?_;obtain⟨L0,R,rfl⟩:∃L0 R,T=L0::R:=by
  cases T with
  | nil=>grind
  | cons a l=>grind
 have hT0:(List.map (fun L=>zb9 0 0 L.1 L.2) (L0::R))[0]?=some (zb9 0 0 L0.1 L0.2):=rfl;obtain⟨n0,hn0,hsb⟩:∃n0:zq,(L0.2.map (zbr 0))[0]?=some (zbr 0 n0)/\zv8 (L0::R)=decide (n0.sib=0):=by
  have:=(f1 L0 (zAR9 ..)).ne;obtain⟨bs,ns⟩:=L0
  cases ns with
  | nil=>grind
  | cons n ns=>exact⟨n,rfl,rfl⟩
 have hnl:0<L0.2.length:=zCC9.2 (f1 L0 (zAR9 ..)).ne;have hrl:0<R.length+1:=zCU9 _;refine zMG hr ?_;refine zcf ?_;refine zSk ?_;refine zM hl ?_
 by_cases hsib:n0.sib=0
 rotate_left
 .have g:¬(n0.sib:Int)=0:=zo;refine zSF (zr5 hT0 hn0 hnl hrl g) ?_;refine zO ?_;rw[if_neg (by unfold zgh;grind)];exact Frz.int _ _
 have g:(n0.sib:Int)=0:=zo;refine zTF (zr5 hT0 hn0 hnl hrl g) ?_;refine zSk ?_;refine zG ?_;have hset:zgh w (L0::R)=zcO w (L0::R):=by unfold zgh;rw[hsb,hsib];rfl
 rw[hset];clear hset hsb hT0 hn0 hnl hrl g hsib;have hTpos:0<(L0::R).length:=zCU9 _;have hTl:(L0::R).length=R.length+1:=rfl;generalize L0::R=T at *
 have bad:∀H,zcO w T=false->zbp H 0 (.ret (iv 220)) (.ret (iv ((if zcO w T=true then 0 else 220:Nat):Int))):=fun H h=>by rw[h];exact Frz.int _ _
 have good:zcO w T=true->((if zcO w T=true then 0 else 220:Nat):Int)=0:=fun h=>by grind
 refine ze (zbk (fun m s=>∃(i:Nat) (H:LP),m=T.length-i/\i<T.length/\zcO w T=zcO w (T.drop i)/\s.tm 0=wv p w/\s.tm 5=zcB T/\s.tm 7=iv i/\s.df=[]/\s.H=H) (n:=T.length) ?_ ?_)
 .exact⟨0,_,rfl,hTpos,rfl,zt,zt,zt,rfl,rfl⟩
 .rintro m ⟨tm,df,H⟩ ⟨i,H',rfl,hlt,hls,h0,h5,h7,rfl,rfl⟩;dsimp only at h0 h5 h7;have g7:(i:Int)<(T.length:Nat):=zo;refine zLh (zr3 h5 h7 g7) ?_ ?_;rotate_left
  .intro h;exact absurd h (by grind)
  intro _;obtain⟨L,hL⟩:=zex (l:=T) hlt;have hLT:(T.map fun L=>zb9 0 0 L.1 L.2)[i]?=some (zb9 0 0 L.1 L.2):=zmg hL;have hLF:=f1 L (zAI9 hL);rw[zvr w T i L hL]at hls;have hbl:=hLF.lv.len;have hfew:=hLF.few;refine zBb ?_;refine zB ?_;refine zG ?_;refine ze (zbk (fun m s=>∃(k:Nat) (H:LP),m=L.2.length-k/\k<=L.2.length/\zdr w L.1 L.2=zdr w (L.1.drop k) (L.2.drop k)/\s.tm 0=wv p w/\s.tm 5=zcB T/\s.tm 7=iv i/\s.tm 8=iv k/\s.df=[]/\s.H=H) (n:=L.2.length) ?_ ?_)
  .exact⟨0,_,rfl,zAJ9 _,rfl,zu h0,zu h5,zu h7,zt,rfl,rfl⟩
  clear h0 h5 h7;rintro m ⟨tm,df,H⟩ ⟨k,H',rfl,hk,hns,h0,h5,h7,h8,rfl,rfl⟩;dsimp only at *
  refine zLh (zr5 h5 h7 h8 hLT hlt) ?_ ?_
  .intro hltk;have hltk:k<L.2.length:=ztd hltk;obtain⟨n,hn⟩:=zex (l:=L.2) hltk;obtain⟨b,hb⟩:∃b,L.1[k]?=some b:=⟨_,zAA9 zo⟩
   have hnv:(L.2.map (zbr 0))[k]?=some (zbr 0 n):=zmg hn;have hbv:(L.1.map fun(b:Nat)=>iv (b:Int))[k]?=some (iv b):=zmg hb;have hltb:k<L.1.length:=zo;have hbb:=(hLF.lv.each b (zAI9 hb)).1;rw[zmA w L.1 L.2 k b n hb hn]at hns;have w1:IntKind.i64.wrap ((64:Int)*(b:Int))=((64*b:Nat):Int):=zwi;refine zBb ?_;refine zGF (zh5 h5 h7 h8 hLT hlt hnv hbv hltk hltb w1) ?_;have e2:((64*b:Nat):Int)+64=((64*b+64:Nat):Int):=zo;have e3:64*b<=64*b+64:=zo;have e4:64*b+64<=w.length:=zo;have e6:0<w.length:=zo;have e5:List.drop (64*b) (List.take (64*b+64) (List.map uv w))=(zap w b).map uv:=by simp[zap,zCA9,zCN9]
   have hC:=zmo p (zap w b) (by unfold zap zbQ;simp;omega);refine zgi (fun tm=>tm 0=wv p w/\tm 5=zcB T/\tm 7=iv i/\tm 8=iv k/\tm 9=iv (64*b:Nat)/\tm 10=psv 0 n.pairs) ⟨zu h0,zu h5,zu h7,zu h8,zt,by simp[upd]⟩ ?_;clear h0 h5 h7 h8;rintro tm ⟨h0,h5,h7,h8,h9,h10⟩;refine zcJ (Q:=fun y s'=>y=.norm/\s'.tm 0=wv p w/\s'.tm 5=zcB T/\s'.tm 7=iv i/\s'.tm 8=iv k/\s'.tm 112=.bool (!znC w b n L.2[k+1]?)/\s'.df=[]) (zaB ?_) ?_
   .have e1:(k:Int)+1=((k+1:Nat):Int):=zo;unfold znC;generalize zbZ (zap w b)=c at *
    refine zcu (zr7 h9 h0 e2 e3 e4 e5 e6) hC ?_
    by_cases hc:c=0
    rotate_left
    .have gc:¬(c:Int)=0:=zo;refine zQF gc ?_
     grind
    have gc:(c:Int)=0:=zo;rw[decide_eq_true hc,zCB9]
    by_cases hk1:k+1<L.2.length
    rotate_left
    .have g1:¬((k+1:Nat):Int)<(L.2.length:Nat):=zo;have hz:L.2[k+1]?=none:=zBL9 zo;refine zQF (zhg gc g1 h0 h5 h7 h8 h9 h10 e1 hLT hlt) ?_;exact⟨h0,h5,h7,h8,by rw[hz];unfold zez;grind⟩
    have g1:((k+1:Nat):Int)<(L.2.length:Nat):=zo;obtain⟨z,hz⟩:∃z,L.2[k+1]?=some z:=⟨_,zAA9 hk1⟩
    have hzv:(L.2.map (zbr 0))[k+1]?=some (zbr 0 z):=zmg hz;rw[hz]
    by_cases hp0:n.pairs=[]
    .have g2:¬(0:Int)<(n.pairs.length:Nat):=by rw[hp0];simp
     refine zQF (zef gc g1 g2 h0 h5 h7 h8 h9 h10 e1 hLT hlt) ?_;have hll:zez n (some z)=true:=by unfold zez;rw[hp0];rfl
     grind
    have hn28:=(hLF.lv.node (zAI9 hn)).1;have hpl:0<n.pairs.length:=zCC9.2 hp0;have g2:(0:Int)<(n.pairs.length:Nat):=zo;obtain⟨q,hq⟩:∃q,n.pairs.getLast?=some q:=by
     cases hh:n.pairs.getLast? with
     | none=>rw[List.getLast?_eq_none_iff]at hh;grind
     | some q=>grind
    have hq2:n.pairs[n.pairs.length-1]?=some q:=by rw[<- zCF9];exact hq
    have hqv:(n.pairs.map pv)[n.pairs.length-1]?=some (pv q):=zmg hq2;have g3:(n.pairs.length:Int)-1=((n.pairs.length-1:Nat):Int):=zo;have g4:n.pairs.length-1<n.pairs.length:=zo;have hll:zez n (some z)=decide (q.1<z.low):=by unfold zez;rw[hq]
    rw[hll]
    by_cases hqz:q.1<z.low
    .have g5:¬(z.low:Int)<=q.1:=zo;refine zQF (zef gc g1 g2 g3 g4 g5 hk1 hzv hqv h0 h5 (zr7 h7 h8 h9 h10 e1 hLT hlt)) ?_
     grind
    .have g5:(z.low:Int)<=q.1:=zo;refine zQF (zef gc g1 g2 g3 g4 g5 hk1 hzv hqv h0 h5 (zr7 h7 h8 h9 h10 e1 hLT hlt)) ?_
     grind
   clear h0 h5 h7 h8 h9 h10;rintro y ⟨tm,df,H⟩ ⟨rfl,h0,h5,h7,h8,h112,rfl⟩;dsimp only at *
   cases hok:znC w b n L.2[k+1]? with
   | false =>
    rw[hok]at h112;refine zIf h112 ?_;refine zO ?_;exact bad _ (by rw[hls,hns];unfold znC at hok;grind)
   | true =>
    rw[hok]at h112;refine zIg h112 ?_;refine zr ?_;refine zJF h8 ?_;unfold znC at hok;refine⟨_,?m1,k+1,_,rfl,hltk,by rw[hns,hok,zCB9],zu h0,zu h5,zu h7,zu h8,rfl,rfl⟩;omega
  .intro hltk;have hltk:¬k<L.2.length:=zfd hltk;rw[zuu w L.1 L.2 k zo]at hns;rw[hns,zCB9]at hls;have gT:(T.length:Int)-1=((T.length-1:Nat):Int):=zo
   by_cases hi1:i+1<T.length
   rotate_left
   .have g1:(i:Int)=((T.length-1:Nat):Int):=zo;have hM:T[i+1]?=none:=zBL9 zo;rw[hM]at hls;refine zSF (zr4 h5 h7 gT g1) ?_;refine zh9 ?_;refine zO ?_;rw[good hls];exact Frz.int _ _
   have g1:¬(i:Int)=((T.length-1:Nat):Int):=zo;obtain⟨M,hM⟩:∃M,T[i+1]?=some M:=⟨_,zAA9 hi1⟩
   rw[hM]at hls;dsimp only at hls;have hMT:(T.map fun L=>zb9 0 0 L.1 L.2)[i+1]?=some (zb9 0 0 M.1 M.2):=zmg hM;have hMF:=f1 M (zAI9 hM);have hml:=hMF.lv.len;have hMfew:=hMF.few;have hch:=ztT 0 0 L.1 L.2 zo fun n hn=>(hLF.lv.node hn).1;generalize L.2.flatMap zdF=K at *
   have e1:(i:Int)+1=((i+1:Nat):Int):=zo;refine zTF (zr4 h5 h7 gT g1) ?_;refine zSk ?_;refine zBr ?_;refine zb2 (zr4 h5 h7 hLT hlt) ?_;refine zCN hch ?_;have hlow:(zd1 M).length=M.2.length:=by unfold zd1;simp[hml]
   by_cases hKl:K.length=M.2.length
   rotate_left
   .have g2:¬(K.length:Int)=(M.2.length:Nat):=zo;refine zSF (zr6 h5 h7 e1 hMT hi1 g2) ?_;refine zO ?_;refine bad _ ?_
    grind
   have g2:(K.length:Int)=(M.2.length:Nat):=zo;refine zTF (zr6 h5 h7 e1 hMT hi1 g2) ?_;refine zSk ?_;refine zG ?_;refine ze (zbk (fun m s=>∃(j:Nat) (H:LP),m=K.length-j/\j<=K.length/\(∀q,q<j->K[q]?=(zd1 M)[q]?)/\s.tm 0=wv p w/\s.tm 5=zcB T/\s.tm 7=iv i/\s.tm 11=.list 0 1 (kP K)/\s.tm 12=.list 0 1 (kL K)/\s.tm 13=iv j/\s.df=[]/\s.H=H) (n:=K.length) ?_ ?_)
   .exact⟨0,_,rfl,zAJ9 _,fun q hq=>absurd hq (Nat.not_lt_zero _),zu h0,zu h5,zu h7,zt,zt,zt,rfl,rfl⟩
   clear h0 h5 h7 h8 hns hch;rintro m ⟨tm,df,H⟩ ⟨j,H',rfl,hj,hsame,h0,h5,h7,h11,h12,h13,rfl,rfl⟩;dsimp only at *
   refine zLh (zr2 h11 h13) ?_ ?_;rotate_left
   .intro hltj;have hltj:¬j<K.length:=zfd hltj;have hKM:K=zd1 M:=zDU9 fun q=>by
     grind
    rw[decide_eq_true hKM,zCB9]at hls;refine zJF (zr2 h7 e1) ?_;refine⟨_,?m2,i+1,_,rfl,hi1,hls,zu h0,zu h5,zu h7,rfl,rfl⟩;omega
   intro hltj;have hltj:j<K.length:=ztd hltj;obtain⟨x,hx⟩:=zex (l:=K) hltj;obtain⟨z,hz⟩:∃z,M.2[j]?=some z:=⟨_,zAA9 zo⟩
   obtain⟨b,hb0⟩:∃b,M.1[j]?=some b:=⟨_,zAA9 zo⟩
   have hKv:(kP K)[j]?=some (uv x.2):=by rw[zAF9,hx];rfl
   have hLv:(kL K)[j]?=some (uv x.1):=by rw[zAF9,hx];rfl
   have hzv:(M.2.map (zbr 0))[j]?=some (zbr 0 z):=zmg hz;have hbv:(M.1.map fun(b:Nat)=>iv (b:Int))[j]?=some (iv b):=zmg hb0;have hb:j<M.1.length:=zo;have hzl:j<M.2.length:=zo;have hbb:=(hMF.lv.each b (zAI9 hb0)).1;have w1:IntKind.u64.wrap (b:Int)=(b:Int):=zwu;have hlj:(zd1 M)[j]?=some (z.low,b):=by unfold zd1;rw[zDW9];exact⟨by rw[zAF9,hz];rfl,hb0⟩
   have hKf:¬x=(z.low,b)->zcO w T=false:=fun h=>by
    grind
   refine zBb ?_;refine zHW (zcJ (Q:=fun y s'=>y=.norm/\s'.tm 0=wv p w/\s'.tm 5=zcB T/\s'.tm 7=iv i/\s'.tm 11=.list 0 1 (kP K)/\s'.tm 12=.list 0 1 (kL K)/\s'.tm 13=iv j/\s'.tm 173=.bool (!decide (x=(z.low,b)))/\s'.df=[]) (zaB ?_) ?_)
   .by_cases c1:x.2=b
    rotate_left
    .have d1:¬(x.2:Int)=b:=zo;refine zQF (zef d1 h5 h7 h11 h12 h13 e1 hMT hi1 hKv hLv (zr4 hltj hbv hb w1)) ?_;exact⟨h0,h5,h7,h11,h12,h13,by rw[decide_eq_false (fun e=>c1 (by rw[e]))];rfl⟩
    have d1:(x.2:Int)=b:=zo
    by_cases c2:x.1=z.low
    rotate_left
    .have d2:¬(x.1:Int)=z.low:=zo;refine zQF (zef d1 d2 hzv hzl h5 h7 h11 h12 h13 e1 hMT (zr7 hi1 hKv hLv hltj hbv hb w1)) ?_;exact⟨h0,h5,h7,h11,h12,h13,by rw[decide_eq_false (fun e=>c2 (by rw[e]))];rfl⟩
    have d2:(x.1:Int)=z.low:=zo;refine zQF (zef d1 d2 hzv hzl h5 h7 h11 h12 h13 e1 hMT (zr7 hi1 hKv hLv hltj hbv hb w1)) ?_
    grind
   clear h0 h5 h7 h11 h12 h13;rintro y ⟨tm,df,H⟩ ⟨rfl,h0,h5,h7,h11,h12,h13,h173,rfl⟩;dsimp only at *
   by_cases hxe:x=(z.low,b)
   rotate_left
   .rw[decide_eq_false hxe]at h173;refine zIf h173 ?_;refine zO ?_;exact bad _ (hKf hxe)
   rw[decide_eq_true hxe]at h173;refine zIg h173 ?_;refine zr ?_;refine zJF h13 ?_;refine⟨_,?m3,j+1,_,rfl,hltj,fun q hq=>?q3,zu h0,zu h5,zu h7,zu h11,zu h12,zu h13,rfl,rfl⟩
   case m3=>omega
   case q3 =>
    rcases zCX9 q j with h|h
    .exact hsame q h
    grind
theorem zyw(a:Int)(hs:zbQ w.length):FR 151 [wv p w,iv a] (iv (zll w a:Nat)):=by
 have hr:=zju p w a hs;unfold zll
 by_cases h:zci w.length a=true
 rotate_left
 .rw[if_neg h];rw[show zci w.length a=false by grind]at hr;refine zfn f151 (.int _ _) ?_;refine zMG hr ?_;refine zU ?_;exact Frz.int _ _
 rw[if_pos h];have hb:=(zep _ _).1 h;rw[h]at hr;obtain⟨n,rfl⟩:∃n:Nat,a=n:=⟨a.toNat,by omega⟩
 rw[zCO9];have hl:=zg3 p w ⟨hb.1,hb.2.2.1⟩ n zo;obtain⟨e1,e2⟩:=zgc w n
 by_cases ht:(zaL w n).2=true
 rotate_left
 .rw[if_neg ht];rw[e1,show (zaL w n).2=false by grind]at hl;generalize (zcS w n).1=T at hl;refine zfn f151 (.int _ _) ?_;refine zMG hr ?_;refine zcf ?_;refine zSk ?_;refine zM hl ?_;refine zS ?_;refine zO ?_;exact Frz.int _ _
 rw[if_pos ht];rw[e1,e2 ht,ht]at hl;obtain⟨f1,f2,f3,f4,f5⟩:=zc4 (w:=w) (T:=(zaL w n).1) zo n (by grind);exact zzC p w n ⟨hb.1,hb.2.2.1⟩ _ hr hl f1 f3 f5
end Fv
end Go.Proofs.YtkeknmgnoceogaaGreat
