/- part 8 of the proof of tree_takes. -/
import Derived.Test.YtfomlmhnmheenaaGreatTT7
set_option linter.unusedSimpArgs false
set_option linter.unusedVariables false
namespace Go.Proofs.YtfomlmhnmheenaaGreat
namespace Fv
open Tw


set_option maxRecDepth 100000
theorem zo9 {w:List Nat}:∀(d:Nat) (seen:List Nat) (acc:List Lev) (b:Nat) (lv:Int),(zdI w d seen acc b lv).1=[]\/(zdI w d seen acc b lv).1=(zbB w d seen acc b lv).1
 | 0,seen,acc,b,lv=>.inl rfl
 | d+1,seen,acc,b,lv=>by
  rw[zdI,zbB]
  cases hr:zbs w lv (w.length/64) seen [] [] b with
  | none=>exact .inl rfl
  | some r =>
   obtain⟨s',bs,ns⟩:=r
   cases ns with
   | nil=>exact .inl rfl
   | cons n ns =>
    simp only
    by_cases hl:n.level=0
    ·rw[if_pos hl,if_pos hl];exact .inr rfl
    ·rw[if_neg hl,if_neg hl];exact zo9 d _ _ _ _
theorem ziR {w:List Nat}(hw:w.length<=131072)(a:Nat):(∀L∈(zbM w a).1,zhL w L)/\(zbM w a).1.length<=14:=by
 have hle:=zgM w 14 [] [] (w.getD a 0) (-1);have hf:=(zfu hw 14 [] [] (w.getD a 0) (-1) (fun L hL=>by simp at hL)).1;rcases zo9 (w:=w) 14 [] [] (w.getD a 0) (-1)with h|h
 ·unfold zbM;rw[h];exact⟨fun L hL=>by simp at hL,zAS9 _⟩
 ·unfold zbM;rw[h];exact⟨hf,by simpa using hle⟩
def zeR (w:List Nat)(a:Int)(fr:List Int):Nat:=if zbO w.length a=true then if zA6 w a.toNat fr=true then ziQ w a else 2 else 2
theorem zjB (p r:Nat)(w:List Nat)(a:Int)(fr:List Int)(hs:za7 w.length)(hfl:fr.length<1000000):FN ET 45 [wv p w,iv a,.list r 1 (fr.map iv)] (.ret (iv (zeR w a fr:Nat))):=by
 have hr:=zjg p w a hs;have hc:=zt2 p w a hs;unfold zeR
 by_cases h:zbO w.length a=true
 rotate_left
 ·rw[if_neg h];rw[show zbO w.length a=false by simpa using h]at hr;refine zfn f45 (.int _ _) ?_;refine zG ?_;refine zI ?_;refine zca hr ?_;refine zN ?_;refine zU ?_;exact Frz.int _ _
 rw[if_pos h];have hb:=(zdR _ _).1 h;rw[h]at hr;obtain⟨n,rfl⟩:∃n:Nat,a=n:=⟨a.toNat,by omega⟩
 rw[zCV9];obtain⟨t1,t2⟩:=ziR (w:=w) hb.2.2.1 n;have hf:=zwf p r w ⟨hb.1,hb.2.2.1⟩ n (by omega) fr hfl (by omega) fun L hL=>by have:=t1 L hL;have h1:=this.lv.len;have h2:=this.few;omega
 by_cases h2:zA6 w n fr=true
 rotate_left
 ·rw[if_neg h2];rw[show zA6 w n fr=false by simpa using h2]at hf;refine zfn f45 (.int _ _) ?_;refine zG ?_;refine zI ?_;refine zca hr ?_;refine zfx ?_;refine zca hf ?_;refine zN ?_;refine zU ?_;exact Frz.int _ _
 rw[if_pos h2];rw[h2]at hf;refine zfn f45 (.int _ _) ?_;refine zG ?_;refine zI ?_;refine zca hr ?_;refine zfx ?_;refine zca hf ?_;refine zN ?_;refine zcf ?_;refine zBl ?_;show W _ _ _ _ _ _;refine zI ?_;refine zca hc ?_;refine zP ?_;exact Frz.int _ _
structure zqb (w:List Nat)(b0 key:Nat)(ws:List Nat):Prop where
 first:ws[0]?=some b0
 inn:∀b∈ws,64*b+64<=w.length
 next:∀(i:Nat) (b c:Nat),ws[i]?=some b->ws[i+1]?=some c->zcv (zA w b) key=(c,0)
 last:∀b,ws.getLast?=some b->¬(zcv (zA w b) key).2=0
 few:ws.length<=20
set_option maxHeartbeats 2000000 in
theorem zmd (p:Nat)(w:List Nat)(a key:Nat)(ws:List Nat)(hw:w.length<=131072)(ha:a<w.length)(hW:zqb w (w.getD a 0) key ws):FN ET 46 [wv p w,iv a,uv key] (.ret (.list 0 1 (ws.map fun(b:Nat)=>iv (b:Int)))):=by
 refine zfn f46 (Lb.ivn _) ?_;have hwa:=zcE ha;obtain⟨h1,h2,h3,h4,h5⟩:=hW;generalize w.getD a 0=b0 at *
 have hne:0<ws.length:=(zAC9.1 h1).1;have hb0:=h2 b0 (zAO9 h1);have w1:IntKind.i64.wrap (b0:Int)=(b0:Int):=zwi;refine zGF (zr3 hwa ha w1) ?_;refine zB (zar (fun m s=>∃(i:Nat) (V:List Nat) (G:List zn),m=ws.length-i/\i<ws.length/\V=ws.take (i+1)/\s.tm 0=wv p w/\s.tm 2=uv key/\s.tm 7=.sl 0 i 0 V.length (2*V.length) 1/\s.tm 8=iv i/\s.df=[]/\s.H=.row 3 1 i 0 (V.map fun(b:Nat)=>iv (b:Int))::G) (n:=ws.length) ?_ ?_)
 ·refine⟨0,[b0],[],rfl,hne,?v0,zt,zt,zt,zt,rfl,rfl⟩
  case v0=>rw[zBE9,h1];rfl
 rintro m ⟨tm,df,H⟩ ⟨i,V,G,rfl,hi,hV,t0,t2,t7,t8,rfl,rfl⟩;dsimp only at t0 t2 t7 t8;have hVl:V.length=i+1:=by rw[hV,zBA9];omega
 have g:(i:Int)<20:=by omega
 (try refine zBp ?_);refine za (zgo ?_ (by simp(disch:=omega)only[go_sem,t8,g]<;>rfl));refine zwh ?_ ?_;rotate_left
 ·intro h;cases h
 intro _;obtain⟨b,hb⟩:∃b,ws[i]?=some b:=⟨_,zAB9 hi⟩
 have hbb:=h2 b (zAO9 hb);have hVb:V[i]?=some b:=by rw[hV,zBH9,if_pos (by omega)];exact hb
 have hVv:(V.map fun(b:Nat)=>iv (b:Int))[i]?=some (iv b):=by rw[zAH9,hVb];rfl
 have e0:(V.length:Int)-1=(i:Int):=by omega
 have e7:i<V.length:=by omega
 have e1:IntKind.i64.wrap ((64:Int)*(b:Int))=((64*b:Nat):Int):=zwi;have e2:((64*b:Nat):Int)+64=((64*b+64:Nat):Int):=by omega
 have e3:64*b<=64*b+64:=by omega
 have e6:0<w.length:=by omega
 have e5:List.drop (64*b) (List.take (64*b+64) (List.map uv w))=(zA w b).map uv:=by simp[zA,zCM9,zDL9]
 have hC:=zue p key (zA w b) (by unfold zA za7;simp;omega);(repeat refine za ?_);refine zB ?_;(repeat refine za ?_);refine zgo ?_ (by simp(disch:=omega)only[go_sem,t7,t8,e0,e7,hVv]<;>rfl);refine zIF (zr8 t0 t2 e1 e2 e3 e5 e6 hbb) ?_;refine zca hC ?_
 by_cases hc:(zcv (zA w b) key).2=0
 rotate_left
 ·have g2:¬(((zcv (zA w b) key).2:Nat):Int)=0:=by omega
  refine zN ?_;refine zSF g2 ?_;refine zhE ?_;(repeat(first|refine za ?_|refine zgo ?_ (by simp(disch:=omega)only[go_sem,t7]<;>rfl)));refine zy (zfr ?_);have hil:i+1=ws.length:=by
   rcases zCY9 (i+1) ws.length with h|h
   ·have:=h3 i b _ hb (zAB9 h);rw[this]at hc;exact absurd rfl hc
   ·omega
  have hVw:V=ws:=by rw[hV,hil,zBG9]
  subst hVw;exact Frz.whole (e:=3) (z':=1) (l:=V.map fun(b:Nat)=>iv (b:Int)) rfl rfl (by simp) (by simp) (fun v hv=>by obtain⟨x,_,rfl⟩:=zAM9.1 hv;rfl) zfA
 have hil:i+1<ws.length:=by
  rcases zCY9 (i+1) ws.length with h|h
  ·exact h
  ·exact absurd hc (h4 b (by rw[zCJ9,show ws.length-1=i by omega];exact hb))
 obtain⟨c,hcc⟩:∃c,ws[i+1]?=some c:=⟨_,zAB9 hil⟩
 have hch:=h3 i b c hb hcc;rw[hch];refine zN ?_;refine zT ?_;refine zBl ?_;show W _ _ _ _ _ _;have hbb2:(V.length+1)*9<=140737488355328:=by omega
 (repeat refine za ?_);(repeat refine za ?_);refine zrg ?_ (by simp(disch:=omega)only[go_sem,t7,hbb2]<;>rfl);refine zr ?_;(repeat refine za ?_);refine zrg ?_ (by simp(disch:=omega)only[go_sem,t8]<;>rfl);refine zr ?_;refine⟨_,?m,i+1,V++[c],?G,rfl,hil,?hV,by simp[upd,t0],by simp[upd,t2],zt,by simp[upd,t8],zt,?H⟩
 case m=>omega
 case hV=>rw[zBE9 (i:=i+1),hcc,<- hV];rfl
 case H=>(try dsimp only);rw[zBJ9];rfl
theorem f48:ET.funcs.get 48=some T48:=zH Tryz.func48
theorem f124:ET.funcs.get 124=some T124:=zH Tryz.func124
theorem f122:ET.funcs.get 122=some T122:=zH Tryz.func122
theorem zln {E:Env}{caught:Tr Unit}{ops:List zaw}{s:FSt}{Q:FX->FSt->Prop}(i n:Nat){w:PV}{o:zn}(hn:s.H[n]?=some o)(hw:Frz (zf1 n s.H) 0 (s.tm i) w)(k:WO E caught ops ⟨upd s.tm i w,s.df,s.H.set n .void⟩ Q):WO E caught ops s Q:=fun B c t hs=>by
 have hlt:=(zAC9.1 hn).1;obtain⟨m,hr,hcf⟩:=hs.hr.frz (H':=s.H.set n .void) (n:=n) (by simp) (by simp[hlt]) (fun id o o' ho ho'=>by
  by_cases hi:n=id
  ·subst hi;simp[hlt]at ho';subst ho';exact .void _
  ·rw[zAZ9 hi,ho]at ho';injection ho' with ho';subst ho';exact .same _ (Ne.symm hi))
 obtain⟨r,x,s',c',t',e1,q1,m1,k1,fin⟩:=k B _ t ⟨hr,fun j=>by
  dsimp only;unfold upd
  by_cases hj:j=i
  ·subst hj;rw[if_pos rfl];rcases hs.tm j with h2|⟨u,u1,u2⟩
   ·rw[h2]at hw;cases hw
   ·exact .inr ⟨u,u1,hcf _ _ _ u2 (.inr hw)⟩
  ·rw[if_neg hj];exact(hs.tm.mono m) j,hs.df.mono m⟩
 exact⟨r,x,s',c',t',e1,q1,m.trans m1,k1,fin⟩
theorem zfO (x:Wk)(hfr:Id0 x.fr)(b:Nat)(hb:64*b+64<=x.W.length)(hW:x.W.length<=131072):FP ET 48 [wkv x,iv b] (.ret (wv x.p (zA x.W b))):=by
 refine zfp f48 ?_;have e1:IntKind.i64.wrap ((64:Int)*(b:Int))=((64*b:Nat):Int):=zwi;have e2:((64*b:Nat):Int)+64=((64*b+64:Nat):Int):=by omega
 have e3:64*b<=64*b+64:=by omega
 have e6:0<x.W.length:=by omega
 have e5:List.drop (64*b) (List.take (64*b+64) (List.map uv x.W))=(zA x.W b).map uv:=by simp[zA,zCM9,zDL9]
 unfold wkv;refine zOF (zr6 e1 e2 e3 e5 e6 hb) ?_;exact Frz.list _ _ _
def ofN (w:List Nat):zC:=if headB w=true then headN w else zd3
theorem zrr (w:List Nat):∃no:Nat,zdX w=.ret (.tuple [zW 0 (ofN w),iv no]):=by
 unfold ofN
 by_cases h:headB w=true
 ·exact⟨0,by rw[zeg _ h,if_pos h];rfl⟩
 ·exact⟨210,by rw[zml (by simpa using h),if_neg h];rfl⟩
theorem zyy (w:List Nat):(ofN w).level<=12/\(ofN w).sib<2048/\(ofN w).pairs.length<=28:=by
 unfold ofN
 by_cases h:headB w=true
 ·rw[if_pos h];have:=zdY h;exact⟨this.1,this.2.1,zA2 w⟩
 ·rw[if_neg h];decide
theorem zb5 (w:List Nat)(b:Nat)(h:64*b+64<=w.length):(zA w b).length=64:=by unfold zA;simp;omega
theorem zuQ (x:Wk)(hfr:Id0 x.fr)(b:Nat)(hb:64*b+64<=x.W.length)(hW:x.W.length<=131072):FN ET 124 [wkv x,iv b] (.ret (.bool (decide (27<=(ofN (zA x.W b)).pairs.length)))):=by
 refine zfn f124 (.bool _) ?_;have hat:=zfO x hfr b hb hW;have hO:=zfB x.p (zA x.W b) (by rw[zb5 _ _ hb];decide);obtain⟨no,hno⟩:=zrr (zA x.W b);rw[hno]at hO;have hbnd:=(zyy (zA x.W b)).2.2;generalize ofN (zA x.W b)=n at *
 have hid:=zcF hfr;unfold wkv at hid hat⊢;refine zG ?_;refine zI ?_;refine zbz (by first|rfl|(simp only[go_sem]<;>rfl)) (by simp only[go_sem]<;>rfl) hat rfl ?_ ?_;(repeat(first|exact trivial|refine And.intro ?_ ?_|exact Id0.int _ _|exact Id0.bool _|exact Id0.list _ _ _|exact Id0.elem _|exact Id0.nilsl|exact Id0.str _|exact zbE _ _ _))
 ·exact hid
 ·(repeat(first|exact trivial|refine And.intro ?_ ?_|exact Id0.int _ _|exact Id0.bool _|exact Id0.list _ _ _|exact Id0.elem _|exact Id0.nilsl|exact Id0.str _|exact zbE _ _ _))
 refine zfx ?_;refine zca hO ?_;refine zN ?_;refine zO ?_;refine za0.bool ?_;rw[zDS9];simp;omega
def zb6 (w:List Nat):List Pr:=(List.range w.length).map fun i=>(i,w.getD i 0)
theorem zvu (w:List Nat)(i:Nat)(h:i<w.length):(zb6 w)[i]?=some (i,w.getD i 0):=by
 unfold zb6;rw[zAH9,zEI9 h];rfl
theorem zeQ (w:List Nat):(zb6 w).length=w.length:=by unfold zb6;simp
set_option maxHeartbeats 2000000 in
theorem zlI (x:Wk)(hfr:Id0 x.fr)(b r:Nat)(w:List Nat)(hl:x.L.length+w.length<1000000)(hw:x.W.length<1000000)(hin:64*b+w.length<=x.W.length):FP ET 122 [wkv x,iv b,wv r w] (.ret (wkv (x.does (zaZ (64*b) (zb6 w))))):=by
 refine zfp f122 ?_;have hid:=zcF hfr;refine zG ?_;refine zb2 83 2 (i:=7) rfl ?_;simp only[lzy,zAD9,zAE9,zAF9,zAR9,zAG9,zAI9,zAK9];refine zG ?_;refine zB (zar (fun m s=>∃(i:Nat) (V:List Pr) (G:List zn),m=w.length-i/\i<=w.length/\V=(zb6 w).take i/\s.tm 1=iv b/\s.tm 2=wv r w/\s.tm 3=.ptr 0 0 0 0 4/\s.tm 6=.ptr 1 0 0 0 4/\s.tm 7=.sl 2 i 0 V.length (2*V.length) 2/\s.tm 8=iv i/\s.df=[]/\s.H=.row 107 4 0 0 [wkv x]::.row 107 4 0 0 [.agg [.nilsl,.nilsl,.nilsl,iv 0]]::.row 83 2 i 0 (V.map zBo)::G) (n:=w.length) ?_ ?_)
 ·exact⟨0,[],[],rfl,zAS9 _,by simp,zt,zt,zt,zt,zt,zt,rfl,rfl⟩
 rintro m ⟨tm,df,H⟩ ⟨i,V,G,rfl,hi,hV,h1,h2,h3,h6,h7,h8,rfl,rfl⟩;dsimp only at h1 h2 h3 h6 h7 h8;have hVl:V.length=i:=by rw[hV,zBA9,zeQ];omega
 (try refine zBp ?_);refine za (zAV (zr2 h2 h8) ?_);refine zwh ?_ ?_
 ·intro hlt;have hlt:i<w.length:=by have:=of_decide_eq_true hlt;omega
  have hwi:=zcE hlt;have hbb:(V.length+1)*17<=140737488355328:=by omega
  (repeat refine za ?_);refine zB ?_;refine zJF (zr6 h2 h7 h8 hlt hwi hbb) ?_;refine zJF h8 ?_;refine⟨_,?m,i+1,V++[(i,w.getD i 0)],?G,rfl,hlt,?hV,zu h1,zu h2,zu h3,zu h6,zt,zu h8,zt,?H⟩
  case m=>omega
  case hV=>rw[zBE9,zvu _ _ hlt,<- hV];rfl
  case H=>(try dsimp only);rw[zBJ9];rfl
 ·intro hlt;have hlt:¬i<w.length:=by have:=of_decide_eq_false hlt;omega
  obtain rfl:i=w.length:=by omega
  have hVw:V=zb6 w:=by rw[hV,<- zeQ,zBG9]
  subst hVw;clear hV;have hd:=zdQ x hfr (64*b) 0 (zb6 w) (by rw[zeQ];exact hl) hw fun c hc=>by
   unfold zb6 at hc;obtain⟨j,hj,rfl⟩:=zAM9.1 hc;have:=zCT9.1 hj;dsimp only;omega
  have w1:IntKind.i64.wrap ((64:Int)*(b:Int))=((64*b:Nat):Int):=zwi;refine zcI (fun tm=>tm 1=iv b/\tm 3=.ptr 0 0 0 0 4/\tm 6=.ptr 1 0 0 0 4/\tm 7=.sl 2 w.length 0 (zb6 w).length (2*(zb6 w).length) 2) ⟨zu h1,zu h3,zu h6,zu h7⟩ ?_;clear h1 h2 h3 h6 h7 h8;rintro tm ⟨h1,h3,h6,h7⟩;refine zf5 7 2 (w:=.list 0 2 ((zb6 w).map zBo)) rfl (by
   dsimp only;rw[h7];exact Frz.whole (zgw rfl) rfl (by simp) (by simp) (fun v hv=>by obtain⟨x,_,rfl⟩:=zAM9.1 hv;rfl) zb3) ?_
  simp only[zCI9,zCK9];have hyf:Id0 (wkv (x.does (zaZ (64*b) (zb6 w)))):=zcF (by rw[(zcJ _ x).2.2.1];exact hfr);generalize x.does (zaZ (64*b) (zb6 w))=y at *
  unfold wkv at hd hyf hid⊢;(repeat refine za ?_);refine zAU ?_;refine zAW (zr3 h1 h3 w1) ?_;refine zbz (by first|rfl|(simp only[go_sem]<;>rfl)) (by simp only[go_sem]<;>rfl) hd rfl ?_ ?_;(repeat(first|exact trivial|refine And.intro ?_ ?_|exact Id0.int _ _|exact Id0.bool _|exact Id0.list _ _ _|exact Id0.elem _|exact Id0.nilsl|exact Id0.str _|exact zbE _ _ _))
  ·exact hid
  ·(repeat(first|exact trivial|refine And.intro ?_ ?_|exact Id0.int _ _|exact Id0.bool _|exact Id0.list _ _ _|exact Id0.elem _|exact Id0.nilsl|exact Id0.str _|exact zbE _ _ _))
  refine zNF h6 ?_;refine zy ?_;refine zj (vs:=[wkv y]) ?_ ?_
  ·simp[T122,xT,zE,okv,upd,h6,zae,zaz,zaH,PV.cells,wkv]
  ·unfold wkv;exact hyf.frz
theorem f123:ET.funcs.get 123=some T123:=zH Tryz.func123
@[reducible] def frV (r:Nat) (fr:List Nat):PV:=.list r 1 (fr.map fun (b:Nat)=>iv (b:Int))
def Wk.up (x:Wk):Wk:=⟨x.p,x.q,x.W,x.L,x.fr,x.used+1⟩
@[reducible] def zdZ (n:zC) (b to low:Nat):zC:=⟨n.level + 1,0,0,b,0,[(low,to)]⟩
def Wk.root (x:Wk)(fr:List Nat)(at' b to low:Nat):Wk×Nat×Nat×Nat :=
 if fr.length<=x.used then(x,0,0,221)else
 if 12<=(ofN (zA x.W b)).level then(x.up,0,0,3)else
 ((x.up.does (zaZ (64*fr.getD x.used 0) (zb6 (zbh (zdZ (ofN (zA x.W b)) b to low))))).does (zaZ 0 [(at',fr.getD x.used 0)]),to,low,0)
@[reducible] def wk4 (R:Wk × Nat × Nat × Nat):PV:=.tuple [wkv R.1,iv (R.2.1:Nat),uv R.2.2.1,iv (R.2.2.2:Nat)]
theorem zgA {H:List zn}{y:Wk}(h:Id0 y.fr)(a b c:Nat):Frz H 0 (.tuple [wkv y,iv (a:Int),uv b,iv (c:Int)]) (wk4 (y,a,b,c)):=Frz.tupL ⟨(zcF h).frz,.int _ _,.int _ _,.int _ _,trivial⟩
set_option maxHeartbeats 2000000 in
theorem zvb (x:Wk)(rr:Nat)(fr:List Nat)(hfr:x.fr=frV rr fr)(at' b to low:Nat)(hb:64*b+64<=x.W.length)(hW:x.W.length<=131072)(hat:at'<x.W.length)(hto:to<2048)(hfrN:∀f∈fr,64*f+64<=x.W.length)(hL:x.L.length+65<1000000)(hfl:fr.length<1000000) :
  FP ET 123 [wkv x,iv b,iv to,uv low,iv at'] (.ret (wk4 (x.root fr at' b to low))):=by
 refine zfp f123 ?_;have hid0:Id0 x.fr:=by rw[hfr];exact .list _ _ _
 have hid:Id0 (wkv x):=zcF hid0;have hidu:Id0 (wkv x.up):=zcF hid0;have hatu:=zfO x.up hid0 b hb hW;have hxv:wkv x=.agg [wv x.p x.W,.list x.q 2 (x.L.map zBo),frV rr fr,iv x.used]:=by unfold wkv;rw[hfr]
 have huv:wkv x.up=.agg [wv x.p x.W,.list x.q 2 (x.L.map zBo),frV rr fr,iv ((x.used+1:Nat):Int)]:=by rw[<- hfr];rfl
 rw[hxv];unfold Wk.root
 by_cases hus:fr.length<=x.used
 ·rw[if_pos hus];have g:(fr.length:Int)<=(x.used:Nat):=by omega
  refine zSF g ?_;refine zG ?_;refine zy ?_;refine zj (vs:=[wkv x,iv 0,uv 0,iv 221]) ?_ ?_
  ·rw[hxv];simp[T123,xT,zE,okv,upd,zq,zae,zaz,zaH,PV.cells]
  ·exact zgA hid0 0 0 221
 rw[if_neg hus];have g:¬(fr.length:Int)<=(x.used:Nat):=by omega
 have hul:x.used<fr.length:=by omega
 obtain⟨f,hf⟩:∃f,fr[x.used]?=some f:=⟨_,zAB9 hul⟩
 have hfv:(fr.map fun(b:Nat)=>iv (b:Int))[x.used]?=some (iv f):=by rw[zAH9,hf];rfl
 have hfd:fr.getD x.used 0=f:=by rw[zAL9,hf];rfl
 have hfb:=hfrN f (zAO9 hf);rw[hfd];refine zTF (zr3 g hul hfv) ?_;refine zBl ?_;show W _ _ _ _ _ _;have w2:(x.used:Int)+1=((x.used+1:Nat):Int):=by omega
 (repeat refine za ?_);refine zAV (zr3 g hul hfv) ?_;(repeat refine za ?_);refine zAV w2 ?_;rw[<- huv];have hO:=zfB x.up.p (zA x.up.W b) (by rw[show (zA x.up.W b).length=64 from zb5 _ _ hb];decide);obtain⟨no,hno⟩:=zrr (zA x.up.W b);rw[hno]at hO;have hbnd:=zyy (zA x.up.W b);have hxuW:ofN (zA x.W b)=ofN (zA x.up.W b):=rfl;rw[hxuW];generalize ofN (zA x.up.W b)=n at *
 refine zcI (fun tm=>tm 1=iv b/\tm 2=iv to/\tm 3=uv low/\tm 4=iv at'/\tm 5=.ptr 0 0 0 0 4/\tm 10=.ptr 1 0 0 0 4/\tm 11=iv 0/\tm 12=uv 0/\tm 13=iv 0/\tm 14=iv f) ⟨zt,zt,zt,zt,zt,zt,zt,zt,zt,by simp[upd,zq]⟩ ?_;rintro tm ⟨h1,h2,h3,h4,h5,h10,h11,h12,h13,h14⟩;rw[huv]at hidu hatu⊢;refine zIF (zr2 h1 h5) ?_;refine zbz (by first|rfl|(simp only[go_sem]<;>rfl)) (by simp only[go_sem]<;>rfl) hatu rfl ?_ ?_;(repeat(first|exact trivial|refine And.intro ?_ ?_|exact Id0.int _ _|exact Id0.bool _|exact Id0.list _ _ _|exact Id0.elem _|exact Id0.nilsl|exact Id0.str _|exact zbE _ _ _))
 ·exact hidu
 ·(repeat(first|exact trivial|refine And.intro ?_ ?_|exact Id0.int _ _|exact Id0.bool _|exact Id0.list _ _ _|exact Id0.elem _|exact Id0.nilsl|exact Id0.str _|exact zbE _ _ _))
 refine zfx ?_;refine zca hO ?_;refine zN ?_
 by_cases h12':12<=n.level
 ·rw[if_pos h12'];have g2:(12:Int)<=(n.level:Nat):=by omega
  refine zSF g2 ?_;refine zGF (zr2 h5 h10) ?_;refine zy ?_;refine zj (vs:=[wkv x.up,iv 0,uv 0,iv 3]) ?_ ?_
  ·rw[huv];simp[T123,xT,zE,okv,upd,h10,h11,h12,h13,zae,zaz,zaH,PV.cells]
  ·exact zgA (y:=x.up) hid0 0 0 3
 rw[if_neg h12'];have g2:¬(12:Int)<=(n.level:Nat):=by omega
 refine zTF g2 ?_;refine zBl ?_;show W _ _ _ _ _ _;have w3:(n.level:Int)+1=((n.level+1:Nat):Int):=by omega
 have w4:IntKind.u64.wrap (b:Int)=(b:Int):=zwu;have w5:IntKind.u64.wrap (to:Int)=(to:Int):=zwu;have hWd:=zjM 1 (zdZ n b to low) (by dsimp only;omega) (by dsimp only;omega) (zAS9 _) (by simp);have hbk:=zlI x.up hid0 f 0 (zbh (zdZ n b to low)) (by rw[zdg];show x.L.length+64<1000000;omega) (by show x.W.length<1000000;omega) (by rw[zdg];exact hfb);rw[huv]at hbk;have hyf:Id0 (wkv (x.up.does (zaZ (64*f) (zb6 (zbh (zdZ n b to low)))))):=zcF (by rw[(zcJ _ x.up).2.2.1];exact hid0);have hyL:=zcJ (zaZ (64*f) (zb6 (zbh (zdZ n b to low)))) x.up;have hDl:(zaZ (64*f) (zb6 (zbh (zdZ n b to low)))).length=64:=by unfold zaZ;rw[zAA9,zeQ,zdg]
 generalize zbh (zdZ n b to low)=LW at *
 generalize zaZ (64*f) (zb6 LW)=D at *
 generalize hYY:x.up.does D=y at *
 (repeat refine za ?_);refine zad ?_;refine zdi hWd ?_ ?_ (by simp(disch:=omega)only[go_sem,h1,h2,h3,h5,h14,w3,w4,w5]<;>rfl);(repeat(first|exact trivial|refine And.intro ?_ ?_|exact .int _ _|exact .bool _|exact .list _ _ _|exact .elem _|exact .nilsl|exact .nil _ _|exact .str _|refine Frz.aggL ?_|refine Frz.fnL ?_|refine Frz.tupL ?_|refine .iface ?_|exact zbF rfl rfl (by assumption)));(exact Frz.whole (l:=[pv (low,to)]) rfl rfl rfl (zAJ9 _) (fun v hv=>by obtain rfl:=zBF9.1 hv;rfl) (zeF (l:=[(low,to)]));exact trivial;exact trivial);refine zdf hbk ⟨hidu,.int _ _,.list _ _ _,trivial⟩ ?_ (by simp(disch:=omega)only[go_sem,h1,h5,h14]<;>rfl);refine zA0 h5 ?_;refine zQF h5 ?_;have hy0:Id0 y.fr:=by rw[hyL.2.2.1];exact hid0
 have hyW:y.W.length=x.W.length:=hyL.1;have hdo:=zdQ y hy0 0 0 [(at',f)] (by rw[hyL.2.1,hDl];show x.L.length+64+1<1000000;omega) (by omega) fun c hc=>by
  obtain rfl:=zBF9.1 hc;dsimp only;omega
 have hzf:Id0 (y.does (zaZ 0 [(at',f)])).fr:=by rw[(zcJ _ y).2.2.1];exact hy0
 have w6:IntKind.u64.wrap (f:Int)=(f:Int):=zwu;generalize y.does (zaZ 0 [(at',f)])=z at *
 unfold wkv at hdo hyf⊢;refine zcI (fun tm=>tm 2=iv to/\tm 3=uv low/\tm 4=iv at'/\tm 5=.ptr 0 0 0 0 4/\tm 10=.ptr 1 0 0 0 4/\tm 14=iv f) ⟨zu h2,zu h3,zu h4,zu h5,zu h10,zu h14⟩ ?_;clear h1 h2 h3 h4 h5 h10 h11 h12 h13 h14;rintro tm ⟨h2,h3,h4,h5,h10,h14⟩;(repeat refine za ?_);refine zAU ?_;refine zAW (zr4 h4 h5 h14 w6) ?_;refine zln 65 4 (w:=.list 0 2 ([(at',f)].map zBo)) rfl (Frz.whole (l:=[zBo (at',f)]) (zgw rfl) rfl rfl (zAJ9 _) (fun v hv=>by obtain rfl:=zBF9.1 hv;rfl) (zb3 (l:=[(at',f)]))) ?_;simp only[zCI9,zCK9];refine zbz (by first|rfl|(simp only[go_sem]<;>rfl)) (by simp only[go_sem]<;>rfl) hdo rfl ?_ ?_;(repeat(first|exact trivial|refine And.intro ?_ ?_|exact Id0.int _ _|exact Id0.bool _|exact Id0.list _ _ _|exact Id0.elem _|exact Id0.nilsl|exact Id0.str _|exact zbE _ _ _))
 ·exact hyf
 ·(repeat(first|exact trivial|refine And.intro ?_ ?_|exact Id0.int _ _|exact Id0.bool _|exact Id0.list _ _ _|exact Id0.elem _|exact Id0.nilsl|exact Id0.str _|exact zbE _ _ _))
 refine zNF (zr3 h2 h3 h10) ?_;refine zy ?_;refine zj (vs:=[wkv z,iv to,uv low,iv 0]) ?_ ?_
 ·unfold wkv;simp[T123,xT,zE,okv,upd,h10,zae,zaz,zaH,PV.cells]
 ·exact zgA hzf to low 0
end Fv
end Go.Proofs.YtfomlmhnmheenaaGreat
namespace Go.Proofs.YtfomlmhnmheenaaGreat
namespace Fv
open Tw


theorem zwD (l:List Pr)(i:Nat):∀m,(upL l i m).length<=2*m/\∀y∈upL l i m,y.1<=2*m+1
 | 0=>⟨zAJ9 _,fun y hy=>by simp[upL]at hy⟩
 | m+1=>by
  have ih:=zwD l i m;rw[upL]
  split
  ·refine⟨by simp;omega,fun y hy=>?_⟩;rcases zAX9.1 hy with rfl|hy
   ·simp;omega
   rcases zAX9.1 hy with rfl|hy
   ·simp;omega
   ·have:=ih.2 y hy;omega
  ·exact⟨by simp,fun y hy=>by simp at hy⟩
theorem zzg {left:Nat}{w:List Nat}{x:Pr}(hw:w.length=56)(h:(zdK left w x).2=0):(zdK left w x).1.length<=70/\∀y∈(zdK left w x).1,y.1<56:=by
 unfold zdK at h⊢
 by_cases hp:zcz left w x=0
 rotate_left
 ·rw[if_neg hp]at h;exact absurd h hp
 rw[if_pos hp]at h⊢
 by_cases hs:sIs (zab left w) x.1=true
 ·rw[if_pos hs]at h;cases h
 rw[if_neg hs]at h⊢
 split at h
 ·cases h
 rename_i hlong;rw[if_neg hlong];have hf:=zjr (zab left w) x.1;generalize zab left w=L at *
 generalize zb4 L x.1=i at *
 have hu:=zwD L i L.length;unfold znH;refine⟨by simp;omega,fun y hy=>?_⟩;rcases zAX9.1 hy with rfl|hy
 ·simp;omega
 rcases zBI9.1 hy with hy|hy
 ·have:=hu.2 y hy;omega
 ·simp at hy;rcases hy with rfl|rfl|rfl<;>simp<;>omega
theorem zw9 {left:Nat}{w:List Nat}{key:Nat}(hw:w.length=56)(h:(zbY left w key).2=0):(zbY left w key).1.length<=70/\∀y∈(zbY left w key).1,y.1<56:=by
 unfold zbY at h⊢
 by_cases hc:zbt left w=0
 rotate_left
 ·rw[if_neg hc]at h;exact absurd h hc
 rw[if_pos hc]at h⊢;have hr:=zeK hc;have hl:=zlJ left w
 by_cases hs:sIs (zab left w) key=true
 rotate_left
 ·rw[if_neg hs]at h;cases h
 rw[if_pos hs];have hf:=zke hs;generalize zab left w=L at *
 generalize zb4 L key=i at *
 refine⟨by simp[zcp,zhm];omega,fun y hy=>?_⟩;rcases zAX9.1 hy with rfl|hy
 ·simp;omega
 unfold zcp at hy;rcases zBI9.1 hy with hy|hy
 ·unfold dnL at hy;obtain⟨q,hq,hy⟩:=zBB9.1 hy;have hq:=zCT9.1 hq;simp at hy;rcases hy with rfl|rfl<;>simp<;>omega
 ·simp at hy;subst hy;simp;omega
theorem zwz {w:List Nat}{v no:Nat}{r:List Pr×Nat}(h:r.2=0->r.1.length<=70/\∀y∈r.1,y.1<56):(chg w v no r).1.length<=71/\∀c∈(chg w v no r).1,c.1<64:=by
 unfold chg
 split
 ·split
  ·rename_i h2;obtain⟨k1,k2⟩:=h h2;have hw1:(zdH w v).length<=1:=by unfold zdH;split<;>simp
   refine⟨by simp[zbR];omega,fun c hc=>?_⟩;rcases zBI9.1 hc with hc|hc
   ·unfold zdH at hc
    split at hc
    ·simp at hc
    ·simp at hc;subst hc;simp
   ·unfold zbR at hc;obtain⟨y,hy,rfl⟩:=zAM9.1 hc;have:=k2 y hy;dsimp only;omega
  ·exact⟨by simp,fun c hc=>by simp at hc⟩
 ·exact⟨by simp,fun c hc=>by simp at hc⟩
theorem ziV {w:List Nat}{x:Pr}(hw:w.length=64):(zcc w x).1.length<=71/\∀c∈(zcc w x).1,c.1<64:=zwz fun h=>zzg (by simp[hw]) h
theorem zhR {w:List Nat}{key:Nat}(hw:w.length=64):(zci w key).1.length<=71/\∀c∈(zci w key).1,c.1<64:=zwz fun h=>zw9 (by simp[hw]) h
theorem zta (m:Nat):∀k,(zfY m k).length<=k/\∀c∈zfY m k,c.1<8+2*k
 | 0=>⟨zAJ9 _,fun c hc=>by simp[zfY]at hc⟩
 | k+1=>by
  have ih:=zta m k;rw[zfY]
  split
  ·refine⟨by simp;omega,fun c hc=>?_⟩;rcases zAX9.1 hc with rfl|hc
   ·dsimp only;omega
   ·have:=ih.2 c hc;omega
  ·exact⟨by simp,fun c hc=>by simp at hc⟩
theorem ztD {n:zC}(a:Nat)(h:n.pairs.length<=28):(zfd n a).length<=29/\∀c∈zfd n a,c.1<64:=by
 have:=zta (n.pairs.length/2) n.pairs.length;unfold zfd;refine⟨by simp;omega,fun c hc=>?_⟩;rcases zAX9.1 hc with rfl|hc
 ·simp
 ·have:=this.2 c hc;omega
theorem zxk {w:List Nat}(hw:w.length=64):(zb6 w).length=64/\∀c∈zb6 w,c.1<64:=by
 refine⟨by rw[zeQ];exact hw,fun c hc=>?_⟩;unfold zb6 at hc;obtain⟨j,hj,rfl⟩:=zAM9.1 hc;have:=zCT9.1 hj;dsimp only;omega
theorem zgu:∀(l:List Pr) (x:Wk),(x.does l).W=zax x.W l
 | [],_=>rfl
 | c::l,x=>zgu l (x.one c)
theorem zlP (c:Nat):∀(l:List Pr) (w:List Nat),(∀s∈l,s.1<64*c\/64*c+64<=s.1)->zA (zax w l) c=zA w c
 | [],_,_=>rfl
 | s::l,w,h=>by
  have h1:=h s (zAU9 ..);have ih:=zlP c l (w.set s.1 s.2) fun t ht=>h t (zAT9 _ ht);have e:zax w (s::l)=zax (w.set s.1 s.2) l:=rfl;rw[e,ih];unfold zA
  apply zFC9
  intro j;rw[zBU9,zBU9,zBH9,zBH9]
  split
  ·rw[zAZ9 (by omega)]
  ·rfl
theorem zig {b c:Nat}(hbc:b≠c)(l:List Pr)(w:List Nat)(h:∀s∈l,s.1<64):zA (zax w (zaZ (64*b) l)) c=zA w c :=
 zlP c _ w fun s hs=>by
  unfold zaZ at hs;obtain⟨y,hy,rfl⟩:=zAM9.1 hs;have:=h y hy;dsimp only;rcases Nat.lt_or_gt_of_ne hbc with h1|h1
  ·left;omega
  ·right;omega
theorem zfw (a:Nat)(l:List Pr):(zaZ a l).length=l.length:=by unfold zaZ;simp
structure ziB (fr:List Nat)(rr:Nat)(x:Wk)(way:List Nat):Prop where
 hfr:x.fr=frV rr fr
 hN:x.W.length<=131072
 inn:∀c∈way,64*c+64<=x.W.length
 nd:way.Nodup
 chk:∀c∈way,zbi (zA x.W c)=0
 ful:∀b,way.head?=some b->27<=(headN (zA x.W b)).pairs.length
 frN:∀f∈fr,1<=f/\64*f+64<=x.W.length
 out:∀f∈fr,f ∉ way
 few:way.length<=20
 hL:x.L.length+300*way.length<900000
 hu:x.used<=fr.length
 fl:fr.length<100000
def Wk.cut (x:Wk)(b to:Nat):Wk:=(x.up.does (zaZ (64*to) (zb6 (zbh (zcu (headN (zA x.W b))))))).does (zaZ (64*b) (zfd (headN (zA x.W b)) to))
def Wk.fin (y:Wk)(ab to low:Nat):Wk×Nat×Nat×Nat:=(y.does (zaZ (64*ab) (zcc (zA y.W ab) (low,to)).1),to,low,0)
def Wk.split (fr:List Nat)(at':Nat):List Nat->Wk->Wk×Nat×Nat×Nat
 | [],x=>(x,0,0,0)
 | [b],x=>if fr.length<=x.used then(x,0,0,221)else(x.cut b (fr.getD x.used 0)).root fr at' b (fr.getD x.used 0) ((zbh (zcu (headN (zA x.W b)))).getD 2 0)
 | b::above::up,x=>if fr.length<=x.used then(x,0,0,221)else
  if 27<=(ofN (zA (x.cut b (fr.getD x.used 0)).W above)).pairs.length then
   (if(Wk.split fr at' (above::up) (x.cut b (fr.getD x.used 0))).2.2.2=0 then
    (Wk.split fr at' (above::up) (x.cut b (fr.getD x.used 0))).1.fin (if(Wk.split fr at' (above::up) (x.cut b (fr.getD x.used 0))).2.2.1<=(zbh (zcu (headN (zA x.W b)))).getD 2 0 then(Wk.split fr at' (above::up) (x.cut b (fr.getD x.used 0))).2.1 else above) (fr.getD x.used 0) ((zbh (zcu (headN (zA x.W b)))).getD 2 0)
   else(x.cut b (fr.getD x.used 0),0,0,(Wk.split fr at' (above::up) (x.cut b (fr.getD x.used 0))).2.2.2))
  else(x.cut b (fr.getD x.used 0)).fin above (fr.getD x.used 0) ((zbh (zcu (headN (zA x.W b)))).getD 2 0)
theorem zvC {w:List Nat}(h:zbi w=0):ofN w=headN w:=by unfold ofN;rw[if_pos (zdd h)]
end Fv
end Go.Proofs.YtfomlmhnmheenaaGreat
namespace Go.Proofs.YtfomlmhnmheenaaGreat
namespace Fv
open Tw


set_option maxRecDepth 100000
structure zzX (fr:List Nat)(x y:Wk)(b to:Nat):Prop where
 W:y.W.length=x.W.length
 fr':y.fr=x.fr
 used:y.used=x.used+1
 L:y.L.length<=x.L.length+93
 blk:∀c,c≠b->c≠to->zA y.W c=zA x.W c
theorem zfQ (fr:List Nat)(x:Wk)(b to:Nat)(hp:(headN (zA x.W b)).pairs.length<=28):zzX fr x (x.cut b to) b to:=by
 have e1:=zxk (zdg (zcu (headN (zA x.W b))));have e2:=ztD (n:=headN (zA x.W b)) to hp;unfold Wk.cut;generalize zb6 (zbh (zcu (headN (zA x.W b))))=A at *
 generalize zfd (headN (zA x.W b)) to=B at *
 have d1:=zcJ (zaZ (64*to) A) x.up;have d2:=zcJ (zaZ (64*b) B) (x.up.does (zaZ (64*to) A));rw[zfw]at d1 d2;refine⟨d2.1.trans d1.1,d2.2.2.1.trans d1.2.2.1,d2.2.2.2.trans d1.2.2.2,?_,fun c h1 h2=>?_⟩
 ·rw[d2.2.1,d1.2.1];show x.L.length+A.length+B.length<=_;omega
 ·rw[zgu,zgu,zig (Ne.symm h1) _ _ e2.2,zig (Ne.symm h2) _ _ e1.2];rfl
theorem ziB.to {fr:List Nat}{rr:Nat}{x:Wk}{way:List Nat}(h:ziB fr rr x way)(hu:x.used<fr.length):fr.getD x.used 0∈fr:=by
 rw[zAL9,zAB9 hu];exact zBN9 hu
theorem ziB.cut {fr:List Nat}{rr:Nat}{x:Wk}{b above:Nat}{up:List Nat}(h:ziB fr rr x (b::above::up))(hu:x.used<fr.length)(hf:27<=(ofN (zA (x.cut b (fr.getD x.used 0)).W above)).pairs.length):ziB fr rr (x.cut b (fr.getD x.used 0)) (above::up):=by
 have c:=zfQ fr x b (fr.getD x.used 0) (zA2 _);have hto:=h.to hu;generalize x.cut b (fr.getD x.used 0)=y at *
 have hnd:=zEB9.1 h.nd;have hblk:∀k∈above::up,zA y.W k=zA x.W k:=fun k hk=>c.blk k (fun e=>hnd.1 (e ▸ hk)) fun e=>h.out _ hto (e ▸ zAT9 _ hk);have hchk:∀k∈above::up,zbi (zA y.W k)=0:=fun k hk=>by rw[hblk k hk];exact h.chk k (zAT9 _ hk)
 refine⟨c.fr'.trans h.hfr,by rw[c.W];exact h.hN,fun k hk=>by rw[c.W];exact h.inn k (zAT9 _ hk),hnd.2,hchk,fun k hk=>?_,fun f hf=>by rw[c.W];exact h.frN f hf,fun f hf hk=>h.out f hf (zAT9 _ hk),?_,?_,?_,h.fl⟩
 ·simp at hk;subst hk;rw[<- zvC (hchk _ (zAU9 ..))];exact hf
 ·have:=h.few;simp at this⊢;omega
 ·have h1:=h.hL;have h2:=c.L;simp only[zAE9]at h1⊢;omega
 ·rw[c.used];omega
structure zx3 (fr:List Nat)(x:Wk)(k:Nat)(R:Wk×Nat×Nat×Nat):Prop where
 W:R.1.W.length=x.W.length
 fr':R.1.fr=x.fr
 L:R.1.L.length<=x.L.length+300*k
 used:R.1.used<=fr.length
 inn:R.2.2.2=0->64*R.2.1+64<=x.W.length
theorem zqV {fr:List Nat}{x:Wk}(at' b to low:Nat)(hu:x.used<=fr.length)(hto:64*to+64<=x.W.length):(x.root fr at' b to low).1.W.length=x.W.length/\(x.root fr at' b to low).1.fr=x.fr/\(x.root fr at' b to low).1.L.length<=x.L.length+65/\(x.root fr at' b to low).1.used<=fr.length/\((x.root fr at' b to low).2.2.2=0->64*(x.root fr at' b to low).2.1+64<=x.W.length):=by
 unfold Wk.root
 split
 ·exact⟨rfl,rfl,zFY9 _ _,hu,fun h=>by cases h⟩
 rename_i h1
 split
 ·exact⟨rfl,rfl,by show x.L.length<=_;omega,by show x.used+1<=_;omega,fun h=>by cases h⟩
 have d1:=zcJ (zaZ (64*fr.getD x.used 0) (zb6 (zbh (zdZ (ofN (zA x.W b)) b to low)))) x.up;have d2:=zcJ (zaZ 0 [(at',fr.getD x.used 0)]) (x.up.does (zaZ (64*fr.getD x.used 0) (zb6 (zbh (zdZ (ofN (zA x.W b)) b to low)))));rw[zfw]at d1 d2;rw[zeQ,zdg]at d1;refine⟨d2.1.trans d1.1,d2.2.2.1.trans d1.2.2.1,?_,?_,fun _=>hto⟩
 ·rw[d2.2.1,d1.2.1];show x.L.length+64+1<=_;omega
 ·rw[d2.2.2.2,d1.2.2.2];show x.used+1<=_;omega
theorem ztl {y:Wk}(ab to low:Nat)(hab:64*ab+64<=y.W.length):(y.fin ab to low).1.W.length=y.W.length/\(y.fin ab to low).1.fr=y.fr/\(y.fin ab to low).1.L.length<=y.L.length+71/\(y.fin ab to low).1.used=y.used:=by
 have n:=ziV (x:=(low,to)) (zb5 y.W ab hab);unfold Wk.fin;have d:=zcJ (zaZ (64*ab) (zcc (zA y.W ab) (low,to)).1) y;rw[zfw]at d;exact⟨d.1,d.2.2.1,by rw[d.2.1];omega,d.2.2.2⟩
theorem zkt {fr:List Nat}{rr at':Nat}:∀(up:List Nat) (b:Nat) (x:Wk),ziB fr rr x (b::up)->zx3 fr x (up.length+1) (Wk.split fr at' (b::up) x)
 | [],b,x,h=>by
  unfold Wk.split
  split
  ·exact⟨rfl,rfl,zFY9 _ _,h.hu,fun h=>by cases h⟩
  rename_i hu;have hu:x.used<fr.length:=by omega
  have c:=zfQ fr x b (fr.getD x.used 0) (zA2 _);have hto:=(h.frN _ (h.to hu)).2;generalize x.cut b (fr.getD x.used 0)=y at *
  have r:=zqV (fr:=fr) (x:=y) at' b (fr.getD x.used 0) ((zbh (zcu (headN (zA x.W b)))).getD 2 0) (by rw[c.used];omega) (by rw[c.W];exact hto);exact⟨r.1.trans c.W,r.2.1.trans c.fr',by have:=r.2.2.1;have:=c.L;(try simp only[zAE9,zAF9]at *);omega,r.2.2.2.1,fun h=>by rw[<- c.W];exact r.2.2.2.2 h⟩
 | above::up,b,x,h=>by
  unfold Wk.split
  split
  ·exact⟨rfl,rfl,zFY9 _ _,h.hu,fun h=>by cases h⟩
  rename_i hu;have hu:x.used<fr.length:=by omega
  have c:=zfQ fr x b (fr.getD x.used 0) (zA2 _);have hto:=(h.frN _ (h.to hu)).2;have hin:=h.inn above (by simp)
  split
  ·rename_i hf;have ih:=zkt (at':=at') up above _ (h.cut hu hf);generalize x.cut b (fr.getD x.used 0)=y at *
   generalize Wk.split fr at' (above::up) y=R at *
   have hL:=ih.L;have hcL:=c.L
   split
   ·rename_i h0;generalize hab:(if R.2.2.1<=(zbh (zcu (headN (zA x.W b)))).getD 2 0 then R.2.1 else above)=ab;have hab2:64*ab+64<=R.1.W.length:=by
     rw[ih.W];subst hab
     split
     ·exact ih.inn h0
     ·rw[c.W];exact hin
    have f:=ztl (y:=R.1) ab (fr.getD x.used 0) ((zbh (zcu (headN (zA x.W b)))).getD 2 0) hab2;exact⟨f.1.trans (ih.W.trans c.W),f.2.1.trans (ih.fr'.trans c.fr'),by have:=f.2.2.1;(try simp only[zAE9,zAF9]at *);omega,by rw[f.2.2.2];exact ih.used,fun _=>hto⟩
   ·rename_i h0;exact⟨c.W,c.fr',by(try simp only[zAE9,zAF9]at *);omega,by rw[c.used];omega,fun h=>absurd h h0⟩
  ·generalize x.cut b (fr.getD x.used 0)=y at *
   have f:=ztl (y:=y) above (fr.getD x.used 0) ((zbh (zcu (headN (zA x.W b)))).getD 2 0) (by rw[c.W];exact hin);have hcL:=c.L;exact⟨f.1.trans c.W,f.2.1.trans c.fr',by have:=f.2.2.1;(try simp only[zAE9,zAF9]at *);omega,by rw[f.2.2.2,c.used];omega,fun _=>hto⟩
theorem zyj {n:zC}{f:Nat}(h1:1<=f)(h2:f<=2047)(h3:2<=n.pairs.length):zjs n f=.ret (.tuple [wv 0 (zbh (zcu n)),.list 0 2 ((zfd n f).map zBo),iv 0]):=by
 unfold zjs;rw[if_pos (by unfold zjA;simp;omega),zCV9]
theorem zwQ {w:List Nat}{n:zC}(hn:headN w=n){f:Nat}(hc:zbi w=0)(h1:1<=f)(h2:f<=2047)(h3:2<=n.pairs.length):zqn w f=.ret (.tuple [wv 0 (zbh (zcu n)),.list 0 2 ((zfd n f).map zBo),iv 0]):=by
 unfold zqn;rw[if_pos hc,hn];exact zyj h1 h2 h3
theorem f81:ET.funcs.get 81=some T81:=zH Tryz.func81
@[reducible] def zd1 (ws:List Nat):List PV:=ws.map fun (b:Nat)=>iv (b:Int)
theorem zjY {fr:List Nat}{at' b:Nat}{up:List Nat}{x:Wk}(h:fr.length<=x.used):Wk.split fr at' (b::up) x=(x,0,0,221):=by
 cases up<;>(unfold Wk.split;rw[if_pos h])
structure UpF (fr:List Nat)(rr at':Nat)(N:Nat)(z:Wk)(R:Wk×Nat×Nat×Nat)(f low:Nat)(above:Nat)(up':List Nat)(fb:Bool):Prop where
 inn:64*above+64<=N
 full:FN ET 124 [wkv z,iv above] (.ret (.bool fb))
 no:fb=false->R=z.fin above f low
 yes:fb=true->∃S,R=(if S.2.2.2=0 then S.1.fin (if S.2.2.1<=low then S.2.1 else above) f low else(z,0,0,S.2.2.2))/\zx3 fr z (up'.length+1) S/\∀r,FP ET 81 [wkv z,.list r 1 (zd1 (up'.reverse++[above])),iv at'] (.ret (wk4 S))
set_option maxHeartbeats 4000000 in
theorem zqr (fr:List Nat)(rr at' r:Nat)(up:List Nat)(b f:Nat)(x y z:Wk)(R:Wk×Nat×Nat×Nat)(p:Nat)(blk LW:List Nat)(D:List Pr)(hfr:x.fr=frV rr fr)(hN:x.W.length<=131072)(hat:at'<x.W.length)(hfew:up.length+1<=20)(hLb:x.L.length+300*(up.length+1)<900000)(hfl:fr.length<100000)(hul:x.used<fr.length)(hf:fr[x.used]?=some f)(hfb:64*f+64<=x.W.length)(hbin:64*b+64<=x.W.length)
  (hat48:FP ET 48 [wkv x.up,iv b] (.ret (wv p blk))) (hSp:FN ET 121 [wv p blk,iv f] (.ret (.tuple [wv 0 LW,.list 0 2 (D.map zBo),iv 0]))) (hLW:LW.length=64) (hbk:FP ET 122 [wkv x.up,iv f,wv 0 LW] (.ret (wkv y))) (hyf:y.fr=frV rr fr) (hdo:FP ET 49 [wkv y,iv (64*b:Nat),.list 0 2 (D.map zBo)] (.ret (wkv z))) (hzf:z.fr=frV rr fr) (c1:z.W.length=x.W.length) (c4:z.L.length<=x.L.length+93) (c3:z.used<=fr.length) (hfrN:∀g∈fr,64*g+64<=x.W.length)
  (hRn:up=[]->R=z.root fr at' b f (LW.getD 2 0)) (hRc:∀above up',up=above::up'->∃fb,UpF fr rr at' x.W.length z R f (LW.getD 2 0) above up' fb) :
  FP ET 81 [wkv x,.list r 1 (zd1 (up.reverse++[b])),iv at'] (.ret (wk4 R)):=by
 refine zfp f81 ?_;have hid0:Id0 x.fr:=by rw[hfr];exact .list _ _ _
 have hidu:Id0 (wkv x.up):=zcF hid0;have hxv:wkv x=.agg [wv x.p x.W,.list x.q 2 (x.L.map zBo),frV rr fr,iv x.used]:=by unfold wkv;rw[hfr]
 have huv:wkv x.up=.agg [wv x.p x.W,.list x.q 2 (x.L.map zBo),frV rr fr,iv ((x.used+1:Nat):Int)]:=by rw[<- hfr];rfl
 rw[hxv];obtain⟨WL,hWL⟩:∃WL,WL=zd1 (up.reverse++[b]):=⟨_,rfl⟩
 have hw1:WL.length=up.length+1:=by rw[hWL];simp
 have hw2:WL[up.length]?=some (iv b):=by rw[hWL,zAH9,zAP9 (by simp)];simp
 have hw3:WL.take up.length=zd1 up.reverse:=by rw[hWL];simp[List.take_append]
 have hw4:((up.length+1:Nat):Int)-1=(up.length:Nat):=by omega
 have hw5:up.length<up.length+1:=zCE9 _;rw[<- hWL];clear hWL;have g:¬(fr.length:Int)<=(x.used:Nat):=by omega
 have hfv:(fr.map fun(b:Nat)=>iv (b:Int))[x.used]?=some (iv f):=by rw[zAH9,hf];rfl
 refine zTF (zr5 g hw1 hw2 hw4 hw5) ?_;refine zBl ?_;show W _ _ _ _ _ _;have w2:(x.used:Int)+1=((x.used+1:Nat):Int):=by omega
 (repeat refine za ?_);refine zAV (zr3 g hul hfv) ?_;(repeat refine za ?_);refine zAV w2 ?_;have hy0:Id0 y.fr:=by rw[hyf];exact .list _ _ _
 have hidy:Id0 (wkv y):=zcF hy0;have hidz0:Id0 z.fr:=by rw[hzf];exact .list _ _ _
 have hidz:Id0 (wkv z):=zcF hidz0;rw[<- huv];have w1:IntKind.i64.wrap ((64:Int)*(b:Int))=((64*b:Nat):Int):=zwi;refine zcI (fun tm=>tm 1=.list r 1 WL/\tm 2=iv at'/\tm 3=.ptr 0 0 0 0 4/\tm 6=.ptr 1 0 0 0 4/\tm 10=iv b/\tm 11=iv f) ⟨zt,zt,zt,zt,zt,by simp[upd,zq]⟩ ?_;rintro tm ⟨h1,h2,h3,h6,h10,h11⟩;rw[huv]at hidu hat48 hbk⊢;refine zIF (zr3 h3 h10 h11) ?_;refine zbz (by first|rfl|(simp only[go_sem]<;>rfl)) (by simp only[go_sem]<;>rfl) hat48 rfl ?_ ?_;(repeat(first|exact trivial|refine And.intro ?_ ?_|exact Id0.int _ _|exact Id0.bool _|exact Id0.list _ _ _|exact Id0.elem _|exact Id0.nilsl|exact Id0.str _|exact zbE _ _ _))
 ·exact hidu
 ·(repeat(first|exact trivial|refine And.intro ?_ ?_|exact Id0.int _ _|exact Id0.bool _|exact Id0.list _ _ _|exact Id0.elem _|exact Id0.nilsl|exact Id0.str _|exact zbE _ _ _))
 refine zAW h11 ?_;refine zca hSp ?_;refine zN ?_;unfold wkv at hbk hdo hidy;rw[hzf]at hdo
 have hzv:wkv z=.agg [wv z.p z.W,.list z.q 2 (z.L.map zBo),frV rr fr,iv z.used]:=by unfold wkv;rw[hzf]
 refine zIF (zr4 h3 h10 h11 w1) ?_;refine zbz (by first|rfl|(simp only[go_sem]<;>rfl)) (by simp only[go_sem]<;>rfl) hbk rfl ?_ ?_;(repeat(first|exact trivial|refine And.intro ?_ ?_|exact Id0.int _ _|exact Id0.bool _|exact Id0.list _ _ _|exact Id0.elem _|exact Id0.nilsl|exact Id0.str _|exact zbE _ _ _))
 ·exact hidu
 ·(repeat(first|exact trivial|refine And.intro ?_ ?_|exact Id0.int _ _|exact Id0.bool _|exact Id0.list _ _ _|exact Id0.elem _|exact Id0.nilsl|exact Id0.str _|exact zbE _ _ _))
 refine zAW (zr2 h10 w1) ?_;refine zbz (by first|rfl|(simp only[go_sem]<;>rfl)) (by simp only[go_sem]<;>rfl) hdo rfl ?_ ?_;(repeat(first|exact trivial|refine And.intro ?_ ?_|exact Id0.int _ _|exact Id0.bool _|exact Id0.list _ _ _|exact Id0.elem _|exact Id0.nilsl|exact Id0.str _|exact zbE _ _ _))
 ·exact hidy
 ·(repeat(first|exact trivial|refine And.intro ?_ ?_|exact Id0.int _ _|exact Id0.bool _|exact Id0.list _ _ _|exact Id0.elem _|exact Id0.nilsl|exact Id0.str _|exact zbE _ _ _))
 refine zNF h3 ?_;refine zcI (fun tm=>tm 1=.list r 1 WL/\tm 2=iv at'/\tm 3=.ptr 0 0 0 0 4/\tm 6=.ptr 1 0 0 0 4/\tm 10=iv b/\tm 11=iv f/\tm 12=wv 0 LW) ⟨zu h1,zu h2,zu h3,zu h6,zu h10,zu h11,by simp[upd]⟩ ?_;clear h1 h2 h3 h6 h10 h11 hbk hdo hSp hat48 hidu huv;rintro tm ⟨h1,h2,h3,h6,h10,h11,h12⟩;have hL2:2<LW.length:=by omega
 have hLW2:=zcE hL2;have hlow:∃low,LW.getD 2 0=low:=⟨_,rfl⟩
 obtain⟨low,hlow⟩:=hlow;rw[hlow]at hLW2 hRn hRc;have hf48:f<2048:=by omega
 cases up with
 | nil =>
  have hw1:WL.length=1:=hw1;have hroot:=zvb z rr fr hzf at' b f low (by omega) (by omega) (by omega) hf48 (fun g hg=>by rw[c1];exact hfrN g hg) (by omega) (by omega);have hro:=zqV (fr:=fr) (x:=z) at' b f low (by omega) (by omega);rw[hRn rfl];generalize z.root fr at' b f low=RR at *
  obtain⟨R1,R2,R3,R4⟩:=RR;have hR0:Id0 R1.fr:=by rw[show R1.fr=z.fr from hro.2.1];exact hidz0
  have hR1v:wkv R1=.agg [wv R1.p R1.W,.list R1.q 2 (R1.L.map zBo),frV rr fr,iv R1.used]:=by unfold wkv;rw[show R1.fr=z.fr from hro.2.1,hzf]
  clear hRn hRc hro;unfold wk4 at hroot;dsimp only at hroot;rw[hR1v,hzv]at hroot;rw[hzv]at hidz;refine zSF (zr2 h1 hw1) ?_;(repeat refine za ?_);refine zad ?_;refine zdf hroot ⟨hidz,.int _ _,.int _ _,.int _ _,.int _ _,trivial⟩ ?_ (by simp(disch:=omega)only[go_sem,h2,h3,h10,h11,h12,hLW2,hL2]<;>rfl);refine zA0 h6 ?_;refine zQF h6 ?_;refine zy ?_;refine zj (vs:=[wkv R1,iv R2,uv R3,iv R4]) ?_ ?_
  ·rw[hR1v];simp[T81,xT,zE,okv,upd,h6,zae,zaz,zaH,PV.cells]
  ·exact zgA hR0 R2 R3 R4
 | cons above up' =>
  obtain⟨fb,hU⟩:=hRc above up' rfl;obtain⟨u1,u2,u3,u4⟩:=hU;clear hRn hRc;simp only[zAE9]at hw1 hw2 hw3 hw4 hw5 hfew hLb;rw[zEF9]at hw3;have g1:¬((up'.length+1+1:Nat):Int)=1:=by omega
  have hw6:up'.length+1<=up'.length+1+1:=by omega
  obtain⟨WU,hWU⟩:∃WU,WU=zd1 (up'.reverse++[above]):=⟨_,rfl⟩
  have hu1:WU.length=up'.length+1:=by rw[hWU];simp
  have hu2:WU[up'.length]?=some (iv above):=by rw[hWU,zAH9,zAP9 (by simp)];simp
  have hu4:((up'.length+1:Nat):Int)-1=(up'.length:Nat):=by omega
  have hu5:up'.length<up'.length+1:=zCE9 _;rw[<- hWU]at hw3 u4;clear hWU;refine zTF (zr3 h1 hw1 g1) ?_;refine zBl ?_;show W _ _ _ _ _ _;refine zGF (zr5 h1 hw1 hw3 hw4 hw6) ?_;refine zGF (zr4 hu1 hu2 hu4 hu5) ?_;rw[hzv]at u2 hidz;refine zIF h3 ?_;refine zca u2 ?_;refine zN ?_;have c1L:64*above+64<=z.W.length:=by omega
  (repeat refine za ?_);refine zbD (Q:=fun yy s'=>(yy=.norm/\∃(v:Wk) (ab:Nat) (G:List zn),R=v.fin ab f low/\v.fr=frV rr fr/\v.W.length=x.W.length/\v.L.length<=899900/\64*ab+64<=x.W.length/\s'.tm 3=.ptr 0 0 0 0 4/\s'.tm 6=.ptr 1 0 0 0 4/\s'.tm 11=iv f/\s'.tm 12=wv 0 LW/\s'.tm 16=iv ab/\s'.df=[]/\s'.H=.row 107 4 0 0 [.agg [wv v.p v.W,.list v.q 2 (v.L.map zBo),frV rr fr,iv v.used]]::.row 107 4 0 0 [.agg [.nilsl,.nilsl,.nilsl,iv 0]]::G)\/(yy=.ret/\zdj ET T81 (fun e' H=>za0 H 0 e' (.ret (wk4 R))) .ret s')) ?_ ?_
  ·cases fb with
   | false =>
    refine zcf ?_;refine zBl ?_;refine .inl ⟨rfl,z,above,[],u3 rfl,hzf,c1,by omega,u1,zu h3,zu h6,zu h11,zu h12,zt,rfl,rfl⟩
   | true =>
    obtain⟨S,hS,hSO,hIH⟩:=u4 rfl;have hIH:=hIH r;obtain⟨S1,S2,S3,S4⟩:=S;obtain⟨o1,o2,o3,o4,o5⟩:=hSO;dsimp only at o1 o2 o3 o4 o5 hS;have hS1v:wkv S1=.agg [wv S1.p S1.W,.list S1.q 2 (S1.L.map zBo),frV rr fr,iv S1.used]:=by unfold wkv;rw[o2,hzf]
    unfold wk4 at hIH;dsimp only at hIH;rw[hS1v,hzv]at hIH;refine zct ?_;refine zIF (zr2 h2 h3) ?_;refine zbz (by first|rfl|(simp only[go_sem]<;>rfl)) (by simp only[go_sem]<;>rfl) hIH rfl ?_ ?_;(repeat(first|exact trivial|refine And.intro ?_ ?_|exact Id0.int _ _|exact Id0.bool _|exact Id0.list _ _ _|exact Id0.elem _|exact Id0.nilsl|exact Id0.str _|exact zbE _ _ _))
    ·exact hidz
    ·(repeat(first|exact trivial|refine And.intro ?_ ?_|exact Id0.int _ _|exact Id0.bool _|exact Id0.list _ _ _|exact Id0.elem _|exact Id0.nilsl|exact Id0.str _|exact zbE _ _ _))
    refine zN ?_
    by_cases h0:S4=0
    rotate_left
    ·have g2:¬(S4:Int)=0:=by omega
     rw[if_neg h0]at hS;refine zSF g2 ?_;refine zGF (zr2 h3 h6) ?_;refine zy ?_;refine .inr ⟨rfl,?_⟩;refine zj (vs:=[wkv z,iv 0,uv 0,iv S4]) ?_ ?_
     ·rw[hzv];simp[T81,xT,zE,okv,upd,h6,zae,zaz,zaH,PV.cells]
     ·rw[hS];exact zgA hidz0 0 0 S4
    have g2:(S4:Int)=0:=by omega
    rw[if_pos h0]at hS;refine zTF g2 ?_;refine zBl ?_;show W _ _ _ _ _ _;have hS2in:=o5 h0
    by_cases hlo:S3<=low
    ·have g3:(S3:Int)<=(low:Nat):=by omega
     rw[if_pos hlo]at hS;refine zSF (zr5 h3 h12 hLW2 hL2 g3) ?_;refine zJ ?_;refine .inl ⟨rfl,S1,S2,_,hS,by rw[o2,hzf],by omega,by omega,by omega,zu h3,zu h6,zu h11,zu h12,zt,rfl,rfl⟩
    ·have g3:¬(S3:Int)<=(low:Nat):=by omega
     rw[if_neg hlo]at hS;refine zTF (zr5 h3 h12 hLW2 hL2 g3) ?_;refine zBl ?_;refine .inl ⟨rfl,S1,above,_,hS,by rw[o2,hzf],by omega,by omega,by omega,zu h3,zu h6,zu h11,zu h12,zt,rfl,rfl⟩
  clear h1 h2 h3 h6 h10 h11 h12 u2 u3 u4 hidz hzv;rintro yy ⟨tm,df,H⟩ (⟨rfl,v,ab,G,hR,hvf,hvW,hvL,hab,h3,h6,h11,h12,h16,rfl,rfl⟩|⟨rfl,hfin⟩);rotate_left
  ·(try simp only[zc,zf,ze,zd,zi,zg,if_true,reduceIte]);exact hfin
  dsimp only at h3 h6 h11 h12 h16;have hv0:Id0 v.fr:=by rw[hvf];exact .list _ _ _
  have hvv:wkv v=.agg [wv v.p v.W,.list v.q 2 (v.L.map zBo),frV rr fr,iv v.used]:=by unfold wkv;rw[hvf]
  have hidv:=zcF hv0;have hat2:=zfO v hv0 ab (by omega) (by omega);have hblen:=zb5 v.W ab (by omega);have hpu:=zlV v.p (zA v.W ab) (low,f) (by rw[hblen];decide);have hpa:=ziV (x:=(low,f)) hblen;have hdo2:=zdQ v hv0 (64*ab) 0 (zcc (zA v.W ab) (low,f)).1 (by omega) (by omega) fun c hc=>by have:=hpa.2 c hc;omega
  have hfv:v.fin ab f low=(v.does (zaZ (64*ab) (zcc (zA v.W ab) (low,f)).1),f,low,0):=rfl;rw[hfv]at hR;have hqf:(v.does (zaZ (64*ab) (zcc (zA v.W ab) (low,f)).1)).fr=frV rr fr:=(zcJ _ v).2.2.1.trans hvf;generalize v.does (zaZ (64*ab) (zcc (zA v.W ab) (low,f)).1)=q at *
  have hqv:wkv q=.agg [wv q.p q.W,.list q.q 2 (q.L.map zBo),frV rr fr,iv q.used]:=by unfold wkv;rw[hqf]
  generalize zcc (zA v.W ab) (low,f)=pr at *
  have w3:IntKind.u64.wrap (f:Int)=(f:Int):=zwu;have w4:IntKind.i64.wrap ((64:Int)*(ab:Int))=((64*ab:Nat):Int):=zwi;rw[hvv]at hat2 hidv hdo2;rw[hqv]at hdo2;(repeat refine za ?_);refine zad ?_;refine zdf hat2 ⟨hidv,.int _ _,trivial⟩ ?_ (by simp(disch:=omega)only[go_sem,h3,h11,h12,h16,hLW2,hL2,w3]<;>rfl);refine zAZ (zr7 h3 h11 h12 h16 hLW2 hL2 w3) hpu ?_;refine zQF h3 ?_;(repeat refine za ?_);refine zad ?_;refine zdf hdo2 ⟨hidv,.int _ _,.list _ _ _,trivial⟩ ?_ (by simp(disch:=omega)only[go_sem,h3,h11,h12,h16,hLW2,hL2,w4]<;>rfl);refine zA0 (zr2 h6 h12) ?_;refine zQF h6 ?_;refine zy ?_;refine zj (vs:=[wkv q,iv f,uv low,iv 0]) ?_ ?_
  ·rw[hqv];simp[T81,xT,zE,okv,upd,h6,zae,zaz,zaH,PV.cells]
  ·rw[hR];exact zgA (by rw[hqf];exact .list _ _ _) f low 0
theorem zie (fr:List Nat)(rr at' r:Nat)(up:List Nat)(b:Nat)(x:Wk)(hfr:x.fr=frV rr fr)(hfew:up.length+1<=20)(hus:fr.length<=x.used) :
  FP ET 81 [wkv x,.list r 1 (zd1 (up.reverse++[b])),iv at'] (.ret (wk4 (x,0,0,221))):=by
 refine zfp f81 ?_;have hid0:Id0 x.fr:=by rw[hfr];exact .list _ _ _
 have hxv:wkv x=.agg [wv x.p x.W,.list x.q 2 (x.L.map zBo),frV rr fr,iv x.used]:=by unfold wkv;rw[hfr]
 rw[hxv];obtain⟨WL,hWL⟩:∃WL,WL=zd1 (up.reverse++[b]):=⟨_,rfl⟩
 have hw1:WL.length=up.length+1:=by rw[hWL];simp
 have hw2:WL[up.length]?=some (iv b):=by rw[hWL,zAH9,zAP9 (by simp)];simp
 have hw4:((up.length+1:Nat):Int)-1=(up.length:Nat):=by omega
 have hw5:up.length<up.length+1:=zCE9 _;rw[<- hWL];clear hWL;have g:(fr.length:Int)<=(x.used:Nat):=by omega
 refine zSF (zr5 g hw1 hw2 hw4 hw5) ?_;refine zG ?_;refine zy ?_;refine zj (vs:=[wkv x,iv 0,uv 0,iv 221]) ?_ ?_
 ·rw[hxv];simp[T81,xT,zE,okv,upd,zq,zae,zaz,zaH,PV.cells]
 ·exact zgA hid0 0 0 221
theorem zlM (fr:List Nat)(rr at' r:Nat)(up:List Nat)(b:Nat)(x:Wk)(n:zC)(hn:headN (zA x.W b)=n)(hI:ziB fr rr x (b::up))(hat:at'<x.W.length)(hu:x.used<fr.length)(hcf:zzX fr x (x.cut b (fr.getD x.used 0)) b (fr.getD x.used 0))
  (hp1:2<=n.pairs.length) (hp2:n.pairs.length<=28) (hcut:x.cut b (fr.getD x.used 0)=(x.up.does (zaZ (64*fr.getD x.used 0) (zb6 (zbh (zcu n))))).does (zaZ (64*b) (zfd n (fr.getD x.used 0)))) (R:Wk×Nat×Nat×Nat)
  (hRn:up=[]->R=(x.cut b (fr.getD x.used 0)).root fr at' b (fr.getD x.used 0) ((zbh (zcu n)).getD 2 0)) (hRc:∀above up',up=above::up'->∃fb,UpF fr rr at' x.W.length (x.cut b (fr.getD x.used 0)) R (fr.getD x.used 0) ((zbh (zcu n)).getD 2 0) above up' fb) :
  FP ET 81 [wkv x,.list r 1 (zd1 (up.reverse++[b])),iv at'] (.ret (wk4 R)):=by
 have hto:=hI.to hu;have hf:fr[x.used]?=some (fr.getD x.used 0):=by rw[zAL9,zAB9 hu];rfl
 obtain⟨hf1,hfb⟩:=hI.frN _ hto;have hN:=hI.hN;have hbin:=hI.inn b (zAU9 ..);have hchk:=hI.chk b (zAU9 ..);have hLb:=hI.hL;have hid0:Id0 x.fr:=by rw[hI.hfr];exact .list _ _ _
 generalize fr.getD x.used 0=f at *
 have hSp:=zsp x.up.p (f:Int) (zA x.W b) (by rw[zb5 _ _ hbin];decide);rw[zwQ hn hchk hf1 (by omega) hp1]at hSp;have eB:=ztD f hp2;have hLW:=zdg (zcu n);have hbk:=zlI x.up hid0 f 0 (zbh (zcu n)) (by rw[hLW];show x.L.length+64<1000000;simp only[zAE9]at hLb;omega) (by show x.W.length<1000000;omega) (by rw[hLW];exact hfb);have hy:=zcJ (zaZ (64*f) (zb6 (zbh (zcu n)))) x.up;rw[zfw,zeQ,hLW]at hy;have hy0:Id0 (x.up.does (zaZ (64*f) (zb6 (zbh (zcu n))))).fr:=by rw[hy.2.2.1];exact hid0
 have hdo:=zdQ (x.up.does (zaZ (64*f) (zb6 (zbh (zcu n))))) hy0 (64*b) 0 (zfd n f) (by rw[hy.2.1];show x.L.length+64+_<1000000;simp only[zAE9]at hLb;omega) (by rw[hy.1];show x.W.length<1000000;omega) fun c hc=>by
  rw[hy.1];show 64*b+c.1<x.W.length;have:=eB.2 c hc;omega
 rw[<- hcut]at hdo
 exact zqr fr rr at' r up b f x _ _ R x.up.p (zA x.W b) (zbh (zcu n)) (zfd n f) hI.hfr hN hat hI.few (by simpa using hLb) hI.fl hu hf hfb hbin (zfO x.up hid0 b hbin hN) hSp hLW hbk (hy.2.2.1.trans hI.hfr) hdo (hcf.fr'.trans hI.hfr) hcf.W hcf.L (by rw[hcf.used];omega) (fun g hg=>(hI.frN g hg).2) hRn hRc
theorem znD (fr:List Nat)(rr at':Nat):∀(up:List Nat) (b:Nat) (x:Wk) (r:Nat),ziB fr rr x (b::up)->at'<x.W.length->FP ET 81 [wkv x,.list r 1 (zd1 (up.reverse++[b])),iv at'] (.ret (wk4 (Wk.split fr at' (b::up) x)))
 | [],b,x,r,hI,hat=>by
  by_cases hus:fr.length<=x.used
  ·rw[zjY hus];exact zie fr rr at' r [] b x hI.hfr (by decide) hus
  have hu:x.used<fr.length:=by omega
  have hful:=hI.ful b rfl;have hcf:=zfQ fr x b (fr.getD x.used 0) (zA2 _);have hR:Wk.split fr at' [b] x=(x.cut b (fr.getD x.used 0)).root fr at' b (fr.getD x.used 0) ((zbh (zcu (headN (zA x.W b)))).getD 2 0):=by
   unfold Wk.split;rw[if_neg hus]
  obtain⟨n,hn⟩:∃n,headN (zA x.W b)=n:=⟨_,rfl⟩
  have hp2:=zA2 (zA x.W b);have hcut:x.cut b (fr.getD x.used 0)=(x.up.does (zaZ (64*fr.getD x.used 0) (zb6 (zbh (zcu (headN (zA x.W b))))))).does (zaZ (64*b) (zfd (headN (zA x.W b)) (fr.getD x.used 0))):=rfl;rw[hn]at hful hp2 hR hcut;exact zlM fr rr at' r [] b x n hn hI hat hu hcf (by omega) hp2 hcut _ (fun _=>hR) fun above up' e=>by cases e
 | above::up',b,x,r,hI,hat=>by
  by_cases hus:fr.length<=x.used
  ·rw[zjY hus];exact zie fr rr at' r (above::up') b x hI.hfr hI.few hus
  have hu:x.used<fr.length:=by omega
  have hful:=hI.ful b rfl;have hcf:=zfQ fr x b (fr.getD x.used 0) (zA2 _);have hSc:=hI.cut hu;have hR:Wk.split fr at' (b::above::up') x=if 27<=(ofN (zA (x.cut b (fr.getD x.used 0)).W above)).pairs.length then
   (if(Wk.split fr at' (above::up') (x.cut b (fr.getD x.used 0))).2.2.2=0 then
    (Wk.split fr at' (above::up') (x.cut b (fr.getD x.used 0))).1.fin (if(Wk.split fr at' (above::up') (x.cut b (fr.getD x.used 0))).2.2.1<=(zbh (zcu (headN (zA x.W b)))).getD 2 0 then(Wk.split fr at' (above::up') (x.cut b (fr.getD x.used 0))).2.1 else above) (fr.getD x.used 0) ((zbh (zcu (headN (zA x.W b)))).getD 2 0)
   else(x.cut b (fr.getD x.used 0),0,0,(Wk.split fr at' (above::up') (x.cut b (fr.getD x.used 0))).2.2.2))
  else(x.cut b (fr.getD x.used 0)).fin above (fr.getD x.used 0) ((zbh (zcu (headN (zA x.W b)))).getD 2 0):=by
   conv=>lhs;unfold Wk.split
   rw[if_neg hus]
  obtain⟨n,hn⟩:∃n,headN (zA x.W b)=n:=⟨_,rfl⟩
  have hp2:=zA2 (zA x.W b);have hcut:x.cut b (fr.getD x.used 0)=(x.up.does (zaZ (64*fr.getD x.used 0) (zb6 (zbh (zcu (headN (zA x.W b))))))).does (zaZ (64*b) (zfd (headN (zA x.W b)) (fr.getD x.used 0))):=rfl;rw[hn]at hful hp2 hR hcut;have hin:=hI.inn above (by simp);have hN:=hI.hN;have hzf:(x.cut b (fr.getD x.used 0)).fr=frV rr fr:=hcf.fr'.trans hI.hfr;have hfu:=zuQ (x.cut b (fr.getD x.used 0)) (by rw[hzf];exact .list _ _ _) above (by rw[hcf.W];exact hin) (by rw[hcf.W];exact hN);refine zlM fr rr at' r (above::up') b x n hn hI hat hu hcf (by omega) hp2 hcut _ (fun e=>by cases e) fun above2 up2 e=>?_;injection e with e1 e2;subst e1 e2;refine⟨decide (27<=(ofN (zA (x.cut b (fr.getD x.used 0)).W above)).pairs.length),hin,hfu,fun h=>?_,fun h=>?_⟩
  ·rw[hR,if_neg (of_decide_eq_false h)]
  ·have h:=of_decide_eq_true h;have hI2:=hSc h;refine⟨Wk.split fr at' (above::up') (x.cut b (fr.getD x.used 0)),by rw[hR,if_pos h],zkt up' above _ hI2,fun r2=>znD fr rr at' up' above _ r2 hI2 (by rw[hcf.W];exact hat)⟩
theorem zsQ {w:List Nat}{lv:Int}:∀(k:Nat) (seen:List Nat) (b:Nat) (r:List Nat×List Nat×List zC),zbs w lv k seen [] [] b=some r->r.2.2 ≠ []->r.2.1.head?=some b
 | 0,seen,b,r,h,hr=>by
  rw[zbs]at h
  split at h
  ·injection h with h;subst h;exact absurd rfl hr
  ·cases h
 | k+1,seen,b,r,h,hr=>by
  rw[zbs]at h
  split at h
  ·injection h with h;subst h;exact absurd rfl hr
  split at h
  ·cases h
  split at h
  rotate_left
  ·cases h
  obtain⟨X,h1,_⟩:=zgF _ _ _ _ _ _ h;rw[h1];rfl
structure zAo (b:Nat)(X:List Lev):Prop where
 first:∃M,X.head?=some M/\M.1.head?=some b
 apart:X.Pairwise fun L M=>∀c∈L.1,c ∉ M.1
 leaf:∀L,X.getLast?=some L->∀n∈L.2,n.level=0
 pos:∀L∈X,∀c∈L.1,c≠0
theorem zj4 {w:List Nat}(hw:w.length<=131072):∀(d:Nat) (seen:List Nat) (acc:List Lev) (b:Nat) (lv:Int),(zbB w d seen acc b lv).2=true->∃X,(zbB w d seen acc b lv).1=acc++X/\zAo b X/\∀L∈X,∀c∈L.1,c ∉ seen
 | 0,_,_,_,_,h=>by cases h
 | d+1,seen,acc,b,lv,h=>by
  rw[zbB]at h⊢
  cases hr:zbs w lv (w.length/64) seen [] [] b with
  | none=>rw[hr]at h;cases h
  | some r =>
   obtain⟨s',bs,ns⟩:=r;rw[hr]at h
   cases ns with
   | nil=>cases h
   | cons n ns =>
    have hh:=zsQ _ _ _ _ hr (by simp);obtain⟨X,x1,x2,x3,x4⟩:=zgF _ _ _ _ _ _ hr;obtain⟨hF,_,_⟩:=ze6 (N:=2048) _ _ _ _ _ _ hr (LvF.nil w) (fun n hn=>by simp at hn) (by simp;omega);dsimp only at hh x1 x2 hF h⊢;rw[zAK9]at x1;subst x1
    by_cases hl:n.level=0
    ·rw[if_pos hl]at h⊢;refine⟨[(bs,n::ns)],rfl,⟨⟨_,rfl,hh⟩,List.pairwise_singleton _ _,fun L hL m hm=>?_,fun L hL c hc=>?_⟩,fun L hL c hc=>?_⟩
     ·simp at hL;subst hL;exact(hF.same m hm n rfl).trans hl
     ·simp at hL;subst hL;exact(x4 c hc).2
     ·simp at hL;subst hL;exact(x4 c hc).1
    ·rw[if_neg hl]at h⊢;obtain⟨Y,y1,⟨y2,y3,y4,y6⟩,y5⟩:=zj4 hw d s' _ _ _ h;refine⟨(bs,n::ns)::Y,by rw[y1];simp,⟨⟨_,rfl,hh⟩,zFO9.2 ⟨fun M hM c hc hcM=>y5 M hM c hcM ?_,y3⟩,fun L hL=>?_,fun L hL c hc=>?_⟩,fun L hL c hc=>?_⟩
     ·rw[x2];exact zEA9 _ (zEO9.2 hc)
     ·obtain⟨M,hM,_⟩:=y2
      cases Y with
      | nil=>cases hM
      | cons a Y=>exact y4 L (by rw[zEH9]at hL;exact hL)
     ·rcases zAX9.1 hL with rfl|hL
      ·exact(x4 c hc).2
      ·exact y6 L hL c hc
     ·rcases zAX9.1 hL with rfl|hL
      ·exact(x4 c hc).1
      ·intro hs;exact y5 L hL c hc (by rw[x2];exact zDP9 _ hs)
theorem zge {w:List Nat}:∀{bs:List Nat} {ns:List zC},bs.length=ns.length->zck w bs ns=true->∀b∈bs,zbi (zA w b)=0
 | [],_,_,_,b,hb=>by simp at hb
 | b'::bs,[],h,_,_,_=>by simp at h
 | b'::bs,n::ns,h,hs,b,hb=>by
  rw[zck,zAQ9,zAQ9]at hs;rcases zAX9.1 hb with rfl|hb
  ·exact of_decide_eq_true hs.1.1
  ·exact zge (by simpa using h) hs.2 b hb
def ziz (w:List Nat)(key:Nat):List Lev->Nat->List Nat
 | [],_=>[]
 | [_],b=>[b]
 | _::M::T,b=>b::ziz w key (M::T) (zcv (zA w b) key).1
structure zAI (w:List Nat)(key:Nat)(T:List Lev)(b:Nat)(ws:List Nat):Prop where
 first:ws[0]?=some b
 next:∀(i:Nat) (b c:Nat),ws[i]?=some b->ws[i+1]?=some c->zcv (zA w b) key=(c,0)
 last:∀b,ws.getLast?=some b->¬(zcv (zA w b) key).2=0
 len:ws.length=T.length
 mem:∀(i c:Nat),ws[i]?=some c->∃L,T[i]?=some L/\c∈L.1
theorem zth {w:List Nat}{key:Nat}:∀(T:List Lev) (b:Nat),(∀L∈T,zhL w L)->zbX w T=true->(∀L∈T.dropLast,zhK L)->(∀L,T.getLast?=some L->∀n∈L.2,n.level=0)->(∃L,T.head?=some L/\b∈L.1)->zAI w key T b (ziz w key T b)
 | [],b,_,_,_,_,h=>by obtain⟨L,h,_⟩:=h;cases h
 | [L],b,hF,hs,_,hlf,h=>by
  obtain⟨L',h,hb⟩:=h;simp at h;subst h;have hLF:=hF L (zAU9 ..);rw[zbX]at hs;have hc:=zge hLF.lv.len hs b hb;have hn:headN (zA w b)∈L.2:=by rw[hLF.lv.is];exact zAM9.2 ⟨b,hb,rfl⟩
  have hl:=hlf L rfl _ hn;refine⟨rfl,fun i b' c h1 h2=>by simp[ziz]at h2,fun c hcc=>?_,rfl,fun i c hi=>?_⟩
  ·simp[ziz]at hcc;subst hcc;unfold zcv;rw[if_pos hc,if_pos hl]
   decide
  ·cases i with
   | zero=>simp[ziz]at hi;subst hi;exact⟨L,rfl,hb⟩
   | succ i=>simp[ziz]at hi
 | L::M::T,b,hF,hs,hp,hlf,h=>by
  obtain⟨L',h,hb⟩:=h;simp at h;subst h;have hLF:=hF L (zAU9 ..);have hMF:=hF M (zAT9 _ (zAU9 ..));rw[zbX,zAQ9,zAQ9]at hs;obtain⟨⟨hs1,hs2⟩,hs3⟩:=hs;have hs2:=of_decide_eq_true hs2;have hc:=zge hLF.lv.len hs1 b hb;have hn:headN (zA w b)∈L.2:=by rw[hLF.lv.is];exact zAM9.2 ⟨b,hb,rfl⟩
  have hl:0<(headN (zA w b)).level:=hp L (by simp[List.dropLast]) _ hn;have hch:zcv (zA w b) key=(zd2 (headN (zA w b)).left (headN (zA w b)).pairs key,0):=by
   unfold zcv;rw[if_pos hc,if_neg (by omega)]
  have hk:∃q∈zcC (headN (zA w b)),zd2 (headN (zA w b)).left (headN (zA w b)).pairs key=q.2:=by
   rcases zpq (headN (zA w b)).pairs key (headN (zA w b)).left with h|⟨q,hq,h⟩
   ·exact⟨_,zAU9 ..,h⟩
   ·exact⟨q,zAT9 _ hq,h⟩
  obtain⟨q,hq,hk⟩:=hk;have hq2:q∈zcU M:=by rw[<- hs2];exact zBB9.2 ⟨_,hn,hq⟩
  have hcM:(zcv (zA w b) key).1∈M.1:=by
   rw[hch];dsimp only;rw[hk];unfold zcU at hq2;exact(zES9 (show (q.1,q.2)∈_ from hq2)).2
  have ih:=zth (key:=key) (M::T) (zcv (zA w b) key).1 (fun K hK=>hF K (zAT9 _ hK)) hs3 (fun K hK=>hp K (by rw[List.dropLast_cons_cons];exact zAT9 _ hK)) (fun K hK=>hlf K (by rw[zEH9];exact hK)) ⟨M,rfl,hcM⟩;have hw:ziz w key (L::M::T) b=b::ziz w key (M::T) (zcv (zA w b) key).1:=rfl;rw[hw];generalize ziz w key (M::T) (zcv (zA w b) key).1=ws at ih;obtain⟨i1,i2,i3,i4,i5⟩:=ih;refine⟨rfl,fun i b' c h1 h2=>?_,fun c hcc=>?_,by simp at i4⊢;exact i4,fun i c hi=>?_⟩
  ·cases i with
   | zero =>
    simp at h1 h2;subst h1;rw[zAB9]at i1;rotate_left
    ·simp at i4;omega
    have:ws[0]?=some c:=by simpa using h2
    rw[hch];rw[zAB9 (by simp at i4;omega)]at this;injection i1 with i1;injection this with this;rw[<- this,i1,hch]
   | succ i=>exact i2 i b' c (by simpa using h1) (by simpa using h2)
  ·cases ws with
   | nil=>simp at i1
   | cons a ws=>rw[zEH9]at hcc;exact i3 c hcc
  ·cases i with
   | zero=>simp at hi;subst hi;exact⟨L,rfl,hb⟩
   | succ i=>exact i5 i c (by simpa using hi)
theorem zlC {w:List Nat}:∀{T:List Lev},zbX w T=true->∀L∈T,zck w L.1 L.2=true
 | [],_,L,h=>by simp at h
 | [L],hs,K,h=>by simp at h;subst h;exact hs
 | L::M::T,hs,K,h=>by
  rw[zbX,zAQ9,zAQ9]at hs;rcases zAX9.1 h with rfl|h
  ·exact hs.1.1
  ·exact zlC hs.2 K h
structure ztd (w:List Nat)(n key:Nat)(fr:List Nat)(ws:List Nat):Prop where
 way:zqb w (w.getD n 0) key ws
 chk:∀b∈ws,zbi (zA w b)=0
 inn:∀b∈ws,b<w.length/64
 nd:ws.Nodup
 few:ws.length<=14
 ne:ws ≠ []
 frN:∀f∈fr,1<=f/\f<w.length/64
 out:∀f∈fr,f ∉ ws
 pos:∀b∈ws,b≠0
theorem zsU {w:List Nat}{n:Nat}(key:Nat){fr:List Nat}(hw:w.length<=131072)(ht:(zac w n).2=true)(hs:zfe w (zac w n).1=true)(hf1:∀f∈fr,1<=f/\f<w.length/64)(hf2:zgR (zac w n).1 (fr.map fun(b:Nat)=>(b:Int))=true):∃ws,ztd w n key fr ws:=by
 obtain⟨f1,f2,f3,f4,f5⟩:=zcN (w:=w) (T:=(zac w n).1) hw n (by rw[<- ht]);obtain⟨X,x1,⟨x2,x3,x4,x5⟩,_⟩:=zj4 hw 14 [] [] (w.getD n 0) (-1) ht;have hX:(zac w n).1=X:=by rw[show (zac w n).1=[]++X from x1,zAK9]
 rw[hX]at hs f1 f2 f3 f5 hf2;unfold zfe at hs;rw[zAQ9]at hs;obtain⟨M,hM,hMb⟩:=x2;have hmem:∃L,X.head?=some L/\w.getD n 0∈L.1:=⟨M,hM,by cases h:M.1 with|nil=>rw[h]at hMb;cases hMb|cons a l=>rw[h]at hMb;injection hMb with hMb;rw[hMb];exact zAU9 ..⟩
 have hwy:=zth (w:=w) (key:=key) X (w.getD n 0) f1 hs.2 f2 x4 hmem;generalize ziz w key X (w.getD n 0)=ws at hwy;obtain⟨w1,w2,w3,w4,w5⟩:=hwy;have hin:∀b∈ws,∃L∈X,b∈L.1:=fun b hb=>by
  obtain⟨i,hi⟩:=zDW9.1 hb;obtain⟨L,hL,hbL⟩:=w5 i b hi;exact⟨L,zAO9 hL,hbL⟩
 have hlt:∀b∈ws,b<w.length/64:=fun b hb=>by
  obtain⟨L,hL,hbL⟩:=hin b hb;exact((f1 L hL).lv.each b hbL).1
 refine⟨ws,⟨w1,fun b hb=>by have:=hlt b hb;omega,w2,w3,by omega⟩,fun b hb=>?_,hlt,?_,by omega,fun e=>by subst e;simp at w1,hf1,fun f hf hfw=>?_,fun b hb=>?_⟩
 ·obtain⟨L,hL,hbL⟩:=hin b hb;exact zge (f1 L hL).lv.len (zlC hs.2 L hL) b hbL
 ·refine zDX9.2 fun i j hi hj hij e=>?_;obtain⟨L,hL,hbL⟩:=w5 i _ (zAB9 hi);obtain⟨K,hK,hbK⟩:=w5 j _ (zAB9 hj);rw[e]at hbL;obtain⟨hi1,hi2⟩:=zAC9.1 hL;obtain⟨hj1,hj2⟩:=zAC9.1 hK;have:=(zDX9.1 x3) i j hi1 hj1 hij;rw[hi2,hj2]at this;exact this _ hbL hbK
 ·obtain⟨L,hL,hbL⟩:=hin f hfw;unfold zgR at hf2;have h1:=zBL9.1 hf2 L hL;unfold zmT at h1;have h2:=zBL9.1 h1 (f:Int) (zAM9.2 ⟨f,hf,rfl⟩);rw[zkz]at h2;simp[hbL]at h2
 ·obtain⟨L,hL,hbL⟩:=hin b hb;exact x5 L hL b hbL
theorem zu3 {n:Nat}{fr:List Int}(h:zfU n fr fr.length=true):∀f∈fr,1<=f/\f<n:=fun f hf=>by
 obtain⟨i,hi⟩:=zDW9.1 hf;have hlt:=(zAC9.1 hi).1;unfold zfU at h;have:=zBL9.1 h i (zCT9.2 hlt);rw[zAL9,hi]at this;unfold zg3 at this;simp only[zFF9,zAQ9,decide_eq_true_eq]at this;exact this.1
theorem zmg {w:List Nat}{a:Int}{fr:List Int}(key:Nat)(h:zeR w a fr=0):∃(n:Nat) (frN ws:List Nat),a=n/\n<w.length/\64<=w.length/\w.length<=131072/\fr=frN.map (fun(b:Nat)=>(b:Int))/\(zac w n).2=true/\zfe w (zac w n).1=true/\ztd w n key frN ws:=by
 unfold zeR at h
 split at h
 rotate_left
 ·cases h
 rename_i hr;have hb:=(zdR _ _).1 hr;obtain⟨n,rfl⟩:∃n:Nat,a=n:=⟨a.toNat,by omega⟩
 rw[zCV9]at h
 split at h
 rotate_left
 ·cases h
 rename_i hf;unfold ziQ at h;rw[if_pos hr,zCV9]at h
 split at h
 rotate_left
 ·cases h
 rename_i ht
 split at h
 rotate_left
 ·cases h
 rename_i hs;unfold zA6 at hf;obtain⟨e1,e2⟩:=zeG w n;rw[e1,ht,e2 ht,zAQ9,Bool.not_true,Bool.false_or]at hf;have he:=zu3 hf.1;have hfr:fr=(fr.map Int.toNat).map (fun(b:Nat)=>(b:Int)):=by
  rw[zDH9]
  conv=>lhs;rw[<- zFU9 fr]
  exact zEK9 fun f hf=>by have:=he f hf;simp;omega
 have hf1:∀f∈fr.map Int.toNat,1<=f/\f<w.length/64:=fun f hf=>by
  obtain⟨g,hg,rfl⟩:=zAM9.1 hf;have:=he g hg;omega
 obtain⟨ws,hS⟩:=zsU key hb.2.2.1 ht hs hf1 (by rw[<- hfr];exact hf.2);exact⟨n,fr.map Int.toNat,ws,rfl,by omega,hb.1,hb.2.2.1,hfr,ht,hs,hS⟩
theorem zwd {left:Nat}{w:List Nat}{x:Pr}(h:(zdK left w x).2=3):w.length/2<=(zab left w).length+1/\zbx left w.length=true:=by
 unfold zdK at h
 by_cases hp:zcz left w x=0
 ·rw[if_pos hp]at h;have:=(zgr hp).1
  split at h
  ·cases h
  split at h
  ·exact⟨by assumption,this⟩
  ·cases h
 ·rw[if_neg hp]at h;dsimp only at h;unfold zcz at h
  split at h
  ·split at h
   ·cases h
   ·unfold zbt at h
    split at h
    ·split at h<;>cases h
    ·cases h
  ·cases h
theorem zwn {w:List Nat}{x:Pr}(h:(zcc w x).2=3):27<=(headN w).pairs.length:=by
 unfold zcc chg at h
 by_cases hc:zfi w x=0
 ·rw[if_pos hc]at h;have hl:=zjo (zkC hc);have h3:(zdK (w.getD 3 0) (w.drop 8) x).2=3:=by
   split at h
   ·cases h
   ·exact h
  obtain⟨h1,h2⟩:=zwd h3;have hp:(headN w).pairs=zab (w.getD 3 0) (w.drop 8):=by unfold headN zbv;dsimp only;rw[if_pos h2]
  rw[hp];rw[zBT9,hl]at h1;omega
 ·rw[if_neg hc]at h;dsimp only at h;unfold zfi at h
  split at h
  ·split at h<;>cases h
  ·unfold zbi at h
   split at h
   ·split at h<;>cases h
   ·cases h
theorem zdS:∀(l:List Pr) (x:Wk),x.q=0->(x.does l).q=0
 | [],_,h=>h
 | c::l,x,_=>zdS l (x.one c) rfl
theorem zzM {fr:List Nat}{x:Wk}{at' b to low:Nat}(h:x.q=0):(x.root fr at' b to low).1.q=0:=by
 unfold Wk.root
 split
 ·exact h
 split
 ·exact h
 ·exact zdS _ _ (zdS _ x.up h)
theorem ztK {fr:List Nat}{at':Nat}:∀(up:List Nat) (b:Nat) (x:Wk),x.q=0->(Wk.split fr at' (b::up) x).1.q=0
 | [],b,x,h=>by
  unfold Wk.split
  split
  ·exact h
  ·exact zzM (zdS _ _ (zdS _ x.up h))
 | above::up,b,x,h=>by
  unfold Wk.split;have hc:∀to,(x.cut b to).q=0:=fun to=>zdS _ _ (zdS _ x.up h)
  split
  ·exact h
  split
  ·split
   ·exact zdS _ _ (ztK up above _ (hc _))
   ·exact hc _
  ·exact zdS _ _ (hc _)
theorem f33:ET.funcs.get 33=some T33:=zH Tryz.func33
theorem HR.nilBox {B:Ba}{c:Cx}{H:List zn}{h:TH}(k:HR B c H h){b e z G M:Nat}{v v':PV}(hb:H[b]?=some (.row e z G M [v]))(hl:v'.cells.length=v.cells.length)
  (hw:∀(i:Nat) (x y:PV),v.cells[i]?=some x->v'.cells[i]?=some y->y=x\/(x=.nilsl/\∃p z,y=.list p z [])):HR B c (H.set b (.row e z G M [v'])) h:=by
 have hlt:=(zAC9.1 hb).1;refine⟨k.le,k.keep,k.old,fun p b' hb'=>⟨(k.S p b' hb').1,fun id x hx e'=>?_⟩,fun id x hx=>by rw[zCP9];exact k.own id x hx,fun id hx=>by rw[zCP9];exact k.lz id hx,k.inj,fun id o ho=>?_⟩
 ·have:=(k.S p b' hb').2 id x hx e';rw[zAZ9 (fun e''=>by subst e'';rw[hb]at this;cases this)];exact this
 ·by_cases hi:b=id
  ·subst hi;rw[zBD9 hlt]at ho;injection ho with ho;subst ho;rcases k.obj _ _ hb with⟨h1,_⟩|⟨b1,d,G',M',cells,cs,r1,r2,r3,r4,r5,r6⟩
   ·cases h1
   ·refine .inr ⟨b1,d,G',M',cells,cs,r1,r2,r3,r4,r5,ER.one' (by rw[hl];exact r6.one v (by simp)) ?_⟩;have hall:LR (VR c h) v.cells cs:=by have:=r6.all;simpa using this
    refine⟨by rw[hl];exact hall.1,fun j x y hx hy=>?_⟩;obtain⟨x0,hx0⟩:∃x0,v.cells[j]?=some x0:=⟨_,zAB9 (by rw[<- hl];exact(zAC9.1 hx).1)⟩
    have hv:=hall.2 j x0 y hx0 hy;rcases hw j x0 x hx0 hx with rfl|⟨rfl,p,z,rfl⟩
    ·exact hv
    ·obtain rfl:y=.nilsl:=by cases hv with|pure hv=>cases hv;rfl
     exact .pure (.listnil _ _)
  ·rw[zAZ9 hi]at ho;exact k.obj id o ho
theorem zmm {E:Env}{caught:Tr Unit}{rnd:Option Nat}{code:zbk}{s:FSt}{Q:FX->FSt->Prop}(b:Nat){e z G M:Nat}{v v':PV}(hb:s.H[b]?=some (.row e z G M [v]))(hl:v'.cells.length=v.cells.length)
  (hw:∀(i:Nat) (x y:PV),v.cells[i]?=some x->v'.cells[i]?=some y->y=x\/(x=.nilsl/\∃p z,y=.list p z []))
  (k:W E caught rnd code ⟨s.tm,s.df,s.H.set b (.row e z G M [v'])⟩ Q):W E caught rnd code s Q:=fun B c t rnd' hs hn =>
 k B c t rnd' ⟨hs.hr.nilBox hb hl hw,hs.tm,hs.df⟩ hn
theorem zl6 (p r:Nat)(w:List Nat)(f:PV):∀(i:Nat) (x y:PV),(PV.agg [wv p w,.nilsl,f,iv 0]).cells[i]?=some x->(PV.agg [wv p w,.list r 2 [],f,iv 0]).cells[i]?=some y->y=x\/(x=.nilsl/\∃p z,y=.list p z []):=fun i x y hx hy=>by
 match i with
 | 0=>injection hx with hx;injection hy with hy;subst hx hy;exact .inl rfl
 | 1=>injection hx with hx;injection hy with hy;subst hx hy;exact .inr ⟨rfl,_,_,rfl⟩
 | 2=>injection hx with hx;injection hy with hy;subst hx hy;exact .inl rfl
 | 3=>injection hx with hx;injection hy with hy;subst hx hy;exact .inl rfl
 | k+4=>simp[PV.cells]at hx
@[reducible] def zkT (R:List Pr × Nat × Nat):PV:=.tuple [.list 0 2 (R.1.map zBo),iv (R.2.1:Nat),iv (R.2.2:Nat)]
theorem zs8 (R:List Pr×Nat×Nat):Lb (zkT R):=Lb.three (zc9 _) (.int _ _) (.int _ _)
theorem zxT (p r:Nat)(w:List Nat)(a:Int)(pr:Pr)(fr:List Int)(no:Nat)(hno:¬no=0)(hA:FN ET 45 [wv p w,iv a,.list r 1 (fr.map iv)] (.ret (iv (no:Nat)))):FN ET 33 [wv p w,iv a,pv pr,.list r 1 (fr.map iv)] (.ret (zkT ([],0,no))):=by
 refine zfn f33 (zs8 _) ?_;have g:¬(no:Int)=0:=by omega
 refine zG ?_;refine zI ?_;refine zca hA ?_;refine zN ?_;refine zSF g ?_;refine zO ?_;exact Frz.tupL ⟨.nil _ _,.int _ _,.int _ _,trivial⟩
def Wk.put (y:Wk)(lf:Nat)(pr:Pr):List Pr×Nat×Nat:=((y.does (zaZ (64*lf) (zcc (zA y.W lf) pr).1)).L,y.used,0)
structure zuh (fr:List Nat)(r:Nat)(N:Nat)(y:Wk):Prop where
 fr':y.fr=frV r fr
 W:y.W.length=N
 L:y.L.length<=899900
 q:y.q=0
set_option maxHeartbeats 4000000 in
theorem zuw (p r n:Nat)(w:List Nat)(pr:Pr)(fr ws:List Nat)(leaf:Nat)(x0:Wk)(pu:List Pr×Nat)(S:Wk×Nat×Nat×Nat)(R:List Pr×Nat×Nat)(hN:w.length<=131072)(hx0:x0=⟨p,0,w,[],frV r fr,0⟩)
  (hA:FN ET 45 [wv p w,iv n,frV r fr] (.ret (iv (0:Nat)))) (hW:FN ET 46 [wv p w,iv n,uv pr.1] (.ret (.list 0 1 (zd1 ws)))) (hwl:ws.length<=20) (hlf:ws[ws.length-1]?=some leaf) (hne:0<ws.length) (hin:64*leaf+64<=w.length)
  (hpu:FN ET 80 [wv p (zA w leaf),pv pr] (.ret (.tuple [.list 0 2 (pu.1.map zBo),iv (pu.2:Nat)])))
  (h3:pu.2=3->FP ET 81 [wkv x0,.list 0 1 (zd1 ws),iv n] (.ret (wk4 S))/\S.1.fr=frV r fr/\(S.2.2.2=0->zuh fr r w.length S.1/\64*S.2.1+64<=w.length))
  (hR1:¬pu.2=0->¬pu.2=3->R=([],0,pu.2)) (hR2:pu.2=3->¬S.2.2.2=0->R=([],0,S.2.2.2)) (hR3:pu.2=3->S.2.2.2=0->R=S.1.put (if S.2.2.1<=pr.1 then S.2.1 else leaf) pr) (hR4:pu.2=0->R=x0.put leaf pr) :
  FN ET 33 [wv p w,iv n,pv pr,frV r fr] (.ret (zkT R)):=by
 refine zfn f33 (zs8 _) ?_;have hx0f:Id0 x0.fr:=by rw[hx0];exact .list _ _ _
 have hidx:Id0 (wkv x0):=zcF hx0f;have hxv:wkv x0=.agg [wv p w,.list 0 2 [],frV r fr,iv 0]:=by rw[hx0];rfl
 have hxW:x0.W=w:=by rw[hx0]
 have hxp:x0.p=p:=by rw[hx0]
 have hat0:=zfO x0 hx0f leaf (by rw[hxW];exact hin) (by rw[hxW];exact hN);rw[hxp,hxW,hxv]at hat0;have hput0:zuh fr r w.length x0:=⟨by rw[hx0],by rw[hxW],by rw[hx0];exact zAS9 _,by rw[hx0]⟩
 rw[hxv]at hidx;have hlv:(zd1 ws)[ws.length-1]?=some (iv leaf):=by rw[zAH9,hlf];rfl
 have e1:(ws.length:Int)-1=((ws.length-1:Nat):Int):=by omega
 have e2:ws.length-1<ws.length:=by omega
 refine zG ?_;refine zI ?_;refine zca hA ?_;refine zN ?_;refine zT ?_;refine zBl ?_;show W _ _ _ _ _ _;refine zI ?_;refine zca hW ?_;refine zN ?_;refine zGF (zr3 hlv e1 e2) ?_;refine zmm 1 (v':=.agg [wv p w,.list 0 2 [],frV r fr,iv 0]) rfl rfl (zl6 p 0 w _) ?_;simp only[zCI9,zCK9];refine zcI (fun tm=>tm 1=iv n/\tm 6=.ptr 0 0 0 0 2/\tm 12=.list 0 1 (zd1 ws)/\tm 13=iv leaf/\tm 14=.ptr 1 0 0 0 4) ⟨zt,zt,zt,zt,by simp[upd,zq]⟩ ?_;rintro tm ⟨h1,h6,h12,h13,h14⟩;(repeat refine za ?_);refine zad ?_;refine zdf hat0 ⟨hidx,.int _ _,trivial⟩ ?_ (by simp(disch:=omega)only[go_sem,h6,h13,h14]<;>rfl);refine zAZ (zr3 h6 h13 h14) hpu ?_;refine zQF h6 ?_;refine zcI (fun tm=>tm 1=iv n/\tm 6=.ptr 0 0 0 0 2/\tm 12=.list 0 1 (zd1 ws)/\tm 13=iv leaf/\tm 14=.ptr 1 0 0 0 4/\tm 16=iv pu.2) ⟨zu h1,zu h6,zu h12,zu h13,zu h14,by simp[upd]⟩ ?_;clear h1 h6 h12 h13 h14;rintro tm ⟨h1,h6,h12,h13,h14,h16⟩
 by_cases hbad:¬pu.2=0/\¬pu.2=3
 ·rw[hR1 hbad.1 hbad.2];have g1:¬((pu.2:Nat):Int)=0:=by omega
  have g2:¬((pu.2:Nat):Int)=3:=by omega
  refine zSF (zr3 h16 g1 g2) ?_;refine zOF h16 ?_;exact Frz.tupL ⟨.nil _ _,.int _ _,.int _ _,trivial⟩
 have h03:pu.2=0\/pu.2=3:=by omega
 clear hbad;(repeat refine za ?_);refine zbD (Q:=fun yy s'=>yy=.norm/\s'.tm 1=iv n/\s'.tm 6=.ptr 0 0 0 0 2/\s'.tm 12=.list 0 1 (zd1 ws)/\s'.tm 13=iv leaf/\s'.tm 14=.ptr 1 0 0 0 4/\s'.tm 16=iv pu.2/\s'.tm 57=.bool false/\s'.df=[]/\s'.H=[.row 66 2 0 0 [pv pr],.row 107 4 0 0 [.agg [wv p w,.list 0 2 [],frV r fr,iv 0]]]) (zAU ?_) ?_
 ·rcases h03 with h|h
  ·have g1:((pu.2:Nat):Int)=0:=by omega
   refine zKF (zr2 h16 g1) ?_;exact⟨zt,h1,h6,h12,h13,h14,zu h16,zt,rfl,rfl⟩
  ·have g1:¬((pu.2:Nat):Int)=0:=by omega
   have g2:=eq_true (show ((pu.2:Nat):Int)=3 by omega);refine zKF (zr3 h16 g1 g2) ?_;exact⟨zt,h1,h6,h12,h13,h14,zu h16,zt,rfl,rfl⟩
 clear h1 h6 h12 h13 h14 h16;rintro yy ⟨tm,df,H⟩ ⟨rfl,h1,h6,h12,h13,h14,h16,h57,rfl,rfl⟩;dsimp only at h1 h6 h12 h13 h14 h16 h57;refine zcf ?_ (by simp only[go_sem,h57]<;>rfl);refine zBl ?_;show W _ _ _ _ _ _;(repeat refine za ?_);refine zbD (Q:=fun yy s'=>yy=.norm/\s'.tm 1=iv n/\s'.tm 6=.ptr 0 0 0 0 2/\s'.tm 12=.list 0 1 (zd1 ws)/\s'.tm 13=iv leaf/\s'.tm 14=.ptr 1 0 0 0 4/\s'.tm 16=iv pu.2/\s'.tm 60=.bool (decide (pu.2=3))/\s'.df=[]/\s'.H=[.row 66 2 0 0 [pv pr],.row 107 4 0 0 [.agg [wv p w,.list 0 2 [],frV r fr,iv 0]]]) (zAU ?_) ?_
 ·rcases h03 with h|h
  ·have g1:¬((pu.2:Nat):Int)=3:=by omega
   refine zKF (zr2 h16 g1) ?_;exact⟨zt,h1,h6,h12,h13,h14,zu h16,by simp[upd,h],rfl,rfl⟩
  ·have g2:=eq_true (show ((pu.2:Nat):Int)=3 by omega);refine zKF (zr2 h16 g2) ?_;exact⟨zt,h1,h6,h12,h13,h14,zu h16,by simp[upd,h],rfl,rfl⟩
 clear h1 h6 h12 h13 h14 h16 h57;rintro yy ⟨tm,df,H⟩ ⟨rfl,h1,h6,h12,h13,h14,h16,h60,rfl,rfl⟩;dsimp only at h1 h6 h12 h13 h14 h16 h60;refine zbD (Q:=fun yy s'=>(yy=.norm/\∃(v:Wk) (lf:Nat) (G:List zn),R=v.put lf pr/\zuh fr r w.length v/\64*lf+64<=w.length/\s'.tm 6=.ptr 0 0 0 0 2/\s'.tm 13=iv lf/\s'.tm 14=.ptr 1 0 0 0 4/\s'.df=[]/\s'.H=.row 66 2 0 0 [pv pr]::.row 107 4 0 0 [.agg [wv v.p v.W,.list v.q 2 (v.L.map zBo),frV r fr,iv v.used]]::G)\/(yy=.ret/\zdj ET T33 (fun e' H=>za0 H 0 e' (.ret (zkT R))) .ret s')) ?_ ?_
 ·rcases h03 with h|h
  ·rw[h]at h60;refine zcf ?_ (by simp only[go_sem,h60]<;>rfl);refine zBl ?_;exact .inl ⟨rfl,x0,leaf,[],hR4 h,hput0,hin,h6,h13,h14,rfl,by rw[hx0];rfl⟩
  ·obtain⟨hsp,hSf,hSp⟩:=h3 h;have hR2:=hR2 h;have hR3:=hR3 h;rw[h]at h60;obtain⟨S1,S2,S3,S4⟩:=S;dsimp only at hSf hSp hR2 hR3;have hS1v:wkv S1=.agg [wv S1.p S1.W,.list S1.q 2 (S1.L.map zBo),frV r fr,iv S1.used]:=by unfold wkv;rw[hSf]
   unfold wk4 at hsp;dsimp only at hsp;rw[hS1v,hxv]at hsp;refine zct ?_ (by simp only[go_sem,h60]<;>rfl);refine zIF (zr3 h1 h12 h14) ?_;refine zbz (by first|rfl|(simp only[go_sem]<;>rfl)) (by simp only[go_sem]<;>rfl) hsp rfl ?_ ?_;(repeat(first|exact trivial|refine And.intro ?_ ?_|exact Id0.int _ _|exact Id0.bool _|exact Id0.list _ _ _|exact Id0.elem _|exact Id0.nilsl|exact Id0.str _|exact zbE _ _ _))
   ·exact hidx
   ·(repeat(first|exact trivial|refine And.intro ?_ ?_|exact Id0.int _ _|exact Id0.bool _|exact Id0.list _ _ _|exact Id0.elem _|exact Id0.nilsl|exact Id0.str _|exact zbE _ _ _))
   refine zN ?_
   by_cases h0:S4=0
   rotate_left
   ·have g2:¬(S4:Int)=0:=by omega
    rw[hR2 h0];refine zSF g2 ?_;refine zG ?_;refine zy ?_;refine .inr ⟨rfl,?_⟩;refine zj (vs:=[.nilsl,iv 0,iv S4]) ?_ ?_
    ·simp[T33,xT,zE,okv,upd]
    ·exact Frz.tupL ⟨.nil _ _,.int _ _,.int _ _,trivial⟩
   have g2:(S4:Int)=0:=by omega
   obtain⟨hSp1,hSp2⟩:=hSp h0;have hR3:=hR3 h0;refine zTF g2 ?_;refine zBl ?_;show W _ _ _ _ _ _
   by_cases hlo:S3<=pr.1
   ·have g3:(S3:Int)<=(pr.1:Nat):=by omega
    rw[if_pos hlo]at hR3;refine zSF (zr3 h6 h14 g3) ?_;refine zJ ?_;refine .inl ⟨rfl,S1,S2,_,hR3,hSp1,hSp2,zu h6,zt,zu h14,rfl,rfl⟩
   ·have g3:¬(S3:Int)<=(pr.1:Nat):=by omega
    rw[if_neg hlo]at hR3;refine zTF (zr3 h6 h14 g3) ?_;refine zBl ?_;refine .inl ⟨rfl,S1,leaf,_,hR3,hSp1,hin,zu h6,zu h13,zu h14,rfl,rfl⟩
 clear h1 h6 h12 h13 h14 h16 h60;rintro yy ⟨tm,df,H⟩ (⟨rfl,v,lf,G,hR,hv,hlin,h6,h13,h14,rfl,rfl⟩|⟨rfl,hfin⟩);rotate_left
 ·(try simp only[zc,zf,ze,zd,zi,zg,if_true,reduceIte]);exact hfin
 dsimp only at h6 h13 h14;obtain⟨hvf,hvW,hvL,hvq⟩:=hv;have hv0:Id0 v.fr:=by rw[hvf];exact .list _ _ _
 have hvv:wkv v=.agg [wv v.p v.W,.list v.q 2 (v.L.map zBo),frV r fr,iv v.used]:=by unfold wkv;rw[hvf]
 have hidv:=zcF hv0;have hat2:=zfO v hv0 lf (by omega) (by omega);have hblen:=zb5 v.W lf (by omega);have hpu2:=zlV v.p (zA v.W lf) pr (by rw[hblen];decide);have hpa:=ziV (x:=pr) hblen;have hdo2:=zdQ v hv0 (64*lf) 0 (zcc (zA v.W lf) pr).1 (by omega) (by omega) fun c hc=>by have:=hpa.2 c hc;omega
 unfold Wk.put at hR;have hqf:(v.does (zaZ (64*lf) (zcc (zA v.W lf) pr).1)).fr=frV r fr:=(zcJ _ v).2.2.1.trans hvf;have hqu:(v.does (zaZ (64*lf) (zcc (zA v.W lf) pr).1)).used=v.used:=(zcJ _ v).2.2.2;have hqq:=zdS (zaZ (64*lf) (zcc (zA v.W lf) pr).1) v hvq;generalize v.does (zaZ (64*lf) (zcc (zA v.W lf) pr).1)=q at *
 have hqv:wkv q=.agg [wv q.p q.W,.list q.q 2 (q.L.map zBo),frV r fr,iv q.used]:=by unfold wkv;rw[hqf]
 generalize zcc (zA v.W lf) pr=pr2 at *
 have w4:IntKind.i64.wrap ((64:Int)*(lf:Int))=((64*lf:Nat):Int):=zwi;rw[hvv]at hat2 hidv hdo2;rw[hqv]at hdo2;(repeat refine za ?_);refine zad ?_;refine zdf hat2 ⟨hidv,.int _ _,trivial⟩ ?_ (by simp(disch:=omega)only[go_sem,h6,h13,h14]<;>rfl);refine zAZ (zr3 h6 h13 h14) hpu2 ?_;refine zQF h6 ?_;refine zIF (zr3 h13 h14 w4) ?_;refine zbz (by first|rfl|(simp only[go_sem]<;>rfl)) (by simp only[go_sem]<;>rfl) hdo2 rfl ?_ ?_;(repeat(first|exact trivial|refine And.intro ?_ ?_|exact Id0.int _ _|exact Id0.bool _|exact Id0.list _ _ _|exact Id0.elem _|exact Id0.nilsl|exact Id0.str _|exact zbE _ _ _))
 ·exact hidv
 ·(repeat(first|exact trivial|refine And.intro ?_ ?_|exact Id0.int _ _|exact Id0.bool _|exact Id0.list _ _ _|exact Id0.elem _|exact Id0.nilsl|exact Id0.str _|exact zbE _ _ _))
 refine zNF h14 ?_;(repeat refine za ?_);refine zad ?_;refine zQF h14 ?_;refine zy ?_;refine zj (vs:=[.list q.q 2 (q.L.map zBo),iv q.used,iv 0]) ?_ ?_
 ·simp[T33,xT,zE,okv,upd]
 ·rw[hR,hqq,<- hqu];exact Frz.tupL ⟨.list _ _ _,.int _ _,.int _ _,trivial⟩
@[reducible] def LtU (x:Nat):Prop:=x < 18446744073709551616
def WB (w:List Nat):Prop:=∀x∈w,LtU x
def PB (l:List Pr):Prop:=∀c∈l,LtU c.1/\LtU c.2
def BB (l:List Pr):Prop:=∀c∈l,LtU c.2
theorem WB.get {w:List Nat}(h:WB w)(i:Nat):LtU (w.getD i 0):=by
 rw[zAL9]
 cases hx:w[i]? with
 | none=>exact zCQ9 _
 | some x=>exact h x (zAO9 hx)
theorem PB.get {l:List Pr}(h:PB l)(i:Nat):LtU (l.getD i (0,0)).1/\LtU (l.getD i (0,0)).2:=by
 rw[zAL9]
 cases hx:l[i]? with
 | none=>exact⟨zCQ9 _,zCQ9 _⟩
 | some x=>exact h x (zAO9 hx)
theorem WB.set {w:List Nat}(h:WB w){v:Nat}(hv:LtU v)(i:Nat):WB (w.set i v):=fun x hx=>by
 rcases List.mem_or_eq_of_mem_set hx with h1|rfl
 ·exact h x h1
 ·exact hv
theorem WB.drop {w:List Nat}(h:WB w)(n:Nat):WB (w.drop n):=fun x hx=>h x (zBW9 hx)
theorem WB.block {w:List Nat}(h:WB w)(b:Nat):WB (zA w b):=fun x hx=>h x (zBX9 (zBW9 hx))
theorem PB.nil:PB []:=fun c hc=>by simp at hc
theorem PB.snoc {l:List Pr}(h:PB l){a b:Nat}(ha:LtU a)(hb:LtU b):PB (l++[(a,b)]):=fun c hc=>by
 rcases zBI9.1 hc with hc|hc
 ·exact h c hc
 ·simp only[zAX9,zDM9,or_false]at hc;subst hc;exact⟨ha,hb⟩
theorem BB.nil:BB []:=fun c hc=>by simp at hc
theorem BB.cons {c:Pr}{l:List Pr}(h:LtU c.2)(k:BB l):BB (c::l):=fun x hx=>by
 rcases zAX9.1 hx with rfl|hx
 ·exact h
 ·exact k x hx
theorem BB.app {l m:List Pr}(h:BB l)(k:BB m):BB (l++m):=fun x hx=>by
 rcases zBI9.1 hx with hx|hx
 ·exact h x hx
 ·exact k x hx
theorem zih:∀(l:List Nat) (prev:Nat),WB l->PB (zab prev l)
 | [],_,_=>fun c hc=>by simp[zab]at hc
 | [_],_,_=>fun c hc=>by simp[zab]at hc
 | k::p::l,prev,h=>by
  have h2:WB l:=fun x hx=>h x (zAT9 _ (zAT9 _ hx));rw[zab]
  split
  ·exact fun c hc=>by simp at hc
  ·split
   ·exact zih l p h2
   ·intro c hc;rcases zAX9.1 hc with rfl|hc
    ·exact⟨h _ (by simp),h _ (by simp)⟩
    ·exact zih l p h2 c hc
theorem zxu (left:Nat){l:List Nat}(h:WB l):PB (zbv left l):=by
 unfold zbv
 split
 ·exact zih _ _ h
 ·exact fun c hc=>by simp at hc
structure NB (n:zC):Prop where
 low:LtU n.low
 left:LtU n.left
 pairs:PB n.pairs
theorem zxh {w:List Nat}(h:WB w):NB (headN w):=⟨h.get 2,h.get 3,zxu _ (h.drop 8)⟩
theorem zq4 {n:zC}(h:NB n)(h1:n.level<=100)(h2:n.sib<2048)(h3:n.way<=2):∀i,WB (zbW n i)
 | 0=>fun x hx=>by rw[zbW]at hx;rw[zFN9 hx];exact zCQ9 _
 | i+1=>by
  rw[zbW];refine(zq4 h h1 h2 h3 i).set ?_ _
  match i with
  | 0=>show 7522529147838689024+n.level<_;omega
  | 1=>show n.sib<_;omega
  | 2=>exact h.low
  | 3=>exact h.left
  | i+4=>show n.way<_;omega
theorem zrv {n:zC}(h:NB n)(h1:n.level<=100)(h2:n.sib<2048)(h3:n.way<=2):∀i,WB (zcs n i)
 | 0=>zq4 h h1 h2 h3 5
 | i+1=>by
  rw[zcs];exact((zrv h h1 h2 h3 i).set (h.pairs.get i).1 _).set (h.pairs.get i).2 _
theorem zmo {n:zC}(h:NB n)(h1:n.level<=100)(h2:n.sib<2048)(h3:n.way<=2):WB (zbh n):=zrv h h1 h2 h3 _
theorem zv5 {l:List Pr}(h:PB l)(i:Nat):∀m,BB (upL l i m)
 | 0=>BB.nil
 | m+1=>by
  unfold upL
  split
  ·exact .cons (h.get m).2 (.cons (h.get m).1 (zv5 h i m))
  ·exact BB.nil
theorem zoX {left:Nat}{w:List Nat}(hw:WB w)(hl:LtU left)(j:Nat):LtU (zbU left w j):=by
 unfold zbU
 split
 ·exact hl
 ·exact hw.get _
theorem zzv {left:Nat}{w:List Nat}{x:Pr}(hw:WB w)(hl:LtU left)(hx:LtU x.1/\LtU x.2):BB (zdK left w x).1:=by
 have hp:=zih w left hw;unfold zdK
 split
 ·split
  ·exact BB.nil
  ·split
   ·exact BB.nil
   ·exact .cons (zCQ9 _) ((zv5 hp _ _).app (.cons (zoX hw hl _) (.cons hx.1 (.cons hx.2 BB.nil))))
 ·exact BB.nil
theorem zA9 {w:List Nat}(hw:WB w)(d m:Nat):BB (zcp w d m):=by
 unfold zcp dnL;refine BB.app (fun c hc=>?_) (.cons (zCQ9 _) BB.nil);obtain⟨q,_,hc⟩:=zBB9.1 hc;simp only[zAX9,zDM9,or_false]at hc;rcases hc with rfl|rfl<;>exact hw.get _
theorem zyf {left:Nat}{w:List Nat}(hw:WB w)(hl:LtU left)(key:Nat):BB (zbY left w key).1:=by
 unfold zbY
 split
 ·split
  ·exact .cons (zoX hw hl _) (zA9 hw _ _)
  ·exact BB.nil
 ·exact BB.nil
theorem zvg {w:List Nat}{v no:Nat}{r:List Pr×Nat}(hv:LtU v)(h:BB r.1):BB (chg w v no r).1:=by
 unfold chg
 split
 ·split
  ·refine BB.app ?_ fun c hc=>?_
   ·unfold zdH;split
    ·exact BB.nil
    ·exact .cons hv BB.nil
   ·obtain⟨x,hx,rfl⟩:=zAM9.1 hc;exact h x hx
  ·exact BB.nil
 ·exact BB.nil
theorem zs5 {w:List Nat}{x:Pr}(hw:WB w)(hx:LtU x.1/\LtU x.2):BB (zcc w x).1:=zvg (by decide) (zzv (hw.drop 8) (hw.get 3) hx)
theorem zxt {w:List Nat}(hw:WB w)(key:Nat):BB (zci w key).1:=zvg (by decide) (zyf (hw.drop 8) (hw.get 3) key)
theorem ztN (m:Nat):∀k,BB (zfY m k)
 | 0=>BB.nil
 | k+1=>by
  unfold zfY
  split
  ·exact .cons (zCQ9 _) (ztN m k)
  ·exact BB.nil
theorem zyQ (n:zC){a:Nat}(ha:a<2048):BB (zfd n a):=.cons (show a<_ by omega) (ztN _ _)
theorem zzc {n:zC}(h:NB n):NB (zcu n):=by
 refine⟨(h.pairs.get _).1,?_,fun c hc=>?_⟩
 ·show LtU (if _ then _ else _)
  split
  ·exact(h.pairs.get _).2
  ·decide
 ·have hc:c∈(if 0<n.level then n.pairs.drop (n.pairs.length/2+1)else n.pairs.drop (n.pairs.length/2)):=hc
  split at hc<;>exact h.pairs c (zBW9 hc)
theorem zrq {w:List Nat}(h:WB w):BB (zb6 w):=fun c hc=>by
 obtain⟨i,_,rfl⟩:=zAM9.1 hc;exact h.get i
theorem BB.off {l:List Pr}(h:BB l)(a:Nat):BB (zaZ a l):=fun c hc=>by
 obtain⟨x,hx,rfl⟩:=zAM9.1 hc;exact h x hx
structure KB (x:Wk):Prop where
 W:WB x.W
 L:BB x.L
theorem KB.does:∀{l:List Pr} {x:Wk},KB x->BB l->KB (x.does l)
 | [],x,h,_=>h
 | c::l,x,h,k=>by
  show KB ((x.one c).does l);exact KB.does ⟨h.W.set (k c (by simp)) _,h.L.app (.cons (k c (by simp)) BB.nil)⟩ fun y hy=>k y (zAT9 _ hy)
theorem KB.up {x:Wk}(h:KB x):KB x.up:=⟨h.W,h.L⟩
theorem zzP {w:List Nat}(h:zbi w=0):(headN w).level<=12/\(headN w).sib<2048/\(headN w).way<=2:=zdY (zdd h)
theorem znQ {x:Wk}(h:KB x){b:Nat}(hc:zbi (zA x.W b)=0):WB (zbh (zcu (headN (zA x.W b)))):=by
 have:=zzP hc;have hn:=zzc (zxh (h.W.block b));generalize headN (zA x.W b)=n at *
 exact zmo hn (show n.level<=100 by omega) (show n.sib<2048 by omega) (zAS9 _)
theorem KB.cut {x:Wk}(h:KB x){b to:Nat}(hc:zbi (zA x.W b)=0)(ht:to<2048):KB (x.cut b to) :=
 (h.up.does ((zrq (znQ h hc)).off _)).does ((zyQ _ ht).off _)
theorem zzT {w:List Nat}(h:WB w):(ofN w).level<=12:=by
 unfold ofN
 split
 ·exact(zdY (by assumption)).1
 ·exact zAS9 _
theorem KB.root {x:Wk}(h:KB x)(fr:List Nat){at' b to low:Nat}(hb:b<2048)(ht:to<2048)(hl:LtU low)(hf:fr.getD x.used 0<2048):KB (x.root fr at' b to low).1:=by
 unfold Wk.root
 split
 ·exact h
 split
 ·exact h.up
 have hn:NB (zdZ (ofN (zA x.W b)) b to low):=⟨zCQ9 _,show b<_ by omega,fun c hc=>by
  have hc:c∈[(low,to)]:=hc;simp only[zAX9,zDM9,or_false]at hc;subst hc;exact⟨hl,show to<_ by omega⟩⟩
 have hv:=zzT (h.W.block b);generalize ofN (zA x.W b)=n at *
 exact(h.up.does ((zrq (zmo hn (show n.level+1<=100 by omega) (show (0:Nat)<2048 by decide) (zAS9 _))).off _)).does (.off (.cons (show fr.getD x.used 0<_ by omega) BB.nil) _)
theorem KB.fin {y:Wk}(h:KB y)(ab:Nat){to low:Nat}(ht:to<2048)(hl:LtU low):KB (y.fin ab to low).1:=h.does ((zs5 (h.W.block ab) ⟨hl,show to<_ by omega⟩).off _)
theorem zry {fr:List Nat}{rr at':Nat}:∀(up:List Nat) (b:Nat) (x:Wk),ziB fr rr x (b::up)->KB x->KB (Wk.split fr at' (b::up) x).1
 | [],b,x,h,k=>by
  unfold Wk.split
  split
  ·exact k
  rename_i hu;have hu:x.used<fr.length:=by omega
  have hto:=(h.frN _ (h.to hu)).2;have hN:=h.hN;have hb:=h.inn b (by simp);have c:=zfQ fr x b (fr.getD x.used 0) (zA2 _);have hl:=(znQ k (h.chk b (by simp))).get 2;have kc:=k.cut (to:=fr.getD x.used 0) (h.chk b (by simp)) (by omega);refine kc.root fr (by omega) (by omega) hl ?_
  by_cases hx:(x.cut b (fr.getD x.used 0)).used<fr.length
  ·have:=(h.frN (fr.getD (x.cut b (fr.getD x.used 0)).used 0) (by rw[zAL9,zAB9 hx];exact zBN9 hx)).2;omega
  ·rw[zAL9,zBP9 (by omega)];decide
 | above::up,b,x,h,k=>by
  unfold Wk.split
  split
  ·exact k
  rename_i hu;have hu:x.used<fr.length:=by omega
  have hto:=(h.frN _ (h.to hu)).2;have hN:=h.hN;have hl:=(znQ k (h.chk b (by simp))).get 2;have kc:=k.cut (to:=fr.getD x.used 0) (h.chk b (by simp)) (by omega)
  split
  ·rename_i hf;have ih:=zry (at':=at') up above _ (h.cut hu hf) kc
   split
   ·exact ih.fin _ (by omega) hl
   ·exact kc
  ·exact kc.fin _ (by omega) hl
theorem zvI {y:Wk}(h:KB y)(lf:Nat){pr:Pr}(hp:LtU pr.1/\LtU pr.2):BB (y.put lf pr).1:=(h.does ((zs5 (h.W.block lf) hp).off _)).L
theorem zkw:∀{l:List Pr} {w:List Nat},WB w->BB l->WB (zax w l)
 | [],w,h,_=>h
 | c::l,w,h,k=>by
  show WB (zax (w.set c.1 c.2) l);exact zkw (h.set (k c (by simp)) _) fun y hy=>k y (zAT9 _ hy)
def LNB (l:List zC):Prop:=∀n∈l,NB n/\n.level<=100/\n.way<=2
theorem zuR {l:List Pr}(h:PB l):LNB (zbS l):=by
 unfold zbS
 split
 ·intro n hn;simp only[zAX9,zDM9,or_false]at hn;subst hn;exact⟨⟨zCQ9 _,show 9223372036854775808<_ by decide,fun c hc=>by simp at hc⟩,zAS9 _,zAS9 _⟩
 ·intro n hn;obtain⟨i,_,rfl⟩:=zAM9.1 hn;refine⟨⟨?_,show 9223372036854775808<_ by decide,fun c hc=>h c (zBW9 (zBX9 hc))⟩,zAS9 _,zAS9 _⟩;show LtU (if _ then _ else _)
  split
  ·exact(h.get _).1
  ·exact zCQ9 _
theorem zvo {lv:Nat}(hv:lv<=100){l:List Pr}(h:PB l):LNB (zb7 lv l):=fun n hn=>by
 obtain⟨i,_,rfl⟩:=zAM9.1 hn;exact⟨⟨(h.get _).1,(h.get _).2,fun c hc=>h c (zBW9 (zBX9 (zBW9 hc)))⟩,hv,zAS9 _⟩
theorem zpv:∀{bs:List Nat} {ns:List zC},(∀b∈bs,b<2048)->LNB ns->∀n∈zbq bs ns,NB n/\n.level<=100/\n.sib<2048/\n.way<=2
 | [],ns,_,_=>fun n hn=>by simp[zbq]at hn
 | _::_,[],_,_=>fun n hn=>by simp[zbq]at hn
 | b::bs,n::ns,h,k=>fun m hm=>by
  rw[zbq]at hm;rcases zAX9.1 hm with rfl|hm
  ·obtain⟨k1,k2,k3⟩:=k n (by simp);refine⟨⟨k1.low,k1.left,k1.pairs⟩,k2,?_,k3⟩;show bs.headD 0<2048
   cases bs with
   | nil=>decide
   | cons a bs=>exact h a (by simp)
  ·exact zpv (fun b hb=>h b (zAT9 _ hb)) (fun n hn=>k n (zAT9 _ hn)) m hm
def TB (T:List Lev):Prop:=∀L∈T,∀n∈L.2,NB n/\n.level<=100/\n.sib<2048/\n.way<=2
theorem ztt {free:List Nat}(hf:∀b∈free,b<2048):∀(k:Nat) (l:List zC) (used:Nat) (T T':List Lev),T.length+k<=90->LNB l->TB T->zg6 free k l used T=some T'->TB T'
 | 0,l,used,T,T',_,_,_,h=>by cases h
 | k+1,l,used,T,T',hk,hl,hT,h=>by
  have hbs:∀b∈(free.drop used).take l.length,b<2048:=fun b hb=>hf b (zBW9 (zBX9 hb));have hT2:TB (((free.drop used).take l.length,zbq ((free.drop used).take l.length) l)::T):=fun L hL=>by
   rcases zAX9.1 hL with rfl|hL
   ·exact zpv hbs hl
   ·exact hT L hL
  unfold zg6 at h
  split at h
  ·cases h
  ·split at h
   ·injection h with h;subst h;exact hT2
   ·refine ztt hf k _ _ _ _ (by rw[zAE9];omega) (zvo (by omega) fun c hc=>?_) hT2 h;have h1:=zES9 hc;obtain⟨n,hn,e⟩:=zAM9.1 h1.1;have h2:=hbs _ h1.2;exact⟨by rw[<- e];exact(hl n hn).1.low,by omega⟩
theorem zlw:∀{T:List Lev},TB T->BB (zcD T)
 | [],_=>BB.nil
 | L::T,h=>by
  refine BB.app (fun c hc=>?_) (zlw fun M hM=>h M (zAT9 _ hM));obtain⟨x,hx,hc⟩:=zBB9.1 hc;obtain⟨i,_,rfl⟩:=zAM9.1 hc;obtain⟨h1,h2,h3,h4⟩:=h L (zAU9 ..) _ (zES9 hx).2;exact(zmo h1 h2 h3 h4).get i
theorem ziq {α:Type}{l:List α}(h:l ≠ []):∃i a,l=i++[a]:=⟨l.dropLast,l.getLast h,(zFE9 h).symm⟩
theorem zxJ (p r:Nat)(w:List Nat)(a:Int)(pr:Pr)(fr:List Int)(hs:za7 w.length)(hfl:fr.length<100000):∃R:List Pr×Nat×Nat,FN ET 33 [wv p w,iv a,pv pr,.list r 1 (fr.map iv)] (.ret (zkT R))/\R.2.1<=fr.length/\R.1.length<=900000/\(WB w->LtU pr.1/\LtU pr.2->BB R.1):=by
 have hA:=zjB p r w a fr hs (by omega)
 by_cases h0:zeR w a fr=0
 rotate_left
 ·exact⟨_,zxT p r w a pr fr _ h0 hA,zAS9 _,zAS9 _,fun _ _=>BB.nil⟩
 obtain⟨n,frN,ws,rfl,hn,h64,hN,rfl,ht,hset,hS⟩:=zmg pr.1 h0;rw[h0]at hA;rw[zn2]at hA⊢;obtain⟨s1,s2,s3,s4,s5,s6,s7,s8,s9⟩:=hS;have hW:=zmd p w n pr.1 ws hN hn s1;obtain⟨init,leaf,rfl⟩:=ziq s6;have hleaf:leaf∈init++[leaf]:=by simp
 have hin:64*leaf+64<=w.length:=by have:=s3 leaf hleaf;omega
 have hpu:=zlV p (zA w leaf) pr (by rw[zb5 _ _ hin];decide);have hlong:=zwn (w:=zA w leaf) (x:=pr);have hfn:frN.length<100000:=by simpa using hfl
 have hpa:=ziV (x:=pr) (zb5 w leaf hin);obtain⟨x0,hx0⟩:∃x0:Wk,x0=⟨p,0,w,[],frV r frN,0⟩:=⟨_,rfl⟩
 have hxW:x0.W=w:=by rw[hx0]
 have hI:(zcc (zA w leaf) pr).2=3->ziB frN r x0 (leaf::init.reverse):=fun h=>by
  have hrev:leaf::init.reverse=(init++[leaf]).reverse:=by simp
  refine⟨by rw[hx0],by rw[hxW];exact hN,fun c hc=>?_,?_,fun c hc=>?_,fun c hc=>?_,fun f hf=>?_,fun f hf hc=>?_,?_,?_,by rw[hx0];exact zAS9 _,hfn⟩
  ·rw[hrev,zEO9]at hc;have:=s3 c hc;rw[hxW];omega
  ·rw[hrev];exact List.pairwise_reverse.2 (s4.imp Ne.symm)
  ·rw[hrev,zEO9]at hc;rw[hxW];exact s2 c hc
  ·simp at hc;subst hc;rw[hxW];exact hlong h
  ·have:=s7 f hf;rw[hxW];omega
  ·rw[hrev,zEO9]at hc;exact s8 f hf hc
  ·rw[hrev,List.length_reverse];omega
  ·rw[hrev,List.length_reverse,hx0];show 0+300*_<900000;omega
 have hway:init.reverse.reverse++[leaf]=init++[leaf]:=by rw[List.reverse_reverse]
 obtain⟨S,hSd⟩:∃S,S=Wk.split frN n (leaf::init.reverse) x0:=⟨_,rfl⟩
 have hO:(zcc (zA w leaf) pr).2=3->zx3 frN x0 (init.reverse.length+1) S:=fun h=>by rw[hSd];exact zkt _ _ _ (hI h)
 have hq:S.1.q=0:=by rw[hSd];exact ztK _ _ _ (by rw[hx0])
 have hfp:(zcc (zA w leaf) pr).2=3->FP ET 81 [wkv x0,.list 0 1 (zd1 (init++[leaf])),iv n] (.ret (wk4 S)):=fun h=>by
  rw[<- hway,hSd];exact znD frN r n init.reverse leaf x0 0 (hI h) (by rw[hxW];exact hn)
 have hil:(init.reverse.length+1)<=14:=by simpa using s5
 have hP:(zcc (zA w leaf) pr).2=3->S.2.2.2=0->zuh frN r w.length S.1/\64*S.2.1+64<=w.length:=fun h h2=>by
  have o:=hO h;refine⟨⟨o.fr'.trans (by rw[hx0]),o.W.trans (by rw[hxW]),?_,hq⟩,by have:=o.inn h2;rw[hxW]at this;exact this⟩;have:=o.L;have h0:x0.L.length=0:=by rw[hx0];rfl
  omega
 have hK0:WB w->KB x0:=fun h=>⟨by rw[hxW];exact h,by rw[hx0];exact BB.nil⟩
 have hSB:(zcc (zA w leaf) pr).2=3->WB w->KB S.1:=fun h hw=>by rw[hSd];exact zry _ _ _ (hI h) (hK0 hw)
 clear hSd hI hlong;obtain⟨R,hR1,hR2,hR3,hR4⟩:∃R:List Pr×Nat×Nat,(¬(zcc (zA w leaf) pr).2=0->¬(zcc (zA w leaf) pr).2=3->R=([],0,(zcc (zA w leaf) pr).2))/\((zcc (zA w leaf) pr).2=3->¬S.2.2.2=0->R=([],0,S.2.2.2))/\((zcc (zA w leaf) pr).2=3->S.2.2.2=0->R=S.1.put (if S.2.2.1<=pr.1 then S.2.1 else leaf) pr)/\((zcc (zA w leaf) pr).2=0->R=x0.put leaf pr):=by
  by_cases c0:(zcc (zA w leaf) pr).2=0
  ·exact⟨_,fun h=>absurd c0 h,fun h=>absurd (c0.symm.trans h) (by decide),fun h=>absurd (c0.symm.trans h) (by decide),fun _=>rfl⟩
  by_cases c3:(zcc (zA w leaf) pr).2=3
  ·by_cases c4:S.2.2.2=0
   ·exact⟨_,fun _ h=>absurd c3 h,fun _ h=>absurd c4 h,fun _ _=>rfl,fun h=>absurd h c0⟩
   ·exact⟨_,fun _ h=>absurd c3 h,fun _ _=>rfl,fun _ h=>absurd h c4,fun h=>absurd h c0⟩
  ·exact⟨_,fun _ _=>rfl,fun h=>absurd h c3,fun h=>absurd h c3,fun h=>absurd h c0⟩
 refine⟨R,zuw p r n w pr frN (init++[leaf]) leaf x0 _ S R hN hx0 hA hW (by omega) (by simp) (by simp) hin hpu (fun h=>⟨hfp h,(hO h).fr'.trans (by rw[hx0]),hP h⟩) hR1 hR2 hR3 hR4,and_assoc.1 ⟨?_,fun hw hp=>?_⟩⟩;rotate_left
 ·by_cases c0:(zcc (zA w leaf) pr).2=0
  ·rw[hR4 c0];exact zvI (hK0 hw) _ hp
  by_cases c3:(zcc (zA w leaf) pr).2=3
  ·by_cases c4:S.2.2.2=0
   ·rw[hR3 c3 c4];exact zvI (hSB c3 hw) _ hp
   ·rw[hR2 c3 c4];exact BB.nil
  ·rw[hR1 c0 c3];exact BB.nil
 rw[zAA9];have hputf:∀(y:Wk) (lf:Nat),64*lf+64<=y.W.length->y.L.length<=899900->y.used<=frN.length->(y.put lf pr).2.1<=frN.length/\(y.put lf pr).1.length<=900000:=fun y lf h1 h2 h3=>by
  have k:=ziV (x:=pr) (zb5 y.W lf h1);have d:=zcJ (zaZ (64*lf) (zcc (zA y.W lf) pr).1) y;rw[zfw]at d;unfold Wk.put;exact⟨h3,by dsimp only;rw[d.2.1];omega⟩
 by_cases c0:(zcc (zA w leaf) pr).2=0
 ·rw[hR4 c0];exact hputf x0 leaf (by rw[hxW];exact hin) (by rw[hx0];exact zAS9 _) (by rw[hx0];exact zAS9 _)
 by_cases c3:(zcc (zA w leaf) pr).2=3
 ·by_cases c4:S.2.2.2=0
  ·rw[hR3 c3 c4];obtain⟨hp1,hp2⟩:=hP c3 c4;refine hputf S.1 _ ?_ hp1.L (hO c3).used;rw[hp1.W]
   split
   ·exact hp2
   ·exact hin
  ·rw[hR2 c3 c4];exact⟨zAS9 _,zAS9 _⟩
 ·rw[hR1 c0 c3];exact⟨zAS9 _,zAS9 _⟩
structure ziZ (n m:zC):Prop where
 level:m.level=n.level
 sib:m.sib=n.sib
 low:m.low=n.low
 left:m.left=n.left
def zh6 (ns ms:List zC):Prop:=ns.length=ms.length/\∀(i:Nat) (n m:zC),ns[i]?=some n->ms[i]?=some m->ziZ n m
theorem zh6.snoc {ns ms:List zC}{n m:zC}(h:zh6 ns ms)(k:ziZ n m):zh6 (ns++[n]) (ms++[m]):=by
 refine⟨by simp[h.1],fun i a b ha hb=>?_⟩;rcases zCY9 i ns.length with hi|hi
 ·rw[zAV9 hi]at ha;rw[zAV9 (by rw[<- h.1];exact hi)]at hb;exact h.2 i a b ha hb
 ·rw[zAP9 hi]at ha;rw[zAP9 (by rw[<- h.1];exact hi)]at hb;obtain rfl:=zBF9.1 (zAO9 ha);obtain rfl:=zBF9.1 (zAO9 hb);exact k
theorem zh6.goes {ns ms:List zC}{n m:zC}{lv:Int}(h:zh6 ns ms)(k:ziZ n m):zbT ms m lv=zbT ns n lv:=by
 unfold zbT;rw[zCJ9,zCJ9,<- h.1]
 cases hn:ns[ns.length-1]? with
 | none =>
  have hm:ms[ns.length-1]?=none:=by
   rw[zFJ9]at hn⊢;rw[<- h.1];exact hn
  rw[hm];simp only;rw[k.low,k.level]
 | some z =>
  have hlt:=(zAC9.1 hn).1;obtain⟨y,hy⟩:∃y,ms[ns.length-1]?=some y:=⟨_,zAB9 (by rw[<- h.1];exact hlt)⟩
  rw[hy];have e:=h.2 _ _ _ hn hy;simp only;rw[k.low,k.level,e.low,e.level]
structure zim (w v:List Nat):Prop where
 len:v.length=w.length
 head:∀b,headB (zA w b)=true->headB (zA v b)=true/\ziZ (headN (zA w b)) (headN (zA v b))
theorem zki {w v:List Nat}(hwv:zim w v){lv:Int}{s:List Nat}{B:List Nat}{N:List zC}:∀(k:Nat) (seen bs:List Nat) (ns ms:List zC) (b:Nat),zh6 ns ms->zbs w lv k seen bs ns b=some (s,B,N)->∃M,zbs v lv k seen bs ms b=some (s,B,M)/\zh6 N M
 | 0,seen,bs,ns,ms,b,h,hr=>by
  rw[zbs]at hr⊢
  split at hr
  ·rename_i hb;injection hr with hr;injection hr with r1 hr;injection hr with r2 r3;subst r1 r2 r3;exact⟨ms,by rw[if_pos hb],h⟩
  ·cases hr
 | k+1,seen,bs,ns,ms,b,h,hr=>by
  rw[zbs]at hr⊢
  split at hr
  ·rename_i hb;injection hr with hr;injection hr with r1 hr;injection hr with r2 r3;subst r1 r2 r3;exact⟨ms,by rw[if_pos hb],h⟩
  rename_i hb
  split at hr
  ·cases hr
  rename_i hbad
  split at hr
  rotate_left
  ·cases hr
  rename_i hg;rw[zAQ9]at hg;obtain⟨e1,e2⟩:=hwv.head b hg.1;rw[if_neg hb,hwv.len,if_neg hbad,if_pos (by rw[zAQ9];exact⟨e1,by rw[h.goes e2];exact hg.2⟩),e2.sib];exact zki hwv k _ _ _ _ _ (h.snoc e2) hr
theorem zrS {w v:List Nat}(hwv:zim w v):∀(d:Nat) (seen:List Nat) (acc acc':List Lev) (b:Nat) (lv:Int),(zdI w d seen acc b lv).1 ≠ []->(zdI v d seen acc' b lv).1 ≠ []
 | 0,_,_,_,_,_,h=>absurd rfl h
 | d+1,seen,acc,acc',b,lv,h=>by
  rw[zdI]at h⊢
  cases hr:zbs w lv (w.length/64) seen [] [] b with
  | none=>rw[hr]at h;exact absurd rfl h
  | some r =>
   obtain⟨s',bs,ns⟩:=r;obtain⟨M,hM,hA⟩:=zki hwv _ _ _ _ [] _ ⟨rfl,fun i n m hn=>by simp at hn⟩ hr;rw[hr]at h;rw[hwv.len,hM]
   cases ns with
   | nil=>exact absurd rfl h
   | cons n ns =>
    cases M with
    | nil=>have:=hA.1;simp at this
    | cons m M =>
     have e:=hA.2 0 n m rfl rfl;simp only at h⊢;rw[e.level]
     by_cases hl:n.level=0
     ·rw[if_pos hl];simp
     ·rw[if_neg hl]at h⊢;rw[e.left];exact zrS hwv d _ _ _ _ _ h
theorem zjT (b:Nat):∀(l:List Pr) (w:List Nat),64*b+64<=w.length->(∀s∈l,s.1<64)->zA (zax w (zaZ (64*b) l)) b=zax (zA w b) l
 | [],_,_,_=>rfl
 | s::l,w,hb,h=>by
  have h1:=h s (zAU9 ..);have e1:zax w (zaZ (64*b) (s::l))=zax (w.set (64*b+s.1) s.2) (zaZ (64*b) l):=rfl;have e2:zax (zA w b) (s::l)=zax ((zA w b).set s.1 s.2) l:=rfl;rw[e1,e2,zjT b l _ (by simpa using hb) fun t ht=>h t (zAT9 _ ht)]
  congr 1
  unfold zA
  apply zFC9
  intro j;rw[zBU9,zBH9,zFT9,zFT9,zBU9,zBH9];simp only[zBT9,zBA9]
  by_cases hj:s.1=j
  ·subst hj;rw[if_pos (by omega),if_pos rfl,if_pos (by omega),if_pos rfl,if_pos (by omega)]
  ·rw[if_neg hj]
   by_cases hj2:64*b+j<64*b+64
   ·rw[if_pos hj2,if_neg (by omega),if_pos hj2]
   ·rw[if_neg hj2,if_neg hj2]
theorem zgU (i:Nat):∀(l:List Pr) (w:List Nat),(∀s∈l,s.1≠i)->(zax w l).getD i 0=w.getD i 0
 | [],_,_=>rfl
 | s::l,w,h=>by
  have e:zax w (s::l)=zax (w.set s.1 s.2) l:=rfl;rw[e,zgU i l _ fun t ht=>h t (zAT9 _ ht),zAL9,zAZ9 (h s (zAU9 ..)),<- zAL9]
theorem zpd (i x:Nat):∀(l:List Pr) (w:List Nat),(∀s∈l,s.1=i->s.2<=x)->w.getD i 0<=x->(zax w l).getD i 0<=x
 | [],_,_,h=>h
 | s::l,w,h,hw=>by
  have e:zax w (s::l)=zax (w.set s.1 s.2) l:=rfl;rw[e];refine zpd i x l _ (fun t ht=>h t (zAT9 _ ht)) ?_;rw[zAL9,zFT9]
  split
  ·rename_i hi
   split
   ·exact h s (zAU9 ..) hi
   ·exact zAS9 _
  ·rw[<- zAL9];exact hw
theorem zvL {w:List Nat}{v no:Nat}{r:List Pr×Nat}:∀c∈(chg w v no r).1,(c.1=4/\c.2=v)\/8<=c.1:=fun c hc=>by
 unfold chg at hc
 split at hc
 ·split at hc
  ·rcases zBI9.1 hc with hc|hc
   ·unfold zdH at hc
    split at hc
    ·simp at hc
    ·simp at hc;subst hc;exact .inl ⟨rfl,rfl⟩
   ·unfold zbR at hc;obtain⟨y,hy,rfl⟩:=zAM9.1 hc
    right;dsimp only;omega
  ·simp at hc
 ·simp at hc
theorem zxs {w:List Nat}{l:List Pr}(hw:headB w=true)(h:∀c∈l,(c.1=4/\c.2<=2)\/8<=c.1):headB (zax w l)=true/\ziZ (headN w) (headN (zax w l)):=by
 have hg:∀i,i<8->i≠4->(zax w l).getD i 0=w.getD i 0:=fun i hi h4=>zgU i l w fun s hs e=>by
  rcases h s hs with h|h<;>omega
 rw[ziJ,zAQ9]at hw;obtain⟨h8,h1⟩:=hw;unfold zeu at h8;simp only[zAQ9,decide_eq_true_eq]at h8;obtain⟨⟨⟨⟨⟨⟨⟨k0,k1⟩,k2⟩,k3⟩,k4⟩,k5⟩,k6⟩,k7⟩:=h8;have h4:(zax w l).getD 4 0<=2:=zpd 4 2 l w (fun s hs e=>by rcases h s hs with h|h<;>omega) k4;refine⟨?_,⟨?_,?_,?_,?_⟩⟩
 ·rw[ziJ,zAQ9];refine⟨?_,by rw[hg 0 (by decide) (by decide),hg 3 (by decide) (by decide)];exact h1⟩;unfold zeu;simp only[zAQ9,decide_eq_true_eq];rw[zcZ,hg 0 (by decide) (by decide),hg 1 (by decide) (by decide),hg 5 (by decide) (by decide),hg 6 (by decide) (by decide),hg 7 (by decide) (by decide)];exact⟨⟨⟨⟨⟨⟨⟨k0,k1⟩,k2⟩,k3⟩,h4⟩,k5⟩,k6⟩,k7⟩
 ·show zf0 _=zf0 _;rw[hg 0 (by decide) (by decide)]
 ·exact hg 1 (by decide) (by decide)
 ·exact hg 2 (by decide) (by decide)
 ·exact hg 3 (by decide) (by decide)
theorem zmz {w:List Nat}{b key:Nat}(hb:64*b+64<=w.length):zim w (zax w (zaZ (64*b) (zci (zA w b) key).1)):=by
 have ha:=zhR (key:=key) (zb5 w b hb);refine⟨zcZ _ _,fun c hc=>?_⟩
 by_cases h:c=b
 ·subst h;rw[zjT c _ w hb ha.2];exact zxs hc fun s hs=>by
   rcases zvL s hs with h|h
   ·exact .inl ⟨h.1,by omega⟩
   ·exact .inr h
 ·rw[zig (Ne.symm h) _ _ ha.2];exact⟨hc,⟨rfl,rfl,rfl,rfl⟩⟩
theorem zwt {w:List Nat}{n b key:Nat}(hb:64*b+64<=w.length)(hn:(zbM w n).1 ≠ [])(hne:¬n/64=b):(zbM (zax w (zaZ (64*b) (zci (zA w b) key).1)) n).1 ≠ []:=by
 have ha:=zhR (key:=key) (zb5 w b hb);have hg:(zax w (zaZ (64*b) (zci (zA w b) key).1)).getD n 0=w.getD n 0:=zgU n _ w fun s hs e=>by
  unfold zaZ at hs;obtain⟨y,hy,rfl⟩:=zAM9.1 hs;have:=ha.2 y hy;dsimp only at e;omega
 unfold zbM at hn⊢;rw[hg];exact zrS (zmz hb) _ _ _ _ _ _ hn
theorem f12:ET.funcs.get 12=some T12:=zH Tryz.func12
@[reducible] def zdq (L:List Pr) (n:Nat) (bs:List Nat) (no:Nat):PV:=.tuple [.list 0 2 (L.map zBo),iv n,.list 0 1 (bs.map fun (b:Nat)=>iv (b:Int)),iv no]
theorem zd8 (L:List Pr)(n:Nat)(bs:List Nat)(no:Nat):Lb (zdq L n bs no):=.tuple fun v hv=>by
 simp at hv;rcases hv with rfl|rfl|rfl|rfl
 ·exact zc9 _
 ·exact .int _ _
 ·exact Lb.ivn _
 ·exact .int _ _
theorem zq2 {H:List zn}(q:Nat)(hq:q=0)(L:List Pr)(n no:Nat):Frz H 0 (.tuple [.list q 2 (L.map zBo),iv (n:Int),.nilsl,iv (no:Int)]) (zdq L n [] no):=by
 subst hq;exact Frz.tupL ⟨.list _ _ _,.int _ _,.nil _ _,.int _ _,trivial⟩
theorem zpB (p r:Nat)(w:List Nat)(a:Int)(key:Nat)(fr:List Int)(no:Nat)(hno:¬no=0)(hA:FN ET 45 [wv p w,iv a,.list r 1 (fr.map iv)] (.ret (iv (no:Nat)))):FN ET 12 [wv p w,iv a,uv key,.list r 1 (fr.map iv)] (.ret (zdq [] 0 [] no)):=by
 refine zfn f12 (zd8 _ _ _ _) ?_;have g:¬(no:Int)=0:=by omega
 refine zG ?_;refine zI ?_;refine zca hA ?_;refine zN ?_;refine zSF g ?_;refine zO ?_;exact Frz.tupL ⟨.nil _ _,.int _ _,.nil _ _,.int _ _,trivial⟩
theorem zkf {w:List Nat}(hw:w.length<=131072):∀(d:Nat) (seen:List Nat) (acc:List Lev) (b:Nat) (lv:Int),(∀L∈acc,L.1.length<=w.length/64)->∀L∈(zdI w d seen acc b lv).1,L.1.length<=w.length/64
 | 0,_,_,_,_,_,L,hL=>by simp[zdI]at hL
 | d+1,seen,acc,b,lv,h,L,hL=>by
  rw[zdI]at hL
  cases hr:zbs w lv (w.length/64) seen [] [] b with
  | none=>rw[hr]at hL;simp at hL
  | some r =>
   obtain⟨s',bs,ns⟩:=r;obtain⟨_,_,hb⟩:=ze6 (N:=w.length/64) _ _ _ _ _ _ hr (LvF.nil w) (fun n hn=>by simp at hn) (by simp);rw[hr]at hL
   cases ns with
   | nil=>simp at hL
   | cons n ns =>
    simp only at hL;have h2:∀K∈acc++[(bs,n::ns)],K.1.length<=w.length/64:=fun K hK=>by
     rcases zBI9.1 hK with hK|hK
     ·exact h K hK
     ·obtain rfl:=zBF9.1 hK;exact hb
    by_cases hl:n.level=0
    ·rw[if_pos hl]at hL;exact h2 L hL
    ·rw[if_neg hl]at hL;exact zkf hw d _ _ _ _ h2 L hL
theorem zyK (L:List zC):∃(P:List Pr) (f:Bool),zf7 L=.ret (.tuple [psv 0 P,.bool f])/\P.length<=(levP L).length:=by
 unfold zf7
 split
 ·exact⟨_,_,rfl,zAJ9 _⟩
 ·exact⟨[],_,rfl,zAS9 _⟩
set_option maxHeartbeats 4000000 in
theorem zsW (p r n key:Nat)(w:List Nat)(ws:List Nat)(leaf:Nat)(x0 x1:Wk)(tk:List Pr×Nat)(T:List Lev)(LL:Lev)(P:List Pr)(f f2:Bool)(hN:w.length<=131072)(hx0:x0=⟨p,0,w,[],frV r [],0⟩)
  (hA:FN ET 45 [wv p w,iv n,frV r []] (.ret (iv (0:Nat)))) (hW:FN ET 46 [wv p w,iv n,uv key] (.ret (.list 0 1 (zd1 ws)))) (hwl:ws.length<=20) (hlf:ws[ws.length-1]?=some leaf) (hne:0<ws.length) (hin:64*leaf+64<=w.length)
  (htk:FN ET 47 [wv p (zA w leaf),uv key] (.ret (.tuple [.list 0 2 (tk.1.map zBo),iv (tk.2:Nat)])))
  (hdo:tk.2=0->FP ET 49 [wkv x0,iv (64*leaf:Nat),.list 0 2 (tk.1.map zBo)] (.ret (wkv x1))/\x1.fr=frV r []/\x1.q=0/\x1.used=0)
  (hlv:tk.2=0->FN ET 50 [wv x1.p x1.W,iv n] (.ret (.tuple [zbQ T,.bool f]))) (hT:T[T.length-1]?=some LL) (hTl:0<T.length/\T.length<=14) (hLL:LL.2.length<=40)
  (hpa:FN ET 51 [zby 0 0 LL.1 LL.2] (.ret (.tuple [psv 0 P,.bool f2]))) (hP:P.length<=100000) :
  FN ET 12 [wv p w,iv n,uv key,frV r []] (.ret (zdq (if tk.2=0 then x1.L else[]) 0 [] tk.2)):=by
 refine zfn f12 (zd8 _ _ _ _) ?_;have hx0f:Id0 x0.fr:=by rw[hx0];exact .list _ _ _
 have hidx:Id0 (wkv x0):=zcF hx0f;have hxv:wkv x0=.agg [wv p w,.list 0 2 [],frV r [],iv 0]:=by rw[hx0];rfl
 have hxW:x0.W=w:=by rw[hx0]
 have hxp:x0.p=p:=by rw[hx0]
 have hat0:=zfO x0 hx0f leaf (by rw[hxW];exact hin) (by rw[hxW];exact hN);rw[hxp,hxW,hxv]at hat0;rw[hxv]at hidx hdo
 have hlvv:(zd1 ws)[ws.length-1]?=some (iv leaf):=by rw[zAH9,hlf];rfl
 have e1:(ws.length:Int)-1=((ws.length-1:Nat):Int):=by omega
 have e2:ws.length-1<ws.length:=by omega
 refine zG ?_;refine zI ?_;refine zca hA ?_;refine zN ?_;refine zT ?_;refine zBl ?_;show W _ _ _ _ _ _;refine zI ?_;refine zca hW ?_;refine zN ?_;refine zGF (zr3 hlvv e1 e2) ?_;refine zmm 0 (v':=.agg [wv p w,.list 0 2 [],frV r [],iv 0]) rfl rfl (zl6 p 0 w _) ?_;simp only[zCK9];refine zcI (fun tm=>tm 0=wv p w/\tm 1=iv n/\tm 2=uv key/\tm 3=frV r []/\tm 14=iv leaf/\tm 15=.ptr 0 0 0 0 4) ⟨zt,zt,zt,zt,zt,by simp[upd,zq]⟩ ?_;rintro tm ⟨h0,h1,h2,h3,h14,h15⟩;refine zIF (zr2 h14 h15) ?_;refine zbz (by first|rfl|(simp only[go_sem]<;>rfl)) (by simp only[go_sem]<;>rfl) hat0 rfl ?_ ?_;(repeat(first|exact trivial|refine And.intro ?_ ?_|exact Id0.int _ _|exact Id0.bool _|exact Id0.list _ _ _|exact Id0.elem _|exact Id0.nilsl|exact Id0.str _|exact zbE _ _ _))
 ·exact hidx
 ·(repeat(first|exact trivial|refine And.intro ?_ ?_|exact Id0.int _ _|exact Id0.bool _|exact Id0.list _ _ _|exact Id0.elem _|exact Id0.nilsl|exact Id0.str _|exact zbE _ _ _))
 refine zAW h2 ?_;refine zca htk ?_;refine zN ?_
 by_cases hok:tk.2=0
 rotate_left
 ·rw[if_neg hok];have g1:¬((tk.2:Nat):Int)=0:=by omega
  refine zSF g1 ?_;refine zO ?_;exact Frz.tupL ⟨.nil _ _,.int _ _,.nil _ _,.int _ _,trivial⟩
 rw[if_pos hok];have g1:((tk.2:Nat):Int)=0:=by omega
 obtain⟨hdo,hxf,hxq,hxu⟩:=hdo hok;have hlv:=hlv hok;have hx1v:wkv x1=.agg [wv x1.p x1.W,.list x1.q 2 (x1.L.map zBo),frV r [],iv x1.used]:=by unfold wkv;rw[hxf]
 rw[hx1v]at hdo
 have w4:IntKind.i64.wrap ((64:Int)*(leaf:Int))=((64*leaf:Nat):Int):=zwi;refine zTF g1 ?_;refine zBl ?_;show W _ _ _ _ _ _;refine zIF (zr3 h14 h15 w4) ?_;refine zbz (by first|rfl|(simp only[go_sem]<;>rfl)) (by simp only[go_sem]<;>rfl) hdo rfl ?_ ?_;(repeat(first|exact trivial|refine And.intro ?_ ?_|exact Id0.int _ _|exact Id0.bool _|exact Id0.list _ _ _|exact Id0.elem _|exact Id0.nilsl|exact Id0.str _|exact zbE _ _ _))
 ·exact hidx
 ·(repeat(first|exact trivial|refine And.intro ?_ ?_|exact Id0.int _ _|exact Id0.bool _|exact Id0.list _ _ _|exact Id0.elem _|exact Id0.nilsl|exact Id0.str _|exact zbE _ _ _))
 refine zNF h15 ?_;have hTv:(T.map fun L=>zby 0 0 L.1 L.2)[T.length-1]?=some (zby 0 0 LL.1 LL.2):=by rw[zAH9,hT];rfl
 have e3:(T.length:Int)-1=((T.length-1:Nat):Int):=by omega
 have e4:T.length-1<T.length:=by omega
 refine zcI (fun tm=>tm 1=iv n/\tm 3=frV r []/\tm 15=.ptr 0 0 0 0 4) ⟨zu h1,zu h3,zu h15⟩ ?_;clear h0 h1 h2 h3 h14 h15;rintro tm ⟨h1,h3,h15⟩;refine zIF (zr2 h1 h15) ?_;refine zca hlv ?_;refine zN ?_;refine zIF (zr3 hTv e3 e4) ?_;refine zca hpa ?_;refine zN ?_;refine zcI (fun tm=>tm 3=frV r []/\tm 15=.ptr 0 0 0 0 4/\tm 18=zbQ T/\tm 20=psv 0 P) ⟨zu h3,zu h15,zt,by simp[upd]⟩ ?_;clear h1 h3 h15;rintro tm ⟨h3,h15,h18,h20⟩;(repeat refine za ?_);refine zbD (Q:=fun yy s'=>yy=.norm/\s'.tm 15=.ptr 0 0 0 0 4/\s'.tm 110=.bool true/\s'.df=[]/\s'.H=[.row 107 4 0 0 [.agg [wv x1.p x1.W,.list x1.q 2 (x1.L.map zBo),frV r [],iv x1.used]]]) (zAU ?_) ?_
 ·by_cases hT1:T.length=1
  ·have c1:=eq_true (show ((T.length:Nat):Int)=1 by omega);refine zKF (zr3 h18 h20 c1) ?_;exact⟨rfl,h15,zt,rfl,rfl⟩
  have c1:¬((T.length:Nat):Int)=1:=by omega
  have w6:IntKind.i64.wrap ((6:Int)*(LL.2.length:Int))=((6*LL.2.length:Nat):Int):=zwi
  by_cases hP6:6*LL.2.length<P.length
  ·have c2:((6*LL.2.length:Nat):Int)<(P.length:Nat):=by omega
   refine zKF (zr8 h18 h20 c1 c2 w6 hTv e3 e4) ?_;exact⟨rfl,h15,zt,rfl,rfl⟩
  have c2:¬((6*LL.2.length:Nat):Int)<(P.length:Nat):=by omega
  have hnd:=zmh P.length (by omega);have hn1:1<=zcO P.length:=by
   unfold zcO;rw[zeM];have:=Nat.le_max_left 1 ((P.length+17)/18);omega
  have c3:(0:Int)<(zcO P.length:Nat):=by omega
  refine zAW (zr9 h18 h20 h3 c1 c2 w6 hTv e3 e4) ?_;refine zca hnd ?_;refine zfx ?_ (by simp(disch:=omega)only[go_sem,h3,c3,zCD9]<;>rfl);refine zr ?_;exact⟨rfl,h15,zt,rfl,rfl⟩
 clear h3 h15 h18 h20;rintro yy ⟨tm,df,H⟩ ⟨rfl,h15,h110,rfl,rfl⟩;dsimp only at h15 h110;refine zct ?_ (by simp only[go_sem,h110]<;>rfl);refine zOF h15 ?_;rw[hok];exact zq2 _ hxq x1.L 0 0
theorem zvd (p r n key:Nat)(w:List Nat)(hw:w.length<=2560)(hn:n<64):∃(L:List Pr) (no:Nat),FN ET 12 [wv p w,iv n,uv key,.list r 1 []] (.ret (zdq L 0 [] no))/\L.length<=900000/\(WB w->BB L):=by
 have hA:=zjB p r w n [] (by unfold za7;omega) (by decide)
 by_cases h0:zeR w n []=0
 rotate_left
 ·exact⟨_,_,zpB p r w n key [] _ h0 hA,zAS9 _,fun _=>BB.nil⟩
 obtain⟨n',frN,ws,hnn,hn2,h64,hN,hfr,ht,hset,hS⟩:=zmg key h0;obtain rfl:n'=n:=by omega
 obtain rfl:frN=[]:=by cases frN with|nil=>rfl|cons a l=>simp at hfr
 rw[h0]at hA;obtain⟨s1,s2,s3,s4,s5,s6,s7,s8,s9⟩:=hS;have hW:=zmd p w n' key ws hN hn2 s1;obtain⟨init,leaf,rfl⟩:=ziq s6;have hleaf:leaf∈init++[leaf]:=by simp
 have hin:64*leaf+64<=w.length:=by have:=s3 leaf hleaf;omega
 have hpos:=s9 leaf hleaf;have htk:=zpw p key (zA w leaf) (by rw[zb5 _ _ hin];decide);have hta:=zhR (key:=key) (zb5 w leaf hin);obtain⟨x0,hx0⟩:∃x0:Wk,x0=⟨p,0,w,[],frV r [],0⟩:=⟨_,rfl⟩
 have hxW:x0.W=w:=by rw[hx0]
 have hxL:x0.L.length=0:=by rw[hx0];rfl
 have hd:=zdQ x0 (by rw[hx0];exact .list _ _ _) (64*leaf) 0 (zci (zA w leaf) key).1 (by omega) (by rw[hxW];omega) fun c hc=>by have:=hta.2 c hc;rw[hxW];omega
 have hdf:=zcJ (zaZ (64*leaf) (zci (zA w leaf) key).1) x0;have hdq:=zdS (zaZ (64*leaf) (zci (zA w leaf) key).1) x0 (by rw[hx0]);have hdW:=zgu (zaZ (64*leaf) (zci (zA w leaf) key).1) x0;rw[hxW]at hdW;rw[zfw]at hdf;obtain⟨t1,t2⟩:=zeG w n';have hne0:(zbM w n').1 ≠ []:=by
  rw[t2 ht];exact(zcN (w:=w) (T:=(zac w n').1) hN n' (by rw[<- ht])).2.2.1
 have hne:=zwt (key:=key) hin hne0 (by omega);rw[<- hdW]at hne;have hWl:(x0.does (zaZ (64*leaf) (zci (zA w leaf) key).1)).W.length=w.length:=hdf.1.trans (by rw[hxW]);have hxB:WB w->BB (x0.does (zaZ (64*leaf) (zci (zA w leaf) key).1)).L:=fun h=>(KB.does (x:=x0) ⟨by rw[hxW];exact h,by rw[hx0];exact BB.nil⟩ ((zxt (h.block leaf) key).off _)).L;generalize x0.does (zaZ (64*leaf) (zci (zA w leaf) key).1)=x1 at *
 have hlv:=zfj x1.p x1.W ⟨by omega,by omega⟩ n' (by omega);obtain⟨tf1,tf2⟩:=ziR (w:=x1.W) (by omega) n';have tf3:∀L∈(zbM x1.W n').1,L.1.length<=x1.W.length/64:=zkf (by omega) 14 [] [] _ _ fun L hL=>by simp at hL
 generalize (zbM x1.W n').1=T at *
 obtain⟨tinit,LL,rfl⟩:=ziq hne;have hLm:LL∈tinit++[LL]:=by simp
 have hLF:=tf1 LL hLm;have hL40:LL.2.length<=40:=by have:=tf3 LL hLm;have:=hLF.lv.len;omega
 have hp28:∀m∈LL.2,m.pairs.length<=28:=fun m hm=>(hLF.lv.node hm).1;have hll:=zhM LL.2 hp28;have hpa:=zjx 0 0 LL.1 LL.2 (by omega) hp28 (by omega);obtain⟨P,f2,hE,hPl⟩:=zyK LL.2;rw[hE]at hpa;refine⟨_,_,zsW p r n' key w (init++[leaf]) leaf x0 x1 (zci (zA w leaf) key) (tinit++[LL]) LL P _ f2 hN hx0 hA hW (by omega) (by simp) (by simp) hin htk (fun _=>⟨hd,hdf.2.2.1.trans (by rw[hx0]),hdq,hdf.2.2.2.trans (by rw[hx0])⟩) (fun _=>hlv) (by simp) ⟨by simp,tf2⟩ hL40 hpa (by omega),?_⟩;refine⟨?_,fun hw=>?_⟩
 ·split
  ·rw[hdf.2.1];omega
  ·exact zAS9 _
 ·split
  ·exact hxB hw
  ·exact BB.nil
end Fv
end Go.Proofs.YtfomlmhnmheenaaGreat
namespace Go.Proofs.YtfomlmhnmheenaaGreat
namespace Fv
open Tw


set_option maxRecDepth 100000
variable {E:Env}
def FNx (E:Env)(f:Nat)(args:List PV)(P:FE->Prop):Prop :=
 ∀S h us,(∀p b,S p b->b<h.next)->LR (PR S h) args us->∃e r h',P e/\Ev E (fun C _=>C.fn f us h=some (r,h'))/\h.next<=h'.next/\(∀b,b<h.next->h'.get b=h.get b)/\RE (PR (S0 S h.next h'.next) h') e r
theorem zz3 {f:Nat}{F:zD}(hF:E.funcs.get f=some F){args:List PV}(hn:args.length<=F.N){P:FE->Prop}(hl:∀e,P e->LbE e)(hW:W E E.caught none F.body ⟨zq args,[],[]⟩ (zdj E F fun e' H=>∃e,P e/\za0 H 0 e' e)):FNx E f args P:=fun S h us hS ha=>by
 have hr:HR ⟨h.next,h,S⟩ ⟨S,fun _=>none,fun _=>False⟩ [] h:=⟨zAJ9 _,fun _ _=>rfl,fun p b hb=>.inl hb,fun p b hb=>⟨hS p b hb,fun id x hx=>(by cases hx)⟩,fun id x hx=>(by cases hx),fun id hx=>hx.elim,fun id id' x x' hx=>(by cases hx),fun id o ho=>(by simp at ho)⟩
 obtain⟨r,h',e',H',c',e1,⟨e,hP,q1⟩,m1,hr1,re,_⟩:=zsf hF hn hW _ _ h us hr (LR.pure (c:=⟨S,fun _=>none,fun _=>False⟩) ha);have hkeep:∀b,b<h.next->h'.get b=h.get b:=fun b hb=>hr1.keep b hb;have hS1:∀p b,c'.S p b->S1 S h.next h'.next p b:=fun p b hb=>by
  rcases hr1.old p b hb with h1|⟨h1,h2⟩
  ·exact .inl h1
  ·exact .inr ⟨h1,h2,(hr1.S p b hb).1⟩
 have hown:∀id x,c'.ρ id=some x->S1 S h.next h'.next 0 x.1:=fun id x hx=>by
  obtain⟨h1,h2,_⟩:=hr1.own id x hx;exact .inr ⟨rfl,h1,h2⟩
 have hS0:∀b,S1 S h.next h'.next 0 b->S0 S h.next h'.next 0 b:=fun b hb=>by
  rcases hb with hb|⟨_,hb⟩
  ·exact⟨rfl,.inl hb⟩
  ·exact⟨rfl,.inr hb⟩
 have hle:=hl e hP;refine⟨e,r,h',hP,e1,hr1.le,hkeep,?_⟩
 cases e'<;>cases r<;>first|exact re.elim|skip
 ·cases e with
  | panic v=>exact q1.elim
  | ret w=>exact Lb.ok hS0 (Frz.ok hr1 hS1 hown q1 re) hle
 ·cases e with
  | ret v=>exact q1.elim
  | panic w=>exact Lb.ok hS0 (Frz.ok hr1 hS1 hown q1 re) hle
theorem znx {f:Nat}{F:zD}{c:zbk}{args:List PV}{P:FE->Prop}(hF:E.funcs.get f=some F)(hl:∀e,P e->LbE e)(hW:W E E.caught none c ⟨zq args,[],[]⟩ (zdj E F fun e' H=>∃e,P e/\za0 H 0 e' e))(hc:F.body=c:=by simp only[go_sem]<;>rfl)(hn:args.length<=F.N:=by exact zBC9 rfl):FNx E f args P:=zz3 hF hn hl (by rw[hc];exact hW)
theorem FNx.FO {f:Nat}{args aS:List PV}{P:FE->Prop}{H:List zn}(k:FNx E f aS P)(hl:LF H 1 args aS):FO E f args H true (fun e' H'=>P e'/\H'=H):=fun B c h us hr ha=>by
 have h1:=LF.ok hr (S:=zjH c) (fun p b hb=>.inl hb) (fun id x hx=>.inr ⟨rfl,id,x,hx,rfl⟩) hl ha;obtain⟨e,r,h',hP,e1,hn,hk,re⟩:=k (zjH c) h us (fun p b hb=>by
  rcases hb with hb|⟨_,id,x,hx,rfl⟩
  ·exact(hr.S p b hb).1
  ·exact(hr.own _ _ hx).2.1) h1
 obtain⟨m,hr'⟩:=hr.grown hn hk;refine⟨r,h',e,H,c.lay h.next h'.next,e1,⟨hP,rfl⟩,m,hr',re.mono fun v u hv=>.pure (hv.mono (fun p b hb=>?_) fun _ _ _ _ _ _ _ hr=>hr),fun _ id x hx=>hk _ (hr.own _ _ hx).2.1⟩;obtain⟨rfl,hb|hb⟩:=hb
 ·rcases hb with hb|⟨h0,_⟩
  ·exact .inl hb
  ·cases h0
 ·exact .inr ⟨rfl,hb⟩
theorem zxZ {caught:Tr Unit}{d:Option Nat}{args:List TOp}{g:Option (TOp×Bool)}{ops:List zaw}{s:FSt}{Q:FX->FSt->Prop}{f:Nat}{caps vs aS:List PV}{P:FE->Prop}
  (hg:zV s.tm g=some true) (ha:evs s.tm args=some (.fn f caps::vs)) (k:FNx E f aS P) (hl:LF s.H 1 (vs++caps) aS) (hQ:∀e,P e->zyn E caught ops s d Q e s.H):WO E caught (⟨d,.call,args,g⟩::ops) s Q :=
 zhT hg ha ((FNx.FO k hl).mono fun e H' he=>by obtain⟨h1,rfl⟩:=he;exact hQ e h1)
theorem zly (q:Nat)(H:List zn)(iw gw qw M0:Nat)(w:List Nat)(l:List Pr)(hl:l.length<10000000)(hw:0<w.length/\w.length<=1000000)(hM0:M0<=gw)(hr:H[iw]?=some (.row 24 1 gw M0 (w.map uv))):FO ET 28 [.sl iw gw 0 w.length qw 1,.list q 2 (l.map zBo)] H false fun e H'=>zdJ H H'/\∃id g M,e=.ret (.sl id g 0 w.length (2*w.length) 1)/\M<=g/\H'[id]?=some (.row 24 1 g M ((zax w l).map uv)):=by
 refine zro f28 ?_;have hb:w.length*9<=140737488355328:=by omega
 have hne:¬w.length=0:=by omega
 have hX:∀X,(H++X)[iw]?=some (.row 24 1 gw M0 (w.map uv)):=fun X=>zbm hr;have hlw:(w.map uv).length=w.length:=zAA9 ..;have hle:w.length<=w.length:=zAJ9 _;have htk:(w.map uv).take w.length=w.map uv:=by rw[<- hlw,zBG9]
 refine zGF (zr7 hb hne hX hM0 hlw hle htk) ?_;refine zB (zar (fun m s=>∃(i M:Nat),m=l.length-i/\i<=l.length/\M<=1/\s.tm 1=.list q 2 (l.map zBo)/\s.tm 5=.sl H.length 1 0 w.length (2*w.length) 1/\s.tm 6=iv i/\s.df=[]/\s.H=H++[.row 24 1 1 M ((zax w (l.take i)).map uv)]) (n:=l.length) ?_ ?_)
 ·exact⟨0,0,rfl,zAS9 _,by decide,zt,zt,zt,rfl,rfl⟩
 ·rintro m ⟨tm,df,Hx⟩ ⟨i,M,rfl,hi,hM,h1,h5,h6,rfl,rfl⟩;dsimp only at h1 h5 h6;have hal:=zcZ (l.take i) w;(try refine zBp ?_);refine za (zAV (zr2 h1 h6) ?_);refine zwh ?_ ?_;rotate_left
  ·intro hlt;have hlt:¬i<l.length:=by have:=of_decide_eq_false hlt;omega
   obtain rfl:i=l.length:=by omega
   refine zOF h5 ?_;rw[zBG9]at hal⊢;exact⟨(zdJ.refl H).app _,H.length,1,M,rfl,hM,by simp⟩
  intro hlt;have hlt:i<l.length:=by have:=of_decide_eq_true hlt;omega
  obtain⟨x,hx⟩:∃x,l[i]?=some x:=⟨_,zAB9 hlt⟩
  have hxv:(l.map zBo)[i]?=some (zBo x):=by rw[zAH9,hx];rfl
  have htk:zax w (l.take (i+1))=(zax w (l.take i)).set x.1 x.2:=by
   rw[zBE9,hx,zfk];rfl
  have g0:(0:Int)<=(x.1:Nat):=zFK9 _;(repeat refine za ?_);refine zB ?_
  by_cases hlx:x.1<w.length
  ·have g1:((x.1:Nat):Int)<(w.length:Nat):=by omega
   obtain⟨o,ho⟩:∃old,(zax w (l.take i))[x.1]?=some old:=⟨_,zAB9 (by omega)⟩
   have z1:((zax w (l.take i)).map uv)[x.1]?=some (uv o):=by rw[zAH9,ho];rfl
   have y1:((zax w (l.take i)).map uv).set x.1 (.int .u64 (x.2:Int))=(zax w (l.take (i+1))).map uv:=by rw[htk];exact zDU9.symm
   generalize (zax w (l.take i)).map uv=K0 at *
   (repeat refine za ?_);(repeat refine za ?_);refine zAV (zr7 h1 h5 h6 hxv hlt g0 g1) ?_;refine zct ?_;refine zad ?_;refine zA0 (zr9 h1 h5 h6 hxv hlt hlx hM z1 y1) ?_;refine zQF h5 ?_;refine zJF h6 ?_;refine⟨_,?m,i+1,1,rfl,hlt,zAJ9 _,zu h1,zu h5,zu h6,rfl,rfl⟩
   case m=>omega
  ·have g1:¬((x.1:Nat):Int)<(w.length:Nat):=by omega
   have y1:(zax w (l.take (i+1)))=zax w (l.take i):=by rw[htk,List.set_eq_of_length_le (by omega)]
   (repeat refine za ?_);(repeat refine za ?_);refine zAV (zr7 h1 h5 h6 hxv hlt g0 g1) ?_;refine zcf ?_;refine zBl ?_;refine zJF h6 ?_;refine⟨_,?m,i+1,M,rfl,hlt,hM,zu h1,zu h5,zu h6,zt,by rw[y1]⟩
   case m=>omega
end Fv
end Go.Proofs.YtfomlmhnmheenaaGreat
namespace Go.Proofs.YtfomlmhnmheenaaGreat
namespace Fv
open Tw


set_option maxRecDepth 100000
theorem f8:ET.funcs.get 8=some T8:=zH Tryz.func8
def zqd (blocks:Int)(e:FE):Prop:=∃(ws:List Nat) (fr:List Int) (b:Bool),e=.ret (.tuple [wv 0 ws,.list 0 1 (fr.map iv),.bool b])/\(b=true->2<=blocks/\blocks<=40/\(ws.length:Int)=64*blocks/\fr.length<=40/\WB ws)
theorem zy5 {blocks:Int}:∀e,zqd blocks e->LbE e:=fun e h=>by
 obtain⟨ws,fr,b,rfl,_⟩:=h;refine Lb.three (Lb.uvs _) (.list fun x hx=>?_) (.bool _);obtain⟨y,hy,hx⟩:=zBB9.1 hx;obtain⟨n,_,rfl⟩:=zAM9.1 hy;simp[PV.cells]at hx;subst hx;exact .int _ _
theorem zzf {blocks:Int}{H:List zn}:∃e,zqd blocks e/\za0 H 0 (.ret (.tuple [.nilsl,.nilsl,.bool false])) e:=⟨_,⟨[],[],false,rfl,fun h=>by cases h⟩,Frz.tupL ⟨.nil _ _,.nil _ _,.bool _,trivial⟩⟩
theorem zvN (l:List Pr)(fr:List Int)(hl:l.length<=500):∃(root used no:Nat) (puts:List Pr),zcK l fr=.ret (.tuple [iv root,.list 0 2 (puts.map zBo),iv used,iv no])/\puts.length<=64*fr.length/\used<=fr.length/\root<2048/\(PB l->BB puts):=by
 unfold zcK
 by_cases hP:okP l=true
 rotate_left
 ·rw[show okP l=false by simpa using hP];exact⟨0,0,2,[],rfl,zAS9 _,zAS9 _,by decide,fun _=>BB.nil⟩
 by_cases hI:okI [] fr=true
 rotate_left
 ·rw[show okI [] fr=false by simpa using hI,zGM9];exact⟨0,0,2,[],rfl,zAS9 _,zAS9 _,by decide,fun _=>BB.nil⟩
 rw[hP,hI];obtain⟨free,rfl,hF⟩:=zjy hI;have hfree:(free.map fun(b:Nat)=>(b:Int)).map Int.toNat=free:=by rw[zDH9];exact zFU9 free
 rw[hfree];simp only[Bool.and_self,if_true]
 cases hb:zex l free with
 | none=>exact⟨0,0,221,[],rfl,zAS9 _,zAS9 _,by decide,fun _=>BB.nil⟩
 | some T =>
  have hT:=zpy hP hF hl hb;obtain⟨used,hu,e⟩:=hT.blocks;obtain⟨b,n,T',hT1,_⟩:=hT.one;have hlen:(zcD T.reverse).length=64*(free.take used).length:=by
   rw[zhG _ fun M hM=>hT.len M (zEO9.1 hM),e]
  have hbm:b∈free:=zBX9 (i:=used) (by rw[<- e,hT1];simp);have hroot:zhz T=b:=by rw[hT1];rfl
  refine⟨zhz T,_,0,_,rfl,by rw[hlen,zBA9,zAA9];omega,by rw[e,zBA9,zAA9];omega,by rw[hroot];exact(((zfE free).1 hF).1 b hbm).2,fun h=>zlw fun M hM=>ztt (fun b hb=>(((zfE free).1 hF).1 b hb).2) 4 _ _ _ _ (by decide) (zuR h) (fun L hL=>by simp at hL) hb M (zEO9.1 hM)⟩
theorem znZ (n m:Nat):(n+1==n+(m+1+1+1))=false:=by rw[beq_eq_false_iff_ne];omega
theorem zow (n m:Nat):(n+(m+1+1+1)==n+1)=false:=by rw[beq_eq_false_iff_ne];omega
theorem zoC (n m:Nat):(n+1+1==n+(m+1+1+1))=false:=by rw[beq_eq_false_iff_ne];omega
theorem zoG (n m:Nat):(n+(m+1+1+1)==n+1+1)=false:=by rw[beq_eq_false_iff_ne];omega
theorem zy1 {l:List Bool}:∀v∈(l.map PV.bool).flatMap PV.cells,Id0 v:=fun v hv=>by
 obtain⟨x,hx,hv⟩:=zBB9.1 hv;obtain⟨n,_,rfl⟩:=zAM9.1 hx;simp[PV.cells]at hv;subst hv;exact .bool _
section mid3
variable {α:Type}
theorem gc0 (G G2 l:List α)(a b c x:α):(G++a::b::c::(G2++x::l))[G.length+(G2.length+1+1+1)]?=some x:=by
 rw[zAP9 (by omega),show G.length+(G2.length+1+1+1)-G.length=G2.length+1+1+1 by omega];simp
theorem gc1 (G G2 l:List α)(a b c x y:α):(G++a::b::c::(G2++x::y::l))[G.length+(G2.length+1+1+1+1)]?=some y:=by
 rw[zAP9 (by omega),show G.length+(G2.length+1+1+1+1)-G.length=G2.length+1+1+1+1 by omega];simp
theorem gc2 (G G2 l:List α)(a b c x y z:α):(G++a::b::c::(G2++x::y::z::l))[G.length+(G2.length+1+1+1+1+1)]?=some z:=by
 rw[zAP9 (by omega),show G.length+(G2.length+1+1+1+1+1)-G.length=G2.length+1+1+1+1+1 by omega];simp[zAP9]
theorem sc0 (G G2 l:List α)(a b c x u:α):(G++a::b::c::(G2++x::l)).set (G.length+(G2.length+1+1+1)) u=G++a::b::c::(G2++u::l):=by
 rw[zCA9 _ _ (by omega),show G.length+(G2.length+1+1+1)-G.length=G2.length+1+1+1 by omega];simp
theorem gd0 (G G2 G3 l:List α)(a b c d x:α):(G++a::b::c::(G2++d::(G3++x::l)))[G.length+(G2.length+(G3.length+1)+1+1+1)]?=some x:=by
 rw[zAP9 (by omega),show G.length+(G2.length+(G3.length+1)+1+1+1)-G.length=G2.length+(G3.length+1)+1+1+1 by omega];simp only[zAY9];rw[zAP9 (by omega),show G2.length+(G3.length+1)-G2.length=G3.length+1 by omega,zAY9];simp
theorem gd1 (G G2 G3 l:List α)(a b c d x y:α):(G++a::b::c::(G2++d::(G3++x::y::l)))[G.length+(G2.length+(G3.length+1+1)+1+1+1)]?=some y:=by
 rw[zAP9 (by omega),show G.length+(G2.length+(G3.length+1+1)+1+1+1)-G.length=G2.length+(G3.length+1+1)+1+1+1 by omega];simp only[zAY9];rw[zAP9 (by omega),show G2.length+(G3.length+1+1)-G2.length=G3.length+1+1 by omega,zAY9];simp
end mid3
@[reducible] def zdw (l:List Nat):List PV:=l.map fun (b:Nat)=>.int .u8 (b:Int)
@[reducible] def wdV (l:List (Int × Nat)):List PV:=l.map fun x=>.agg [iv x.1,uv x.2]
set_option maxHeartbeats 4000000 in
theorem zx1 (q1 q2:Nat)(blocks:Int)(zbC:List Nat)(bent:List (Int×Nat))(hbw:∀x∈bent,LtU x.2):FNx ET 8 [iv blocks,.list q1 1 (zdw zbC),.list q2 2 (wdV bent)] (zqd blocks):=by
 refine znx f8 zy5 ?_;have no:∀(tm:Nat->PV) (H:List zn),tm 6=.nilsl->tm 7=.nilsl->tm 8=.bool false->zdj ET T8 (fun e' H=>∃e,zqd blocks e/\za0 H 0 e' e) .ret ⟨tm,[],H⟩:=fun tm H h6 h7 h8=>by
  refine zj (vs:=[.nilsl,.nilsl,.bool false]) ?_ zzf;simp[T8,xT,zE,okv,h6,h7,h8]
 refine zG ?_;(repeat refine za ?_);refine zbD (Q:=fun yy s'=>yy=.norm/\s'.tm 0=iv blocks/\s'.tm 1=.list q1 1 (zdw zbC)/\s'.tm 2=.list q2 2 (wdV bent)/\s'.tm 40=.bool (decide (blocks<2)||decide (40<blocks)||decide (400<zbC.length)||decide (20<bent.length))/\s'.df=[]/\s'.H=[]) (zAU ?_) ?_
 ·have h0:zq [iv blocks,.list q1 1 (zdw zbC),.list q2 2 (wdV bent)] 0=iv blocks:=rfl;have h1:zq [iv blocks,.list q1 1 (zdw zbC),.list q2 2 (wdV bent)] 1=.list q1 1 (zdw zbC):=rfl;have h2:zq [iv blocks,.list q1 1 (zdw zbC),.list q2 2 (wdV bent)] 2=.list q2 2 (wdV bent):=rfl;generalize zq [iv blocks,.list q1 1 (zdw zbC),.list q2 2 (wdV bent)]=tm at *
  by_cases c1:blocks<2
  ·refine zKF (zr4 h0 h1 h2 c1) ?_;exact⟨rfl,zu h0,zu h1,zu h2,by simp[upd,c1],rfl,rfl⟩
  by_cases c2:40<blocks
  ·refine zKF (zr5 h0 h1 h2 c1 c2) ?_;exact⟨rfl,zu h0,zu h1,zu h2,by simp[upd,c1,c2],rfl,rfl⟩
  by_cases c3:400<zbC.length
  ·have g3:(400:Int)<(zbC.length:Nat):=by omega
   refine zKF (zr6 h0 h1 h2 c1 c2 g3) ?_;exact⟨rfl,zu h0,zu h1,zu h2,by simp[upd,c1,c2,c3],rfl,rfl⟩
  have g3:¬(400:Int)<(zbC.length:Nat):=by omega
  by_cases c4:20<bent.length
  ·have g4:(20:Int)<(bent.length:Nat):=by omega
   refine zKF (zr7 h0 h1 h2 c1 c2 g3 g4) ?_;exact⟨rfl,zu h0,zu h1,zu h2,by simp[upd,c1,c2,c3,c4],rfl,rfl⟩
  have g4:¬(20:Int)<(bent.length:Nat):=by omega
  refine zKF (zr7 h0 h1 h2 c1 c2 g3 g4) ?_;exact⟨rfl,zu h0,zu h1,zu h2,by simp[upd,c1,c2,c3,c4],rfl,rfl⟩
 rintro yy ⟨tm,df,H⟩ ⟨rfl,h0,h1,h2,h40,rfl,rfl⟩;dsimp only at h0 h1 h2 h40
 by_cases hbad:(decide (blocks<2)||decide (40<blocks)||decide (400<zbC.length)||decide (20<bent.length))=true
 ·rw[hbad]at h40;refine zct ?_ (by simp only[go_sem,h40]<;>rfl);refine zG ?_;refine zy ?_;exact no _ _ (by simp[upd]) (by simp[upd]) (by simp[upd])
 have hbad:(decide (blocks<2)||decide (40<blocks)||decide (400<zbC.length)||decide (20<bent.length))=false:=by simpa using hbad
 rw[hbad]at h40;refine zcf ?_ (by simp only[go_sem,h40]<;>rfl);refine zBl ?_;show W _ _ _ _ _ _;simp only[Bool.or_eq_false_iff,decide_eq_false_iff_not]at hbad;obtain⟨⟨⟨c1,c2⟩,c3⟩,c4⟩:=hbad;obtain⟨N,rfl⟩:∃N:Nat,blocks=N:=⟨blocks.toNat,by omega⟩
 have w1:IntKind.i64.wrap ((64:Int)*(N:Int))=((64*N:Nat):Int):=zwi;have w2:(64:Int)*(N:Int)=((64*N:Nat):Int):=by omega
 have m1:((64*N:Nat):Int)<=((64*N:Nat):Int):=Int.le_refl _;have m2:((64*N:Nat):Int)<=1000000:=by omega
 have m3:((64*N:Nat):Int)*8<=140737488355328:=by omega
 (repeat refine za ?_);refine zAV (zr6 h0 w1 w2 m1 m2 m3) ?_;refine zG ?_;refine zb2 3 1 (i:=10) rfl ?_;simp only[lzy,zAD9,zAE9,zAF9,zAR9,zAG9,zAI9,zAK9];refine zG ?_;refine zcI (fun tm=>tm 0=iv N/\tm 1=.list q1 1 (zdw zbC)/\tm 2=.list q2 2 (wdV bent)/\tm 9=.sl 0 0 0 (64*N) (2*(64*N)) 1/\tm 10=.sl 1 0 0 0 0 1/\tm 11=iv 1) ⟨zu h0,zu h1,zu h2,zt,zt,by simp[upd]⟩ ?_;clear h0 h1 h2 h40;rintro tm ⟨h0,h1,h2,h9,h10,h11⟩;refine zB (zar (fun m s=>∃(i:Nat) (V:List Int) (G:List zn),m=N-i/\i<N/\V.length=i/\s.tm 0=iv N/\s.tm 1=.list q1 1 (zdw zbC)/\s.tm 2=.list q2 2 (wdV bent)/\s.tm 9=.sl 0 0 0 (64*N) (2*(64*N)) 1/\s.tm 10=.sl 1 i 0 i (2*i) 1/\s.tm 11=iv (i+1:Nat)/\s.df=[]/\s.H=.row 24 1 0 0 (List.replicate (64*N) (uv 0))::.row 3 1 i 0 (V.map iv)::G) (n:=N) ?_ ?_)
 ·exact⟨0,[],[],rfl,by omega,rfl,h0,h1,h2,h9,h10,h11,rfl,rfl⟩
 clear h0 h1 h2 h9 h10 h11;rintro m ⟨tm,df,H⟩ ⟨i,V,G,rfl,hi,hV,h0,h1,h2,h9,h10,h11,rfl,rfl⟩;dsimp only at h0 h1 h2 h9 h10 h11
 by_cases hlt:i+1<N
 ·have g:((i+1:Nat):Int)<(N:Nat):=by omega
  (try refine zBp ?_);refine za (zAV (zr3 h0 h11 g) ?_);refine zwh ?_ ?_;rotate_left
  ·intro h;cases h
  intro _;have hbb:(i+1)*9<=140737488355328:=by omega
  (repeat refine za ?_);refine zB ?_;refine zJF (zr4 h10 h11 hbb hV) ?_;have w5:((i+1:Nat):Int)+1=((i+1+1:Nat):Int):=by omega
  refine zJF (zr2 h11 w5) ?_;refine⟨_,?m,i+1,V++[((i+1:Nat):Int)],?G,rfl,hlt,by simp[hV],zu h0,zu h1,zu h2,zu h9,zt,zu h11,zt,?H⟩
  case m=>omega
  case H=>(try dsimp only);rw[zBJ9];rfl
 have g:¬((i+1:Nat):Int)<(N:Nat):=by omega
 (try refine zBp ?_);refine za (zAV (zr3 h0 h11 g) ?_);refine zwh ?_ ?_
 ·intro h;cases h
 intro _;have hiN:i+1=N:=by omega
 refine zcI (fun tm=>tm 0=iv N/\tm 1=.list q1 1 (zdw zbC)/\tm 2=.list q2 2 (wdV bent)/\tm 9=.sl 0 0 0 (64*N) (2*(64*N)) 1/\tm 10=.sl 1 i 0 i (2*i) 1) ⟨zu h0,zu h1,zu h2,zu h9,zu h10⟩ ?_;clear h0 h1 h2 h9 h10 h11;rintro tm ⟨h0,h1,h2,h9,h10⟩;refine zf5 10 1 (w:=.list 0 1 (V.map iv)) rfl (by
  dsimp only;rw[h10];exact Frz.whole (zgw rfl) rfl (by simp[hV]) (by simp[hV]) (fun v hv=>by obtain⟨x,_,rfl⟩:=zAM9.1 hv;rfl) zlg) ?_
 simp only[zCI9,zCK9];refine zG ?_;refine zb2 66 2 (i:=12) rfl ?_;refine zb2 66 2 (i:=13) rfl ?_;refine zb2 4 1 (i:=14) rfl ?_;simp only[lzy,zAG9,zAI9,zAK9,zAD9,zAE9,zAF9,zAR9];refine zB (zar (fun m s=>∃(j key:Nat) (P L:List Pr) (U:List Bool) (G2:List zn),m=zbC.length-j/\j<=zbC.length/\key<=10*j/\P.length<=j/\PB P/\L.length<=j/\PB L/\U.length=L.length/\s.tm 1=.list q1 1 (zdw zbC)/\s.tm 2=.list q2 2 (wdV bent)/\s.tm 9=.sl 0 0 0 (64*N) (2*(64*N)) 1/\s.tm 10=.list 0 1 (V.map iv)/\s.tm 12=.sl (G.length+1+1) P.length 0 P.length (2*P.length) 2/\s.tm 13=.sl (G.length+1+1+1) L.length 0 L.length (2*L.length) 2/\s.tm 14=.sl (G.length+1+1+1+1) L.length 0 L.length (2*L.length) 1/\s.tm 15=uv key/\s.tm 16=iv j/\s.df=[]/\s.H=.row 24 1 0 0 (List.replicate (64*N) (uv 0))::.void::(G++.row 66 2 P.length 0 (P.map pv)::.row 66 2 L.length 0 (L.map pv)::.row 4 1 L.length 0 (U.map PV.bool):: G2)) (n:=zbC.length) ?_ ?_)
 ·exact⟨0,0,[],[],[],[],rfl,zAS9 _,zAS9 _,zAS9 _,PB.nil,zAS9 _,PB.nil,rfl,zu h1,zu h2,zu h9,zt,zt,zt,zt,zt,zt,rfl,rfl⟩
 clear h0 h1 h2 h9 h10 g m1 m2 m3 w1 w2;rintro m ⟨tm,df,H⟩ ⟨j,key,P,L,U,G2,rfl,hj,hkey,hP,hPb,hL,hLb,hU,h1,h2,h9,h10,h12,h13,h14,h15,h16,rfl,rfl⟩;dsimp only at h1 h2 h9 h10 h12 h13 h14 h15 h16;(try refine zBp ?_);refine za (zAV (zr2 h1 h16) ?_);refine zwh ?_ ?_
 ·intro hlt;have hlt:j<zbC.length:=by have:=of_decide_eq_true hlt;omega
  obtain⟨b,hb⟩:∃b,zbC[j]?=some b:=⟨_,zAB9 hlt⟩
  have hbv:(zdw zbC)[j]?=some (.int .u8 (b:Int)):=by rw[zAH9,hb];rfl
  have r1:((b:Int)).tmod 9=((b%9:Nat):Int):=by rw[IntWalk.rem_in _ _ (by omega)];omega
  have r2:IntKind.u64.wrap ((b%9:Nat):Int)=((b%9:Nat):Int):=zwu;have r3:(key:Int)+1=((key+1:Nat):Int):=by omega
  have r4:((key+1:Nat):Int)+((b%9:Nat):Int)=((key+1+b%9:Nat):Int):=by omega
  have r5:(1000:Int)+(j:Nat)=((1000+j:Nat):Int):=by omega
  have r6:IntKind.u64.wrap ((1000+j:Nat):Int)=((1000+j:Nat):Int):=zwu;have hk2:key+1+b%9<=10*(j+1):=by omega
  (repeat refine za ?_);refine zB ?_;(repeat refine za ?_);refine zAV (zr9 h1 h15 h16 hbv hlt r1 r2 r3 r4) ?_;(repeat refine za ?_);refine zgo ?_ (by simp(disch:=omega)only[go_sem,h16,r5,r6,ga0,ga1,ga2,sa0,sa1,sa2,gc0,gc1,gc2,sc0,zAG9,zAD9]<;>rfl);generalize key+1+b%9=key2 at *
  refine zcI (fun tm=>tm 1=.list q1 1 (zdw zbC)/\tm 2=.list q2 2 (wdV bent)/\tm 9=.sl 0 0 0 (64*N) (2*(64*N)) 1/\tm 10=.list 0 1 (V.map iv)/\tm 12=.sl (G.length+1+1) P.length 0 P.length (2*P.length) 2/\tm 13=.sl (G.length+1+1+1) L.length 0 L.length (2*L.length) 2/\tm 14=.sl (G.length+1+1+1+1) L.length 0 L.length (2*L.length) 1/\tm 15=uv key2/\tm 16=iv j/\tm 17=.ptr (G.length+(G2.length+1+1+1)+1+1) 0 0 0 2) ⟨zu h1,zu h2,zu h9,zu h10,zu h12,zu h13,zu h14,zt,zu h16,by simp[upd]⟩ ?_;clear h1 h2 h9 h10 h12 h13 h14 h15 h16;rintro tm ⟨h1,h2,h9,h10,h12,h13,h14,h15,h16,h17⟩;have hbb:(P.length+1)*17<=140737488355328:=by omega
  (repeat refine za ?_);refine zAV (zr4 h1 h16 hbv hlt) ?_;refine zbD (Q:=fun yy s'=>yy=.norm/\∃(P:List Pr) (G3:List zn),P.length<=j+1/\PB P/\s'.tm 1=.list q1 1 (zdw zbC)/\s'.tm 2=.list q2 2 (wdV bent)/\s'.tm 9=.sl 0 0 0 (64*N) (2*(64*N)) 1/\s'.tm 10=.list 0 1 (V.map iv)/\s'.tm 12=.sl (G.length+1+1) P.length 0 P.length (2*P.length) 2/\s'.tm 13=.sl (G.length+1+1+1) L.length 0 L.length (2*L.length) 2/\s'.tm 14=.sl (G.length+1+1+1+1) L.length 0 L.length (2*L.length) 1/\s'.tm 15=uv key2/\s'.tm 16=iv j/\s'.tm 17=.ptr (G.length+(G2.length+1+1+1)+1+1) 0 0 0 2/\s'.df=[]/\s'.H=.row 24 1 0 0 (List.replicate (64*N) (uv 0))::.void::(G++.row 66 2 P.length 0 (P.map pv)::.row 66 2 L.length 0 (L.map pv)::.row 4 1 L.length 0 (U.map PV.bool)::(G2++.row 66 2 0 0 [pv (key2,1000+j)]::G3))) ?_ ?_
  ·refine zfc ?_ ?_
   ·intro _;(repeat refine za ?_);refine zrg ?_ (by simp(disch:=omega)only[go_sem,h12,h17,hbb,ga0,ga1,ga2,sa0,sa1,sa2,gc0,gc1,gc2,sc0,zAG9,zAD9]<;>rfl);refine zr ?_;refine⟨rfl,P++[(key2,1000+j)],?G3,by simp;omega,hPb.snoc (by omega) (by omega),zu h1,zu h2,zu h9,zu h10,zt,zu h13,zu h14,zu h15,zu h16,zu h17,rfl,?H3⟩
    case H3=>(try dsimp only);rw[zBJ9,zAD9];rfl
   ·intro _;refine zBl ?_;exact⟨rfl,P,[],by omega,hPb,zu h1,zu h2,zu h9,zu h10,zu h12,zu h13,zu h14,zu h15,zu h16,zu h17,rfl,rfl⟩
  clear h1 h2 h9 h10 h12 h13 h14 h15 h16 h17 hP hPb hbb;clear P;rintro yy ⟨tm,df,H⟩ ⟨rfl,P,G3,hP,hPb,h1,h2,h9,h10,h12,h13,h14,h15,h16,h17,rfl,rfl⟩;dsimp only at h1 h2 h9 h10 h12 h13 h14 h15 h16 h17;(repeat refine za ?_);refine zbD (Q:=fun yy s'=>yy=.norm/\(∃c,s'.tm 91=.bool c)/\s'.tm 1=.list q1 1 (zdw zbC)/\s'.tm 2=.list q2 2 (wdV bent)/\s'.tm 9=.sl 0 0 0 (64*N) (2*(64*N)) 1/\s'.tm 10=.list 0 1 (V.map iv)/\s'.tm 12=.sl (G.length+1+1) P.length 0 P.length (2*P.length) 2/\s'.tm 13=.sl (G.length+1+1+1) L.length 0 L.length (2*L.length) 2/\s'.tm 14=.sl (G.length+1+1+1+1) L.length 0 L.length (2*L.length) 1/\s'.tm 15=uv key2/\s'.tm 16=iv j/\s'.tm 17=.ptr (G.length+(G2.length+1+1+1)+1+1) 0 0 0 2/\s'.df=[]/\s'.H=.row 24 1 0 0 (List.replicate (64*N) (uv 0))::.void::(G++.row 66 2 P.length 0 (P.map pv)::.row 66 2 L.length 0 (L.map pv)::.row 4 1 L.length 0 (U.map PV.bool)::(G2++.row 66 2 0 0 [pv (key2,1000+j)]::G3))) (zAU ?_) ?_
  ·by_cases hc:128<=b
   ·have g1:(128:Int)<=b:=by omega
    refine zKF (zr6 h1 h13 h16 hbv hlt g1) ?_;exact⟨rfl,⟨_,by simp[upd]<;>rfl⟩,zu h1,zu h2,zu h9,zu h10,zu h12,zu h13,zu h14,zu h15,zu h16,zu h17,rfl,rfl⟩
   ·have g1:¬(128:Int)<=b:=by omega
    refine zKF (zr6 h1 h13 h16 hbv hlt g1) ?_;exact⟨rfl,⟨_,by simp[upd]<;>rfl⟩,zu h1,zu h2,zu h9,zu h10,zu h12,zu h13,zu h14,zu h15,zu h16,zu h17,rfl,rfl⟩
  clear h1 h2 h9 h10 h12 h13 h14 h15 h16 h17;rintro yy ⟨tm,df,H⟩ ⟨rfl,⟨c,h91⟩,h1,h2,h9,h10,h12,h13,h14,h15,h16,h17,rfl,rfl⟩;dsimp only at h1 h2 h9 h10 h12 h13 h14 h15 h16 h17 h91;have hbb:(L.length+1)*17<=140737488355328:=by omega
  have hbc:(L.length+1)*2<=140737488355328:=by omega
  refine zbD (Q:=fun yy s'=>yy=.norm/\∃(L:List Pr) (U:List Bool) (G3:List zn),L.length<=j+1/\PB L/\U.length=L.length/\s'.tm 1=.list q1 1 (zdw zbC)/\s'.tm 2=.list q2 2 (wdV bent)/\s'.tm 9=.sl 0 0 0 (64*N) (2*(64*N)) 1/\s'.tm 10=.list 0 1 (V.map iv)/\s'.tm 12=.sl (G.length+1+1) P.length 0 P.length (2*P.length) 2/\s'.tm 13=.sl (G.length+1+1+1) L.length 0 L.length (2*L.length) 2/\s'.tm 14=.sl (G.length+1+1+1+1) L.length 0 L.length (2*L.length) 1/\s'.tm 15=uv key2/\s'.tm 16=iv j/\s'.df=[]/\s'.H=.row 24 1 0 0 (List.replicate (64*N) (uv 0))::.void::(G++.row 66 2 P.length 0 (P.map pv)::.row 66 2 L.length 0 (L.map pv)::.row 4 1 L.length 0 (U.map PV.bool)::(G2++G3))) ?_ ?_
  ·refine zfc ?_ ?_ (by simp only[go_sem,h91]<;>rfl)
   ·intro _;(repeat refine za ?_);refine zad ?_;refine zda ?_ (by simp(disch:=omega)only[go_sem,h1,h13,h14,h16,h17,hbv,hlt,hbb,hbc,hU,ga0,ga1,ga2,sa0,sa1,sa2,gc0,gc1,gc2,sc0,gd0,gd1,znZ,zow,zoC,zoG,zbI,zbL,zbJ,zbK,zAG9,zAD9]<;>rfl) (by first|exact trivial|simp only[go_sem,h1,h13,h14,h16,h17,hbv,hlt,hbb,hbc,hU,ga0,ga1,ga2,sa0,sa1,sa2,gc0,gc1,gc2,sc0,gd0,gd1,znZ,zow,zoC,zoG,zbI,zbL,zbJ,zbK,zAG9,zAD9]);refine zda ?_ (by simp(disch:=omega)only[go_sem,h1,h13,h14,h16,h17,hbv,hlt,hbb,hbc,hU,ga0,ga1,ga2,sa0,sa1,sa2,gc0,gc1,gc2,sc0,gd0,gd1,znZ,zow,zoC,zoG,zbI,zbL,zbJ,zbK,zAG9,zAD9]<;>rfl) (by first|exact trivial|simp only[go_sem,h1,h13,h14,h16,h17,hbv,hlt,hbb,hbc,hU,ga0,ga1,ga2,sa0,sa1,sa2,gc0,gc1,gc2,sc0,gd0,gd1,znZ,zow,zoC,zoG,zbI,zbL,zbJ,zbK,zAG9,zAD9]);refine zdl ?_ (by simp(disch:=omega)only[go_sem,h13,ga0,ga1,ga2,sa0,sa1,sa2,gc0,gc1,gc2,sc0,gd0,gd1,znZ,zow,zoC,zoG,zbI,zbL,zbJ,zbK,zAG9,zAD9]<;>rfl) (by first|exact trivial|simp only[go_sem,h13,ga0,ga1,ga2,sa0,sa1,sa2,gc0,gc1,gc2,sc0,gd0,gd1,znZ,zow,zoC,zoG,zbI,zbL,zbJ,zbK,zAG9,zAD9]);refine zL ?_;simp only[go_sem];refine⟨L++[(key2,1000+j)],U++[decide (192<=(b:Int))],?G6,by simp;omega,hLb.snoc (by omega) (by omega),by simp[hU],h1,h2,h9,h10,h12,by simp,by simp,h15,h16,?H6⟩
    case H6 =>
     simp only[zAD9,zAE9,zAF9,zAR9,zBJ9,zCC9,zCD9];rfl
   ·intro _;refine zBl ?_;exact⟨rfl,L,U,_,by omega,hLb,hU,h1,h2,h9,h10,h12,h13,h14,h15,h16,rfl,rfl⟩
  clear h1 h2 h9 h10 h12 h13 h14 h15 h16 h17 h91 hL hLb hU hbb hbc;clear L U;rintro yy ⟨tm,df,H⟩ ⟨rfl,L,U,G4,hL,hLb,hU,h1,h2,h9,h10,h12,h13,h14,h15,h16,rfl,rfl⟩;dsimp only at h1 h2 h9 h10 h12 h13 h14 h15 h16;refine zJF h16 ?_;refine⟨_,?m5,j+1,key2,P,L,U,?G5,rfl,hlt,hk2,hP,hPb,hL,hLb,hU,zu h1,zu h2,zu h9,zu h10,zu h12,zu h13,zu h14,zu h15,zu h16,zt,?H5⟩
  case m5=>omega
  case H5=>rfl
 intro hlt;have hlt:¬j<zbC.length:=by have:=of_decide_eq_false hlt;omega
 refine zcI (fun tm=>tm 2=.list q2 2 (wdV bent)/\tm 9=.sl 0 0 0 (64*N) (2*(64*N)) 1/\tm 10=.list 0 1 (V.map iv)/\tm 12=.sl (G.length+1+1) P.length 0 P.length (2*P.length) 2/\tm 13=.sl (G.length+1+1+1) L.length 0 L.length (2*L.length) 2/\tm 14=.sl (G.length+1+1+1+1) L.length 0 L.length (2*L.length) 1) ⟨zu h2,zu h9,zu h10,zu h12,zu h13,zu h14⟩ ?_;clear h1 h2 h9 h10 h12 h13 h14 h15 h16;rintro tm ⟨h2,h9,h10,h12,h13,h14⟩;have hPl:P.length<=400:=by omega
 have hLl:L.length<=400:=by omega
 refine zf5 12 (G.length+1+1) (w:=psv 0 P) (o:=.row 66 2 P.length 0 (P.map pv)) (by simp only[zAY9,ga0]) (by
  dsimp only;rw[h12];exact Frz.whole (l:=P.map pv) (zgw (by simp only[zAY9,ga0]<;>rfl)) rfl (by simp) (by simp) (fun v hv=>by obtain⟨x,_,rfl⟩:=zAM9.1 hv;rfl) zeF) ?_
 simp only[zCI9,sa0];refine zf5 13 (G.length+1+1+1) (w:=psv 0 L) (o:=.row 66 2 L.length 0 (L.map pv)) (by simp only[zAY9,ga1]) (by
  have h13':upd tm 12 (psv 0 P) 13=.sl (G.length+1+1+1) L.length 0 L.length (2*L.length) 2:=by simp[upd,h13]
  dsimp only;rw[h13'];exact Frz.whole (l:=L.map pv) (zgw (by simp only[zAY9,ga1]<;>rfl)) rfl (by simp) (by simp) (fun v hv=>by obtain⟨x,_,rfl⟩:=zAM9.1 hv;rfl) zeF) ?_
 simp only[zCI9,sa1];refine zf5 14 (G.length+1+1+1+1) (w:=.list 0 1 (U.map PV.bool)) (o:=.row 4 1 L.length 0 (U.map PV.bool)) (by simp only[zAY9,ga2]) (by
  have h14':upd (upd tm 12 (psv 0 P)) 13 (psv 0 L) 14=.sl (G.length+1+1+1+1) L.length 0 L.length (2*L.length) 1:=by simp[upd,h14]
  dsimp only;rw[h14'];exact Frz.whole (l:=U.map PV.bool) (zgw (by simp only[zAY9,ga2]<;>rfl)) rfl (by simp[hU]) (by simp[hU]) (fun v hv=>by obtain⟨x,_,rfl⟩:=zAM9.1 hv;rfl) zy1) ?_
 simp only[zCI9,sa2];refine zcI (fun tm=>tm 2=.list q2 2 (wdV bent)/\tm 9=.sl 0 0 0 (64*N) (2*(64*N)) 1/\tm 10=.list 0 1 (V.map iv)/\tm 12=psv 0 P/\tm 13=psv 0 L/\tm 14=.list 0 1 (U.map PV.bool)) ⟨zu h2,zu h9,zu h10,zt,zt,by simp[upd]⟩ ?_;clear h2 h9 h10 h12 h13 h14;rintro tm ⟨h2,h9,h10,h12,h13,h14⟩;obtain⟨w0,hw0,hw0l,hw0b⟩:∃w:List Nat,List.replicate (64*N) (uv 0)=w.map uv/\w.length=64*N/\WB w:=⟨List.replicate (64*N) 0,by rw[List.map_replicate],by simp,fun x hx=>by rw[zFN9 hx];exact zCQ9 _⟩
 rw[hw0];generalize hHH:(.row 24 1 0 0 (w0.map uv)::.void::(G++.void::.void::.void::G2):List zn)=H;have hr0:H[0]?=some (.row 24 1 0 0 (w0.map uv)):=by rw[<- hHH];rfl
 clear hHH;have hB:=zpP 0 0 P V (by omega) (by omega);obtain⟨root,used,no',puts,hE,hpl,hused,hroot,hpb⟩:=zvN P V (by omega);rw[hE]at hB;refine zIF (zr2 h10 h12) ?_;refine zca hB ?_;refine zN ?_
 by_cases hno:no'=0
 rotate_left
 ·have g1:¬(no':Int)=0:=by omega
  refine zSF g1 ?_;refine zG ?_;refine zy ?_;exact no _ _ (by simp[upd]) (by simp[upd]) (by simp[upd])
 have g1:(no':Int)=0:=by omega
 refine zTF g1 ?_;refine zBl ?_;show W _ _ _ _ _ _;have hap:=zly 0 H 0 0 (2*w0.length) 0 w0 puts (by omega) ⟨by omega,by omega⟩ (zAJ9 _) hr0;rw[<- hw0l]at h9;refine zIF h9 ?_;refine zco hap ?_ (by first|rfl|(simp only[go_sem,h9]<;>rfl)) (by simp only[go_sem,h9]<;>rfl);rintro e H1 ⟨hst,id,g,M,rfl,hM,hr⟩;refine zN ?_;have hal:=zcZ puts w0;have hw1b:=zkw hw0b (hpb hPb);generalize zax w0 puts=w1' at *
 have r5:5<w1'.length:=by omega
 have r6:IntKind.u64.wrap (root:Int)=(root:Int):=zwu;obtain⟨o5,ho5⟩:∃o,w1'[5]?=some o:=⟨_,zAB9 r5⟩
 have z5:(w1'.map uv)[5]?=some (uv o5):=by rw[zAH9,ho5];rfl
 have y5:(w1'.map uv).set 5 (.int .u64 (root:Int))=(w1'.set 5 root).map uv:=zDU9.symm;have r7:5<w0.length:=by omega
 (repeat refine za ?_);refine zAV (zr7 hr hM r5 r6 r7 z5 y5) ?_;refine zG ?_;have hr2:(H1.set id (.row 24 1 g g ((w1'.set 5 root).map uv)))[id]?=some (.row 24 1 g g ((w1'.set 5 root).map uv)):=zBD9 (zAC9.1 hr).1;have hw2:(w1'.set 5 root).length=64*N:=by simp;omega
 have hw20:w0.length=(w1'.set 5 root).length:=by omega
 rw[hw20];clear hr z5 y5 ho5 r5 r6 r7 hal hap hr0 hst hB hE hw0 hw0l h9 hw20;refine zB (zar (fun m s=>∃(i id g M used:Nat) (w:List Nat),m=L.length-i/\i<=L.length/\w.length=64*N/\WB w/\M<=g/\used<=V.length/\s.tm 2=.list q2 2 (wdV bent)/\s.tm 9=.sl id g 0 w.length (2*w.length) 1/\s.tm 10=.list 0 1 (V.map iv)/\s.tm 13=psv 0 L/\s.tm 14=.list 0 1 (U.map PV.bool)/\s.tm 20=iv used/\s.tm 22=iv i/\s.df=[]/\s.H[id]?=some (.row 24 1 g M (w.map uv))) (n:=L.length) ?_ ?_)
 ·exact⟨0,id,g,g,used,_,rfl,zAS9 _,hw2,hw1b.set (by omega) _,zAJ9 _,hused,zu h2,zt,zu h10,zu h13,zu h14,zt,zt,rfl,hr2⟩
 clear hr2 hw2 hM h2 h10 h12 h13 h14 hused hpl hpb hw0b hw1b;clear puts w0 w1';rintro m ⟨tm,df,H⟩ ⟨i,id,g,M,used,w,rfl,hi,hwl,hwb,hM,hused,h2,h9,h10,h13,h14,h20,h22,rfl,hr⟩;dsimp only at h2 h9 h10 h13 h14 h20 h22 hr;(try refine zBp ?_);refine za (zAV (zr2 h13 h22) ?_);refine zwh ?_ ?_
 ·intro hlt;have hlt:i<L.length:=by have:=of_decide_eq_true hlt;omega
  obtain⟨pr,hpr⟩:∃pr,L[i]?=some pr:=⟨_,zAB9 hlt⟩
  have hprv:(L.map pv)[i]?=some (pv pr):=by rw[zAH9,hpr];rfl
  obtain⟨u,hu⟩:∃u,U[i]?=some u:=⟨_,zAB9 (by omega)⟩
  have huv:(U.map PV.bool)[i]?=some (.bool u):=by rw[zAH9,hu];rfl
  have hiu:i<U.length:=by omega
  have fz:Frz H 1 (.sl id g 0 w.length (2*w.length) 1) (wv 1 w):=Frz.wholeM hr hM rfl (by simp) (by simp) (fun v hv=>by obtain⟨x,_,rfl⟩:=zAM9.1 hv;rfl) zhl;have hdv:List.drop used (V.map iv)=(V.drop used).map iv:=by rw[zCM9]
  have hdl:(V.drop used).length=V.length-used:=zBT9;(repeat refine za ?_);refine zB ?_;refine zGF (zr4 h14 h22 huv hiu) ?_;(repeat refine za ?_);refine zbD (Q:=fun yy s'=>yy=.norm/\∃(PL:List Pr) (n:Nat),PL.length<=900000/\BB PL/\used+n<=V.length/\s'.tm 2=.list q2 2 (wdV bent)/\s'.tm 9=.sl id g 0 w.length (2*w.length) 1/\s'.tm 10=.list 0 1 (V.map iv)/\s'.tm 13=psv 0 L/\s'.tm 14=.list 0 1 (U.map PV.bool)/\s'.tm 20=iv used/\s'.tm 22=iv i/\s'.tm 19=.list 0 2 (PL.map zBo)/\s'.tm 23=iv n/\s'.df=[]/\s'.H=H) ?_ ?_
  ·cases u with
   | true =>
    obtain⟨R,hR,hR1,hR2,hR3⟩:=zxJ 1 0 w 5 pr (V.drop used) (by unfold za7;omega) (by omega);unfold zkT at hR;refine zct ?_;(repeat refine za ?_);refine zad ?_;refine zdi hR ?_ ?_ (by simp(disch:=omega)only[go_sem,h9,h10,h13,h20,h22,hprv,hlt,hdv,hused]<;>rfl);(repeat(first|exact trivial|refine And.intro ?_ ?_|exact .int _ _|exact .bool _|exact .list _ _ _|exact .elem _|exact .nilsl|exact .nil _ _|exact .str _|refine Frz.aggL ?_|refine Frz.fnL ?_|refine Frz.tupL ?_|refine .iface ?_|exact zbF rfl rfl (by assumption)));(exact fz;exact⟨.int _ _,Frz.aggL ⟨.int _ _,.int _ _,trivial⟩,.list _ _ _,trivial⟩);refine zQF h10 ?_;exact⟨R.1,R.2.1,hR2,hR3 hwb (hLb pr (zAO9 hpr)),by omega,h2,h9,h10,h13,h14,h20,h22,rfl,rfl⟩
   | false =>
    obtain⟨PL,no'',hT,hTl,hTb⟩:=zvd 1 0 5 pr.1 w (by omega) (by decide);unfold zdq at hT;refine zcf ?_;refine zIF (zr5 h9 h13 h22 hprv hlt) ?_;refine zcl hT ?_ ?_;(repeat(first|exact trivial|refine And.intro ?_ ?_|exact .int _ _|exact .bool _|exact .list _ _ _|exact .elem _|exact .nilsl|exact .nil _ _|exact .str _|refine Frz.aggL ?_|refine Frz.fnL ?_|refine Frz.tupL ?_|refine .iface ?_|exact zbF rfl rfl (by assumption)))
    ·exact fz
    ·(repeat(first|exact trivial|refine And.intro ?_ ?_|exact .int _ _|exact .bool _|exact .list _ _ _|exact .elem _|exact .nilsl|exact .nil _ _|exact .str _|refine Frz.aggL ?_|refine Frz.fnL ?_|refine Frz.tupL ?_|refine .iface ?_|exact zbF rfl rfl (by assumption)))
    refine zK ?_;refine⟨rfl,PL,0,hTl,hTb hwb,by omega,zu h2,zu h9,zu h10,zu h13,zu h14,zu h20,zu h22,zt,zt,rfl,rfl⟩
  clear h2 h9 h10 h13 h14 h20 h22;rintro yy ⟨tm,df,H⟩ ⟨rfl,PL,n,hPLl,hPLb,hun,h2,h9,h10,h13,h14,h20,h22,h19,h23,rfl,rfl⟩;dsimp only at h2 h9 h10 h13 h14 h20 h22 h19 h23;have hap:=zly 0 H id g (2*w.length) M w PL (by omega) ⟨by omega,by omega⟩ hM hr;have wu:(used:Int)+(n:Nat)=((used+n:Nat):Int):=by omega
  refine zIF (zr2 h9 h19) ?_;refine zco hap ?_ (by first|rfl|(simp only[go_sem,h9]<;>rfl)) (by simp only[go_sem,h9]<;>rfl);rintro e H1 ⟨hst,id2,g2,M2,rfl,hM2,hr2⟩;refine zKF (zr3 h20 h23 wu) ?_;refine zJF h22 ?_;have hal:=zcZ PL w;refine⟨_,?m7,i+1,id2,g2,M2,used+n,zax w PL,rfl,hlt,by rw[hal];exact hwl,zkw hwb hPLb,hM2,hun,zu h2,by simp[upd,hal],zu h10,zu h13,zu h14,zt,zu h22,zt,hr2⟩
  case m7=>omega
 intro hlt;refine zG ?_;refine zB (zar (fun m s=>∃(k id g M:Nat) (w:List Nat),m=bent.length-k/\k<=bent.length/\w.length=64*N/\WB w/\M<=g/\s.tm 2=.list q2 2 (wdV bent)/\s.tm 9=.sl id g 0 w.length (2*w.length) 1/\s.tm 10=.list 0 1 (V.map iv)/\s.tm 20=iv used/\s.tm 24=iv k/\s.df=[]/\s.H[id]?=some (.row 24 1 g M (w.map uv))) (n:=bent.length) ?_ ?_)
 ·exact⟨0,id,g,M,w,rfl,zAS9 _,hwl,hwb,hM,zu h2,zu h9,zu h10,zu h20,zt,rfl,hr⟩
 clear h2 h9 h10 h13 h14 h20 h22 hr hM hwl hwb;clear w;rintro m ⟨tm,df,H⟩ ⟨k,id,g,M,w,rfl,hk,hwl,hwb,hM,h2,h9,h10,h20,h24,rfl,hr⟩;dsimp only at h2 h9 h10 h20 h24 hr;(try refine zBp ?_);refine za (zAV (zr2 h2 h24) ?_);refine zwh ?_ ?_
 ·intro hltk;have hltk:k<bent.length:=by have:=of_decide_eq_true hltk;omega
  obtain⟨x,hx⟩:∃x,bent[k]?=some x:=⟨_,zAB9 hltk⟩
  have hxv:(wdV bent)[k]?=some (.agg [iv x.1,uv x.2]):=by rw[zAH9,hx];rfl
  (repeat refine za ?_);refine zB ?_
  by_cases hin:0<=x.1/\x.1<(w.length:Nat)
  ·obtain⟨a,ha⟩:∃a:Nat,x.1=a:=⟨x.1.toNat,by omega⟩
   have g1:(0:Int)<=(a:Nat):=by omega
   have g2:((a:Nat):Int)<(w.length:Nat):=by omega
   have g3:a<w.length:=by omega
   rw[ha]at hxv;obtain⟨o,ho⟩:∃o,w[a]?=some o:=⟨_,zAB9 g3⟩
   have z1:(w.map uv)[a]?=some (uv o):=by rw[zAH9,ho];rfl
   have y1:(w.map uv).set a (.int .u64 (x.2:Int))=(w.set a x.2).map uv:=zDU9.symm;refine zSF (zr9 h2 h9 h24 hxv hltk hr hM g1 g2) ?_;(repeat refine za ?_);refine zad ?_;refine zA0 (zBa h2 h9 h24 hxv hltk hr hM g1 g2 g3 z1 y1) ?_;refine zQF h9 ?_;refine zJF h24 ?_;refine⟨_,?m8,k+1,id,g,g,w.set a x.2,rfl,hltk,by simpa using hwl,hwb.set (hbw x (zAO9 hx)) _,zAJ9 _,zu h2,zu h9,zu h10,zu h20,zu h24,zt,?hr8⟩
   case m8=>omega
   case hr8=>exact zBD9 (zAC9.1 hr).1
  ·by_cases h0:(0:Int)<=x.1
   ·have g2:¬x.1<(w.length:Nat):=fun h=>hin ⟨h0,h⟩;refine zTF (zr9 h2 h9 h24 hxv hltk hr hM h0 g2) ?_;refine zBl ?_;refine zJF h24 ?_;refine⟨_,?m9,k+1,id,g,M,w,rfl,hltk,hwl,hwb,hM,zu h2,zu h9,zu h10,zu h20,zu h24,zt,hr⟩
    case m9=>omega
   ·refine zTF (zr8 h2 h9 h24 hxv hltk hr hM h0) ?_;refine zBl ?_;refine zJF h24 ?_;refine⟨_,?m9,k+1,id,g,M,w,rfl,hltk,hwl,hwb,hM,zu h2,zu h9,zu h10,zu h20,zu h24,zt,hr⟩
    case m9=>omega
 intro hltk;have hdv:List.drop used (V.map iv)=(V.drop used).map iv:=by rw[zCM9]
 (repeat refine za ?_);refine zad ?_;refine zQF (zr5 h9 h10 h20 hdv hused) ?_;refine zy ?_;refine zj (vs:=[.sl id g 0 w.length (2*w.length) 1,.list 0 1 ((V.drop used).map iv),.bool true]) ?_ ?_
 ·simp[T8,xT,zE,okv,upd,h9]
 ·refine⟨_,⟨w,V.drop used,true,rfl,fun _=>⟨by omega,by omega,by omega,by simp;omega,hwb⟩⟩,Frz.tupL ⟨?_,.list _ _ _,.bool _,trivial⟩⟩;exact Frz.wholeM hr hM rfl (by simp) (by simp) (fun v hv=>by obtain⟨x,_,rfl⟩:=zAM9.1 hv;rfl) zhl
theorem f18:ET.funcs.get 18=some T18:=zH Tryz.func18

theorem f14:ET.funcs.get 14=some T14:=zH Tryz.func14
theorem zsu (p q:Nat)(a b:List Int)(ha:za7 a.length)(hb:za7 b.length):FN ET 14 [.list p 1 (a.map iv),.list q 1 (b.map iv)] (.ret (.bool (decide (a=b)))):=by
 refine zfn f14 (.bool _) ?_;refine zG ?_
 by_cases hl:a.length=b.length
 rotate_left
 ·have g:¬(a.length:Int)=b.length:=by omega
  have hne:¬a=b:=fun h=>hl (by rw[h]);(repeat refine za ?_);refine zfc ?_ ?_
  ·intro _;refine zO ?_;exact za0.bool (decide_eq_false hne).symm
  ·intro h;simp[g]at h
 have g:(a.length:Int)=b.length:=by omega
 (repeat refine za ?_);refine zfc ?_ ?_
 ·intro h;simp[g]at h
 intro _;refine zBl ?_;show W _ _ _ _ _ _;refine zG ?_;refine zB (zar (fun m s=>∃i:Nat,m=a.length-i/\i<=a.length/\decide (a=b)=decide (a.drop i=b.drop i)/\s.tm 0=.list p 1 (a.map iv)/\s.tm 1=.list q 1 (b.map iv)/\s.tm 5=iv i/\s.df=[]/\s.H=[]) (n:=a.length) ?_ ?_)
 ·exact⟨0,by simp[upd,zq]⟩
 ·rintro m ⟨tm,df,H⟩ ⟨i,rfl,hi,hd,h0,h1,h5,rfl,rfl⟩;dsimp only at h0 h1 h5;(try refine zBp ?_);refine za (zAV (zr3 h0 h1 h5) ?_);refine zwh ?_ ?_
  ·intro hlt;have hlt:i<a.length:=by have:=of_decide_eq_true hlt;omega
   have hltb:i<b.length:=by omega
   have hda:a.drop i=a[i]::a.drop (i+1):=zAW9 hlt;have hdb:b.drop i=b[i]::b.drop (i+1):=zAW9 hltb;have hav:(a.map iv)[i]?=some (iv a[i]):=by rw[zAH9,zAB9 hlt];rfl
   have hbv:(b.map iv)[i]?=some (iv b[i]):=by rw[zAH9,zAB9 hltb];rfl
   rw[hda,hdb]at hd;generalize a[i]=x at *
   generalize b[i]=y at *
   (repeat refine za ?_);refine zB ?_;(repeat refine za ?_);refine zad ?_
   by_cases hx:x=y
   ·have g2:(x:Int)=(y:Int):=by rw[hx]
    refine zQF (zr8 h0 h1 h5 hav hbv hlt hltb g2) ?_;refine zfc ?_ ?_
    ·intro h;simp at h
    ·intro _;refine zBl ?_;refine zJF h5 ?_;refine⟨_,?m,i+1,rfl,hlt,?_,zu h0,zu h1,zu h5,zt,zt⟩
     case m=>omega
     rw[hd];simp only[hx,List.cons.injEq,true_and]
   ·have g2:¬(x:Int)=(y:Int):=by omega
    refine zQF (zr8 h0 h1 h5 hav hbv hlt hltb g2) ?_;refine zfc ?_ ?_
    ·intro _;refine zO ?_;exact za0.bool (by rw[hd];simp only[List.cons.injEq,hx,false_and,decide_false])
    ·intro h;simp at h
  ·intro hlt;have hlt:¬i<a.length:=by have:=of_decide_eq_false hlt;omega
   obtain rfl:i=a.length:=by omega
   refine zO ?_;refine za0.bool ?_;rw[hd,zBM9,hl,zBM9];rfl
def ixB:Nat->List Nat->Int->Int
 | _,[],_=>-1
 | i,b::l,n=>if(b:Int)=n then i else ixB (i+1) l n
theorem f19:ET.funcs.get 19=some T19:=zH Tryz.func19
def lvB (T:List Lev)(b:Nat):List Nat:=(T.filter fun L=>L.1.contains b).map fun _=>b
def zdD (T:List Lev)(n:Nat):List Nat:=(List.range n).flatMap (lvB T)
def zdB (w:List Nat)(a:Int):FE:=if zbO w.length a=true then if(zac w a.toNat).2=true then .ret (.tuple [.list 0 1 (bfl (zdD (zac w a.toNat).1 (w.length/64))),iv 0])else .ret (.tuple [.list 0 1 (bfl []),iv 220])else .ret (.tuple [.list 0 1 (bfl []),iv 2])
theorem ztQ (T:List Lev)(b:Nat):(lvB T b).length<=T.length:=by unfold lvB;rw[zAA9];exact zGC9 ..
theorem zmq (T:List Lev):∀n,(zdD T n).length<=n*T.length
 | 0=>by simp[zdD]
 | n+1=>by
  have:=zmq T n;have h2:=ztQ T n;unfold zdD at this⊢;rw[zDG9,zCN9,zAD9,zDD9];simp only[zBS9,List.flatMap_nil,zDO9];omega
theorem zvO (l:List Nat):Lb (.list 0 1 (bfl l)):=by
 refine Lb.list fun v hv=>?_;obtain⟨y,hy,hv⟩:=zBB9.1 hv;obtain⟨x,_,rfl⟩:=zAM9.1 hy;simp[PV.cells]at hv;subst hv;exact .int _ _
theorem zmx (w:List Nat)(a:Int):LbE (zdB w a):=by
 unfold zdB
 split
 ·split<;>exact Lb.two (zvO _) (.int _ _)
 ·exact Lb.two (zvO _) (.int _ _)
theorem zxg (l:List Nat):∀v∈(bfl l).flatMap PV.cells,Id0 v:=fun v hv=>by
 obtain⟨y,hy,hv⟩:=zBB9.1 hv;obtain⟨x,_,rfl⟩:=zAM9.1 hy;simp[PV.cells]at hv;subst hv;exact .int _ _
theorem zqs (p:Nat)(w:List Nat)(a:Int)(hs:za7 w.length):FN ET 19 [wv p w,iv a] (zdB w a):=by
 have hr:=zjg p w a hs;have hlb:=zmx w a;unfold zdB at hlb⊢
 by_cases h:zbO w.length a=true
 rotate_left
 ·rw[if_neg h]at hlb⊢;rw[show zbO w.length a=false by simpa using h]at hr;refine zfn f19 hlb ?_;refine zG ?_;refine zI ?_;refine zca hr ?_;refine zN ?_;refine zU ?_;exact Frz.tupL ⟨.nil _ _,.int _ _,trivial⟩
 rw[if_pos h]at hlb⊢;have hb:=(zdR _ _).1 h;rw[h]at hr;obtain⟨n,rfl⟩:∃n:Nat,a=n:=⟨a.toNat,by omega⟩
 rw[zCV9]at hlb⊢;have hl:=zfj p w ⟨hb.1,hb.2.2.1⟩ n (by omega);obtain⟨e1,e2⟩:=zeG w n
 by_cases ht:(zac w n).2=true
 rotate_left
 ·rw[if_neg ht]at hlb⊢;rw[e1,show (zac w n).2=false by simpa using ht]at hl;generalize (zbM w n).1=T at hl;refine zfn f19 hlb ?_;refine zG ?_;refine zI ?_;refine zca hr ?_;refine zN ?_;refine zcf ?_;refine zBl ?_;show W _ _ _ _ _ _;refine zI ?_;refine zca hl ?_;refine zN ?_;refine zS ?_;refine zO ?_;exact Frz.tupL ⟨.nil _ _,.int _ _,trivial⟩
 rw[if_pos ht]at hlb⊢;rw[e1,e2 ht,ht]at hl;obtain⟨f1,f2,f3,f4,f5⟩:=zcN (w:=w) (T:=(zac w n).1) (by omega) n (by rw[<- ht]);generalize (zac w n).1=T at *
 refine zfn f19 hlb ?_;refine zG ?_;refine zI ?_;refine zca hr ?_;refine zN ?_;refine zcf ?_;refine zBl ?_;show W _ _ _ _ _ _;refine zI ?_;refine zca hl ?_;refine zN ?_;refine zT ?_;refine zBl ?_;show W _ _ _ _ _ _;refine zG ?_;refine zb2 3 1 (i:=8) rfl ?_;simp only[lzy,zAE9,zAF9,zAI9,zAK9];have hn64:w.length/64<=2048:=by omega
 have hq:(w.length:Int).tdiv 64=((w.length/64:Nat):Int):=by rw[Int.tdiv_eq_ediv_of_nonneg (by omega)];omega
 refine zB (zar (fun m s=>∃(b:Nat) (acc:List Nat) (G:List zn),m=w.length/64-b/\b<=w.length/64/\acc=zdD T b/\s.tm 0=wv p w/\s.tm 6=zbQ T/\s.tm 8=.sl 0 acc.length 0 acc.length (2*acc.length) 1/\s.tm 9=iv b/\s.df=[]/\s.H=.row 3 1 acc.length 0 (bfl acc)::G) (n:=w.length/64) ?_ ?_)
 ·exact⟨0,[],[],rfl,by omega,rfl,zt,zt,zt,zt,rfl,rfl⟩
 rintro m ⟨tm,df,H⟩ ⟨b,acc,G,rfl,hbn,hac,h0,h6,h8,h9,rfl,rfl⟩;dsimp only at h0 h6 h8 h9;(try refine zBp ?_);refine za (zAV (zr3 h0 h9 hq) ?_);refine zwh ?_ ?_;rotate_left
 ·intro hlt;have hlt:¬b<w.length/64:=by have:=of_decide_eq_false hlt;omega
  obtain rfl:b=w.length/64:=by omega
  refine zOF h8 ?_;rw[<- hac];refine Frz.tupL ⟨?_,.int _ _,trivial⟩;exact Frz.whole (l:=bfl acc) rfl rfl (by simp) (by simp) (fun v hv=>by obtain⟨x,_,rfl⟩:=zAM9.1 hv;rfl) (zxg _)
 intro hlt;have hlt:b<w.length/64:=by have:=of_decide_eq_true hlt;omega
 have hb1:zdD T (b+1)=zdD T b++lvB T b:=by
  unfold zdD;rw[zDG9,zCN9];simp
 have hbl:=zmq T b;have hbl2:b*T.length<=2048*14:=Nat.mul_le_mul (by omega) f5;(repeat refine za ?_);refine zB ?_;refine zG ?_;refine zB (zar (fun m s=>∃(i:Nat) (acc2:List Nat) (G:List zn),m=T.length-i/\i<=T.length/\acc2=acc++lvB (T.take i) b/\s.tm 0=wv p w/\s.tm 6=zbQ T/\s.tm 8=.sl 0 acc2.length 0 acc2.length (2*acc2.length) 1/\s.tm 9=iv b/\s.tm 10=iv i/\s.df=[]/\s.H=.row 3 1 acc2.length 0 (bfl acc2)::G) (n:=T.length) ?_ ?_)
 ·exact⟨0,acc,G,rfl,zAS9 _,by simp[lvB],zu h0,zu h6,zu h8,zu h9,zt,rfl,rfl⟩
 clear h0 h6 h8 h9;rintro m ⟨tm,df,H⟩ ⟨i,acc2,G2,rfl,hi,hac2,h0,h6,h8,h9,h10,rfl,rfl⟩;dsimp only at h0 h6 h8 h9 h10;(try refine zBp ?_);refine za (zAV (zr2 h6 h10) ?_);refine zwh ?_ ?_;rotate_left
 ·intro hlt2;have hlt2:¬i<T.length:=by have:=of_decide_eq_false hlt2;omega
  obtain rfl:i=T.length:=by omega
  rw[zBG9]at hac2;refine zJF h9 ?_;refine⟨_,?m1,b+1,acc2,_,rfl,hlt,by rw[hb1,hac2,hac],zu h0,zu h6,zu h8,zu h9,rfl,rfl⟩
  case m1=>omega
 intro hlt2;have hlt2:i<T.length:=by have:=of_decide_eq_true hlt2;omega
 obtain⟨L,hL⟩:∃L,T[i]?=some L:=⟨_,zAB9 hlt2⟩
 have hLv:(T.map fun L=>zby 0 0 L.1 L.2)[i]?=some (zby 0 0 L.1 L.2):=by rw[zAH9,hL];rfl
 have hLF:=f1 L (zAO9 hL);have hfew:=hLF.few;have hbl3:=hLF.lv.len;have hhas:=zod 0 L.1 b (by omega);have hli:=ztQ (T.take i) b;rw[zBA9]at hli;have hal:acc2.length<=40000:=by rw[hac2,zAD9,hac];omega
 have hbb:(acc2.length+1)*9<=140737488355328:=by omega
 have ht1:lvB (T.take (i+1)) b=lvB (T.take i) b++(if L.1.contains b=true then[b]else[]):=by
  unfold lvB;rw[zBE9,hL,zGQ9,List.filter_append,zBJ9,zBR9,List.filter_nil]
  split<;>rfl
 (repeat refine za ?_);refine zB ?_;refine zIF (zr5 h6 h9 h10 hLv hlt2) ?_;refine zca hhas ?_;refine zN ?_
 by_cases hc:L.1.contains b=true
 ·rw[if_pos hc]at ht1;rw[hc];refine zct ?_;refine zJF (zr3 h8 h9 hbb) ?_;refine zJF h10 ?_;refine⟨_,?m2,i+1,acc2++[b],?G3,rfl,hlt2,by rw[hac2,ht1,zAG9],zu h0,zu h6,zt,zu h9,zu h10,zt,?H3⟩
  case m2=>omega
  case H3=>(try dsimp only);rw[show bfl (acc2++[b])=bfl acc2++[iv (b:Int)]from zBJ9,zAD9];rfl
 ·rw[if_neg hc,zDO9]at ht1;rw[show L.1.contains b=false by simpa using hc];refine zcf ?_;refine zBl ?_;show W _ _ _ _ _ _;refine zJF h10 ?_;refine⟨_,?m2,i+1,acc2,_,rfl,hlt2,by rw[hac2,ht1],zu h0,zu h6,zu h8,zu h9,zu h10,rfl,rfl⟩
  case m2=>omega
def zyt (ns:List zC)(key:Nat):Nat->Nat->Nat
 | 0,i=>i
 | k+1,i=>match ns[i+1]? with
  | some x=>if x.low<=key then zyt ns key k (i+1)else i
  | none=>i
def toN (key:Nat):List Pr->Nat->Nat
 | [],t=>t
 | p::l,t=>toN key l (if p.1<=key then p.2 else t)
def zyq (key:Nat):List Pr->Option Nat
 | []=>none
 | p::l=>if p.1=key then some p.2 else zyq key l
def zyF (key:Nat):List Lev->Nat->Option (Option Nat)
 | [],_=>none
 | L::R,i=>match L.2[zyt L.2 key (L.2.length-i) i]? with
  | none=>none
  | some x=>match R with
   | []=>some (zyq key x.pairs)
   | M::_=>if ixB 0 M.1 (toN key x.pairs x.left)<0 then none else zyF key R (ixB 0 M.1 (toN key x.pairs x.left)).toNat
def zAs:Option (Option Nat)->PV
 | none=>.tuple [uv 0,.bool false,iv 220]
 | some none=>.tuple [uv 0,.bool false,iv 0]
 | some (some p)=>.tuple [uv p,.bool true,iv 0]
def zeH (w:List Nat)(a:Int)(key:Nat):FE:=if zbO w.length a=true then if(zac w a.toNat).2=true then .ret (zAs (zyF key (zac w a.toNat).1 0))else .ret (.tuple [uv 0,.bool false,iv 220])else .ret (.tuple [uv 0,.bool false,iv 2])


theorem f17:ET.funcs.get 17=some T17:=zH Tryz.func17
theorem f55:ET.funcs.get 55=some T55:=zH Tryz.func55
theorem zpf (T:List Lev)(n:Nat):zdD T (n+1)=zdD T n++lvB T n:=by
 unfold zdD;rw[zDG9,zCN9];simp
theorem zla {T:List Lev}{b x:Nat}(h:x∈lvB T b):x=b:=by
 obtain⟨_,_,e⟩:=zAM9.1 h;exact e.symm
theorem zyR (T:List Lev)(b a:Nat):(lvB T b).count a=if a=b then(T.filter fun L=>L.1.contains a).length else 0:=by
 unfold lvB;rw[show (fun _:Lev=>b)=Function.const Lev b from rfl,List.map_const,List.count_replicate]
 by_cases h:a=b
 ·subst h;simp
 ·rw[if_neg h,if_neg (by simpa using fun e=>h (Eq.symm e))]
theorem zrd (T:List Lev)(a:Nat):∀n,(zdD T n).count a=if a<n then(T.filter fun L=>L.1.contains a).length else 0
 | 0=>by simp[zdD]
 | n+1=>by
  rw[zpf,List.count_append,zrd T a n,zyR]
  by_cases h:a<n
  ·rw[if_pos h,if_neg (by omega),if_pos (by omega),zDF9]
  ·rw[if_neg h,zAR9]
   by_cases h2:a=n
   ·rw[if_pos h2,if_pos (by omega)]
   ·rw[if_neg h2,if_neg (by omega)]
theorem zqW (a:Nat):∀T:List Lev,(∀L∈T,L.1.Nodup)->(T.flatMap (·.1)).count a=(T.filter fun L=>L.1.contains a).length
 | [],_=>rfl
 | L::T,h=>by
  rw[zBS9,List.count_append,zqW a T fun M hM=>h M (zAT9 _ hM),(h L (zAU9 ..)).count,zBR9]
  by_cases hc:a∈L.1
  ·rw[if_pos hc,if_pos (by simpa using hc),zAE9];omega
  ·rw[if_neg hc,if_neg (by simpa using hc)];omega
theorem zsc (T:List Lev):∀n,(zdD T n).Pairwise (·<=·)/\∀x∈zdD T n,x<n
 | 0=>by simp[zdD]
 | n+1=>by
  obtain⟨h1,h2⟩:=zsc T n;rw[zpf];refine⟨List.pairwise_append.2 ⟨h1,zDX9.2 fun i j hi hj _=>?_,fun x hx y hy=>?_⟩,fun x hx=>?_⟩
  ·rw[zla (zBN9 hi),zla (zBN9 hj)];exact zAJ9 _
  ·have:=h2 x hx;rw[zla hy];omega
  ·rcases zBI9.1 hx with hx|hx
   ·have:=h2 x hx;omega
   ·rw[zla hx];omega
theorem zyH (T:List Lev)(n:Nat)(hn:∀L∈T,L.1.Nodup)(hb:∀L∈T,∀b∈L.1,b<n):srt ((T.flatMap (·.1)).map fun b:Nat=>(b:Int))=(zdD T n).map fun b:Nat=>(b:Int):=by
 have hp:(T.flatMap (·.1)).Perm (zdD T n):=List.perm_iff_count.2 fun a=>by
  rw[zqW a T hn,zrd]
  by_cases h:a<n
  ·rw[if_pos h]
  ·rw[if_neg h,zDR9,List.filter_eq_nil_iff];intro L hL hc;exact h (hb L hL a (by simpa using hc))
 refine List.Perm.eq_of_pairwise (le:=fun x y:Int=>x<=y) (fun a b _ _ h1 h2=>by omega) ?_ ?_ ((List.mergeSort_perm _ _).trans (hp.map _))
 ·exact(List.pairwise_mergeSort (fun a b c h1 h2=>by simp at *;omega) (fun a b=>by simp;omega) _).imp fun h=>of_decide_eq_true h
 ·exact List.pairwise_map.2 ((zsc T n).1.imp fun h=>by omega)
theorem zkJ {w:List Nat}{lv:Int}:∀(k:Nat) (seen bs:List Nat) (ns:List zC) (b:Nat),bs.Nodup->(∀x∈bs,x∈seen)->∀r,zbs w lv k seen bs ns b=some r->r.2.1.Nodup
 | 0,seen,bs,ns,b,h1,h2,r,h=>by
  unfold zbs at h
  split at h
  ·injection h with h;subst h;exact h1
  ·cases h
 | k+1,seen,bs,ns,b,h1,h2,r,h=>by
  unfold zbs at h
  split at h
  ·injection h with h;subst h;exact h1
  ·split at h
   ·cases h
   ·rename_i hs
    split at h
    ·refine zkJ k _ _ _ _ ?_ ?_ r h
     ·refine List.nodup_append.2 ⟨h1,by simp,fun x hx y hy e=>?_⟩;simp at hy;subst hy;subst e;exact hs (by simp[h2 x hx])
     ·intro x hx;rcases zBI9.1 hx with hx|hx
      ·exact zAT9 _ (h2 x hx)
      ·simp at hx;subst hx;exact zAU9 ..
    ·cases h
theorem zjX {w:List Nat}:∀(d:Nat) (seen:List Nat) (acc:List Lev) (b:Nat) (lv:Int),(∀L∈acc,L.1.Nodup)->∀L∈(zbB w d seen acc b lv).1,L.1.Nodup
 | 0,seen,acc,b,lv,h=>h
 | d+1,seen,acc,b,lv,h=>by
  rw[zbB]
  cases hr:zbs w lv (w.length/64) seen [] [] b with
  | none=>exact h
  | some r =>
   obtain⟨s',bs,ns⟩:=r;have k:=zkJ _ _ _ _ _ zGO9 (fun x hx=>by simp at hx) _ hr;have h':∀L∈acc++[(bs,ns)],L.1.Nodup:=fun L hL=>by
    rcases zBI9.1 hL with hL|hL
    ·exact h L hL
    ·simp at hL;subst hL;exact k
   cases ns with
   | nil=>exact h
   | cons n ns =>
    simp only
    split
    ·exact h'
    ·exact zjX d _ _ _ _ h'
def blH (acc:List Nat)(i:Nat)(G:List zn):List zn:=.row 25 1 0 0 [.sl 2 i 0 acc.length (2*acc.length) 1]::.row 31 1 0 0 [iv 0]::.row 3 1 i 0 (bfl acc)::G
theorem zzu:FO ET 55 [.ptr 0 0 0 0 1] [.row 25 1 0 0 [.nilsl],.row 31 1 0 0 [iv 0]] false fun e H'=>e=.ret (.tuple [])/\H'=[.row 25 1 0 0 [.nilsl],.row 31 1 0 0 [iv 0]]:=by
 refine zro f55 ?_;refine zJ ?_;exact⟨[],rfl,rfl,rfl⟩
theorem zqQ (l:List Nat):bfl l=(l.map fun b:Nat=>(b:Int)).map iv:=by rw[zDH9];rfl
theorem zsh:∀(T:List Lev),(∀L∈T,L.1.length<=2048)->(T.flatMap (·.1)).length<=2048*T.length
 | [],_=>zAS9 _
 | L::T,h=>by
  have h1:=zsh T fun M hM=>h M (zAT9 _ hM);have h2:=h L (zAU9 ..);rw[zBS9,zAD9,zAE9];omega
theorem zAk {acc:List Nat}{i q:Nat}{G:List zn}(h1:0<acc.length)(h2:acc.length<=1000000):FO ET 56 [.sl 2 i 0 acc.length q 1] (blH acc i G) false fun e H'=>e=.ret (.tuple [])/\H'=.row 25 1 0 0 [.sl 2 i 0 acc.length (2*acc.length) 1]::.row 31 1 0 0 [iv 0]::.row 3 1 i i ((srt (acc.map fun b:Nat=>(b:Int))).map iv)::G:=by
 have:=zzb zAP zAD (H:=blH acc i G) (id:=2) (g:=i) (M:=0) (xs:=acc.map fun b:Nat=>(b:Int)) (by rw[<- zqQ];rfl) (zAS9 _) (by simpa using h1) (by simpa using h2) q;rw[zAA9]at this;exact this
theorem zsJ (p:Nat)(w:List Nat)(a:Int)(hs:za7 w.length):FN ET 17 [wv p w,iv a] (zdB w a):=by
 have hl:=zkR p w a hs;have hlb:=zmx w a;refine zfn f17 hlb ?_;refine zG ?_;refine zI ?_;refine zgq (f:=35) (p:=.ptr 1 0 0 0 1) (cl:=.fn 55 [.ptr 0 0 0 0 1]) ?_ ?_ c35 ?_
 ·rfl
 ·simp only[go_sem]<;>rfl
 refine zN ?_;refine zI ?_;have bad:∀(tm:Nat->PV) (n:Nat),zdB w a=.ret (.tuple [.list 0 1 (bfl []),iv n])->tm 4=.ptr 0 0 0 0 1->tm 5=.ptr 1 0 0 0 1->zdj ET T17 (fun e' H=>za0 H 0 e' (zdB w a)) (.panic (zcd n)) ⟨tm,[.caught (.ptr 1 0 0 0 1) (.fn 55 [.ptr 0 0 0 0 1])],[.row 25 1 0 0 [.nilsl],.row 31 1 0 0 [iv 0]]⟩:=fun tm n hn h4 h5=>by
  refine⟨n,55,[.ptr 0 0 0 0 1],false,1,0,1,rfl,rfl,rfl,zzu.mono fun e H he=>?_⟩;obtain⟨rfl,rfl⟩:=he;refine⟨rfl,_,rfl,[.nilsl,iv n],?_,?_⟩
  ·simp[T17,xT,zE,okv,h4,h5,zae,zaz,zaH,zag];rfl
  ·rw[hn];exact Frz.tupL ⟨.nil _ _,.int _ _,trivial⟩
 unfold zhp at hl
 by_cases hr:zbO w.length a=true
 rotate_left
 ·rw[if_neg hr]at hl;refine zcx hl ?_;exact bad _ 2 (by unfold zdB;rw[if_neg hr];rfl) rfl rfl
 rw[if_pos hr]at hl;have hb:=(zdR _ _).1 hr
 by_cases ht:(zac w a.toNat).2=true
 rotate_left
 ·rw[if_neg ht]at hl;refine zcx hl ?_;exact bad _ 220 (by unfold zdB;rw[if_pos hr,if_neg ht];rfl) rfl rfl
 rw[if_pos ht]at hl;have hall:zdB w a=.ret (.tuple [.list 0 1 (bfl (zdD (zac w a.toNat).1 (w.length/64))),iv 0]):=by unfold zdB;rw[if_pos hr,if_pos ht]
 obtain⟨f1,f2,f3,f4,f5⟩:=zcN (w:=w) (T:=(zac w a.toNat).1) (by omega) a.toNat (by rw[<- ht]);have fn:∀L∈(zac w a.toNat).1,L.1.Nodup:=zjX _ _ _ _ _ fun L hL=>by simp at hL
 rw[hall];clear bad;generalize (zac w a.toNat).1=T at hl f1 f2 f3 f4 f5 fn;have hB:∀L∈T,L.1.length<=2048:=fun L hL=>by have h1:=(f1 L hL).lv.len;have h2:=(f1 L hL).few;omega
 refine zca hl ?_;refine zN ?_;refine zfH 3 1 (id:=0) rfl ?_;simp only[lzy,zAE9,zAF9,zCK9,zCI9,zAI9,zAK9];(repeat refine za ?_);refine zB (zar (fun m s=>∃(i:Nat) (acc:List Nat) (G:List zn),m=T.length-i/\i<=T.length/\acc=(T.take i).flatMap (·.1)/\(0<i->0<acc.length)/\s.tm 4=.ptr 0 0 0 0 1/\s.tm 5=.ptr 1 0 0 0 1/\s.tm 11=zbQ T/\s.tm 12=iv T.length/\s.tm 13=iv i/\s.df=[.caught (.ptr 1 0 0 0 1) (.fn 55 [.ptr 0 0 0 0 1])]/\s.H=blH acc i G) (n:=T.length) ?_ ?_)
 ·exact⟨0,[],[],rfl,zAS9 _,rfl,fun h=>absurd h (by omega),zt,zt,zt,zt,zt,rfl,rfl⟩
 rintro m ⟨tm,df,H⟩ ⟨i,acc,G,rfl,hi,hacc,hpos,h4,h5,h11,h12,h13,rfl,rfl⟩;dsimp only at h4 h5 h11 h12 h13;unfold blH;have hal:acc.length<=2048*14:=by
  rw[hacc];have:=zsh (T.take i) fun L hL=>hB L (zBX9 hL);rw[zBA9]at this;omega
 (try refine zBp ?_);refine za (zAV (zr2 h12 h13) ?_);refine zwh ?_ ?_
 ·intro hlt;have hlt:i<T.length:=by have:=of_decide_eq_true hlt;omega
  obtain⟨L,hL⟩:∃L,T[i]?=some L:=⟨_,zAB9 hlt⟩
  have hLv:(T.map fun L=>zby 0 0 L.1 L.2)[i]?=some (zby 0 0 L.1 L.2):=by rw[zAH9,hL];rfl
  have hLm:=zAO9 hL;have hLl:=hB L hLm;have hLne:¬L.1.length=0:=fun h=>(f1 L hLm).ne (zCO9 (by rw[<- (f1 L hLm).lv.len];exact h));have hbb:(acc.length+L.1.length)*9<=140737488355328:=by omega
  (repeat refine za ?_);refine zB ?_;refine zGF (zr4 h11 h13 hLv hlt) ?_;refine zJF (zr3 h4 hLne hbb) ?_;refine zJF h13 ?_;refine⟨_,?m1,i+1,acc++L.1,?G1,rfl,hlt,?e1,fun _=>by(rw[zAD9];omega),zu h4,zu h5,zu h11,zu h12,zu h13,rfl,?H1⟩
  case m1=>omega
  case e1=>rw[hacc,zBE9,hL,zCN9];simp
  case H1=>(try dsimp only);rw[show bfl (acc++L.1)=bfl acc++bfl L.1 from zBJ9,zAD9]
 intro hlt;have hlt:¬i<T.length:=by have:=of_decide_eq_false hlt;omega
 obtain rfl:i=T.length:=by omega
 rw[zBG9]at hacc;have hp:=hpos (zBV9.2 f3);(repeat refine za ?_);refine zAU ?_;refine zAW h4 ?_;have hso:=zAk (acc:=acc) (i:=T.length) (q:=2*acc.length) (G:=G) hp (by omega);unfold blH at hso;refine zco hso ?_ (by first|rfl|(simp only[go_sem,h4]<;>rfl)) (by simp only[go_sem,h4]<;>rfl);rintro e H' ⟨rfl,rfl⟩;refine zN ?_;refine zGF (zr2 h4 h5) ?_;refine zy ?_;refine⟨[.sl 2 T.length 0 acc.length (2*acc.length) 1,iv 0],by simp[T17,xT,zE,okv,upd,h4,h5,zae,zaz,zaH,zag,PV.cells],Frz.tupL ⟨?_,.int _ _,trivial⟩⟩;have e:=zyH T (w.length/64) fn fun L hL b hb=>((f1 L hL).lv.each b hb).1;rw[<- hacc]at e;have hn:(zdD T (w.length/64)).length=acc.length:=by
  have:=congrArg List.length e;rw[zgD,zAA9,zAA9]at this;exact this.symm
 rw[zqQ,<- e];exact Frz.wholeM rfl (zAJ9 _) rfl (by rw[zAA9,zgD,zAA9]) (by rw[zAA9,zgD,zAA9];exact zAJ9 _) (fun v hv=>by obtain⟨x,_,rfl⟩:=zAM9.1 hv;rfl) zlg
theorem f11:ET.funcs.get 11=some T11:=zH Tryz.func11
theorem f4:ET.funcs.get 4=some T4:=zH Tryz.func4
@[reducible] def zp7 (n:Nat):PV:=.sl 0 2 0 n (2 * (n + 1)) 1
@[reducible] def ztW (w:List Nat):List zn:=[.row 24 1 2 0 (w.map uv++[uv 77]),.row 24 1 0 0 [uv 77]]
theorem ztP (q:Nat)(w:List Nat)(hw:0<w.length)(hs:w.length<=131072):FO ET 11 [wv q w] [] false fun e H'=>e=.ret (zp7 w.length)/\H'=ztW w:=by
 refine zro f11 ?_;refine zG ?_;have h0:¬w.length=0:=by omega
 have h1:w.length*9<=140737488355328:=by omega
 have h2:(w.length+1)*9<=140737488355328:=by omega
 have e1:w.length<=w.length+1:=by omega
 have e4:2*(w.length+1)/2=w.length+1:=by omega
 have e5:¬2*(w.length+1)=0:=by omega
 refine zGF (zr6 h0 h1 h2 e1 e4 e5) ?_;refine zy ?_;refine zj (vs:=[zp7 w.length]) ?_ ⟨rfl,rfl⟩;simp[T11,xT,zE,okv,upd]
theorem f5:ET.funcs.get 5=some T5:=zH Tryz.func5
theorem zz4 {H:List zn}{id e:Nat}{l:List Int}(hl:l.length=0)(hH:H[id]?=some (.row e 1 0 0 [])):Frz H 1 (.sl id 0 0 0 0 1) (.list 1 1 (l.map iv)):=by
 obtain rfl:=zCO9 hl;exact Frz.whole hH rfl rfl (zAJ9 _) (fun v hv=>by simp at hv) (fun v hv=>by simp at hv)
theorem f134:ET.funcs.get 134=some T134:=zH Tryz.func134
theorem f171:ET.funcs.get 171=some T171:=zH Tryz.func171
theorem f187:ET.funcs.get 187=some T187:=zH Tryz.func187
theorem f186:ET.funcs.get 186=some T186:=zH Tryz.func186
theorem f131:ET.funcs.get 131=some T131:=zH Tryz.func131
theorem zzF (x:Nat):sc2 (zc3 .shr) [.int .u64 (x:Int),.int .u64 1]=some (.int .u64 ((x/2:Nat):Int)):=by
 simp[sc2,PV.toT,zc3,zeI,zfD,ofT];rfl
theorem zlX (j:Nat)(hj:j<1000000):FN ET 134 [iv j] (.ret (uv (2*j+1:Nat))):=by
 refine zfn f134 (.int _ _) ?_;have e1:IntKind.i64.wrap ((2:Int)*(j:Int))=((2*j:Nat):Int):=zwi;have e2:((2*j:Nat):Int)+1=((2*j+1:Nat):Int):=by omega
 have e3:IntKind.u64.wrap ((2*j+1:Nat):Int)=((2*j+1:Nat):Int):=zwu;refine zOF (zr3 e1 e2 e3) ?_;exact Frz.int _ _
theorem zxD (j:Nat)(hj:j<1000000):FN ET 171 [iv j] (.ret (uv (2*j:Nat))):=by
 refine zfn f171 (.int _ _) ?_;have e1:IntKind.i64.wrap ((2:Int)*(j:Int))=((2*j:Nat):Int):=zwi;have e3:IntKind.u64.wrap ((2*j:Nat):Int)=((2*j:Nat):Int):=zwu;refine zOF (zr2 e1 e3) ?_;exact Frz.int _ _
def zka (a key:Nat):Int:=if a<key then -1 else if key<a then 1 else 0
theorem zpk (a:Pr)(key:Nat):FN ET 187 [pv a,uv key] (.ret (iv (zka a.1 key))):=by
 refine zfn f187 (.int _ _) ?_;refine zG ?_;(repeat refine za ?_);refine zB ?_;unfold zka
 by_cases h1:a.1<key
 ·have g:(a.1:Int)<(key:Nat):=by omega
  rw[if_pos h1];refine zSF g ?_;refine zO ?_;exact Frz.int _ _
 have g:¬(a.1:Int)<(key:Nat):=by omega
 rw[if_neg h1];refine zTF g ?_
 by_cases h2:key<a.1
 ·have g2:(key:Int)<(a.1:Nat):=by omega
  rw[if_pos h2];refine zSF g2 ?_;refine zO ?_;exact Frz.int _ _
 have g2:¬(key:Int)<(a.1:Nat):=by omega
 rw[if_neg h2];refine zTF g2 ?_;refine zBl ?_;refine zO ?_;exact Frz.int _ _
theorem zxL {l:List Pr}{key lo:Nat}(h1:∀(i:Nat) (x:Pr),l[i]?=some x->i<lo->x.1<key)(h2:∀(i:Nat) (x:Pr),l[i]?=some x->lo<=i->key<=x.1)(hl:lo<=l.length):zb4 l key=lo:=by
 unfold zb4
 induction l generalizing lo with
 | nil=>simp at hl;subst hl;rfl
 | cons x l ih =>
  rw[List.takeWhile_cons]
  cases lo with
  | zero =>
   have:=h2 0 x rfl (zAS9 _);rw[if_neg (by simp;omega)];rfl
  | succ lo =>
   have:=h1 0 x rfl (zCQ9 _);rw[if_pos (by simpa using this),zAE9,ih (lo:=lo) (fun i y hy hi=>h1 (i+1) y (by simpa using hy) (by omega)) (fun i y hy hi=>h2 (i+1) y (by simpa using hy) (by omega)) (by simpa using hl)]
theorem zjF:∀{l:List Pr} {i j:Nat} {x y:Pr},zbn l=true->l[i]?=some x->l[j]?=some y->i<j->x.1<y.1
 | [],i,j,x,y,_,hx,_,_=>by simp at hx
 | [a],i,j,x,y,_,hx,hy,hij=>by
  have h1:=(zAC9.1 hy).1;simp at h1;omega
 | a::b::l,i,j,x,y,h,hx,hy,hij=>by
  simp only[zbn,zAQ9,decide_eq_true_eq]at h;obtain⟨j,rfl⟩:∃k,j=k+1:=⟨j-1,by omega⟩
  simp at hy
  cases i with
  | zero =>
   simp at hx;subst hx
   cases j with
   | zero=>simp at hy;subst hy;exact h.1
   | succ j =>
    have:=zjF (l:=b::l) (i:=0) (j:=j+1) h.2 rfl (by simpa using hy) (zCQ9 _);omega
  | succ i=>exact zjF (l:=b::l) h.2 (by simpa using hx) hy (by omega)
theorem zwc (p:Nat)(l:List Pr)(key:Nat)(hr:zbn l=true)(hl:l.length<1000000):FN ET 186 [psv p l,uv key,.fn 187 []] (.ret (.tuple [iv (zb4 l key:Nat),.bool (sIs l key)])):=by
 refine zfn f186 (Lb.two (.int _ _) (.bool _)) ?_;refine zG ?_;refine zB (zar (fun m s=>∃lo hi:Nat,m=hi-lo/\lo<=hi/\hi<=l.length/\(∀(i:Nat) (x:Pr),l[i]?=some x->i<lo->x.1<key)/\(∀(i:Nat) (x:Pr),l[i]?=some x->hi<=i->key<=x.1)/\s.tm 0=psv p l/\s.tm 1=uv key/\s.tm 2=.fn 187 []/\s.tm 8=iv l.length/\s.tm 9=iv lo/\s.tm 10=iv hi/\s.df=[]/\s.H=[]) (n:=l.length) ?_ ?_)
 ·exact⟨0,l.length,rfl,zAS9 _,zAJ9 _,fun i x _ h=>by omega,fun i x hx h=>by have:=(zAC9.1 hx).1;omega,zt,zt,zt,zt,zt,zt,rfl,rfl⟩
 rintro m ⟨tm,df,H⟩ ⟨lo,hi,rfl,hlo,hhi,hA,hB,h0,h1,h2,h8,h9,h10,rfl,rfl⟩;dsimp only at h0 h1 h2 h8 h9 h10;(try refine zBp ?_);refine za (zAV (zr2 h9 h10) ?_);refine zwh ?_ ?_
 ·intro hlt;have hlt:lo<hi:=by have:=of_decide_eq_true hlt;omega
  obtain⟨md,hmd⟩:∃md,(lo+hi)/2=md:=⟨_,rfl⟩
  have hm1:lo<=md:=by omega
  have hm2:md<hi:=by omega
  obtain⟨x,hx⟩:∃x,l[md]?=some x:=⟨_,zAB9 (by omega)⟩
  have hxv:(l.map pv)[md]?=some (pv x):=by rw[zAH9,hx];rfl
  have hml:md<l.length:=by omega
  have e1:(lo:Int)+(hi:Int)=((lo+hi:Nat):Int):=by omega
  have e2:IntKind.u64.wrap ((lo+hi:Nat):Int)=((lo+hi:Nat):Int):=zwu;have e3:IntKind.i64.wrap ((md:Nat):Int)=((md:Nat):Int):=zwi;have hc:=zpk x key;(repeat refine za ?_);refine zB ?_;(repeat(first|refine za ?_|refine zgo ?_ (by simp(disch:=omega)only[go_sem,h9,h10,e1,e2,zzF,hmd,e3]<;>rfl)));refine zIF (zr5 h0 h1 h2 hxv hml) ?_;refine zca hc ?_
  by_cases hk:x.1<key
  ·have g:zka x.1 key<0:=by unfold zka;rw[if_pos hk];decide
   refine zNF g ?_;refine zct ?_;have e4:(md:Int)+1=((md+1:Nat):Int):=by omega
   refine zJF e4 ?_;refine⟨_,?m1,md+1,hi,rfl,hm2,hhi,fun i y hy hi=>?_,hB,zu h0,zu h1,zu h2,zu h8,zt,zu h10,zt,zt⟩
   case m1=>omega
   rcases Nat.lt_or_eq_of_le (Nat.le_of_lt_succ hi)with h|h
   ·have:=zjF hr hy hx h;omega
   ·subst h;rw[hx]at hy;injection hy with hy;subst hy;exact hk
  ·have g:¬zka x.1 key<0:=by
    unfold zka;rw[if_neg hk];split<;>decide
   refine zNF g ?_;refine zcf ?_;refine zJ ?_;refine⟨_,?m1,lo,md,rfl,hm1,by omega,hA,fun i y hy hi=>?_,zu h0,zu h1,zu h2,zu h8,zu h9,zt,zt,zt⟩
   case m1=>omega
   rcases Nat.lt_or_eq_of_le hi with h|h
   ·have:=zjF hr hx hy h;omega
   ·subst h;rw[hx]at hy;injection hy with hy;subst hy;omega
 intro hlt;have hlt:¬lo<hi:=by have:=of_decide_eq_false hlt;omega
 obtain rfl:lo=hi:=by omega
 have hF:=zxL hA hB hhi;(repeat refine za ?_)
 cases hx:l[lo]? with
 | none =>
  have hll:¬(lo:Int)<(l.length:Nat):=by have:=zFJ9.1 hx;omega
  have hI:sIs l key=false:=by unfold sIs;rw[hF,hx]
  refine zOF (zr3 h8 h9 hll) ?_;rw[hF,hI];exact Frz.tupL ⟨.int _ _,.bool _,trivial⟩
 | some x =>
  have hml:=(zAC9.1 hx).1;have hll:(lo:Int)<(l.length:Nat):=by omega
  have hxv:(l.map pv)[lo]?=some (pv x):=by rw[zAH9,hx];rfl
  have hge:=hB lo x hx (zAJ9 _);have hI:sIs l key=decide (x.1=key):=by unfold sIs;rw[hF,hx]
  have hc:=zpk x key;have hz:decide (zka x.1 key=0)=decide (x.1=key):=by
   unfold zka;rw[if_neg (by omega)]
   by_cases h:key<x.1
   ·rw[if_pos h];simp;omega
   ·rw[if_neg h];simp;omega
  refine zIF (zr8 h0 h1 h2 h8 h9 hll hml hxv) ?_;refine zca hc ?_;refine zP ?_;rw[hF,hI,hz];exact Frz.tupL ⟨.int _ _,.bool _,trivial⟩
theorem zsl (p:Nat)(l:List Pr)(key:Nat)(hr:zbn l=true)(hl:l.length<1000000):FN ET 131 [psv p l,uv key] (.ret (.tuple [iv (zb4 l key:Nat),.bool (sIs l key)])):=by
 refine zfn f131 (Lb.two (.int _ _) (.bool _)) ?_;refine zG ?_;refine zI ?_;refine zca (zwc p l key hr hl) ?_;refine zP ?_;exact Frz.tupL ⟨.int _ _,.bool _,trivial⟩
theorem f133:ET.funcs.get 133=some T133:=zH Tryz.func133
theorem f136:ET.funcs.get 136=some T136:=zH Tryz.func136
theorem f129:ET.funcs.get 129=some T129:=zH Tryz.func129
theorem f88:ET.funcs.get 88=some T88:=zH Tryz.func88
theorem FO.nil1 {E:Env}{f:Nat}{x:PV}{H:List zn}{b:Bool}{R:FE->List zn->Prop}(e z:Nat)(k:FO E f [.sl H.length 0 0 0 0 z,x] (H++[.row e z 0 0 []]) b R):FO E f [.nilsl,x] H b R:=fun B c h us hr ha=>by
 obtain⟨m,hr2⟩:=hr.lazy e z;obtain⟨u,us',rfl,h1,h2⟩:=ha.of_cons;obtain rfl:u=.nilsl:=by cases h1 with|pure h1=>cases h1;rfl
 obtain⟨r,h',e',H',c',e1,q1,m1,k1,re,hs⟩:=k B _ h (.nilsl::us') hr2 (LR.cons (.slnil z (.inr rfl)) (h2.mono fun _ _=>VR.mono m));exact⟨r,h',e',H',c',e1,q1,m.trans m1,k1,re,fun hb id x hx=>hs hb id x hx⟩
def zfW:List Nat->List Pr
 | a::b::l=>(a,b)::zfW l
 | _=>[]
theorem zqX:∀(l:List Nat) (j a b:Nat),l[2*j]?=some a->l[2*j+1]?=some b->(zfW l)[j]?=some (a,b)
 | [],j,a,b,h,_=>by simp at h
 | [x],j,a,b,_,h=>by simp at h
 | x::y::l,0,a,b,h1,h2=>by simp at h1 h2;subst h1 h2;rfl
 | x::y::l,j+1,a,b,h1,h2=>by
  rw[zfW,zAY9];exact zqX l j a b (by rw[show 2*(j+1)=2*j+1+1 by omega]at h1;simpa using h1) (by rw[show 2*(j+1)+1=2*j+1+1+1 by omega]at h2;simpa using h2)
theorem zrY:∀(l:List Nat),(zfW l).length=l.length/2
 | []=>rfl
 | [x]=>by simp[zfW]
 | x::y::l=>by rw[zfW,zAE9,zrY l,zAE9,zAE9];omega
def zAz (H:List zn)(idL:Nat)(x:PV)(more:List Nat):Prop:=x=.list 1 1 (more.map uv)\/∃idM,idM≠idL/\x=.sl idM 0 0 more.length (2*more.length) 1/\H[idM]?=some (.row 24 1 0 0 (more.map uv))
theorem zj1 {H:List zn}{idL g M k:Nat}{x:PV}{L:List Pr}{more:List Nat}(hsrc:zAz H idL x more)(hL:H[idL]?=some (.row 83 2 g M (L.map zBo)))(hl:L.length<1000000)(hk:more.length=2*k)(hk4:k<=2)(hb:∀(j a:Nat),more[2*j]?=some a->a<1000000) :
  FO ET 133 [.sl idL g 0 L.length (2*L.length) 2,x] H false fun e H'=>e=.ret (.sl idL (g+k) 0 (L.length+k) (2*(L.length+k)) 2)/\zb8 idL H H'/\H'[idL]?=some (.row 83 2 (g+k) M ((L++zfW more).map zBo)):=by
 refine zro f133 ?_;refine zG ?_;refine zB (zar (fun m s=>∃(j:Nat) (V:List Pr) (Hc:List zn),m=k-j/\j<=k/\V=L++(zfW more).take j/\V.length=L.length+j/\zb8 idL H Hc/\Hc[idL]?=some (.row 83 2 (g+j) M (V.map zBo))/\s.tm 0=.sl idL (g+j) 0 V.length (2*V.length) 2/\s.tm 1=x/\s.tm 5=iv (2*j:Nat)/\s.df=[]/\s.H=Hc) (n:=k) ?_ ?_)
 ·exact⟨0,L,H,rfl,zAS9 _,by simp,rfl,.refl _ _,hL,zt,zt,zt,rfl,rfl⟩
 rintro m ⟨tm,df,Hc⟩ ⟨j,V,Hc',rfl,hj,hV,hVl,hst,hr,h0,h1,h5,rfl,rfl⟩;dsimp only at h0 h1 h5;have e1:((2*j:Nat):Int)+1=((2*j+1:Nat):Int):=by omega
 rcases hsrc with rfl|⟨idM,hne,rfl,hm⟩;rotate_left;have hmc:=hst idM _ hne hm;rotate_left;have hmc:=hr
 all_goals
  by_cases hlt:j<k
  ·have g1:((2*j+1:Nat):Int)<(2*k:Nat):=by omega
   (try refine zBp ?_);refine za (zAV (zr5 h1 h5 e1 g1 hk) ?_);refine zwh ?_ ?_;rotate_left
   ·intro h;cases h
   intro _;obtain⟨a,ha⟩:∃a,more[2*j]?=some a:=⟨_,zAB9 (by omega)⟩
   obtain⟨b,hbb⟩:∃b,more[2*j+1]?=some b:=⟨_,zAB9 (by omega)⟩
   have hav:(more.map uv)[2*j]?=some (uv a):=by rw[zAH9,ha];rfl
   have hbv:(more.map uv)[2*j+1]?=some (uv b):=by rw[zAH9,hbb];rfl
   have i1:2*j<2*k:=by omega
   have i2:2*j+1<2*k:=by omega
   have hal:=hb j a ha;have e2:IntKind.i64.wrap ((a:Nat):Int)=((a:Nat):Int):=zwi;have hX:∀X,(Hc++X)[idL]?=some (.row 83 2 (g+j) M (V.map zBo)):=fun X=>zbm hr;have hb2:(V.length+1)*17<=140737488355328:=by omega
   have e3:((2*j:Nat):Int)+2=((2*(j+1):Nat):Int):=by omega
   (repeat refine za ?_);refine zB ?_;(repeat refine za ?_);refine zad ?_;refine zA0 (zBa h0 h1 h5 hmc hav hbv i1 i2 e1 e2 hb2 (zr2 hX hk)) ?_;refine zQF h0 ?_;refine zJF (zr2 h5 e3) ?_;refine⟨_,?m,j+1,V++[(a,b)],_,rfl,hlt,?eV,by rw[zAD9,hVl];rfl,(hst.app _).set _,?G,by simp[upd];omega,zu h1,zu h5,rfl,rfl⟩
   case m=>omega
   case eV=>rw[hV,zBE9,zqX more j a b ha hbb,zAG9];rfl
   case G=>rw[zfG hr,zBJ9];rfl
  ·have g1:¬((2*j+1:Nat):Int)<(2*k:Nat):=by omega
   (try refine zBp ?_);refine za (zAV (zr5 h1 h5 e1 g1 hk) ?_);refine zwh ?_ ?_
   ·intro h;cases h
   intro _;obtain rfl:j=k:=by omega
   rw[zCS9 (by rw[zrY];omega)]at hV;refine zGF h0 ?_;refine zy ?_;refine zj (vs:=[.sl idL (g+j) 0 V.length (2*V.length) 2]) (by simp[T133,xT,zE,okv,upd]) ⟨?_,hst,?_⟩
   ·rw[hVl];try rfl
   ·rw[hr,hV]
theorem zq9 {w:List Nat}{i:Nat}(h:i<w.length):w[i]=w.getD i 0:=by
 rw[zAL9,zAB9 h];rfl
theorem zsS (p left d m:Nat)(w:List Nat)(hw:w.length<1000000)(hd:d<m)(hm:2*m<=w.length):FN ET 136 [zfb p w left,iv d,iv m] (.ret (.list 0 2 ((zcp w d m).map zBo))):=by
 refine zfn f136 (zc9 _) ?_;refine zG ?_;refine zb2 83 2 (i:=6) rfl ?_;simp only[lzy,zAD9,zAE9,zAF9,zAR9,zAG9,zAI9,zAK9];refine zG ?_;refine zB (zar (fun mm s=>∃(q:Nat) (V:List Pr) (Hc:List zn),mm=m-1-d-q/\q<=m-1-d/\V=dnL w d q/\Hc[0]?=some (.row 209 2 0 0 [zfb p w left])/\Hc[1]?=some (.row 83 2 V.length 0 (V.map zBo))/\s.tm 2=iv m/\s.tm 3=.ptr 0 0 0 0 2/\s.tm 6=.sl 1 V.length 0 V.length (2*V.length) 2/\s.tm 7=iv (d+q:Nat)/\s.df=[]/\s.H=Hc) (n:=m-1-d) ?_ ?_)
 ·exact⟨0,[],_,rfl,zAS9 _,rfl,rfl,rfl,zt,zt,zt,zt,rfl,rfl⟩
 rintro mm ⟨tm,df,Hc⟩ ⟨q,V,Hc',rfl,hq,hV,hr0,hr,h2,h3,h6,h7,rfl,rfl⟩;dsimp only at h2 h3 h6 h7;have hVl:V.length=2*q:=by rw[hV,zhm]
 have e0:((m:Nat):Int)-2=((m:Int)-2):=rfl
 by_cases hlt:q<m-1-d
 ·have g1:((d+q:Nat):Int)<=(m:Int)-2:=by omega
  (try refine zBp ?_);refine za (zAV (zr3 h2 h7 g1) ?_);refine zwh ?_ ?_;rotate_left
  ·intro h;cases h
  intro _;have e1:((d+q:Nat):Int)+1=((d+q+1:Nat):Int):=by omega
  have l1:2*(d+q+1)<w.length:=by omega
  have l2:2*(d+q+1)+1<w.length:=by omega
  have hk1:=zxD (d+q) (by omega);have hk2:=zvs p w (d+q+1) (by unfold za7;omega) l1;have hp1:=zlX (d+q) (by omega);have hp2:=zi8 p w (d+q+1) (by unfold za7;omega) l2;rw[zq9 l1]at hk2;rw[zq9 l2]at hp2;have hst:dnL w d (q+1)=dnL w d q++zfW [2*(d+q),w.getD (2*(d+q+1)) 0,2*(d+q)+1,w.getD (2*(d+q+1)+1) 0]:=by
   rw[zjL];rfl
  generalize w.getD (2*(d+q+1)) 0=a at *
  generalize w.getD (2*(d+q+1)+1) 0=b at *
  have hX0:∀X,(Hc++X)[0]?=some (.row 209 2 0 0 [zfb p w left]):=fun X=>zbm hr0;have h0l:0<Hc.length:=(zAC9.1 hr0).1;have h1l:1<Hc.length:=(zAC9.1 hr).1;have hput:=zj1 (H:=Hc++[.row 24 1 0 0 [uv (2*(d+q):Nat),uv a,uv (2*(d+q)+1:Nat),uv b]]) (idL:=1) (g:=V.length) (M:=0) (k:=2) (L:=V) (more:=[2*(d+q),a,2*(d+q)+1,b]) (.inr ⟨Hc.length,by omega,rfl,by simp⟩) (zbm hr) (by omega) rfl (by decide) (fun j x hx=>by
   match j with
   | 0=>simp at hx;omega
   | 1=>simp at hx;omega
   | j+2=>rw[zBP9 (by simp;omega)]at hx;cases hx)
  (repeat refine za ?_);refine zB ?_;refine zad ?_;refine zAZ (zr5 h3 h6 h7 e1 hr0) hk1 ?_;refine zAZ (zr5 h3 h6 h7 e1 hr0) hk2 ?_;refine zAZ (zr5 h3 h6 h7 e1 hr0) hp1 ?_;refine zAZ (zr5 h3 h6 h7 e1 hr0) hp2 ?_;refine zA5 (zr5 h3 h6 h7 e1 hr0) hput ?_;rintro e H' ⟨rfl,hst',hr'⟩;refine⟨_,by simp only[go_sem]<;>rfl,?_⟩;refine zQF h3 ?_;have e2:((d+q:Nat):Int)+1=((d+(q+1):Nat):Int):=by omega
  refine zJF (zr2 h7 e2) ?_;refine⟨_,?m,q+1,V++zfW [2*(d+q),a,2*(d+q)+1,b],_,rfl,hlt,by rw[hst,hV],hst' 0 _ (by decide) (zbm hr0),?G,zu h2,zu h3,by simp[upd,zAD9,zfW],zu h7,rfl,rfl⟩
  case m=>omega
  case G=>rw[hr',zAD9];rfl
 ·have g1:¬((d+q:Nat):Int)<=(m:Int)-2:=by omega
  (try refine zBp ?_);refine za (zAV (zr3 h2 h7 g1) ?_);refine zwh ?_ ?_
  ·intro h;cases h
  intro _;obtain rfl:q=m-1-d:=by omega
  have e3:((m:Nat):Int)-1=((m-1:Nat):Int):=by omega
  have hp1:=zlX (m-1) (by omega);have e4:2*(m-1)+1=2*m-1:=by omega
  rw[e4]at hp1;have hput:=zj1 (H:=Hc++[.row 24 1 0 0 [uv (2*m-1:Nat),uv 0]]) (idL:=1) (g:=V.length) (M:=0) (k:=1) (L:=V) (more:=[2*m-1,0]) (.inr ⟨Hc.length,by have h:=(zAC9.1 hr).1;dsimp only at h⊢;omega,rfl,by simp⟩) (zbm hr) (by omega) rfl (by decide) (fun j x hx=>by
   match j with
   | 0=>simp at hx;omega
   | j+1=>rw[zBP9 (by simp;omega)]at hx;cases hx)
  refine zIF (zr3 h2 e3 h6) ?_;refine zca hp1 ?_;refine zAW h6 ?_;refine zco hput ?_ (by first|rfl|(simp only[go_sem,h6]<;>rfl)) (by simp only[go_sem,h6]<;>rfl);rintro e H' ⟨rfl,_,hr'⟩;refine zP ?_;have hs:zcp w d m=V++zfW [2*m-1,0]:=by unfold zcp;rw[hV];rfl
  rw[hs];exact Frz.whole hr' rfl (by simp[zfW]) (by simp[zfW]) (fun v hv=>by obtain⟨x,_,rfl⟩:=zAM9.1 hv;rfl) zb3
theorem zv2 (X:List zn):FO ET 129 [.ptr 0 0 0 0 1] (.row 30 1 0 0 [.nilsl]::.row 31 1 0 0 [iv 0]::X) false fun e H'=>e=.ret (.tuple [])/\H'=.row 30 1 0 0 [.nilsl]::.row 31 1 0 0 [iv 0]::X:=by
 refine zro f129 ?_;refine zJ ?_;exact⟨[],rfl,rfl,rfl⟩
@[reducible] def zja (r:List Pr × Nat):PV:=.tuple [.list 0 2 (r.1.map zBo),iv (r.2:Nat)]
theorem zjE (r:List Pr×Nat):Lb (zja r):=Lb.two (zc9 _) (.int _ _)
set_option maxHeartbeats 1000000 in
theorem zvq (p left key:Nat)(w:List Nat)(hw:w.length<1000000):FN ET 88 [uv left,wv p w,uv key] (.ret (zja (zbY left w key))):=by
 refine zfn f88 (zjE _) ?_;refine zG ?_;refine zI ?_;refine zgq (f:=128) (p:=.ptr 1 0 0 0 1) (cl:=.fn 129 [.ptr 0 0 0 0 1]) ?_ ?_ zAg ?_
 ·rfl
 ·simp only[go_sem]<;>rfl
 refine zN ?_;have hs:=znp p w left (by unfold za7;omega);have bad:∀(tm:Nat->PV) (n:Nat) (X:List zn),zbY left w key=([],n)->tm 6=.ptr 0 0 0 0 1->tm 7=.ptr 1 0 0 0 1->zdj ET T88 (fun e' H=>za0 H 0 e' (.ret (zja (zbY left w key)))) (.panic (zcd n)) ⟨tm,[.caught (.ptr 1 0 0 0 1) (.fn 129 [.ptr 0 0 0 0 1])],.row 30 1 0 0 [.nilsl]::.row 31 1 0 0 [iv 0]::X⟩:=fun tm n X hn h6 h7=>by
  refine⟨n,129,[.ptr 0 0 0 0 1],false,1,0,1,rfl,rfl,rfl,(zv2 X).mono fun e H he=>?_⟩;obtain⟨rfl,rfl⟩:=he;refine⟨rfl,_,rfl,[.nilsl,iv n],?_,?_⟩
  ·simp[T88,xT,zE,okv,h6,h7,zae,zaz,zaH,zag];rfl
  ·rw[hn];exact Frz.tupL ⟨.nil _ _,.int _ _,trivial⟩
 refine zG ?_;refine zI ?_
 by_cases hr:zbx left w.length=true
 rotate_left
 ·have he:zc4 left w=.panic (zcd 2):=by simp[zc4,hr]
  rw[he]at hs;refine zcx hs ?_;exact bad _ 2 _ (by simp[zbY,zbt,hr]) rfl rfl
 by_cases h2:zb9 left w=true
 rotate_left
 ·have he:zc4 left w=.panic (zcd 190):=by simp[zc4,hr,h2]
  rw[he]at hs;refine zcx hs ?_;exact bad _ 190 _ (by simp[zbY,zbt,hr,h2]) rfl rfl
 have he:zc4 left w=.ret (psv 0 (zbv left w)):=by simp[zc4,hr,h2]
 have hC:zbt left w=0:=by simp[zbt,hr,h2]
 have hRd:zbv left w=zab left w:=by unfold zbv;rw[if_pos hr]
 have h28:=zdz left w;have hset:=h2;unfold zb9 at hset;simp only[zAQ9,decide_eq_true_eq]at hset;obtain⟨⟨⟨⟨hri,_⟩,_⟩,hmany⟩,_⟩:=hset;rw[hRd]at he h28 hri hmany;rw[he]at hs;have hT:zbY left w key=if sIs (zab left w) key=true then((2*zb4 (zab left w) key+1,zbU left w (zb4 (zab left w) key))::zcp w (zb4 (zab left w) key) (zab left w).length,0)else([],5):=by unfold zbY;rw[if_pos hC]
 have hpl:=zsl 0 (zab left w) key hri (by omega);have hfl:=zjr (zab left w) key;refine zca hs ?_;refine zN ?_;refine zI ?_;refine zca hpl ?_;refine zN ?_
 cases hI:sIs (zab left w) key with
 | false =>
  rw[hI]at hT;refine zI ?_;refine zcx (zgp 5) ?_;exact bad _ 5 _ hT rfl rfl
 | true =>
  have hlt:=zke hI;rw[hI,if_pos rfl]at hT;clear bad hs he hpl;rw[hT];generalize zb4 (zab left w) key=i at *
  have hml:2*(zab left w).length<=w.length:=by omega
  generalize (zab left w)=P at *
  refine zI ?_;refine zca (zhr 5) ?_;refine zN ?_;have hp1:=zlX i (by omega);have ha:=zrQ p w left i (by unfold za7;omega) (by omega);have hsh:=zsS p left i P.length w hw hlt hml;have hsl:(zcp w i P.length).length<=100:=by unfold zcp;rw[zAD9,zhm];simp;omega
  have hS0:¬(zcp w i P.length).length=0:=by unfold zcp;rw[zAD9];simp
  generalize zcp w i P.length=S at *
  generalize zbU left w i=ah at *
  have hput0:=FO.nil1 (H:=[]) 83 2 (zj1 (H:=[.row 83 2 0 0 []]) (idL:=0) (g:=0) (M:=0) (k:=1) (L:=[]) (more:=[2*i+1,ah]) (.inl rfl) rfl (by simp) rfl (by decide) (fun j x hx=>by
   match j with
   | 0=>simp at hx;omega
   | j+1=>rw[zBP9 (by simp;omega)]at hx;cases hx))
  have hput:=FO.own1 (H:=[.row 30 1 0 0 [.nilsl],.row 31 1 0 0 [iv 0],.row 209 2 0 0 [zfb p w left],.row 24 1 0 0 [uv (2*i+1:Nat),uv ah]]) (args:=[.nilsl,.sl 3 0 0 2 4 1]) (l:=[zBo (2*i+1,ah)]) (e0:=83) (z:=2) (n:=1) (hput0.mono fun e H' he=>⟨0,1,0,he.1,zAS9 _,he.2.2⟩) ⟨.nilsl,Frz.whole rfl rfl rfl (zAJ9 _) (fun v hv=>by simp at hv;rcases hv with rfl|rfl<;>rfl) (fun v hv=>by simp[PV.cells]at hv;rcases hv with rfl|rfl<;>exact .int _ _),trivial⟩ (fun v hv=>by simp[PV.cells]at hv;rcases hv with rfl|rfl<;>exact⟨_,_,rfl⟩) (by simp);refine zcI (fun tm=>tm 6=.ptr 0 0 0 0 1/\tm 7=.ptr 1 0 0 0 1/\tm 8=.ptr 2 0 0 0 2/\tm 9=psv 0 P/\tm 10=iv i) ⟨zt,zt,zt,zt,by simp[upd]⟩ ?_;rintro tm ⟨h6,h7,h8,h9,h10⟩;refine za ?_;refine zad ?_;refine zAZ (zr5 h6 h7 h8 h9 h10) hp1 ?_;refine zAZ (zr5 h6 h7 h8 h9 h10) ha ?_;refine zA5 (zr5 h6 h7 h8 h9 h10) hput ?_;rintro e H' ⟨g,M,rfl,hM,rfl⟩;refine⟨_,by simp only[go_sem]<;>rfl,?_⟩;refine zAZ (zr5 h6 h7 h8 h9 h10) hsh ?_;have hSb:(1+S.length)*17<=140737488355328:=by omega
  refine zA0 (zr7 h6 h7 h8 h9 h10 hSb hS0) ?_;refine zA0 (zr6 h6 h7 h8 h9 h10 hSb) ?_;refine zA0 (zr6 h6 h7 h8 h9 h10 hSb) ?_;refine zQF h6 ?_;refine zy ?_;refine⟨[.sl 4 (g+1) 0 (1+S.length) (2*(1+S.length)) 2,iv 0],by simp[T88,xT,zE,okv,upd,h6,h7,zae,zaz,zaH,zag,PV.cells],Frz.tupL ⟨?_,.int _ _,trivial⟩⟩;exact Frz.wholeM rfl (by omega) rfl (by simp;omega) (by simp;omega) (fun v hv=>by obtain⟨x,_,rfl⟩:=zAM9.1 hv;rfl) zb3
theorem f178:ET.funcs.get 178=some T178:=zH Tryz.func178
theorem f177:ET.funcs.get 177=some T177:=zH Tryz.func177
theorem f126:ET.funcs.get 126=some T126:=zH Tryz.func126
theorem f87:ET.funcs.get 87=some T87:=zH Tryz.func87
theorem f86:ET.funcs.get 86=some T86:=zH Tryz.func86
theorem f39:ET.funcs.get 39=some T39:=zH Tryz.func39
theorem zAv:ET.funcs.get 127=none:=by kernel_rfl
theorem zAw:ET.spec 127=some (ziD 83):=rfl
theorem zyP (x:Pr):Lb (zBo x):=.agg fun v hv=>by
 simp only[zAX9,zDM9,or_false]at hv;rcases hv with rfl|rfl
 ·exact .int _ _
 ·exact .int _ _
theorem zsB (x:Pr)(hx:x.1<1000000):FN ET 178 [zBo x] (.ret (zBo (x.1+8,x.2))):=by
 refine zfn f178 (zyP _) ?_;have e1:(x.1:Int)+8=((x.1+8:Nat):Int):=by omega
 refine zGF e1 ?_;refine zy ?_;refine zj (vs:=[zBo (x.1+8,x.2)]) ?_ (Frz.aggL ⟨.int _ _,.int _ _,trivial⟩);simp[T178,xT,zE,okv,upd,zae,zaz,zaH,zag,PV.cells,spl,ofC,za6]
theorem zjG (l:List Pr):(zbR l).length=l.length:=by unfold zbR;rw[zAA9]
theorem zuZ (p:Nat)(L:List Pr)(hL:L.length<1000000)(hb:∀x∈L,x.1<1000000):FO ET 177 [.list p 2 (L.map zBo),.fn 178 []] [] false fun e H'=>∃id g M,e=.ret (.sl id g 0 L.length (2*L.length) 2)/\M<=g/\H'[id]?=some (.row 83 2 g M ((zbR L).map zBo)):=by
 refine zro f177 ?_;refine zG ?_;refine zb2 83 2 (i:=4) rfl ?_;simp only[lzy,zAE9,zAF9,zAI9,zAK9];refine zG ?_;refine zB (zar (fun m s=>∃(i:Nat) (V:List Pr) (G:List zn),m=L.length-i/\i<=L.length/\V=zbR (L.take i)/\V.length=i/\s.tm 1=.fn 178 []/\s.tm 4=.sl 0 V.length 0 V.length (2*V.length) 2/\s.tm 7=.list p 2 (L.map zBo)/\s.tm 8=iv L.length/\s.tm 9=iv i/\s.df=[]/\s.H=.row 83 2 V.length 0 (V.map zBo)::G) (n:=L.length) ?_ ?_)
 ·exact⟨0,[],[],rfl,zAS9 _,rfl,rfl,zt,zt,zt,zt,zt,rfl,rfl⟩
 rintro m ⟨tm,df,H⟩ ⟨i,V,G,rfl,hi,hV,hVl,h1,h4,h7,h8,h9,rfl,rfl⟩;dsimp only at h1 h4 h7 h8 h9;(try refine zBp ?_);refine za (zAV (zr2 h8 h9) ?_);refine zwh ?_ ?_
 ·intro hlt;have hlt:i<L.length:=by have:=of_decide_eq_true hlt;omega
  obtain⟨x,hx⟩:∃x,L[i]?=some x:=⟨_,zAB9 hlt⟩
  have hxv:(L.map zBo)[i]?=some (zBo x):=by rw[zAH9,hx];rfl
  have hm:=zsB x (hb x (zAO9 hx));have hbb:(V.length+1)*17<=140737488355328:=by omega
  have hst:zbR (L.take (i+1))=zbR (L.take i)++[(x.1+8,x.2)]:=by unfold zbR;rw[zBE9,hx,zBJ9];rfl
  (repeat refine za ?_);refine zB ?_;(repeat refine za ?_);refine zAV (zr4 h7 h9 hxv hlt) ?_;refine zIF (zr2 h1 h4) ?_;refine zca hm ?_;refine zKF (zr2 h4 hbb) ?_;refine zJF h9 ?_;refine⟨_,?m1,i+1,V++[(x.1+8,x.2)],?G1,rfl,hlt,by rw[hst,hV],by rw[zAD9,hVl];rfl,zu h1,zt,zu h7,zu h8,zu h9,zt,?H1⟩
  case m1=>omega
  case H1=>(try dsimp only);rw[zAD9,zBJ9];rfl
 intro hlt;have hlt:¬i<L.length:=by have:=of_decide_eq_false hlt;omega
 obtain rfl:i=L.length:=by omega
 rw[zBG9]at hV;refine zGF h4 ?_;refine zy ?_;refine zj (vs:=[.sl 0 V.length 0 V.length (2*V.length) 2]) (by simp[T177,xT,zE,okv,upd]) ⟨0,V.length,0,by rw[hVl];try rfl,zAS9 _,by rw[hV];rfl⟩
theorem zpD (l:List Pr):zzN ((l.map zBo).flatMap PV.cells):=fun v hv=>by
 obtain⟨y,hy,hv⟩:=zBB9.1 hv;obtain⟨x,_,rfl⟩:=zAM9.1 hy;simp[PV.cells]at hv;rcases hv with rfl|rfl<;>exact⟨_,_,rfl⟩
theorem zsX (p:Nat)(L:List Pr)(hL:L.length<1000000)(h0:0<L.length)(hb:∀x∈L,x.1<1000000):FO ET 126 [.list p 2 (L.map zBo)] [] false fun e H'=>∃id g M,e=.ret (.sl id g 0 L.length (2*L.length) 2)/\M<=g/\H'[id]?=some (.row 83 2 g M ((zbR L).map zBo)):=by
 have hne:(zbR L).map zBo ≠ []:=fun h=>by
  have:=congrArg List.length h;rw[zAA9,zjG,zAF9]at this;omega
 have hE:=FO.own1 (H:=[]) (args:=[.list p 2 (L.map zBo),.fn 178 []]) (zuZ p L hL hb) ⟨.list _ _ _,Frz.fnL trivial,trivial⟩ (zpD _) hne;refine zro f126 ?_;refine zG ?_;refine zI ?_;refine zco hE ?_;rintro e H' ⟨g,M,rfl,hM,rfl⟩;refine zN ?_;refine zy ?_;exact zj (vs:=[.sl 0 g 0 L.length (2*L.length) 2]) (by simp[T126,xT,zE,okv,upd]) ⟨0,g,M,rfl,hM,rfl⟩
theorem zwj (p left key:Nat)(w:List Nat)(hw:w.length<1000000):FN ET 87 [uv left,wv p w,.elem [uv key]] (.ret (zja (zbY left w key))):=by
 refine zfn f87 (zjE _) ?_;have h:=zvq p left key w hw;refine zG ?_;refine zI ?_;refine zca h ?_;refine zP ?_;exact Frz.tupL ⟨.list _ _ _,.int _ _,trivial⟩
set_option maxHeartbeats 1000000 in
theorem zqZ (p key:Nat)(w:List Nat)(hw:w.length=64):FN ET 86 [wv p w,iv 2,.fn 87 [.elem [uv key]]] (.ret (zja (chg w 2 0 (zbY (w.getD 3 0) (w.drop 8) key)))):=by
 refine zfn f86 (zjE _) ?_;have h3:(w.map uv)[3]?=some (uv (w.getD 3 0)):=by rw[zAH9,zAB9 (by omega),zAL9,zAB9 (by omega)];rfl
 have h4:(w.map uv)[4]?=some (uv (w.getD 4 0)):=by rw[zAH9,zAB9 (by omega),zAL9,zAB9 (by omega)];rfl
 have hd:List.drop 8 (w.map uv)=(w.drop 8).map uv:=by rw[zCM9]
 have i3:3<w.length:=by omega
 have i4:4<w.length:=by omega
 have i8:8<=w.length:=by omega
 have hT:=zwj p (w.getD 3 0) key (w.drop 8) (by rw[zBT9];omega);have hsm:=fun h=>zlz (left:=w.getD 3 0) (w:=w.drop 8) (key:=key) h;have hwl:zdH w 2=if w.getD 4 0=2 then[]else[(4,2)]:=rfl;generalize zbY (w.getD 3 0) (w.drop 8) key=S at *
 obtain⟨S,no⟩:=S;dsimp only at hsm;refine zG ?_;refine zad ?_;refine zAZ (zr4 h3 hd i3 i8) hT ?_;refine zQF i3 ?_;unfold chg;rw[if_pos rfl]
 by_cases hno:no=0
 rotate_left
 ·have g:¬(no:Int)=0:=by omega
  rw[if_neg hno];refine zSF g ?_;refine zO ?_;exact Frz.tupL ⟨.nil _ _,.int _ _,trivial⟩
 have g:(no:Int)=0:=by omega
 rw[if_pos hno];obtain⟨s1,s2,s3⟩:=hsm hno;have hM:=zsX 0 S (by omega) s1 fun x hx=>by have:=s3 x hx;omega
 have hne:(zbR S).map zBo ≠ []:=fun h=>by
  have:=congrArg List.length h;rw[zAA9,zjG,zAF9]at this;omega
 have hM:=FO.own1 (H:=[]) (args:=[.list 0 2 (S.map zBo)]) hM ⟨.list _ _ _,trivial⟩ (zpD _) hne;have hml:=zjG S;generalize zbR S=N at *
 refine zTF g ?_;refine zBl ?_;show W _ _ _ _ _ _;refine zI ?_;refine zco hM ?_;rintro e H' ⟨gg,M,rfl,hM,rfl⟩;refine zN ?_;rw[hwl];have g2:¬(2:Int)=0:=by decide
 by_cases hway:w.getD 4 0=2
 ·have g4:((w.getD 4 0:Nat):Int)=2:=by omega
  rw[if_pos hway];refine zTF (zr4 h4 i4 g4 g2) ?_;refine zBl ?_;show W _ _ _ _ _ _;refine zO ?_;rw[zAK9];exact Frz.tupL ⟨Frz.wholeM rfl hM rfl (by rw[zAA9,hml]) (by rw[zAA9,hml];exact zAJ9 _) (fun v hv=>by obtain⟨x,_,rfl⟩:=zAM9.1 hv;rfl) zb3,.int _ _,trivial⟩
 ·have g4:¬((w.getD 4 0:Nat):Int)=2:=by omega
  rw[if_neg hway];have hI:=zwg (c:=(4,2)) zAv zAw (H:=[.row 83 2 gg M (N.map zBo),.row 83 2 0 0 [zBo (4,2)]]) (id:=0) (ix:=1) (L:=N) rfl hM rfl (zAJ9 _) (by decide) (by omega) (by omega);rw[hml]at hI;refine zSF (zr4 h4 i4 g4 g2) ?_;refine zI ?_;refine zco hI ?_;rintro e H' ⟨rfl,rfl⟩;refine zN ?_;refine zO ?_;exact Frz.tupL ⟨Frz.wholeM rfl (zAJ9 _) rfl (by simp[hml]) (by simp[hml]) (fun v hv=>by obtain⟨x,_,rfl⟩:=zAM9.1 hv;rfl) zb3,.int _ _,trivial⟩
theorem zvv (p key:Nat)(w:List Nat)(hw:w.length=64):FN ET 39 [wv p w,uv key] (.ret (zja (zci w key))):=by
 refine zfn f39 (zjE _) ?_;have hC:=zkp p w (by unfold za7;omega);have hX:=zqZ p key w hw;have hnT:zci w key=chg w 2 (zbi w) (zbY (w.getD 3 0) (w.drop 8) key):=rfl;rw[hnT];generalize zbi w=c at *
 generalize zbY (w.getD 3 0) (w.drop 8) key=S at *
 refine zG ?_;refine zI ?_;refine zca hC ?_;refine zN ?_
 by_cases hc:c=0
 rotate_left
 ·have g:¬(c:Int)=0:=by omega
  have e:chg w 2 c S=([],c):=by unfold chg;rw[if_neg hc]
  rw[e];refine zSF g ?_;refine zO ?_;exact Frz.tupL ⟨.nil _ _,.int _ _,trivial⟩
 have g:(c:Int)=0:=by omega
 rw[hc];refine zTF g ?_;refine zBl ?_;show W _ _ _ _ _ _;refine zI ?_;refine zcl hX ?_ ?_;(repeat(first|exact trivial|refine And.intro ?_ ?_|exact .int _ _|exact .bool _|exact .list _ _ _|exact .elem _|exact .nilsl|exact .nil _ _|exact .str _|refine Frz.aggL ?_|refine Frz.fnL ?_|refine Frz.tupL ?_|refine .iface ?_|exact zbF rfl rfl (by assumption)))
 ·refine Frz.ptr (w:=uv key) (cs:=[uv key]) rfl (zAJ9 _) rfl fun j x y hx hy=>?_
  cases j with
  | zero=>injection hx with hx;injection hy with hy;subst hx hy;exact .int _ _
  | succ j=>cases hy
 ·exact trivial
 ·exact trivial
 refine zP ?_;exact Frz.tupL ⟨.list _ _ _,.int _ _,trivial⟩
theorem f84:ET.funcs.get 84=some T84:=zH Tryz.func84
theorem zus (p key:Nat)(w:List Nat)(c:Nat)(hc:¬c=0)(hC:FN ET 125 [wv p w] (.ret (.tuple [zW 0 zd3,iv c]))):FN ET 84 [wv p w,uv key] (.ret (.tuple [iv 0,iv (c:Nat)])):=by
 refine zfn f84 (Lb.two (.int _ _) (.int _ _)) ?_;refine zG ?_;refine zI ?_;refine zca hC ?_;refine zN ?_;have g:¬(c:Int)=0:=by omega
 (repeat refine za ?_);refine zB ?_;refine zSF g ?_;refine zO ?_;exact Frz.tupL ⟨.int _ _,.int _ _,trivial⟩
set_option maxHeartbeats 1000000 in
theorem zuz (p key:Nat)(w:List Nat)(n:zC)(hpl:n.pairs.length<=28)(hk:0<n.level->∀x∈(0,n.left)::n.pairs,x.2<2048)(hC:FN ET 125 [wv p w] (.ret (.tuple [zW 0 n,iv 0]))):FN ET 84 [wv p w,uv key] (if n.level=0 then .ret (.tuple [iv 0,iv 2])else .ret (.tuple [iv (zd2 n.left n.pairs key:Nat),iv 0])):=by
 refine zfn f84 ?_ ?_
 ·split<;>exact Lb.two (.int _ _) (.int _ _)
 refine zG ?_;refine zI ?_;refine zca hC ?_;refine zN ?_;(repeat refine za ?_);refine zB ?_;refine zT ?_
 by_cases hz:n.level=0
 ·have g:(n.level:Int)=0:=by omega
  rw[if_pos hz];refine zSF g ?_;refine zO ?_;exact Frz.tupL ⟨.int _ _,.int _ _,trivial⟩
 have g:¬(n.level:Int)=0:=by omega
 have hkl:=zqA (key:=key) (hk (by omega));rw[if_neg hz];refine zTF g ?_;refine zBl ?_;refine zG ?_;refine zB (zar (fun m s=>∃(i a:Nat) (G:List zn),m=n.pairs.length-i/\i<=n.pairs.length/\zd2 n.left n.pairs key=zd2 a (n.pairs.drop i) key/\s.tm 1=uv key/\s.tm 8=uv a/\s.tm 30=psv 0 n.pairs/\s.tm 31=iv n.pairs.length/\s.tm 32=iv i/\s.df=[]/\s.H=G) (n:=n.pairs.length) ?_ ?_)
 ·exact⟨0,n.left,_,rfl,zAS9 _,rfl,zt,zt,zt,zt,zt,rfl,rfl⟩
 ·rintro m ⟨tm,df,H⟩ ⟨i,a,G,rfl,hi,hka,h1,h8,h30,h31,h32,rfl,rfl⟩;dsimp only at h1 h8 h30 h31 h32;(try refine zBp ?_);refine za (zAV (zr2 h31 h32) ?_);refine zwh ?_ ?_
  ·intro hlt;have hlt:i<n.pairs.length:=by have:=of_decide_eq_true hlt;omega
   obtain⟨q,hq⟩:∃q,n.pairs[i]?=some q:=⟨_,zAB9 hlt⟩
   have hqv:(n.pairs.map pv)[i]?=some (pv q):=by rw[zAH9,hq];rfl
   have hdr:n.pairs.drop i=q::n.pairs.drop (i+1):=by rw[zAW9 hlt];obtain⟨_,e⟩:=zAC9.1 hq;rw[e]
   rw[hdr]at hka;change _=zd2 (if q.1<=key then q.2 else a) _ key at hka;(repeat refine za ?_);refine zB ?_;(repeat refine za ?_);refine zAV (zr4 h30 h32 hqv hlt) ?_
   by_cases hle:q.1<=key
   ·have g1:(q.1:Int)<=key:=by omega
    rw[if_pos hle]at hka;(repeat refine za ?_);refine zAV (zr2 h1 g1) ?_;refine zct ?_;refine zJ ?_;refine zJF h32 ?_;refine⟨_,?m1,i+1,q.2,_,rfl,hlt,hka,zu h1,zt,zu h30,zu h31,zu h32,rfl,rfl⟩
    case m1=>omega
   ·have g1:¬(q.1:Int)<=key:=by omega
    rw[if_neg hle]at hka;(repeat refine za ?_);refine zAV (zr2 h1 g1) ?_;refine zcf ?_;refine zBl ?_;refine zJF h32 ?_;refine⟨_,?m2,i+1,a,_,rfl,hlt,hka,zu h1,zu h8,zu h30,zu h31,zu h32,rfl,rfl⟩
    case m2=>omega
  ·intro hlt;have hlt:¬i<n.pairs.length:=by have:=of_decide_eq_false hlt;omega
   obtain rfl:i=n.pairs.length:=by omega
   rw[zBM9]at hka;change _=a at hka;rw[hka]at hkl⊢;have w1:IntKind.i64.wrap (a:Int)=(a:Int):=zwi;refine zOF (zr2 h8 w1) ?_;exact Frz.tupL ⟨.int _ _,.int _ _,trivial⟩
theorem zuK (p key:Nat)(w:List Nat)(hw:za7 w.length):FN ET 84 [wv p w,uv key] (.ret (.tuple [iv ((zcv w key).1:Nat),iv ((zcv w key).2:Nat)])):=by
 have hC:=zlq p w hw;unfold zgG at hC;unfold zcv
 by_cases hc:zbi w=0
 ·rw[if_pos hc]at hC⊢;have h:=zuz p key w _ (zA2 w) (fun hl x hx=>by
   rcases zAX9.1 hx with rfl|hx
   ·exact zfX hc hl ((headN w).low,(headN w).left) (zAU9 ..)
   ·exact zfX hc hl x (zAT9 _ hx)) hC
  by_cases hz:(headN w).level=0
  ·rw[if_pos hz]at h⊢;exact h
  ·rw[if_neg hz]at h⊢;exact h
 ·rw[if_neg hc]at hC⊢;exact zus p key w _ hc hC
theorem f82:ET.funcs.get 82=some T82:=zH Tryz.func82
theorem f83:ET.funcs.get 83=some T83:=zH Tryz.func83
theorem f89:ET.funcs.get 89=some T89:=zH Tryz.func89
theorem zwV:FN ET 89 [iv 0] (.ret (.tuple [])):=by
 refine zfn f89 Lb.unit ?_;refine zI ?_;refine zca (zc6 0) ?_;refine zK ?_;exact⟨[],rfl,Frz.tupL trivial⟩
theorem zxS (e:Int)(he:¬e=0):FN ET 89 [iv e] (.panic (zcd e)):=by
 refine zfn f89 (.iface (.int _ _)) ?_;refine zIF he ?_;refine zcx (zcg e) ?_;(try(refine .iface ?_;exact .int _ _))
def frG (n:Nat):List Int->List Int->Bool
 | seen,f::l=>decide (1<=f)&&decide (f<n) && !seen.contains f&&frG n (f::seen) l
 | _,[]=>true
theorem zty {n:Nat}:∀(l seen:List Int),frG n seen l=true↔(∀i,i<l.length->zg3 n l i (l.getD i 0)=true)/\∀f∈l,f ∉ seen
 | [],seen=>by simp[frG]
 | f::l,seen=>by
  unfold frG;rw[zAQ9,zAQ9,zAQ9,zty l (f::seen)];simp only[decide_eq_true_eq,zCU9,zED9,decide_eq_false_iff_not]
  constructor
  ·rintro ⟨⟨⟨h1,h2⟩,h3⟩,h4,h5⟩;refine⟨fun i hi=>?_,fun g hg=>?_⟩
   ·cases i with
    | zero=>unfold zg3;simp[h1,h2]
    | succ i =>
     have h6:=h4 i (by simpa using hi);have hm:l.getD i 0∈l:=by rw[zAL9,zAB9 (by simpa using hi)];exact zBN9 _
     have h7:=h5 _ hm;unfold zg3 at h6⊢;rw[zGL9,zEJ9];simp only[zAQ9,decide_eq_true_eq,zCU9,zED9,decide_eq_false_iff_not]at h6⊢;exact⟨h6.1,fun hc=>by
      rcases zAX9.1 hc with e|hc
      ·exact h7 (by rw[e];exact zAU9 ..)
      ·exact h6.2 hc⟩
   ·rcases zAX9.1 hg with rfl|hg
    ·exact h3
    ·exact fun hs=>h5 g hg (zAT9 _ hs)
  ·rintro ⟨h1,h2⟩;have h0:=h1 0 (by simp);unfold zg3 at h0;simp at h0;refine⟨⟨h0,h2 f (zAU9 ..)⟩,fun i hi=>?_,fun g hg hs=>?_⟩
   ·have h6:=h1 (i+1) (by simpa using hi);unfold zg3 at h6⊢;rw[zGL9,zEJ9]at h6;simp only[zAQ9,decide_eq_true_eq,zCU9,zED9,decide_eq_false_iff_not]at h6⊢;exact⟨h6.1,fun hc=>h6.2 (zAT9 _ hc)⟩
   ·rcases zAX9.1 hs with rfl|hs
    ·obtain⟨i,hi,e⟩:=zBO9.1 hg;have h6:=h1 (i+1) (by simpa using hi);unfold zg3 at h6;rw[zGL9,zEJ9,zAL9,zAB9 hi]at h6;simp[e]at h6
    ·exact h2 g (zAT9 _ hg) hs
def zgE (T:List Lev):List Int:=(T.flatMap (·.1)).map fun b:Nat=>(b:Int)
theorem zsg (w:List Nat)(a:Nat)(fr:List Int):frG (w.length/64) (if(zbM w a).2=true then zgE (zbM w a).1 else[]) fr=zA6 w a fr:=by
 rw[zDS9,zty];unfold zA6 zfU zgR zmT;rw[zAQ9,zEQ9,zBL9];refine and_congr ⟨fun h i hi=>h i (zCT9.1 hi),fun h i hi=>h i (zCT9.2 hi)⟩ ?_
 cases (zbM w a).2 with
 | false=>simp
 | true =>
  simp only[if_true,Bool.not_true,zCH9,false_or,zBL9,zCU9,zED9,decide_eq_false_iff_not];unfold zgE
  constructor
  ·intro h L hL f hf hm;refine h f hf ?_;obtain⟨b,hb,e⟩:=zAM9.1 hm;exact zAM9.2 ⟨b,zBB9.2 ⟨L,hL,hb⟩,e⟩
  ·intro h f hf hm;obtain⟨b,hb,e⟩:=zAM9.1 hm;obtain⟨L,hL,hb⟩:=zBB9.1 hb;exact h L hL f hf (zAM9.2 ⟨b,hb,e⟩)
theorem zfq.put {mo:zn}{seen:List Int}(hs:zfq mo seen)(x:Int):(∃mm,mo=.mapI .i64 mm/\zfq (.mapI .i64 fun y=>if y=x then some (iv 1)else mm y) (x::seen))\/(mo=.map0/\zfq (.mapI .i64 fun y=>if y=x then some (iv 1)else none) (x::seen)):=by
 rcases hs with⟨rfl,rfl⟩|⟨mm,rfl,hm⟩
 ·refine .inr ⟨rfl,.inr ⟨_,rfl,fun q=>?_⟩⟩
  by_cases hq:q=x
  ·subst hq;simp
  ·simp[hq]
 ·refine .inl ⟨mm,rfl,.inr ⟨_,rfl,fun q=>?_⟩⟩
  by_cases hq:q=x
  ·subst hq;simp
  ·rw[if_neg hq,hm q];simp[hq]
theorem zfq.perm {mo:zn}{s t:List Int}(hs:zfq mo s)(h:∀x,x∈s↔x∈t):zfq mo t:=by
 rcases hs with⟨rfl,rfl⟩|⟨mm,rfl,hm⟩
 ·refine .inl ⟨rfl,?_⟩
  cases t with
  | nil=>rfl
  | cons a t=>exact absurd ((h a).2 (zAU9 ..)) (by simp)
 ·refine .inr ⟨mm,rfl,fun q=>?_⟩;rw[hm q]
  by_cases hq:q∈s
  ·rw[if_pos (by simpa using hq),if_pos (by simpa using(h q).1 hq)]
  ·rw[if_neg (by simpa using hq),if_neg (by simpa using fun hc=>hq ((h q).2 hc))]
def zqf (w:List Nat)(a:Int)(fr:List Int):FE:=if zbO w.length a=true then if zA6 w a.toNat fr=true then .ret (.tuple [])else .panic (zcd 2)else .panic (zcd 2)
set_option maxHeartbeats 4000000 in
theorem zws (p r:Nat)(w:List Nat)(a:Int)(fr:List Int)(hs:za7 w.length)(hfl:fr.length<1000000):FN ET 82 [wv p w,iv a,.list r 1 (fr.map iv)] (zqf w a fr):=by
 have hR:=zkI p w a hs;unfold zqf
 by_cases h:zbO w.length a=true
 rotate_left
 ·rw[if_neg h]at hR⊢;refine zfn f82 (.iface (.int _ _)) ?_;refine zI ?_;refine zcx hR ?_;(try(refine .iface ?_;exact .int _ _))
 rw[if_pos h]at hR⊢;have hb:=(zdR _ _).1 h;obtain⟨n,rfl⟩:∃n:Nat,a=n:=⟨a.toNat,by omega⟩
 rw[zCV9];have hrd:=ztE p w ⟨hb.1,hb.2.2.1,hb.2.1⟩ n (by omega);obtain⟨e1,e2⟩:=zeG w n;have hF:=zsg w n fr;rw[e1]at hF;obtain⟨S0,hS0⟩:∃S0,S0=(if(zac w n).2=true then zgE (zac w n).1 else[]):=⟨_,rfl⟩
 have hF:frG (w.length/64) S0 fr=zA6 w n fr:=by
  rw[<- hF,hS0]
  by_cases ht:(zac w n).2=true
  ·rw[if_pos ht,if_pos ht,e2 ht]
  ·rw[if_neg ht,if_neg ht]
 have hlf:=(zfu hb.2.2.1 14 [] [] (w.getD n 0) (-1) (fun L hL=>by simp at hL)).1;change ∀L∈(zac w n).1,zhL w L at hlf;have hT14:(zac w n).1.length<=14:=by
  have h:=zgM w 14 [] [] (w.getD n 0) (-1);change (zac w n).1.length<=0+14 at h;omega
 rw[<- hF];have hlb:LbE (if frG (w.length/64) S0 fr=true then .ret (.tuple [])else .panic (zcd 2)):=by
  split
  ·exact Lb.unit
  ·exact .iface (.int _ _)
 clear hF e1 e2 h;generalize (zac w n).1=T at *
 generalize (zac w n).2=fine at *
 refine zfn f82 hlb ?_;refine zI ?_;refine zca hR ?_;refine zN ?_;refine zG ?_;refine zI ?_;refine zca hrd ?_;refine zN ?_;refine zG ?_;(repeat refine za ?_);refine zbD (Q:=fun yy s'=>yy=.norm/\∃(mo:zn) (G:List zn),zfq mo S0/\s'.tm 0=wv p w/\s'.tm 2=.list r 1 (fr.map iv)/\s'.tm 6=.map 0/\s'.df=[]/\s'.H=mo::G) ?_ ?_
 ·cases fine with
  | false =>
   subst hS0;refine zcf ?_;refine zBl ?_;exact⟨rfl,.map0,[],.inl ⟨rfl,rfl⟩,zt,zt,zt,rfl,rfl⟩
  | true =>
   rw[if_pos rfl]at hS0;refine zct ?_;refine zG ?_;refine zB (zar (fun m s=>∃(k:Nat) (S:List Int) (mo:zn) (G:List zn),m=T.length-k/\k<=T.length/\zfq mo S/\(∀x,x∈S↔x∈zgE (T.take k))/\s.tm 0=wv p w/\s.tm 2=.list r 1 (fr.map iv)/\s.tm 6=.map 0/\s.tm 26=zbQ T/\s.tm 27=iv T.length/\s.tm 28=iv k/\s.df=[]/\s.H=mo::G) (n:=T.length) ?_ ?_)
   ·exact⟨0,[],.map0,[],rfl,zAS9 _,.inl ⟨rfl,rfl⟩,fun x=>by simp[zgE],zt,zt,zt,zt,zt,zt,rfl,rfl⟩
   rintro m ⟨tm,df,H⟩ ⟨k,S,mo,G,rfl,hk,hS,hSe,h0,h2,h6,h26,h27,h28,rfl,rfl⟩;dsimp only at h0 h2 h6 h26 h27 h28;(try refine zBp ?_);refine za (zAV (zr2 h27 h28) ?_);refine zwh ?_ ?_;rotate_left
   ·intro hlt;have hlt:¬k<T.length:=by have:=of_decide_eq_false hlt;omega
    obtain rfl:k=T.length:=by omega
    rw[zBG9]at hSe;exact⟨rfl,mo,G,hS.perm fun x=>by rw[hSe,hS0],h0,h2,h6,rfl,rfl⟩
   intro hlt;have hlt:k<T.length:=by have:=of_decide_eq_true hlt;omega
   obtain⟨L,hL⟩:∃L,T[k]?=some L:=⟨_,zAB9 hlt⟩
   have hLv:(T.map fun L=>zby 0 0 L.1 L.2)[k]?=some (zby 0 0 L.1 L.2):=by rw[zAH9,hL];rfl
   have hLf:=hlf L (zAO9 hL);have hLl:L.1.length<=2048:=by have:=hLf.lv.len;have:=hLf.few;omega
   have hst:∀x,x∈zgE (T.take (k+1))↔x∈zgE (T.take k)\/x∈L.1.map fun b:Nat=>(b:Int):=fun x=>by
    unfold zgE;rw[zBE9,hL,zCN9,zBJ9,zBI9];simp
   (repeat refine za ?_);refine zB ?_;refine zGF (zr4 h26 h28 hLv hlt) ?_;refine zcI (fun tm=>tm 0=wv p w/\tm 2=.list r 1 (fr.map iv)/\tm 6=.map 0/\tm 26=zbQ T/\tm 27=iv T.length/\tm 28=iv k/\tm 33=.list 0 1 (L.1.map fun(b:Nat)=>iv (b:Int))/\tm 34=iv L.1.length/\tm 35=iv (0:Nat)) ⟨zu h0,zu h2,zu h6,zu h26,zu h27,zu h28,zt,zt,by simp[upd]⟩ ?_;clear h0 h2 h6 h26 h27 h28;rintro tm ⟨h0,h2,h6,h26,h27,h28,h33,h34,h35⟩;refine zB (zar (fun m s=>∃(j:Nat) (S:List Int) (mo:zn) (G:List zn),m=L.1.length-j/\j<=L.1.length/\zfq mo S/\(∀x,x∈S↔x∈zgE (T.take k)\/x∈(L.1.take j).map fun b:Nat=>(b:Int))/\s.tm 0=wv p w/\s.tm 2=.list r 1 (fr.map iv)/\s.tm 6=.map 0/\s.tm 26=zbQ T/\s.tm 27=iv T.length/\s.tm 28=iv k/\s.tm 33=.list 0 1 (L.1.map fun(b:Nat)=>iv (b:Int))/\s.tm 34=iv L.1.length/\s.tm 35=iv j/\s.df=[]/\s.H=mo::G) (n:=L.1.length) ?_ ?_)
   ·exact⟨0,S,mo,_,rfl,zAS9 _,hS,fun x=>by simp[hSe],h0,h2,h6,h26,h27,h28,h33,h34,h35,rfl,rfl⟩
   clear h0 h2 h6 h26 h27 h28 h33 h34 h35 hS hSe;rintro m ⟨tm,df,H⟩ ⟨j,S,mo,G,rfl,hj,hS,hSe,h0,h2,h6,h26,h27,h28,h33,h34,h35,rfl,rfl⟩;dsimp only at h0 h2 h6 h26 h27 h28 h33 h34 h35;(try refine zBp ?_);refine za (zAV (zr2 h34 h35) ?_);refine zwh ?_ ?_;rotate_left
   ·intro hl3;have hl3:¬j<L.1.length:=by have:=of_decide_eq_false hl3;omega
    obtain rfl:j=L.1.length:=by omega
    rw[zBG9]at hSe;refine zJF h28 ?_;refine⟨_,?m1,k+1,S,mo,_,rfl,hlt,hS,fun x=>by rw[hSe,hst],zu h0,zu h2,zu h6,zu h26,zu h27,zu h28,rfl,rfl⟩
    case m1=>omega
   intro hlt2;have hlt2:j<L.1.length:=by have:=of_decide_eq_true hlt2;omega
   obtain⟨b,hb2⟩:∃b,L.1[j]?=some b:=⟨_,zAB9 hlt2⟩
   have hbv:(L.1.map fun(b:Nat)=>iv (b:Int))[j]?=some (iv b):=by rw[zAH9,hb2];rfl
   have hsx:∀x,x∈(b:Int)::S↔x∈zgE (T.take k)\/x∈(L.1.take (j+1)).map fun b:Nat=>(b:Int):=fun x=>by
    rw[zBE9,hb2,zBJ9,zBI9,zAX9,hSe];simp only[zGQ9,zCC9,zCD9,zBF9];exact⟨fun h=>by
     rcases h with h|h|h
     ·exact .inr (.inr h)
     ·exact .inl h
     ·exact .inr (.inl h),fun h=>by
     rcases h with h|h|h
     ·exact .inr (.inl h)
     ·exact .inr (.inr h)
     ·exact .inl h⟩
   (repeat refine za ?_);refine zB ?_;rcases hS.put b with⟨mm,rfl,hp⟩|⟨rfl,hp⟩
   all_goals
    refine zGF (zr4 h33 h35 hbv hlt2) ?_;refine zJF h6 ?_;refine zJF h35 ?_;refine⟨_,?m2,j+1,(b:Int)::S,_,_,rfl,hlt2,hp,hsx,zu h0,zu h2,zu h6,zu h26,zu h27,zu h28,zu h33,zu h34,zu h35,rfl,rfl⟩
    case m2=>omega
 clear hlf hS0 hT14;rintro yy ⟨tm,df,H⟩ ⟨rfl,mo,G,hS,h0,h2,h6,rfl,rfl⟩;dsimp only at h0 h2 h6;refine zGF h2 ?_;refine zB (zar (fun m s=>∃(i:Nat) (S:List Int) (mo:zn) (G:List zn),m=fr.length-i/\i<=fr.length/\zfq mo S/\frG (w.length/64) S0 fr=frG (w.length/64) S (fr.drop i)/\s.tm 0=wv p w/\s.tm 6=.map 0/\s.tm 43=.list r 1 (fr.map iv)/\s.tm 44=iv fr.length/\s.tm 45=iv i/\s.df=[]/\s.H=mo::G) (n:=fr.length) ?_ ?_)
 ·exact⟨0,S0,mo,G,rfl,zAS9 _,hS,rfl,zu h0,zu h6,zt,zt,zt,rfl,rfl⟩
 clear h0 h2 h6 hS;rintro m ⟨tm,df,H⟩ ⟨i,S,mo,G,rfl,hi,hS,hok,h0,h6,h43,h44,h45,rfl,rfl⟩;dsimp only at h0 h6 h43 h44 h45;(try refine zBp ?_);refine za (zAV (zr2 h44 h45) ?_);refine zwh ?_ ?_;rotate_left
 ·intro hlt;have hlt:¬i<fr.length:=by have:=of_decide_eq_false hlt;omega
  obtain rfl:i=fr.length:=by omega
  rw[zBM9]at hok;change _=true at hok;rw[hok];exact zl8 (E:=ET) (vs:=[]) rfl (Frz.tupL trivial)
 intro hlt;have hlt:i<fr.length:=by have:=of_decide_eq_true hlt;omega
 obtain⟨x,hx⟩:∃x,fr[i]?=some x:=⟨_,zAB9 hlt⟩
 have hxv:(fr.map iv)[i]?=some (iv x):=by rw[zAH9,hx];rfl
 have hdx:fr.drop i=x::fr.drop (i+1):=by rw[zAW9 hlt];obtain⟨_,e⟩:=zAC9.1 hx;rw[e]
 rw[hdx,frG]at hok;have q1:(w.length:Int).tdiv 64=((w.length/64:Nat):Int):=by rw[Int.tdiv_eq_ediv_of_nonneg (by omega)];omega
 (repeat refine za ?_);refine zB ?_;refine zGF (zr4 h43 h45 hxv hlt) ?_;(repeat refine za ?_);refine zAU ?_
 by_cases b1:1<=x
 rotate_left
 ·refine zAW (zr3 h0 h6 b1) ?_;refine zcx (zcg 2) ?_;exact zcP (by rw[hok];simp[b1])
 by_cases b2:x<((w.length/64:Nat):Int)
 rotate_left
 ·refine zAW (zr5 h0 h6 b1 b2 q1) ?_;refine zcx (zcg 2) ?_;exact zcP (by rw[hok,decide_eq_false b2];simp)
 cases hc:S.contains x with
 | true =>
  rcases hS with⟨rfl,rfl⟩|⟨mm,rfl,hmm⟩
  ·simp at hc
  have hq:=hmm x;rw[if_pos hc]at hq;refine zfx ?_ (by simp(disch:=omega)only[go_sem,h0,h6,b1,b2,q1,hq,e10]<;>rfl);refine zcx (zcg 2) ?_;exact zcP (by rw[hok,hc];simp)
 | false =>
  have hok2:frG (w.length/64) S0 fr=frG (w.length/64) (x::S) (fr.drop (i+1)):=by rw[hok,hc,decide_eq_true b1,decide_eq_true b2];simp
  rcases hS.put x with⟨mm,rfl,hp⟩|⟨rfl,hp⟩
  ·rcases hS with⟨h,_⟩|⟨mm',h,hmm⟩
   ·cases h
   injection h with _ h;subst h;have hq:=hmm x;rw[hc]at hq;change mm x=none at hq;refine zAW (zr6 h0 h6 b1 b2 q1 hq) ?_;refine zca (zc6 2) ?_;refine zN ?_;refine zJF h6 ?_;refine zJF h45 ?_;refine⟨_,?m3,i+1,x::S,_,_,rfl,hlt,hp,hok2,zu h0,zu h6,zu h43,zu h44,zu h45,rfl,rfl⟩
   case m3=>omega
  ·refine zAW (zr5 h0 h6 b1 b2 q1) ?_;refine zca (zc6 2) ?_;refine zN ?_;refine zJF h6 ?_;refine zJF h45 ?_;refine⟨_,?m4,i+1,x::S,_,_,rfl,hlt,hp,hok2,zu h0,zu h6,zu h43,zu h44,zu h45,rfl,rfl⟩
   case m4=>omega
theorem f44:ET.funcs.get 44=some T44:=zH Tryz.func44
def zcH (l:List Nat)(H H':List zn):Prop:=∀(id:Nat) (o:zn),id ∉ l->H[id]?=some o->H'[id]?=some o
theorem zcH.refl (l:List Nat)(H:List zn):zcH l H H:=fun _ _ _ h=>h
theorem zcH.trans {l:List Nat}{H H' H'':List zn}(h:zcH l H H')(k:zcH l H' H''):zcH l H H'':=fun id o hi ho=>k id o hi (h id o hi ho)
theorem zcH.app {l:List Nat}{H Hc:List zn}(h:zcH l H Hc)(X:List zn):zcH l H (Hc++X):=fun id o hi ho=>zbm (h id o hi ho)
theorem zcH.set {l:List Nat}{H Hc:List zn}(h:zcH l H Hc){a:Nat}(ha:a∈l)(o':zn):zcH l H (Hc.set a o'):=fun id o hi ho=>by
 rw[zAZ9 (fun e=>hi (by rw[<- e];exact ha))];exact h id o hi ho
theorem zio {H X:List zn}{a j:Nat}{o o':zn}(h:H[j]?=some o)(hne:j≠a):((H++X).set a o')[j]?=some o:=by
 rw[zAZ9 (Ne.symm hne)];exact zbm h
theorem get_set {H:List zn}{a j:Nat}{o o':zn}(h:H[j]?=some o)(hne:j≠a):(H.set a o')[j]?=some o:=by
 rw[zAZ9 (Ne.symm hne)];exact h
theorem W_H {E:Env}{caught:Tr Unit}{rnd:Option Nat}{code:zbk}{tm:Nat->PV}{df:List FD}{H:List zn}{Q:FX->FSt->Prop}(k:∀H',H'=H->W E caught rnd code ⟨tm,df,H'⟩ Q):W E caught rnd code ⟨tm,df,H⟩ Q:=k H rfl
structure Und (H:List zn)(id iW iP:Nat)(w:List Nat)(L:List Pr)(F:PV)(a:Nat):Prop where
 ex:∃gP MP MW,H[id]?=some (.row 94 5 0 0 [.agg [.sl iW 1 0 w.length (2*w.length) 1,.sl iP gP 0 L.length (2*L.length) 2,F,iv 0,iv a]])/\H[iW]?=some (.row 24 1 1 MW (w.map uv))/\MW<=1/\H[iP]?=some (.row 83 2 gP MP (L.map zBo))/\MP<=gP
 n1:id≠iW
 n2:id≠iP
 n3:iW≠iP
theorem Und.other {H H':List zn}{id iW iP:Nat}{w:List Nat}{L:List Pr}{F:PV}{a:Nat}(h:Und H id iW iP w L F a)(hs:∀j,j=id\/j=iW\/j=iP->∀o,H[j]?=some o->H'[j]?=some o):Und H' id iW iP w L F a:=by
 obtain⟨⟨gP,MP,MW,h1,h2,h3,h4,h5⟩,n1,n2,n3⟩:=h;exact⟨⟨gP,MP,MW,hs _ (.inl rfl) _ h1,hs _ (.inr (.inl rfl)) _ h2,h3,hs _ (.inr (.inr rfl)) _ h4,h5⟩,n1,n2,n3⟩
theorem Und.app {H:List zn}{id iW iP:Nat}{w:List Nat}{L:List Pr}{F:PV}{a:Nat}(h:Und H id iW iP w L F a)(X:List zn):Und (H++X) id iW iP w L F a:=h.other fun _ _ _ ho=>zbm ho
def zAF (H:List zn)(no:List Nat)(x:PV)(l:List Pr):Prop:=(∃r,x=.list r 2 (l.map zBo))\/∃idM,idM ∉ no/\x=.sl idM 0 0 l.length (2*l.length) 2/\H[idM]?=some (.row 83 2 0 0 (l.map zBo))
theorem zt1 (w:List Nat)(l:List Pr)(s:Pr):zax w (l++[s])=(zax w l).set s.1 s.2:=by unfold zax;rw[zGU9];rfl
theorem zo8 (a:Nat)(l:List Pr)(s:Pr):zaZ a (l++[s])=zaZ a l++[(a+s.1,s.2)]:=by unfold zaZ;rw[zBJ9];rfl
theorem zuC (w:List Nat)(i x:Nat):(w.map uv).set i (uv x)=(w.set i x).map uv:=by rw[zDU9]
set_option maxHeartbeats 4000000 in
theorem zj8 {H:List zn}{id iW iP:Nat}{w:List Nat}{L:List Pr}{F x:PV}{a:Nat}(hU:Und H id iW iP w L F a)(fr:Nat)(l:List Pr)(hx:zAF H [id,iW,iP] x l)(hin:∀s∈l,fr+s.1<w.length)(hw:w.length<=131072)(hL:L.length+l.length<=900000) :
  FO ET 44 [.ptr id 0 0 0 2,iv fr,x] H false fun e H'=>e=.ret (.tuple [])/\Und H' id iW iP (zax w (zaZ fr l)) (L++zaZ fr l) F a/\zcH [id,iW,iP] H H':=by
 refine zro f44 ?_;rcases hx with⟨r,hx⟩|⟨idM,hno,hx,hm⟩;rotate_left;have hM:idM ∉ [id,iW,iP]/\H[idM]?=some (.row 83 2 0 0 (l.map zBo)):=⟨hno,hm⟩
 rotate_left;have hM:True/\True:=⟨zt,trivial⟩
 all_goals
  obtain⟨hno,hm⟩:=hM;rw[hx];refine zG ?_;refine zB (zar (fun m s=>∃(i:Nat) (Hc:List zn),m=l.length-i/\i<=l.length/\Und Hc id iW iP (zax w (zaZ fr (l.take i))) (L++zaZ fr (l.take i)) F a/\zcH [id,iW,iP] H Hc/\s.tm 0=.ptr id 0 0 0 2/\s.tm 1=iv fr/\s.tm 8=x/\s.tm 9=iv l.length/\s.tm 10=iv i/\s.df=[]/\s.H=Hc) (n:=l.length) ?_ ?_)
  ·exact⟨0,H,rfl,zAS9 _,by simpa[zaZ,zax]using hU,.refl _ _,zt,zt,by simp[upd,zq,hx],zt,zt,rfl,rfl⟩
  rintro m ⟨tm,df,Hc⟩ ⟨i,Hc',rfl,hi,hUi,hk,h0,h1,h8,h9,h10,rfl,rfl⟩;dsimp only at h0 h1 h8 h9 h10 hUi hk
  by_cases hlt:i<l.length
  rotate_left
  ·have g1:¬(i:Int)<(l.length:Nat):=by omega
   (try refine zBp ?_);refine za (zAV (zr3 h9 h10 g1) ?_);refine zwh ?_ ?_
   ·intro h;cases h
   intro _;obtain rfl:i=l.length:=by omega
   rw[zBG9]at hUi;exact zl8 (E:=ET) (vs:=[]) rfl ⟨rfl,hUi,hk⟩
  have g1:(i:Int)<(l.length:Nat):=by omega
  (try refine zBp ?_);refine za (zAV (zr3 h9 h10 g1) ?_);refine zwh ?_ ?_;rotate_left
  ·intro h;cases h
  intro _;obtain⟨s,hs⟩:∃s,l[i]?=some s:=⟨_,zAB9 hlt⟩
  have hsv:(l.map zBo)[i]?=some (zBo s):=by rw[zAH9,hs];rfl
  have hsi:=hin s (zAO9 hs);have hVl:(zax w (zaZ fr (l.take i))).length=w.length:=zcZ _ _;have hKl:(L++zaZ fr (l.take i)).length=L.length+i:=by unfold zaZ;rw[zAD9,zAA9,zBA9];omega
  have eV:zax w (zaZ fr (l.take (i+1)))=(zax w (zaZ fr (l.take i))).set (fr+s.1) s.2:=by rw[zBE9,hs];exact(congrArg (zax w) (zo8 ..)).trans (zt1 ..)
  have eK:L++zaZ fr (l.take (i+1))=(L++zaZ fr (l.take i))++[(fr+s.1,s.2)]:=by rw[zBE9,hs,zAG9];exact congrArg (L++·) (zo8 ..)
  generalize zax w (zaZ fr (l.take i))=V at *
  generalize L++zaZ fr (l.take i)=K at *
  obtain⟨⟨gP,MP,MW,u1,u2,u3,u4,u5⟩,n1,n2,n3⟩:=hUi;rw[hVl]at u1;have l1:=(zAC9.1 u1).1;have l2:=(zAC9.1 u2).1;have l3:=(zAC9.1 u4).1;have w1:IntKind.i64.wrap ((s.1:Int)+(fr:Int))=((fr+s.1:Nat):Int):=zwi;(repeat refine za ?_);refine zB ?_
  first|(have hmc:=hk idM _ hno hm)|(have hmc:=u1)
  rw[hx]at h8;(repeat refine za ?_);refine zAV (zr5 h8 h10 hsv hlt hmc) ?_;(repeat refine za ?_);refine zAV (zr2 h1 w1) ?_;have x1:∀X,(Hc++X)[id]?=_:=fun X=>zbm u1;have x2:∀X,(Hc++X)[iW]?=_:=fun X=>zbm u2;have i1:fr+s.1<V.length:=by omega
  obtain⟨v0,hv0⟩:∃v0,V[fr+s.1]?=some v0:=⟨_,zAB9 i1⟩
  have i2:fr+s.1<w.length:=hsi;(repeat refine za ?_);refine zad ?_;refine zA0 (zr7 h0 x1 x2 hv0 i1 i2 u3) ?_;refine zQF h0 ?_;refine W_H fun H1 hH1=>?_;have v1:H1[id]?=some (.row 94 5 0 0 [.agg [.sl iW 1 0 w.length (2*w.length) 1,.sl iP gP 0 K.length (2*K.length) 2,F,iv 0,iv a]]):=by rw[hH1];exact zio u1 n1
  have v2:H1[iW]?=some (.row 24 1 1 1 ((V.set (fr+s.1) s.2).map uv)):=by rw[hH1,<- zuC];exact zfG u2
  have v4:H1[iP]?=some (.row 83 2 gP MP (K.map zBo)):=by rw[hH1];exact zio u4 (Ne.symm n3)
  have v7:H1[Hc.length]?=some (.row 83 2 0 0 [zBo (fr+s.1,s.2)]):=by rw[hH1,zAZ9 (by omega)];simp
  have vk:zcH [id,iW,iP] H H1:=by rw[hH1];exact(hk.app _).set (by simp) _
  clear hH1;have hbb:(K.length+1)*17<=140737488355328:=by omega
  have v4x:∀X,(H1++X)[iP]?=_:=fun X=>zbm v4;refine zad ?_;refine zA0 (zr6 h0 v1 v4x v7 hbb u5) ?_;have y1:∀X y,((H1++X).set iP y)[id]?=_:=fun X y=>zio v1 n2;have b1:(id==iP)=false:=by simpa using n2
  have b1':(iP==id)=false:=by simpa using Ne.symm n2
  have hlp:=(zAC9.1 v4).1;have b2:(H1.length==iP)=false:=by simp;omega
  have b2':(iP==H1.length)=false:=by simp;omega
  have b3:(Hc.length==iP)=false:=by simp;omega
  have b3':(iP==Hc.length)=false:=by simp;omega
  refine zda ?_ (by simp(disch:=omega)only[go_sem,h0,y1,b1,b1',b2,b2',b3,b3']<;>rfl) (by first|exact trivial|simp only[go_sem,h0,y1,b1,b1',b2,b2',b3,b3']);refine zQF h0 ?_;refine W_H fun H2 hH2=>?_;have hK1:(K++[(fr+s.1,s.2)]).length=K.length+1:=by simp
  have z1:H2[id]?=some (.row 94 5 0 0 [.agg [.sl iW 1 0 w.length (2*w.length) 1,.sl iP (gP+1) 0 (K.length+1) (2*(K.length+1)) 2,F,iv 0,iv a]]):=by
   rw[hH2];exact zBD9 (by rw[zCP9,zAD9];have:=(zAC9.1 v1).1;omega)
  have z2:H2[iW]?=some (.row 24 1 1 1 ((V.set (fr+s.1) s.2).map uv)):=by rw[hH2];exact get_set (zio v2 n3) (Ne.symm n1)
  have z4:H2[iP]?=some (.row 83 2 (gP+1) MP ((K++[(fr+s.1,s.2)]).map zBo)):=by rw[hH2,zBJ9];exact get_set (zfG v4) (Ne.symm n2)
  have zk:zcH [id,iW,iP] H H2:=by rw[hH2];exact((vk.app _).set (by simp) _).set (by simp) _
  clear hH2;refine zJF h10 ?_;refine⟨_,?m,i+1,H2,rfl,hlt,⟨⟨gP+1,MP,1,?z1,?z2,zAJ9 _,?z4,by omega⟩,n1,n2,n3⟩,zk,zu h0,zu h1,by simp[upd,h8,hx],zu h9,zu h10,rfl,rfl⟩
  case m=>omega
  case z1=>rw[eV,eK,zCP9,hVl,hK1];exact z1
  case z2=>rw[eV];exact z2
  case z4=>rw[eK];exact z4
theorem f36:ET.funcs.get 36=some T36:=zH Tryz.func36
theorem f37:ET.funcs.get 37=some T37:=zH Tryz.func37
theorem f38:ET.funcs.get 38=some T38:=zH Tryz.func38
theorem f41:ET.funcs.get 41=some T41:=zH Tryz.func41
theorem zpN {H:List zn}{iW M q:Nat}{w:List Nat}(hH:H[iW]?=some (.row 24 1 1 M (w.map uv)))(hM:M<=1)(b:Nat)(hb:64*b+64<=w.length)(hq:128<=q):Frz H 1 (.sl iW 1 (64*b) 64 q 1) (wv 1 (zA w b)):=by
 have e:((w.map uv).drop (64*b)).take 64=(zA w b).map uv:=by
  unfold zA;rw[zEM9,show 64*b+64-64*b=64 by omega,zDL9,zCM9]
 refine .sl hH hM (zAJ9 _) (by rw[zAA9];omega) hq (by rw[zAA9,zb5 _ _ hb]) (fun v hv=>by obtain⟨x,_,rfl⟩:=zAM9.1 hv;rfl) (by rw[e]) fun i x y hx hy=>?_;rw[e,hy]at hx;injection hx with hx;subst hx;obtain⟨z,hz,hv⟩:=zBB9.1 (zAO9 hy);obtain⟨n,_,rfl⟩:=zAM9.1 hz;obtain rfl:=zBF9.1 hv;exact .int _ _
theorem zu1 {H:List zn}{iW M q n:Nat}{w:List Nat}(hH:H[iW]?=some (.row 24 1 1 M (w.map uv)))(hM:M<=1)(hn:n=w.length)(hq:2*w.length<=q):Frz H 1 (.sl iW 1 0 n q 1) (wv 1 w) :=
 Frz.wholeM hH hM rfl (by rw[zAA9];exact hn) (by rw[zAA9];exact hq) (fun v hv=>by obtain⟨x,_,rfl⟩:=zAM9.1 hv;rfl) fun v hv=>by
  obtain⟨z,hz,hv⟩:=zBB9.1 hv;obtain⟨n,_,rfl⟩:=zAM9.1 hz;obtain rfl:=zBF9.1 hv;exact .int _ _
theorem zq8 {H:List zn}{iW M:Nat}{w:List Nat}(hH:H[iW]?=some (.row 24 1 1 M (w.map uv)))(hM:M<=1)(b:Nat)(hb:64*b+64<=w.length)(hw:w.length<=131072):FO ET 40 [.sl iW 1 0 w.length (2*w.length) 1,iv b] H false fun e H'=>∃q,e=.ret (.sl iW 1 (64*b) 64 q 1)/\128<=q/\H'=H:=by
 refine zro f40 ?_;have e1:(64:Int)*(b:Int)=((64*b:Nat):Int):=by omega
 have e2:((64*b:Nat):Int)+64=((64*b+64:Nat):Int):=by omega
 have e3:64*b<=64*b+64:=by omega
 refine zG ?_;have e4:2*w.length/2=w.length:=by omega
 have e5:0<2*w.length:=by omega
 have e6:64*b+64-64*b=64:=by omega
 refine zGF (zr7 e1 e2 e3 e4 e5 e6 hb) ?_;refine zy ?_;exact zj (vs:=[.sl iW 1 (64*b) 64 (2*w.length-2*(64*b)) 1]) (by simp[T40,xT,zE,okv,upd]) ⟨_,rfl,by omega,rfl⟩
theorem zu2 (p:Nat)(w:List Nat)(H:List zn)(h0:0<w.length)(hw:w.length<=131072):FO ET 83 [wv p w] H false fun e H'=>e=.ret (.sl H.length 1 0 w.length (2*w.length) 1)/\H'=H++[.row 24 1 1 0 (w.map uv)]:=by
 refine zro f83 ?_;obtain⟨y,l,hl⟩:∃y l,w.map uv=y::l:=by
  cases w with
  | nil=>exact absurd h0 (zGR9 _)
  | cons y l=>exact⟨_,_,rfl⟩
 have hlen:l.length+1=w.length:=by have:=congrArg List.length hl;rw[zAA9,zAE9]at this;omega
 show W _ _ _ _ ⟨zq [.list p 1 (w.map uv)],_,_⟩ _;rw[hl];have hb2:(l.length+1)*9<=140737488355328:=by omega
 refine zG ?_;refine zT ?_;refine zBl ?_;show W _ _ _ _ _ _;refine zGF hb2 ?_;refine zy ?_;exact zj (vs:=[.sl H.length 1 0 w.length (2*w.length) 1]) (by simp[T83,xT,zE,okv,upd,hlen]) ⟨rfl,rfl⟩
theorem zyL (H:List zn)(A F x y:PV)(n:Nat)(hn:n=H.length):∀(i:Nat) (u v:PV),(PV.agg [A,.nilsl,F,x,y]).cells[i]?=some u->(PV.agg [A,.sl n 0 0 0 0 2,F,x,y]).cells[i]?=some v->v=u\/(u=.nilsl/\v=lzy H 2):=fun i u v hu hv=>by
 subst hn
 match i with
 | 0=>left;injection hu with hu;injection hv with hv;rw[<- hu,<- hv]
 | 1=>right;injection hu with hu;injection hv with hv;exact⟨hu.symm,hv.symm⟩
 | i+2 =>
  left
  change [F,x,y][i]?=some u at hu;change [F,x,y][i]?=some v at hv;rw[hu]at hv;injection hv with hv;exact hv.symm
theorem zAy (X:List zn)(a b o:zn):((X++[a]).set X.length b++[o])[X.length]?=some b:=by rw[zo];exact zbm (zb _ _)
theorem zAx (X:List zn)(a b o:zn):((X++[a]).set X.length b++[o])[X.length+1]?=some o:=by
 rw[zo,zAP9 (by simp)];simp
theorem zkx (p r:Nat)(w:List Nat)(a:Int)(fr:List Int)(n:Nat)(H:List zn)(h1:FN ET 82 [wv p w,iv a,.list r 1 (fr.map iv)] (.panic (zcd n))):FO ET 37 [wv p w,iv a,.list r 1 (fr.map iv)] H false fun e H'=>e=.panic (zcd n)/\H'=H:=by
 refine zro f37 ?_;refine zG ?_;refine zI ?_;refine zcx h1 ?_
 all_goals first|rfl|exact⟨rfl,rfl⟩
theorem zku (p r:Nat)(w:List Nat)(a:Int)(fr:List Int)(n:Nat)(H:List zn)(h1:FN ET 82 [wv p w,iv a,.list r 1 (fr.map iv)] (.ret (.tuple [])))(h2:FN ET 60 [wv p w,iv a] (.panic (zcd n))):FO ET 37 [wv p w,iv a,.list r 1 (fr.map iv)] H false fun e H'=>e=.panic (zcd n)/\H'=H:=by
 refine zro f37 ?_;refine zG ?_;refine zI ?_;refine zca h1 ?_;refine zN ?_;refine zI ?_;refine zcx h2 ?_
 all_goals first|rfl|exact⟨rfl,rfl⟩
theorem zuk (p r:Nat)(w:List Nat)(a:Nat)(fr:List Int)(T:List Lev)(H:List zn)(h0:0<w.length)(hw:w.length<=131072)(h1:FN ET 82 [wv p w,iv a,.list r 1 (fr.map iv)] (.ret (.tuple [])))(h2:FN ET 60 [wv p w,iv a] (.ret (zbQ T))) :
  FO ET 37 [wv p w,iv a,.list r 1 (fr.map iv)] H false fun e H'=>∃id iW iP,e=.ret (.ptr id 0 0 0 5)/\Und H' id iW iP w [] (.list r 1 (fr.map iv)) a/\zdJ H H'/\H.length<=id/\H.length<=iW/\H.length<=iP:=by
 refine zro f37 ?_;have hc:=zu2 p w H h0 hw;refine zG ?_;refine zI ?_;refine zca h1 ?_;refine zN ?_;refine zI ?_;refine zca h2 ?_;refine zN ?_;refine zI ?_;refine zco hc ?_;rintro e H' ⟨rfl,rfl⟩;refine zN ?_;obtain⟨X,hX⟩:∃X,X=H++[zn.row 24 1 1 0 (w.map uv)]:=⟨_,rfl⟩
 refine zeN 83 2 (id:=X.length) (v:=.agg [.sl H.length 1 0 w.length (2*w.length) 1,.nilsl,.list r 1 (fr.map iv),iv 0,iv a]) (v':=.agg [.sl H.length 1 0 w.length (2*w.length) 1,.sl (X.length+1) 0 0 0 0 2,.list r 1 (fr.map iv),iv 0,iv a]) (by rw[hX];exact zb _ _) rfl (zyL _ _ _ _ _ _ (by rw[hX];simp)) ?_;refine zy ?_;refine zj (vs:=[.ptr X.length 0 0 0 5]) (by rw[hX];rfl) ?_;have hXl:X.length=H.length+1:=by rw[hX];simp
 have hX0:∀i o,H[i]?=some o->X[i]?=some o:=fun i o h=>by rw[hX];exact zbm h
 have hXw:X[H.length]?=some (.row 24 1 1 0 (w.map uv)):=by rw[hX];exact zb _ _
 rw[<- hX];refine⟨X.length,H.length,X.length+1,rfl,⟨⟨0,0,0,?g1,?g2,zAS9 _,?g3,zAJ9 _⟩,by omega,by omega,by omega⟩,?g4,by omega,zAJ9 _,by omega⟩
 case g1=>exact zAy _ _ _ _
 case g2=>exact zbm (get_set (zbm hXw) (by omega))
 case g3=>exact zAx _ _ _ _
 case g4=>exact fun i o ho=>zbm (get_set (zbm (hX0 i o ho)) (by have:=(zAC9.1 ho).1;omega))
theorem zp1 {H:List zn}(id:Nat)(b:Int)(n:Nat)(hn:¬n=0):FO ET 41 [.ptr id 0 0 0 5,iv b,.list 0 2 [],iv (n:Nat)] H false fun e H'=>e=.panic (zcd n)/\H'=H:=by
 refine zro f41 ?_;refine zI ?_;refine zcx (zxS n (by omega)) ?_
 all_goals first|rfl|exact⟨rfl,rfl⟩
theorem zBh {H:List zn}{id iW iP:Nat}{w:List Nat}{L:List Pr}{F:PV}{a:Nat}(hU:Und H id iW iP w L F a)(b:Nat)(l:List Pr)(hin:∀s∈l,64*b+s.1<w.length)(hb:b<1000000)(hw:w.length<=131072)(hL:L.length+l.length<=900000) :
  FO ET 41 [.ptr id 0 0 0 5,iv b,.list 0 2 (l.map zBo),iv 0] H false fun e H'=>e=.ret (.tuple [])/\Und H' id iW iP (zax w (zaZ (64*b) l)) (L++zaZ (64*b) l) F a/\zcH [id,iW,iP] H H':=by
 refine zro f41 ?_;have hd:=zj8 hU (64*b) l (.inl ⟨0,rfl⟩) hin hw hL;have e1:IntKind.i64.wrap ((64:Int)*(b:Int))=((64*b:Nat):Int):=zwi;refine zI ?_;refine zca zwV ?_;refine zN ?_;refine zIF e1 ?_;refine zco hd ?_;rintro e H' ⟨rfl,hU',hk⟩;refine zK ?_;exact⟨[],rfl,rfl,hU',hk⟩
set_option maxHeartbeats 4000000 in
theorem zw7 {H:List zn}{id iW iP:Nat}{w:List Nat}{L:List Pr}{F:PV}{a:Nat}(hU:Und H id iW iP w L F a)(key:Nat)(ws:List Nat)(hw:w.length<=131072)(ha:a<w.length)(hW:zqb w (w.getD a 0) key ws) :
  FO ET 38 [.ptr id 0 0 0 5,uv key] H false fun e H'=>zdJ H H'/\∃io g,e=.ret (.sl io g 0 ws.length (2*ws.length) 1)/\H'[io]?=some (.row 3 1 g 0 (bfl ws)):=by
 refine zro f38 ?_;have hwa:=zcE ha;obtain⟨h1,h2,h3,h4,h5⟩:=hW;generalize w.getD a 0=b0 at *
 have hne:0<ws.length:=(zAC9.1 h1).1;have hb0:=h2 b0 (zAO9 h1);have w1:IntKind.i64.wrap (b0:Int)=(b0:Int):=zwi;obtain⟨⟨gP,MP,MW,u1,u2,u3,u4,u5⟩,n1,n2,n3⟩:=hU;refine zG ?_;refine zad ?_;refine zQF (zr6 u1 u2 u3 hwa ha w1) ?_;refine zB (zar (fun m s=>∃(i:Nat) (Hc:List zn),m=ws.length-i/\i<ws.length/\zdJ H Hc/\Hc[H.length]?=some (.row 3 1 i 0 (bfl (ws.take (i+1))))/\s.tm 0=.ptr id 0 0 0 5/\s.tm 1=uv key/\s.tm 5=.sl H.length i 0 (i+1) (2*(i+1)) 1/\s.df=[]/\s.H=Hc) (n:=ws.length) ?_ ?_)
 ·refine⟨0,_,rfl,hne,(zdJ.refl H).app _,?g0,zt,zt,zt,rfl,rfl⟩
  case g0=>rw[zBE9,h1];exact zb _ _
 rintro m ⟨tm,df,Hc⟩ ⟨i,Hc',rfl,hi,hst,hro,t0,t1,t5,rfl,rfl⟩;dsimp only at t0 t1 t5 hst hro;obtain⟨b,hb⟩:∃b,ws[i]?=some b:=⟨_,zAB9 hi⟩
 have hbb:=h2 b (zAO9 hb);have hVl:(ws.take (i+1)).length=i+1:=by rw[zBA9];omega
 have hVb:(ws.take (i+1))[i]?=some b:=by rw[zBH9,if_pos (by omega)];exact hb
 have hVv:(bfl (ws.take (i+1)))[i]?=some (iv b):=by rw[zAH9,hVb];rfl
 have e0:((i+1:Nat):Int)-1=(i:Int):=by omega
 have e7:i<i+1:=by omega
 have v1:=hst _ _ u1;have v2:=hst _ _ u2;have hof:=zq8 v2 u3 b hbb hw;have hC:=zuK 1 key (zA w b) (by unfold zA za7;simp;omega);have hli:i<=20:=by omega
 (repeat refine za ?_);refine zB ?_;(repeat refine za ?_);refine zad ?_;refine zdo hof ?_ (by simp(disch:=omega)only[go_sem,t0,t1,t5,e0,e7,v1,v2,u3,hro,hVv,hVl]<;>rfl);rintro e H' ⟨q,rfl,hq,rfl⟩;refine⟨_,by simp only[go_sem]<;>rfl,?_⟩;refine zlY (s1:=?_) (caps:=?_) (vs:=?_) (nm':=?_) ?_ ?_ rfl rfl ?_ ?_ hC ?_ ?_ ?_;rotate_left 4;(first|exact trivial|(simp only[go_sem,t1]));(simp(disch:=omega)only[go_sem,t1]<;>rfl);(first|rfl|(simp only[go_sem,t1]<;>rfl));(simp only[go_sem,t1]<;>rfl);exact⟨zpN v2 u3 b hbb hq,.int _ _,trivial⟩;(simp only[go_sem,t1]<;>rfl);refine zQF t0 ?_
 by_cases hc:(zcv (zA w b) key).2=0
 rotate_left
 ·have g2:¬(((zcv (zA w b) key).2:Nat):Int)=0:=by omega
  have hlast:i+1=ws.length:=by
   apply Classical.byContradiction
   intro hne2;obtain⟨c,hc2⟩:∃c,ws[i+1]?=some c:=⟨_,zAB9 (by omega)⟩
   exact hc (by rw[h3 i b c hb hc2])
  refine zSF g2 ?_;(repeat(first|refine za ?_|refine zgo ?_ (by simp(disch:=omega)only[go_sem,t5]<;>rfl)));refine zy ?_;rw[hlast]at hro t5;rw[zBG9]at hro;exact zj (vs:=[.sl H.length i 0 ws.length (2*ws.length) 1]) (by simp[T38,xT,zE,okv,upd,hlast]) ⟨hst,_,_,rfl,hro⟩
 have g2:(((zcv (zA w b) key).2:Nat):Int)=0:=by omega
 have hnl:i+1<ws.length:=by
  apply Classical.byContradiction
  intro hge;refine h4 b ?_ hc;rw[zCJ9,show ws.length-1=i by omega];exact hb
 obtain⟨c,hc2⟩:∃c,ws[i+1]?=some c:=⟨_,zAB9 hnl⟩
 have hnx:=h3 i b c hb hc2;have hrX:∀X,(H'++X)[H.length]?=_:=fun X=>zbm hro;rw[hnx];have hbb2:(i+1+1)*9<=140737488355328:=by omega
 refine zT ?_;refine zBl ?_;(repeat refine za ?_);refine zrg ?_ (by simp(disch:=omega)only[go_sem,t5,hrX,hVl,hbb2]<;>rfl);refine zr ?_;refine⟨_,?m,i+1,_,rfl,hnl,fun j o ho=>get_set (zbm (hst j o ho)) (by have:=(zAC9.1 ho).1;omega),?g,by simp[upd,t0],by simp[upd,t1],zt,rfl,rfl⟩
 case m=>omega
 case g=>rw[zfG hro,zBE9 (i:=i+1),hc2,bfl,bfl,zBJ9];rfl
theorem f10:ET.funcs.get 10=some T10:=zH Tryz.func10
@[reducible] def zf3 (v:PV):zn:=.row 30 1 0 0 [v]
@[reducible] def zgz (v:PV):zn:=.row 3 1 0 0 [v]
@[reducible] def zg5 (v:PV):zn:=.row 25 1 0 0 [v]
@[reducible] def zgy (v:PV):zn:=.row 31 1 0 0 [v]
theorem zuj {H:List zn}{a b c:PV}(h0:H[0]?=some (zf3 a))(h1:H[1]?=some (zgz b))(h2:H[2]?=some (zg5 c)):FO ET 36 [.ptr 0 0 0 0 1,.ptr 1 0 0 0 1,.ptr 2 0 0 0 1] H false fun e H'=>e=.ret (.tuple [])/\H'=((H.set 0 (zf3 .nilsl)).set 1 (zgz (iv 0))).set 2 (zg5 .nilsl):=by
 refine zro f36 ?_;have k1:(H.set 0 (zf3 .nilsl))[1]?=some (zgz b):=get_set h1 (by decide);have k2:((H.set 0 (zf3 .nilsl)).set 1 (zgz (iv 0)))[2]?=some (zg5 c):=get_set (get_set h2 (by decide)) (by decide);refine zJF (zr3 h0 k1 k2) ?_;exact⟨[],rfl,rfl,rfl⟩
structure zcX (H:List zn)(id iW iP:Nat)(w:List Nat)(L:List Pr)(F:PV)(n:Nat)(b0 b1 b2 b3:PV):Prop where
 g0:H[0]?=some (zf3 b0)
 g1:H[1]?=some (zgz b1)
 g2:H[2]?=some (zg5 b2)
 g3:H[3]?=some (zgy b3)
 und:Und H id iW iP w L F n
 l1:4<=id
 l2:4<=iW
 l3:4<=iP
theorem zcX.app {H:List zn}{id iW iP:Nat}{w:List Nat}{L:List Pr}{F:PV}{n:Nat}{b0 b1 b2 b3:PV}(h:zcX H id iW iP w L F n b0 b1 b2 b3)(X:List zn):zcX (H++X) id iW iP w L F n b0 b1 b2 b3 :=
 ⟨zbm h.g0,zbm h.g1,zbm h.g2,zbm h.g3,h.und.app X,h.l1,h.l2,h.l3⟩
theorem Und.box {H:List zn}{id iW iP:Nat}{w:List Nat}{L:List Pr}{F:PV}{n:Nat}(h:Und H id iW iP w L F n)(k:Nat)(o:zn)(h1:k<id)(h2:k<iW)(h3:k<iP):Und (H.set k o) id iW iP w L F n :=
 h.other fun j hj o' ho=>get_set ho (by rcases hj with rfl|rfl|rfl<;>omega)
theorem zcX.set0 {H:List zn}{id iW iP:Nat}{w:List Nat}{L:List Pr}{F:PV}{n:Nat}{b0 b1 b2 b3:PV}(h:zcX H id iW iP w L F n b0 b1 b2 b3)(v:PV):zcX (H.set 0 (zf3 v)) id iW iP w L F n v b1 b2 b3 :=
 ⟨zBD9 (zAC9.1 h.g0).1,get_set h.g1 (by decide),get_set h.g2 (by decide),get_set h.g3 (by decide),h.und.box 0 _ (by have:=h.l1;omega) (by have:=h.l2;omega) (by have:=h.l3;omega),h.l1,h.l2,h.l3⟩
theorem zcX.set1 {H:List zn}{id iW iP:Nat}{w:List Nat}{L:List Pr}{F:PV}{n:Nat}{b0 b1 b2 b3:PV}(h:zcX H id iW iP w L F n b0 b1 b2 b3)(v:PV):zcX (H.set 1 (zgz v)) id iW iP w L F n b0 v b2 b3 :=
 ⟨get_set h.g0 (by decide),zBD9 (zAC9.1 h.g1).1,get_set h.g2 (by decide),get_set h.g3 (by decide),h.und.box 1 _ (by have:=h.l1;omega) (by have:=h.l2;omega) (by have:=h.l3;omega),h.l1,h.l2,h.l3⟩
theorem zcX.set2 {H:List zn}{id iW iP:Nat}{w:List Nat}{L:List Pr}{F:PV}{n:Nat}{b0 b1 b2 b3:PV}(h:zcX H id iW iP w L F n b0 b1 b2 b3)(v:PV):zcX (H.set 2 (zg5 v)) id iW iP w L F n b0 b1 v b3 :=
 ⟨get_set h.g0 (by decide),get_set h.g1 (by decide),zBD9 (zAC9.1 h.g2).1,get_set h.g3 (by decide),h.und.box 2 _ (by have:=h.l1;omega) (by have:=h.l2;omega) (by have:=h.l3;omega),h.l1,h.l2,h.l3⟩
theorem zcX.set3 {H:List zn}{id iW iP:Nat}{w:List Nat}{L:List Pr}{F:PV}{n:Nat}{b0 b1 b2 b3:PV}(h:zcX H id iW iP w L F n b0 b1 b2 b3)(v:PV):zcX (H.set 3 (zgy v)) id iW iP w L F n b0 b1 b2 v :=
 ⟨get_set h.g0 (by decide),get_set h.g1 (by decide),get_set h.g2 (by decide),zBD9 (zAC9.1 h.g3).1,h.und.box 3 _ (by have:=h.l1;omega) (by have:=h.l2;omega) (by have:=h.l3;omega),h.l1,h.l2,h.l3⟩
theorem zcX.keep {H H':List zn}{id iW iP:Nat}{w w':List Nat}{L L':List Pr}{F:PV}{n:Nat}{b0 b1 b2 b3:PV}(h:zcX H id iW iP w L F n b0 b1 b2 b3)(hU:Und H' id iW iP w' L' F n)(hk:zcH [id,iW,iP] H H'):zcX H' id iW iP w' L' F n b0 b1 b2 b3:=by
 obtain⟨g0,g1,g2,g3,_,l1,l2,l3⟩:=h;exact⟨hk 0 _ (by simp;omega) g0,hk 1 _ (by simp;omega) g1,hk 2 _ (by simp;omega) g2,hk 3 _ (by simp;omega) g3,hU,l1,l2,l3⟩
theorem zcX.stay {H H':List zn}{id iW iP:Nat}{w:List Nat}{L:List Pr}{F:PV}{n:Nat}{b0 b1 b2 b3:PV}(h:zcX H id iW iP w L F n b0 b1 b2 b3)(hk:zdJ H H'):zcX H' id iW iP w L F n b0 b1 b2 b3 :=
 ⟨hk _ _ h.g0,hk _ _ h.g1,hk _ _ h.g2,hk _ _ h.g3,h.und.other fun j _ o ho=>hk j o ho,h.l1,h.l2,h.l3⟩
theorem zyv {H:List zn}{R:PV}{tm:Nat->PV}{a b c d:PV}{n:Nat}(h0:H[0]?=some (zf3 a))(h1:H[1]?=some (zgz b))(h2:H[2]?=some (zg5 c))(h3:H[3]?=some (zgy d))(t8:tm 8=.ptr 0 0 0 0 1)(t9:tm 9=.ptr 1 0 0 0 1)(t10:tm 10=.ptr 2 0 0 0 1)(t11:tm 11=.ptr 3 0 0 0 1)(hR:R=zdq [] 0 [] n) :
  zdj ET T10 (fun e' H=>za0 H 0 e' (.ret R)) (.panic (zcd n)) ⟨tm,[.caught (.ptr 3 0 0 0 1) (.fn 36 [.ptr 0 0 0 0 1,.ptr 1 0 0 0 1,.ptr 2 0 0 0 1])],H⟩:=by
 refine⟨n,36,[.ptr 0 0 0 0 1,.ptr 1 0 0 0 1,.ptr 2 0 0 0 1],false,3,0,1,rfl,rfl,rfl,(zuj h0 h1 h2).mono fun e H' he=>?_⟩;obtain⟨rfl,rfl⟩:=he;refine⟨rfl,?_⟩;have m0:=zBD9 (a:=zf3 .nilsl) (zAC9.1 h0).1;have l1:=(zAC9.1 h1).1;have l2:=(zAC9.1 h2).1;have l3:=(zAC9.1 h3).1;have k3:(((H.set 0 (zf3 .nilsl)).set 1 (zgz (iv 0))).set 2 (zg5 .nilsl))[3]?=some (zgy d):=get_set (get_set (get_set h3 (by decide)) (by decide)) (by decide);obtain⟨H2,hH2⟩:∃H2,H2=((H.set 0 (zf3 .nilsl)).set 1 (zgz (iv 0))).set 2 (zg5 .nilsl):=⟨_,rfl⟩
 have j0:H2[0]?=some (zf3 .nilsl):=by rw[hH2];exact get_set (get_set m0 (by decide)) (by decide)
 have j1:H2[1]?=some (zgz (iv 0)):=by rw[hH2];exact get_set (zBD9 (by simpa using l1)) (by decide)
 have j2:H2[2]?=some (zg5 .nilsl):=by rw[hH2];exact zBD9 (by simpa using l2)
 have j3:H2[3]?=some (zgy d):=by rw[hH2];exact k3
 rw[<- hH2];refine⟨⟨.tuple [],H2.set 3 (zgy (iv n)),[3]⟩,by simp[zaf,j3,PV.cells,spl],[.nilsl,iv 0,.nilsl,iv n],?_,?_⟩
 ·have i0:(H2.set 3 (zgy (iv n)))[0]?=some (zf3 .nilsl):=get_set j0 (by decide);have i1:(H2.set 3 (zgy (iv n)))[1]?=some (zgz (iv 0)):=get_set j1 (by decide);have i2:(H2.set 3 (zgy (iv n)))[2]?=some (zg5 .nilsl):=get_set j2 (by decide);have i3:(H2.set 3 (zgy (iv n)))[3]?=some (zgy (iv n)):=zBD9 (zAC9.1 j3).1;simp[T10,xT,zE,okv,t8,t9,t10,t11,zae,zaz,zaH,zag,i0,i1,i2,i3,PV.cells]
 ·rw[hR];exact Frz.tupL ⟨.nil _ _,.int _ _,.nil _ _,.int _ _,trivial⟩
theorem zir (l:List Pr):zaZ 0 l=l:=by unfold zaZ;simp
set_option maxHeartbeats 4000000 in
theorem zgN (p r n key:Nat)(w:List Nat)(fr:List Int)(ws:List Nat)(leaf:Nat)(tk:List Pr×Nat)(T0 T:List Lev)(LL:Lev)(P:List Pr)(bl:List Nat)(root used no:Nat)(more:List Pr)(R:PV)
  (hN:0<w.length/\w.length<=131072) (hn:n<w.length) (h82:FN ET 82 [wv p w,iv n,.list r 1 (fr.map iv)] (.ret (.tuple []))) (h60:FN ET 60 [wv p w,iv n] (.ret (zbQ T0)))
  (hW:zqb w (w.getD n 0) key ws) (hlf:ws[ws.length-1]?=some leaf) (hwl:0<ws.length/\ws.length<=20) (hin:64*leaf+64<=w.length)
  (htk:FN ET 39 [wv 1 (zA w leaf),uv key] (.ret (zja tk))) (hta:tk.1.length<=100/\∀s∈tk.1,s.1<64)
  (hR1:¬tk.2=0->tk.1=[]/\R=zdq [] 0 [] tk.2)
  (hlv:tk.2=0->FN ET 42 [wv 1 (zax w (zaZ (64*leaf) tk.1)),iv n] (.ret (zbQ T))) (hT:T[T.length-1]?=some LL) (hTl:0<T.length/\T.length<=14) (hLL:LL.2.length<=2048)
  (hpa:FN ET 43 [zby 0 0 LL.1 LL.2] (.ret (.tuple [psv 0 P,.bool true]))) (hP:P.length<=100000)
  (hfew:tk.2=0->T.length=1\/6*LL.2.length<P.length->R=zdq (zaZ (64*leaf) tk.1) 0 [] 0)
  (hbd:tk.2=0->¬(T.length=1\/6*LL.2.length<P.length)->FN ET 26 [psv 0 P,.list r 1 (fr.map iv)] (.ret (.tuple [iv root,.list 0 2 (more.map zBo),iv used,iv no])))
  (hno:tk.2=0->¬(T.length=1\/6*LL.2.length<P.length)->¬no=0->R=zdq (zaZ (64*leaf) tk.1) 0 [] 0)
  (hbl:FN ET 17 [wv p w,iv n] (.ret (.tuple [.list 0 1 (bfl bl),iv 0])))
  (hyes:tk.2=0->¬(T.length=1\/6*LL.2.length<P.length)->no=0->(∀s∈more,s.1<w.length)/\more.length<=200000/\root<1000000/\R=zdq (zaZ (64*leaf) tk.1++more++[(n,root)]) used bl 0) (hlb:Lb R) :
  FN ET 10 [wv p w,iv n,uv key,.list r 1 (fr.map iv)] (.ret R):=by
 refine zfn f10 hlb ?_;refine zG ?_;refine zI ?_;refine zgq (f:=35) (p:=.ptr 3 0 0 0 1) (cl:=.fn 36 [.ptr 0 0 0 0 1,.ptr 1 0 0 0 1,.ptr 2 0 0 0 1]) ?_ ?_ c35 ?_
 ·rfl
 ·simp only[go_sem]<;>rfl
 refine zN ?_;refine zI ?_;refine zco (zuk p r w n fr T0 [zf3 .nilsl,zgz (iv 0),zg5 .nilsl,zgy (iv 0)] hN.1 hN.2 h82 h60) ?_;rintro e H ⟨id,iW,iP,rfl,hU,hst,l1,l2,l3⟩;refine zN ?_;have hS:zcX H id iW iP w [] (.list r 1 (fr.map iv)) n .nilsl (iv 0) .nilsl (iv 0):=⟨hst 0 _ rfl,hst 1 _ rfl,hst 2 _ rfl,hst 3 _ rfl,hU,l1,l2,l3⟩
 clear hst hU;refine zcI (fun tm=>tm 0=wv p w/\tm 1=iv n/\tm 2=uv key/\tm 3=.list r 1 (fr.map iv)/\tm 8=.ptr 0 0 0 0 1/\tm 9=.ptr 1 0 0 0 1/\tm 10=.ptr 2 0 0 0 1/\tm 11=.ptr 3 0 0 0 1/\tm 12=.ptr id 0 0 0 5) ⟨zt,zt,zt,zt,zt,zt,zt,zt,by simp[upd]⟩ ?_;rintro tm ⟨h0,h1,h2,h3,h8,h9,h10,h11,h12⟩;refine zIF (zr2 h2 h12) ?_;refine zco (zw7 hS.und key ws hN.2 hn hW) ?_;rintro e H1 ⟨hst,io,g,rfl,hio⟩;refine zN ?_
 replace hS:=hS.stay hst
 clear hst;have e1:(ws.length:Int)-1=((ws.length-1:Nat):Int):=by omega
 have e2:ws.length-1<ws.length:=by omega
 have hwv:(bfl ws)[ws.length-1]?=some (iv leaf):=by rw[zAH9,hlf];rfl
 refine zGF (zr4 hio e1 e2 hwv) ?_;refine zcI (fun tm=>tm 0=wv p w/\tm 1=iv n/\tm 2=uv key/\tm 3=.list r 1 (fr.map iv)/\tm 8=.ptr 0 0 0 0 1/\tm 9=.ptr 1 0 0 0 1/\tm 10=.ptr 2 0 0 0 1/\tm 11=.ptr 3 0 0 0 1/\tm 12=.ptr id 0 0 0 5/\tm 14=iv leaf) ⟨zu h0,zu h1,zu h2,zu h3,zu h8,zu h9,zu h10,zu h11,zu h12,by simp[upd]⟩ ?_;clear h0 h1 h2 h3 h8 h9 h10 h11 h12;rintro tm ⟨h0,h1,h2,h3,h8,h9,h10,h11,h12,h14⟩;obtain⟨⟨gP,MP,MW,u1,u2,u3,u4,u5⟩,n1,n2,n3⟩:=hS.und;refine zIF (zr3 h12 h14 u1) ?_;refine zco (zq8 u2 u3 leaf hin hN.2) ?_;rintro e H2 ⟨q,rfl,hq,rfl⟩;refine zAW h2 ?_;refine zcl htk ?_ ?_;exact⟨zpN u2 u3 leaf hin hq,.int _ _,trivial⟩;have b3:=hS.g3;refine zNF (zr2 h11 b3) ?_;refine W_H fun H3 hH3=>?_;have hS3:zcX H3 id iW iP w [] (.list r 1 (fr.map iv)) n .nilsl (iv 0) .nilsl (iv (tk.2:Nat)):=by rw[hH3];exact hS.set3 _
 clear hH3 hS hio b3 u1 u2 u3 u4 u5;refine zcI (fun tm=>tm 0=wv p w/\tm 1=iv n/\tm 3=.list r 1 (fr.map iv)/\tm 8=.ptr 0 0 0 0 1/\tm 9=.ptr 1 0 0 0 1/\tm 10=.ptr 2 0 0 0 1/\tm 11=.ptr 3 0 0 0 1/\tm 12=.ptr id 0 0 0 5/\tm 14=iv leaf/\tm 15=.list 0 2 (tk.1.map zBo)) ⟨zu h0,zu h1,zu h3,zu h8,zu h9,zu h10,zu h11,zu h12,zu h14,by simp[upd]⟩ ?_;clear h0 h1 h2 h3 h8 h9 h10 h11 h12 h14;rintro tm ⟨h0,h1,h3,h8,h9,h10,h11,h12,h14,h15⟩;have b3:=hS3.g3
 by_cases ht:tk.2=0
 rotate_left
 ·obtain⟨r1,r2⟩:=hR1 ht;rw[r1]at h15;refine zIF (zr5 h11 h12 h14 h15 b3) ?_;refine zco (zp1 (H:=H3) id leaf tk.2 ht) ?_;rintro e H4 ⟨rfl,rfl⟩;exact zyv hS3.g0 hS3.g1 hS3.g2 hS3.g3 (by simp[zcA,upd,h8]) (by simp[zcA,upd,h9]) (by simp[zcA,upd,h10]) (by simp[zcA,upd,h11]) r2
 have hlv:=hlv ht;have hfew:=hfew ht;have hbd:=hbd ht;have hno:=hno ht;have hyes:=hyes ht;rw[ht]at b3;refine zIF (zr5 h11 h12 h14 h15 b3) ?_;refine zco (zBh hS3.und leaf tk.1 (fun s hs=>by have:=hta.2 s hs;omega) (by omega) hN.2 (by simp;omega)) ?_;rintro e H4 ⟨rfl,hU,hk⟩;refine zN ?_;have hS:=hS3.keep hU hk;clear hU hk hS3 b3 hR1;rw[zAK9]at hS;have hVl:(zax w (zaZ (64*leaf) tk.1)).length=w.length:=zcZ _ _;have hLl:(zaZ (64*leaf) tk.1).length<=100:=by unfold zaZ;rw[zAA9];exact hta.1
 generalize zax w (zaZ (64*leaf) tk.1)=V at *
 generalize zaZ (64*leaf) tk.1=L1 at *
 refine zcI (fun tm=>tm 0=wv p w/\tm 1=iv n/\tm 3=.list r 1 (fr.map iv)/\tm 8=.ptr 0 0 0 0 1/\tm 9=.ptr 1 0 0 0 1/\tm 10=.ptr 2 0 0 0 1/\tm 11=.ptr 3 0 0 0 1/\tm 12=.ptr id 0 0 0 5) ⟨zu h0,zu h1,zu h3,zu h8,zu h9,zu h10,zu h11,zu h12⟩ ?_;clear h0 h1 h3 h8 h9 h10 h11 h12 h14 h15;rintro tm ⟨h0,h1,h3,h8,h9,h10,h11,h12⟩;obtain⟨⟨gP,MP,MW,u1,u2,u3,u4,u5⟩,n1,n2,n3⟩:=hS.und;refine zIF (zr3 h1 h12 u1) ?_;refine zcl hlv ?_ ?_;exact⟨zu1 u2 u3 rfl (zAJ9 _),.int _ _,trivial⟩;refine zN ?_;have hTv:(T.map fun L=>zby 0 0 L.1 L.2)[T.length-1]?=some (zby 0 0 LL.1 LL.2):=by rw[zAH9,hT];rfl
 have e3:(T.length:Int)-1=((T.length-1:Nat):Int):=by omega
 have e4:T.length-1<T.length:=by omega
 refine zGF (zr3 hTv e3 e4) ?_;refine W_H fun H5 hH5=>?_;have hS5:zcX H5 id iW iP V L1 (.list r 1 (fr.map iv)) n .nilsl (iv 0) .nilsl (iv (tk.2:Nat)):=by rw[hH5];exact hS.app _
 have b17:H5[H4.length]?=some (.row 100 2 0 0 [zby 0 0 LL.1 LL.2]):=by rw[hH5];exact zb _ _
 clear hH5 hS u1 u2 u3 u4 u5;generalize H4.length=i17 at *
 refine zIF b17 ?_;refine zca hpa ?_;refine zN ?_;refine zcI (fun tm=>tm 0=wv p w/\tm 1=iv n/\tm 3=.list r 1 (fr.map iv)/\tm 8=.ptr 0 0 0 0 1/\tm 9=.ptr 1 0 0 0 1/\tm 10=.ptr 2 0 0 0 1/\tm 11=.ptr 3 0 0 0 1/\tm 12=.ptr id 0 0 0 5/\tm 16=zbQ T/\tm 17=.ptr i17 0 0 0 2/\tm 18=psv 0 P) ⟨zu h0,zu h1,zu h3,zu h8,zu h9,zu h10,zu h11,zu h12,zt,zt,by simp[upd]⟩ ?_;clear h0 h1 h3 h8 h9 h10 h11 h12;rintro tm ⟨h0,h1,h3,h8,h9,h10,h11,h12,h16,h17,h18⟩;(repeat refine za ?_);refine zbD (Q:=fun yy s'=>yy=.norm/\s'.tm 0=wv p w/\s'.tm 1=iv n/\s'.tm 3=.list r 1 (fr.map iv)/\s'.tm 8=.ptr 0 0 0 0 1/\s'.tm 9=.ptr 1 0 0 0 1/\s'.tm 10=.ptr 2 0 0 0 1/\s'.tm 11=.ptr 3 0 0 0 1/\s'.tm 12=.ptr id 0 0 0 5/\s'.tm 18=psv 0 P/\s'.tm 82=.bool (decide (T.length=1\/6*LL.2.length<P.length))/\s'.df=[.caught (.ptr 3 0 0 0 1) (.fn 36 [.ptr 0 0 0 0 1,.ptr 1 0 0 0 1,.ptr 2 0 0 0 1])]/\s'.H=H5) (zAU ?_) ?_
 ·by_cases hT1:T.length=1
  ·have c1:=eq_true (show ((T.length:Nat):Int)=1 by omega);refine zKF (zr3 h16 h18 c1) ?_;exact⟨rfl,h0,h1,h3,h8,h9,h10,h11,h12,h18,by simp[upd,hT1],rfl,rfl⟩
  have c1:¬((T.length:Nat):Int)=1:=by omega
  have w6:IntKind.i64.wrap ((6:Int)*(LL.2.length:Int))=((6*LL.2.length:Nat):Int):=zwi
  by_cases hP6:6*LL.2.length<P.length
  ·have c2:((6*LL.2.length:Nat):Int)<(P.length:Nat):=by omega
   refine zKF (zr7 h16 h17 h18 b17 c1 c2 w6) ?_;exact⟨rfl,h0,h1,h3,h8,h9,h10,h11,h12,h18,by simp[upd,hP6],rfl,rfl⟩
  have c2:¬((6*LL.2.length:Nat):Int)<(P.length:Nat):=by omega
  refine zKF (zr7 h16 h17 h18 b17 c1 c2 w6) ?_;exact⟨rfl,h0,h1,h3,h8,h9,h10,h11,h12,h18,by simp[upd,hP6,hT1],rfl,rfl⟩
 clear h0 h1 h3 h8 h9 h10 h11 h12 h16 h17 h18;rintro yy ⟨tm,df,H⟩ ⟨rfl,h0,h1,h3,h8,h9,h10,h11,h12,h18,h82,rfl,rfl⟩;dsimp only at h0 h1 h3 h8 h9 h10 h11 h12 h18 h82 hS5;have hl1:=hS5.l1;have hl2:=hS5.l2;have hl3:=hS5.l3
 by_cases hf:T.length=1\/6*LL.2.length<P.length
 ·rw[decide_eq_true hf]at h82;refine zct ?_ (by simp only[go_sem,h82]<;>rfl);obtain⟨⟨gP,MP,MW,u1,u2,u3,u4,u5⟩,n1,n2,n3⟩:=hS5.und;have b0:=hS5.g0;have b1:=hS5.g1;have b2:=hS5.g2;have b3:=hS5.g3;have k1:∀y,(H.set 0 y)[1]?=_:=fun y=>get_set b1 (by decide);have k2:∀y z,((H.set 0 y).set 1 z)[2]?=_:=fun y z=>get_set (get_set b2 (by decide)) (by decide);have k3:∀y z u,(((H.set 0 y).set 1 z).set 2 u)[3]?=_:=fun y z u=>get_set (get_set (get_set b3 (by decide)) (by decide)) (by decide);(repeat(first|refine za ?_|refine zgo ?_ (by simp(disch:=omega)only[go_sem,h8,h9,h10,h11,h12,u1,b0,k1,k2,k3]<;>rfl)));refine W_H fun H6 hH6=>?_;have hS6:zcX H6 id iW iP V L1 (.list r 1 (fr.map iv)) n (.sl iP gP 0 L1.length (2*L1.length) 2) (iv 0) .nilsl (iv 0):=by rw[hH6];exact(((hS5.set0 _).set1 _).set2 _).set3 _
  have u6:H6[iP]?=some (.row 83 2 gP MP (L1.map zBo)):=by rw[hH6];exact get_set (get_set (get_set (get_set u4 (by omega)) (by omega)) (by omega)) (by omega)
  clear hH6;refine zy ?_;refine⟨[.sl iP gP 0 L1.length (2*L1.length) 2,iv 0,.nilsl,iv 0],by simp[T10,xT,zE,okv,upd,h8,h9,h10,h11,zae,zaz,zaH,zag,hS6.g0,hS6.g1,hS6.g2,hS6.g3,PV.cells],?_⟩;rw[hfew hf];exact Frz.tupL ⟨Frz.wholeM u6 u5 rfl (by rw[zAA9]) (by rw[zAA9];exact zAJ9 _) (fun v hv=>by obtain⟨x,_,rfl⟩:=zAM9.1 hv;rfl) zb3,.int _ _,.nil _ _,.int _ _,trivial⟩
 rw[decide_eq_false hf]at h82;have hbd:=hbd hf;refine zcf ?_ (by simp only[go_sem,h82]<;>rfl);refine zBl ?_;show W _ _ _ _ _ _;refine zIF (zr2 h3 h18) ?_;refine zca hbd ?_;have b1:=hS5.g1;have b3:=hS5.g3;have k3:∀y,(H.set 1 y)[3]?=_:=fun y=>get_set b3 (by decide);refine zfx ?_ (by simp(disch:=omega)only[go_sem,h9,h11,b1,k3]<;>rfl);refine zh ?_;refine W_H fun H6 hH6=>?_;have hS6:zcX H6 id iW iP V L1 (.list r 1 (fr.map iv)) n .nilsl (iv used) .nilsl (iv no):=by rw[hH6];exact(hS5.set1 _).set3 _
 clear hH6 hS5 b1 b3 k3 b17;refine zcI (fun tm=>tm 0=wv p w/\tm 1=iv n/\tm 8=.ptr 0 0 0 0 1/\tm 9=.ptr 1 0 0 0 1/\tm 10=.ptr 2 0 0 0 1/\tm 11=.ptr 3 0 0 0 1/\tm 12=.ptr id 0 0 0 5/\tm 20=iv root/\tm 21=.list 0 2 (more.map zBo)) ⟨zu h0,zu h1,zu h8,zu h9,zu h10,zu h11,zu h12,zt,by simp[upd]⟩ ?_;clear h0 h1 h3 h8 h9 h10 h11 h12 h18 h82;rintro tm ⟨h0,h1,h8,h9,h10,h11,h12,h20,h21⟩;have b3:=hS6.g3
 by_cases hno0:no=0
 rotate_left
 ·have g:¬(no:Int)=0:=by omega
  refine zSF (zr3 h11 b3 g) ?_;obtain⟨⟨gP,MP,MW,u1,u2,u3,u4,u5⟩,n1,n2,n3⟩:=hS6.und;have b0:=hS6.g0;have b1:=hS6.g1;have b2:=hS6.g2;have k1:∀y,(H6.set 0 y)[1]?=_:=fun y=>get_set b1 (by decide);have k2:∀y z,((H6.set 0 y).set 1 z)[2]?=_:=fun y z=>get_set (get_set b2 (by decide)) (by decide);have k3:∀y z u,(((H6.set 0 y).set 1 z).set 2 u)[3]?=_:=fun y z u=>get_set (get_set (get_set b3 (by decide)) (by decide)) (by decide);(repeat(first|refine za ?_|refine zgo ?_ (by simp(disch:=omega)only[go_sem,h8,h9,h10,h11,h12,u1,b0,k1,k2,k3]<;>rfl)));refine W_H fun H7 hH7=>?_;have hS7:zcX H7 id iW iP V L1 (.list r 1 (fr.map iv)) n (.sl iP gP 0 L1.length (2*L1.length) 2) (iv 0) .nilsl (iv 0):=by rw[hH7];exact(((hS6.set0 _).set1 _).set2 _).set3 _
  have u6:H7[iP]?=some (.row 83 2 gP MP (L1.map zBo)):=by rw[hH7];exact get_set (get_set (get_set (get_set u4 (by omega)) (by omega)) (by omega)) (by omega)
  clear hH7;refine zy ?_;refine⟨[.sl iP gP 0 L1.length (2*L1.length) 2,iv 0,.nilsl,iv 0],by simp[T10,xT,zE,okv,upd,h8,h9,h10,h11,zae,zaz,zaH,zag,hS7.g0,hS7.g1,hS7.g2,hS7.g3,PV.cells],?_⟩;rw[hno hf hno0];exact Frz.tupL ⟨Frz.wholeM u6 u5 rfl (by rw[zAA9]) (by rw[zAA9];exact zAJ9 _) (fun v hv=>by obtain⟨x,_,rfl⟩:=zAM9.1 hv;rfl) zb3,.int _ _,.nil _ _,.int _ _,trivial⟩
 obtain⟨m1,m2,m3,m4⟩:=hyes hf hno0;rw[hno0]at b3;refine zTF (zr2 h11 b3) ?_;refine zBl ?_;show W _ _ _ _ _ _;have b2:=hS6.g2;refine zIF (zr2 h0 h1) ?_;refine zca hbl ?_;refine zNF (zr2 h10 b2) ?_;refine W_H fun H7 hH7=>?_;have hS7:zcX H7 id iW iP V L1 (.list r 1 (fr.map iv)) n .nilsl (iv used) (.list 0 1 (bfl bl)) (iv no):=by rw[hH7];exact hS6.set2 _
 clear hH7 hS6 b2 b3;refine zIF (zr2 h12 h21) ?_;refine zco (zj8 hS7.und 0 more (.inl ⟨0,rfl⟩) (fun s hs=>by have:=m1 s hs;omega) (by omega) (by omega)) ?_;rintro e H8 ⟨rfl,hU,hk⟩;refine zN ?_;have hS8:=hS7.keep hU hk;rw[zir]at hS8;clear hU hk hS7;have hVl2:(zax V more).length=w.length:=(zcZ _ _).trans hVl;have hLl2:(L1++more).length<=200100:=by rw[zAD9];omega
 have w1:IntKind.u64.wrap (root:Int)=(root:Int):=zwu;have e5:L1++more++[(n,root)]=(L1++more)++zaZ 0 [(n,root)]:=by rw[zir]
 rw[e5]at m4;generalize L1++more=L2 at *
 generalize zax V more=V2 at *
 have hH8:=hS8.l3;have hlp:H8.length ∉ [id,iW,iP]:=by
  obtain⟨⟨gP,MP,MW,u1,u2,u3,u4,u5⟩,n1,n2,n3⟩:=hS8.und;have q1:=(zAC9.1 u1).1;have q2:=(zAC9.1 u2).1;have q3:=(zAC9.1 u4).1;simp;omega
 refine zIF (zr4 h1 h12 h20 w1) ?_;refine zco (zj8 (hS8.und.app [.row 83 2 0 0 [zBo (n,root)]]) 0 [(n,root)] (.inr ⟨H8.length,hlp,rfl,zb _ _⟩) (fun s hs=>by obtain rfl:=zBF9.1 hs;dsimp only;omega) (by omega) (by simp;omega)) ?_;rintro e H9 ⟨rfl,hU,hk⟩;refine zN ?_;have hS9:=(hS8.app [.row 83 2 0 0 [zBo (n,root)]]).keep hU hk;clear hU hk hS8 hlp;generalize L2++zaZ 0 [(n,root)]=L3 at *
 generalize zax V2 (zaZ 0 [(n,root)])=V3 at *
 have hl1:=hS9.l1;obtain⟨⟨gP,MP,MW,u1,u2,u3,u4,u5⟩,n1,n2,n3⟩:=hS9.und;have b0:=hS9.g0;have b1:=hS9.g1;have b2:=hS9.g2;have b3:=hS9.g3;have k1:∀y,(H9.set 0 y)[1]?=_:=fun y=>get_set b1 (by decide);have k2:∀y z,((H9.set 0 y).set 1 z)[2]?=_:=fun y z=>get_set (get_set b2 (by decide)) (by decide);have k3:∀y z u,(((H9.set 0 y).set 1 z).set 2 u)[3]?=_:=fun y z u=>get_set (get_set (get_set b3 (by decide)) (by decide)) (by decide);(repeat refine za ?_);refine zad ?_;refine zda ?_ (by simp(disch:=omega)only[go_sem,h8,h9,h10,h11,h12,u1,b0,b1,b2,k1,k2,k3]<;>rfl);refine zda ?_ (by simp(disch:=omega)only[go_sem,h8,h9,h10,h11,h12,k1,k2,k3]<;>rfl);refine zda ?_ (by simp(disch:=omega)only[go_sem,h8,h9,h10,h11,h12,k1,k2,k3]<;>rfl);refine zda ?_ (by simp(disch:=omega)only[go_sem,h8,h9,h10,h11,h12,k1,k2,k3]<;>rfl);refine zQF h8 ?_;have hl2:=hS9.l2;have hl3:=hS9.l3;refine W_H fun H7 hH7=>?_;have hS7:zcX H7 id iW iP V3 L3 (.list r 1 (fr.map iv)) n (.sl iP gP 0 L3.length (2*L3.length) 2) (iv used) (.list 0 1 (bfl bl)) (iv 0):=by rw[hH7];exact(((hS9.set0 _).set1 _).set2 _).set3 _
 have u6:H7[iP]?=some (.row 83 2 gP MP (L3.map zBo)):=by rw[hH7];exact get_set (get_set (get_set (get_set u4 (by omega)) (by omega)) (by omega)) (by omega)
 clear hH7;refine zy ?_;refine⟨[.sl iP gP 0 L3.length (2*L3.length) 2,iv used,.list 0 1 (bfl bl),iv 0],by simp[T10,xT,zE,okv,upd,h8,h9,h10,h11,zae,zaz,zaH,zag,hS7.g0,hS7.g1,hS7.g2,hS7.g3,PV.cells],?_⟩;rw[m4];exact Frz.tupL ⟨Frz.wholeM u6 u5 rfl (by rw[zAA9]) (by rw[zAA9];exact zAJ9 _) (fun v hv=>by obtain⟨x,_,rfl⟩:=zAM9.1 hv;rfl) zb3,.int _ _,.list _ _ _,.int _ _,trivial⟩
theorem zhb (p r:Nat)(w:List Nat)(a:Int)(key:Nat)(fr:List Int)(no:Nat)(h:∀H,FO ET 37 [wv p w,iv a,.list r 1 (fr.map iv)] H false fun e H'=>e=.panic (zcd no)/\H'=H):FN ET 10 [wv p w,iv a,uv key,.list r 1 (fr.map iv)] (.ret (zdq [] 0 [] no)):=by
 refine zfn f10 (zd8 _ _ _ _) ?_;refine zG ?_;refine zI ?_;refine zgq (f:=35) (p:=.ptr 3 0 0 0 1) (cl:=.fn 36 [.ptr 0 0 0 0 1,.ptr 1 0 0 0 1,.ptr 2 0 0 0 1]) ?_ ?_ c35 ?_
 ·rfl
 ·simp only[go_sem]<;>rfl
 refine zN ?_;refine zI ?_;refine zco (h [zf3 .nilsl,zgz (iv 0),zg5 .nilsl,zgy (iv 0)]) ?_;rintro e H ⟨rfl,rfl⟩;exact zyv rfl rfl rfl rfl (by simp[zcA,upd]) (by simp[zcA,upd]) (by simp[zcA,upd]) (by simp[zcA,upd]) rfl
end Fv
end Go.Proofs.YtfomlmhnmheenaaGreat
