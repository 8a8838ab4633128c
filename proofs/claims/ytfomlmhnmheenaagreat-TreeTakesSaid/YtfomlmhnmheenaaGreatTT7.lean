/- part 7 of the proof of tree_takes. -/
import Derived.Test.YtfomlmhnmheenaaGreatTT6
set_option linter.unusedSimpArgs false
set_option linter.unusedVariables false
namespace Go.Proofs.YtfomlmhnmheenaaGreat
namespace Fv
open Tw
theorem zjn.next {p:List Pr}{free:List Nat}(hf:zoi free=true){l:List zC}{used:Nat}{T:List Lev}(hi:zjn p free l used T)(hu:¬free.length<used+l.length)(ho:¬l.length=1) :
  zjn p free (zb7 (T.length+1) ((l.map zC.low).zip ((free.drop used).take l.length))) (used+l.length) (((free.drop used).take l.length,zbq ((free.drop used).take l.length) l)::T):=by
 obtain⟨h1,h2,h3,h4,h5,h6,h7,h8⟩:=hi.level hf hu;have hbd:=hi.bndL;have hlvl:=hi.lvl;have hne0:0<l.length:=zBV9.2 hi.ok.ne;have hT1:T.length<=1:=by
  rcases zCY9 T.length 2 with h|h
  ·omega
  ·have e:T.length=2:=by omega
   rw[e]at hbd;simp[Fv.bndL]at hbd;omega
 obtain⟨k1,k2,k3⟩:=zeS _ _ h1;generalize hbs:(free.drop used).take l.length=bs at *
 have hzl:((l.map zC.low).zip bs).length=l.length:=by simp[h1]
 have hms:((l.map zC.low).zip bs).map Prod.snd=bs:=List.map_snd_zip (by simp[h1]);have hg:∀(i:Nat) (x:Pr),((l.map zC.low).zip bs)[i]?=some x->∃n,l[i]?=some n/\x.1=n.low:=by
  intro i x hx;rw[zDI9]at hx;have h1:=hx.1;rw[zAH9]at h1
  cases hn:l[i]? with
  | none=>rw[hn]at h1;cases h1
  | some n=>rw[hn]at h1;injection h1 with h1;exact⟨n,rfl,h1.symm⟩
 have hz0:(((l.map zC.low).zip bs).getD 0 (0,0)).1=0:=by
  obtain⟨n,hn,e⟩:=hg 0 _ (get_lt _ (by omega));rw[e];exact hi.ok.low0 n hn
 have hrz:zbn ((l.map zC.low).zip bs)=true:=by
  rw[zec];intro i x y hx hy;obtain⟨n,hn,e⟩:=hg i x hx;obtain⟨m,hm,e2⟩:=hg _ y hy;rw[e,e2];exact hi.ok.rise i n m hn hm
 have hab:=zpg (lv:=T.length+1) (ks:=(l.map zC.low).zip bs) ⟨by omega,by omega⟩ (by intro e;rw[e]at hzl;simp at hzl;omega) hrz hz0 (by rw[hms];exact h5) (fun x hx=>h4 x.2 (zES9 hx).2);refine⟨hab.1,⟨?_,h7⟩,h8,?_,h6,by omega,?_,by simp;omega⟩
 ·rw[hab.2];unfold zcU;rw[k2]
 ·intro M hM;rcases zAX9.1 hM with rfl|hM
  ·exact h1.trans (zcV _ _ h1).symm
  ·exact hi.len M hM
 ·rw[zef,hzl];show _<=Fv.bndL (T.length+1)
  match hT:T.length,hT1 with
  | 0,_=>rw[hT]at hbd;simp[Fv.bndL]at hbd⊢;omega
  | 1,_=>rw[hT]at hbd;simp[Fv.bndL]at hbd⊢;omega
end Fv
end Go.Proofs.YtfomlmhnmheenaaGreat
namespace Go.Proofs.YtfomlmhnmheenaaGreat
namespace Fv
open Tw


set_option maxRecDepth 100000
theorem f26:ET.funcs.get 26=some T26:=zH Tryz.func26
theorem f67:ET.funcs.get 67=some T67:=zH Tryz.func67
@[reducible] def zjD (n:Nat):FE:=.ret (.tuple [iv 0,.list 0 2 (([]:List Pr).map zBo),iv 0,iv n])
@[reducible] def bOk (T:List Lev):FE:=.ret (.tuple [iv (zhz T),.list 0 2 ((zcD T.reverse).map zBo),iv (T.reverse.flatMap Prod.fst).length,iv 0])
def zcK (l:List Pr)(fr:List Int):FE:=if okP l&&okI [] fr then match zex l (fr.map Int.toNat)with
 | none=>zjD 221
 | some T=>bOk T else zjD 2
theorem zzz (a b c:PV)(r3:zn)(R:List zn):FO ET 67 [.ptr 0 0 0 0 1,.ptr 1 0 0 0 1,.ptr 2 0 0 0 1] (.row 3 1 0 0 [a]::.row 30 1 0 0 [b]::.row 3 1 0 0 [c]::r3::R) false fun e H'=>e=.ret (.tuple [])/\H'=.row 3 1 0 0 [iv 0]::.row 30 1 0 0 [.nilsl]::.row 3 1 0 0 [iv 0]::r3::R:=by
 refine zro f67 ?_;refine zJ ?_;exact⟨[],rfl,rfl,rfl⟩
theorem zc9 (l:List Pr):Lb (.list 0 2 (l.map zBo)):=.list fun x hx=>by
 obtain⟨y,hy,hx⟩:=zBB9.1 hx;obtain⟨n,_,rfl⟩:=zAM9.1 hy;simp[PV.cells]at hx;rcases hx with rfl|rfl<;>exact .int _ _
theorem Lb.four {a b c d:PV}(ha:Lb a)(hb:Lb b)(hc:Lb c)(hd:Lb d):Lb (.tuple [a,b,c,d]):=.tuple fun v hv=>by
 simp at hv;rcases hv with h|h|h|h<;>subst h<;>assumption
theorem zrw (l:List Pr)(fr:List Int):LbE (zcK l fr):=by
 unfold zcK
 split
 ·split
  ·exact Lb.four (.int _ _) (zc9 _) (.int _ _) (.int _ _)
  ·exact Lb.four (.int _ _) (zc9 _) (.int _ _) (.int _ _)
 ·exact Lb.four (.int _ _) (zc9 _) (.int _ _) (.int _ _)
set_option maxHeartbeats 4000000 in
theorem zya (p q:Nat)(l:List Pr)(fr:List Int)(hl:l.length<=500)(hfr:fr.length<=2000):FN ET 26 [psv p l,.list q 1 (fr.map iv)] (zcK l fr):=by
 refine zfn f26 (zrw l fr) ?_;refine zG ?_;refine zI ?_;refine zgq (f:=35) (p:=.ptr 3 0 0 0 1) (cl:=.fn 67 [.ptr 0 0 0 0 1,.ptr 1 0 0 0 1,.ptr 2 0 0 0 1]) ?_ ?_ c35 ?_
 ·rfl
 ·simp only[go_sem]<;>rfl
 refine zN ?_;refine zG ?_;have bad:∀(tm:Nat->PV) (n:Nat) (a b c:PV) (R:List zn),zcK l fr=zjD n->tm 4=.ptr 0 0 0 0 1->tm 5=.ptr 1 0 0 0 1->tm 6=.ptr 2 0 0 0 1->tm 7=.ptr 3 0 0 0 1->zdj ET T26 (fun e' H=>za0 H 0 e' (zcK l fr)) (.panic (zcd n)) ⟨tm,[.caught (.ptr 3 0 0 0 1) (.fn 67 [.ptr 0 0 0 0 1,.ptr 1 0 0 0 1,.ptr 2 0 0 0 1])],.row 3 1 0 0 [a]::.row 30 1 0 0 [b]::.row 3 1 0 0 [c]::.row 31 1 0 0 [iv 0]::R⟩:=fun tm n a b c R hn h4 h5 h6 h7=>by
  refine⟨n,67,[.ptr 0 0 0 0 1,.ptr 1 0 0 0 1,.ptr 2 0 0 0 1],false,3,0,1,rfl,rfl,rfl,(zzz a b c _ R).mono fun e H he=>?_⟩;obtain⟨rfl,rfl⟩:=he;refine⟨rfl,_,rfl,[iv 0,.nilsl,iv 0,iv n],?_,?_⟩
  ·simp[T26,xT,zE,okv,h4,h5,h6,h7,zae,zaz,zaH,zag];rfl
  ·rw[hn];exact Frz.tupL ⟨.int _ _,.nil _ _,.int _ _,.int _ _,trivial⟩
 refine zfH 83 2 (id:=1) rfl ?_;simp only[lzy,zAE9,zAF9,zCI9,zCK9,zAI9,zAK9];refine zyd _ _ _ _ _ _ p l (by omega) _ _ [] (by simp[upd,zq]) (by simp[upd,zq]) (by simp[upd,zq]) (by simp[upd,zq]) (by simp[upd,zq]) (fun hok tm' m4 G hfr0=>?_) (fun tm1 m4 G1 hokP hf1=>?_)
 ·exact bad _ 2 _ _ _ _ (by unfold zcK;rw[hok];rfl) ((hfr0 4 (by decide)).trans (by simp[upd])) ((hfr0 5 (by decide)).trans (by simp[upd])) ((hfr0 6 (by decide)).trans (by simp[upd])) ((hfr0 7 (by decide)).trans (by simp[upd]))
 have k0:tm1 0=psv p l:=(hf1 0 (by decide) (by decide) (by decide)).trans (by simp[upd,zq]);have k1:tm1 1=.list q 1 (fr.map iv):=(hf1 1 (by decide) (by decide) (by decide)).trans (by simp[upd,zq]);have k4:tm1 4=.ptr 0 0 0 0 1:=(hf1 4 (by decide) (by decide) (by decide)).trans (by simp[upd,zq]);have k5:tm1 5=.ptr 1 0 0 0 1:=(hf1 5 (by decide) (by decide) (by decide)).trans (by simp[upd,zq]);have k6:tm1 6=.ptr 2 0 0 0 1:=(hf1 6 (by decide) (by decide) (by decide)).trans (by simp[upd,zq]);have k7:tm1 7=.ptr 3 0 0 0 1:=(hf1 7 (by decide) (by decide) (by decide)).trans (by simp[upd,zq]);have k9:tm1 9=.map 5:=(hf1 9 (by decide) (by decide) (by decide)).trans (by simp[upd,zq]);clear hf1;(repeat refine za ?_);(repeat refine za ?_);refine zAV k1 ?_;refine zxN _ _ _ _ _ _ q fr (by omega) _ _ G1 (by simp[upd,k9]) (by simp[upd]) (by simp[upd]) (by simp[upd]) (fun hok tm' m5 G hfr0=>?_) (fun tm2 m5 G2 hokI hf2=>?_)
 ·exact bad _ 2 _ _ _ _ (by unfold zcK;rw[hok,zGM9];rfl) ((hfr0 4 (by decide)).trans (by simp[upd,k4])) ((hfr0 5 (by decide)).trans (by simp[upd,k5])) ((hfr0 6 (by decide)).trans (by simp[upd,k6])) ((hfr0 7 (by decide)).trans (by simp[upd,k7]))
 have j0:tm2 0=psv p l:=(hf2 0 (by decide) (by decide)).trans (by simp[upd,k0]);have j1:tm2 1=.list q 1 (fr.map iv):=(hf2 1 (by decide) (by decide)).trans (by simp[upd,k1]);have j4:tm2 4=.ptr 0 0 0 0 1:=(hf2 4 (by decide) (by decide)).trans (by simp[upd,k4]);have j5:tm2 5=.ptr 1 0 0 0 1:=(hf2 5 (by decide) (by decide)).trans (by simp[upd,k5]);have j6:tm2 6=.ptr 2 0 0 0 1:=(hf2 6 (by decide) (by decide)).trans (by simp[upd,k6]);have j7:tm2 7=.ptr 3 0 0 0 1:=(hf2 7 (by decide) (by decide)).trans (by simp[upd,k7]);clear hf2 k0 k1 k4 k5 k6 k7 k9;obtain⟨free,rfl,hokF⟩:=zjy hokI;have hfree:(free.map fun(b:Nat)=>(b:Int)).map Int.toNat=free:=by rw[zDH9];exact zFU9 free
 have hbE:zcK l (free.map fun(b:Nat)=>(b:Int))=match zex l free with
   | none=>zjD 221
   | some T=>bOk T:=by unfold zcK;rw[hokP,hokI,hfree];rfl
 have hfv:(free.map fun(b:Nat)=>(b:Int)).map iv=bfl free:=by rw[zDH9];rfl
 rw[hfv]at j1;have hfl:free.length<=2000:=by simpa using hfr
 rw[hbE]at bad⊢;(repeat refine za ?_);refine zAU ?_;refine zAW j0 ?_;refine zbz (by first|rfl|(simp only[go_sem]<;>rfl)) (by simp only[go_sem]<;>rfl) (zwE p l (by omega)) rfl ?_ ?_;(repeat(first|exact trivial|refine And.intro ?_ ?_|exact Id0.int _ _|exact Id0.bool _|exact Id0.list _ _ _|exact Id0.elem _|exact Id0.nilsl|exact Id0.str _|exact zbE _ _ _));refine zN ?_;refine zG ?_;have hff:=(zfE free).1 hokF;refine zB (zar (fun m s=>∃(k:Nat) (nl:List zC) (used:Nat) (T:List Lev) (z:Nat) (V:List PV) (G:List zn),m=k/\1<=k/\3<=k+T.length/\zjn l free nl used T/\zex l free=zg6 free k nl used T/\used=(T.reverse.flatMap Prod.fst).length/\V=(zcD T.reverse).map zBo/\V.length=64*used/\s.tm 1=.list q 1 (bfl free)/\s.tm 4=.ptr 0 0 0 0 1/\s.tm 5=.ptr 1 0 0 0 1/\s.tm 6=.ptr 2 0 0 0 1/\s.tm 7=.ptr 3 0 0 0 1/\s.tm 14=.list 0 6 (nl.map (zW z))/\s.tm 15=iv (T.length+1:Nat)/\s.df=[.caught (.ptr 3 0 0 0 1) (.fn 67 [.ptr 0 0 0 0 1,.ptr 1 0 0 0 1,.ptr 2 0 0 0 1])]/\s.H=.row 3 1 0 0 [iv 0]::.row 30 1 0 0 [.sl 6 V.length 0 V.length (2*V.length) 2]::.row 3 1 0 0 [iv used]::.row 31 1 0 0 [iv 0]::m4::m5::.row 83 2 V.length 0 V::G) (n:=4) ?_ ?_)
 ·exact⟨4,zbS l,0,[],p,[],_,rfl,by decide,by decide,zjh free hokP hl,rfl,rfl,rfl,rfl,by simp[upd,j1],by simp[upd,j4],by simp[upd,j5],by simp[upd,j6],by simp[upd,j7],zt,zt,rfl,rfl⟩
 ·clear j0 j1 j4 j5 j6 j7;rintro m ⟨tm,df,H⟩ ⟨k,nl,used,T,z,V,G,rfl,hk1,hk3,hI,hbd,hus,hV,hVl,h1,h4,h5,h6,h7,h14,h15,rfl,rfl⟩;dsimp only at h1 h4 h5 h6 h7 h14 h15;obtain⟨k,rfl⟩:∃k,m=k+1:=⟨m-1,by omega⟩
  have hnl0:0<nl.length:=zBV9.2 hI.ok.ne;have hnlb:nl.length<=28:=by
   have:=hI.bndL;have hb:∀t,bndL t<=28:=fun t=>by match t with|0=>decide|1=>decide|t+2=>exact(show 1<=28 by decide)
   exact zBQ9 this (hb _)
  rw[zg6]at hbd;have hul:=hI.used;have hw:IntKind.i64.wrap ((used:Int)+(nl.length:Int))=((used+nl.length:Nat):Int):=zwi;(repeat refine za ?_);refine zB ?_;(repeat refine za ?_);refine zAU ?_
  by_cases hsp:free.length<used+nl.length
  ·rw[if_pos hsp]at hbd;have g:¬((used+nl.length:Nat):Int)<=free.length:=by omega
   refine zAW (zr5 h6 h14 h1 hw g) ?_;refine zcx (zcg 221) ?_;refine bad _ 221 _ _ _ _ (by rw[hbd]) ?_ ?_ ?_ ?_
   ·simp(disch:=omega)only[zcA,zbo];exact h4
   ·simp(disch:=omega)only[zcA,zbo];exact h5
   ·simp(disch:=omega)only[zcA,zbo];exact h6
   ·simp(disch:=omega)only[zcA,zbo];exact h7
  rw[if_neg hsp]at hbd;have g:((used+nl.length:Nat):Int)<=free.length:=by omega
  refine zAW (zr5 h6 h14 h1 hw g) ?_;refine zca (zc6 221) ?_;refine zN ?_;refine zG ?_;refine zb2 138 2 (i:=16) rfl ?_;simp only[lzy,zAE9,zAF9,zAR9,zAG9,zAI9,zAK9];refine zGF h14 ?_;obtain⟨v1,v2,v3,v4,v5,v6,v7,v8⟩:=hI.level hokF hsp;have hnx:=hI.next hokF hsp;have hlvl:=hI.lvl;refine zxU _ _ _ _ q z free used nl (by omega) (by omega) (fun b hb=>(hff.1 b hb).2) (fun n hn=>⟨(hI.ok.each n hn).1,(hI.ok.each n hn).2.2⟩) _ _ V (by omega) G (by simp[upd,h1]) (by simp[upd,h5]) (by simp[upd,h6]) (by simp[upd,h14]) (by simp[upd]) (by simp[upd]) (by simp[upd]) (by simp[upd]) (fun tm3 V2 N G3 hV2 hN hf3 h16=>?_);have x1:tm3 1=.list q 1 (bfl free):=(hf3 1 (by decide)).trans (by simp[upd,h1]);have x4:tm3 4=.ptr 0 0 0 0 1:=(hf3 4 (by decide)).trans (by simp[upd,h4]);have x5:tm3 5=.ptr 1 0 0 0 1:=(hf3 5 (by decide)).trans (by simp[upd,h5]);have x6:tm3 6=.ptr 2 0 0 0 1:=(hf3 6 (by decide)).trans (by simp[upd,h6]);have x7:tm3 7=.ptr 3 0 0 0 1:=(hf3 7 (by decide)).trans (by simp[upd,h7]);have x14:tm3 14=.list 0 6 (nl.map (zW z)):=(hf3 14 (by decide)).trans (by simp[upd,h14]);have x15:tm3 15=iv (T.length+1:Nat):=(hf3 15 (by decide)).trans (by simp[upd,h15]);generalize hbs:(free.drop used).take nl.length=bs at *
  have hpl:(ze3 bs (zbq bs nl)).length=64*nl.length:=by
   unfold ze3;rw[zhQ];simp[v1,zcV bs nl v1]
  have hV3:V2=(zcD ((bs,zbq bs nl)::T).reverse).map zBo:=by
   rw[hV2,hV,zEF9,zcD,zcD,zCN9];simp
  have hV2l:V2.length=64*(used+nl.length):=by rw[hV2,zAD9,zAA9,hpl];omega
  have hus2:used+nl.length=(((bs,zbq bs nl)::T).reverse.flatMap Prod.fst).length:=by
   rw[zEF9,zCN9,zAD9,<- hus];simp[v1]
  clear hf3 h1 h4 h5 h6 h7 h14 h15
  by_cases ho:nl.length=1
  ·rw[if_pos ho]at hbd;have g1:((nl.length:Nat):Int)=1:=by omega
   obtain⟨b0,hb0⟩:=zDV9.1 (v1.trans ho);obtain⟨n0,hn0⟩:=zDV9.1 ho;have hN0:N=[cv (n0.low,b0)]:=by rw[hN,hb0,hn0];rfl
   subst hN0;(repeat refine za ?_);(repeat refine za ?_);refine zAV (zr3 x6 x14 hw) ?_;(repeat refine za ?_);(repeat refine za ?_);refine zAV (zr2 x14 g1) ?_;refine zct ?_;(repeat refine za ?_);refine zad ?_;refine zda ?_ (by simp(disch:=omega)only[go_sem,x4,x5,x6,x7,h16,gm0]<;>rfl);refine zda ?_ (by simp(disch:=omega)only[go_sem,x4,x5,x6,x7,h16,gm0]<;>rfl);refine zda ?_ (by simp(disch:=omega)only[go_sem,x4,x5,x6,x7,h16,gm0]<;>rfl);refine zda ?_ (by simp(disch:=omega)only[go_sem,x4,x5,x6,x7,h16,gm0]<;>rfl);refine zQF x4 ?_;refine zy ?_;have hT:(match zex l free with
    | none=>zjD 221
    | some T=>bOk T)=bOk ((bs,zbq bs nl)::T):=by rw[hbd]
   rw[hT];have hroot:zhz ((bs,zbq bs nl)::T)=b0:=by rw[hb0];rfl
   refine⟨[iv b0,.sl 6 V2.length 0 V2.length (2*V2.length) 2,iv (used+nl.length:Nat),iv 0],?_,Frz.tupL ⟨?_,?_,?_,.int _ _,trivial⟩⟩
   ·simp[T26,xT,zE,okv,x4,x5,x6,x7,upd,zae,zaz,zaH,zag];rfl
   ·rw[hroot];exact .int _ _
   ·rw[<- hV3];refine Frz.whole rfl rfl rfl (zAJ9 _) (fun v hv=>?_) (fun v hv=>?_)
    ·rw[hV3]at hv;obtain⟨x,_,rfl⟩:=zAM9.1 hv;rfl
    ·rw[hV3]at hv;obtain⟨x,hx,hv⟩:=zBB9.1 hv;obtain⟨y,_,rfl⟩:=zAM9.1 hx;simp[PV.cells]at hv;rcases hv with rfl|rfl<;>exact .int _ _
   ·rw[<- hus2];exact .int _ _
  ·rw[if_neg ho]at hbd;have g1:¬((nl.length:Nat):Int)=1:=by omega
   have hnx:=hnx ho;have hT1:T.length<=1:=by
    have:=hnx.lvl;simp at this;omega
   have g2:((T.length+1:Nat):Int)<=12:=by omega
   (repeat refine za ?_);(repeat refine za ?_);refine zAV (zr3 x6 x14 hw) ?_;(repeat refine za ?_);(repeat refine za ?_);refine zAV (zr2 x14 g1) ?_;refine zcf ?_;refine zBl ?_;show W _ _ _ _ _ _;(repeat refine za ?_);refine zAU ?_;refine zAW (zr2 x15 g2) ?_;refine zca (zc6 3) ?_;refine zN ?_;have hkl:((nl.map zC.low).zip bs).length=nl.length:=by simp[v1]
   have hab:=(zxz 1 (T.length+1) ((nl.map zC.low).zip bs) (by omega) (fun x hx=>(v4 x.2 (zES9 hx).2).2)).stays (Lb.nodes _);have hflat:∀l:List Pr,∀v∈(l.map cv).flatMap PV.cells,Id0 v:=fun l v hv=>by
    obtain⟨x,hx,hv⟩:=zBB9.1 hv;obtain⟨y,_,rfl⟩:=zAM9.1 hx;simp[PV.cells]at hv;rcases hv with rfl|rfl<;>exact .int _ _
   (repeat refine za ?_);refine zAU ?_;refine zAW (zr2 h16 x15) ?_;refine zdA (caps:=?_) (vs:=?_) ?_ ?_ hab ?_ ?_;rotate_left 2;(first|rfl|(simp only[zV,zZ,go_sem]<;>rfl));(simp only[go_sem]<;>rfl)
   ·refine⟨?_,.int _ _,trivial⟩;refine Frz.whole (e:=138) (z':=2) (G:=N.length) (l:=((nl.map zC.low).zip bs).map cv) ?_ rfl (by rw[hN]) (by rw[hN];exact zAJ9 _) (fun v hv=>by obtain⟨x,_,rfl⟩:=zAM9.1 hv;rfl) (hflat _);rw[<- hN];exact gm0 G G3 _
   refine zK ?_;refine zJF x15 ?_;refine⟨k,zCE9 _,k,_,used+nl.length,(bs,zbq bs nl)::T,0,V2,_,rfl,by omega,?_,hnx,hbd,hus2,hV3,hV2l,by simp[upd,x1],by simp[upd,x4],by simp[upd,x5],by simp[upd,x6],by simp[upd,x7],zt,?_,rfl,rfl⟩
   ·simp;omega
   ·simp[upd]
theorem f13:ET.funcs.get 13=some T13:=zH Tryz.func13
theorem zsV (p q:Nat)(a b:List Pr)(ha:za7 a.length)(hb:za7 b.length):FN ET 13 [.list p 2 (a.map zBo),.list q 2 (b.map zBo)] (.ret (.bool (decide (a=b)))):=by
 refine zfn f13 (.bool _) ?_;refine zG ?_
 by_cases hl:a.length=b.length
 rotate_left
 ·have g:¬(a.length:Int)=b.length:=by omega
  have hne:¬a=b:=fun h=>hl (by rw[h]);(repeat refine za ?_);refine zfc ?_ ?_
  ·intro _;refine zO ?_;exact za0.bool (decide_eq_false hne).symm
  ·intro h;simp[g]at h
 have g:(a.length:Int)=b.length:=by omega
 (repeat refine za ?_);refine zfc ?_ ?_
 ·intro h;simp[g]at h
 intro _;refine zBl ?_;show W _ _ _ _ _ _;refine zG ?_;refine zB (zar (fun m s=>∃i:Nat,m=a.length-i/\i<=a.length/\decide (a=b)=decide (a.drop i=b.drop i)/\s.tm 0=.list p 2 (a.map zBo)/\s.tm 1=.list q 2 (b.map zBo)/\s.tm 5=iv i/\s.df=[]/\s.H=[]) (n:=a.length) ?_ ?_)
 ·exact⟨0,by simp[upd,zq]⟩
 ·rintro m ⟨tm,df,H⟩ ⟨i,rfl,hi,hd,h0,h1,h5,rfl,rfl⟩;dsimp only at h0 h1 h5;(try refine zBp ?_);refine za (zAV (zr3 h0 h1 h5) ?_);refine zwh ?_ ?_
  ·intro hlt;have hlt:i<a.length:=by have:=of_decide_eq_true hlt;omega
   have hltb:i<b.length:=by omega
   have hda:a.drop i=a[i]::a.drop (i+1):=zAW9 hlt;have hdb:b.drop i=b[i]::b.drop (i+1):=zAW9 hltb;have hav:(a.map zBo)[i]?=some (zBo a[i]):=by rw[zAH9,zAB9 hlt];rfl
   have hbv:(b.map zBo)[i]?=some (zBo b[i]):=by rw[zAH9,zAB9 hltb];rfl
   have hee:(decide (((a[i].1:Nat):Int)=(b[i].1:Nat))&&decide (((a[i].2:Nat):Int)=(b[i].2:Nat)))=decide (a[i]=b[i]):=by
    rw[<- Bool.decide_and]
    congr 1
    rw[Prod.ext_iff];simp only[Int.natCast_inj]
   rw[hda,hdb]at hd;generalize a[i]=x at *
   generalize b[i]=y at *
   (repeat refine za ?_);refine zB ?_;(repeat refine za ?_);refine zad ?_;refine zdl ?_ (by simp(disch:=omega)only[go_sem,h0,h1,h5,hav,hbv,hlt,hltb,zuS]<;>rfl);refine zL ?_;simp only[go_sem];rw[hee]
   by_cases hx:x=y
   ·refine zfc ?_ ?_
    ·rw[decide_eq_true hx];intro h;cases h
    ·intro _;refine zBl ?_;refine zJF h5 ?_;refine⟨_,?m,i+1,rfl,hlt,?_,zu h0,zu h1,zu h5,zt,zt⟩
     case m=>omega
     rw[hd];simp only[hx,List.cons.injEq,true_and]
   ·refine zfc ?_ ?_
    ·intro _;refine zO ?_;exact za0.bool (by rw[hd];simp only[List.cons.injEq,hx,false_and,decide_false])
    ·rw[decide_eq_false hx];intro h;cases h
  ·intro hlt;have hlt:¬i<a.length:=by have:=of_decide_eq_false hlt;omega
   obtain rfl:i=a.length:=by omega
   refine zO ?_;refine za0.bool ?_;rw[hd,zBM9,hl,zBM9];rfl
theorem f20:ET.funcs.get 20=some T20:=zH Tryz.func20
theorem f15:ET.funcs.get 15=some T15:=zH Tryz.func15
theorem zAa (e:Int):FN ET 15 [iv e] (.ret (iv e)):=by
 refine zfn f15 (.int _ _) ?_;refine zG ?_;refine zy ?_;exact⟨[iv e],rfl,Frz.int _ _⟩
theorem f99:ET.funcs.get 99=some T99:=zH Tryz.func99
theorem zdx (x:Nat):FN ET 99 [iv 0,uv x] (.ret (.bool (decide (1<=x)&&decide (x<=1099511627776)))):=by
 refine zfn f99 (.bool _) ?_;refine zG ?_;(repeat refine za ?_);refine zct ?_
 by_cases b1:1<=x
 ·have a1:(1:Int)<=x:=by omega
  by_cases b2:x<=1099511627776
  ·have a2:(x:Int)<=1099511627776:=by omega
   refine zOF (zr2 a1 a2) ?_;exact za0.bool (by simp[b1,b2])
  ·have a2:¬(x:Int)<=1099511627776:=by omega
   refine zOF (zr2 a1 a2) ?_;exact za0.bool (by simp[b1,b2])
 ·have a1:¬(1:Int)<=x:=by omega
  refine zOF a1 ?_;exact za0.bool (by simp[b1])
theorem f52:ET.funcs.get 52=some T52:=zH Tryz.func52
theorem zmh (n:Nat)(hn:n<=500):FN ET 52 [iv n] (.ret (iv (zcO n:Nat))):=by
 refine zfn f52 (.int _ _) ?_;have q1:IntKind.i64.wrap (((n:Int)+17).tdiv 18)=(((n+17)/18:Nat):Int):=by rw[show (n:Int)+17=((n+17:Nat):Int) by omega,IntWalk.i64_quo _ _ (by omega)];omega
 have hm:max (1:Int) (((n+17)/18:Nat):Int)=((max 1 ((n+17)/18):Nat):Int):=by omega
 refine zGF (zr2 q1 hm) ?_;refine zB (zar (fun m s=>∃(t m' c:Nat),m=m'/\t<=2/\1<=m'/\m'<=bndL t/\c<=10000*(t+1)/\zcO n+m'=c+zeM (4-t) m'/\s.tm 3=iv m'/\s.tm 4=iv c/\s.df=[]/\s.H=[]) (n:=max 1 ((n+17)/18)) ?_ ?_)
 ·exact⟨0,_,_,rfl,by decide,by omega,by simp[bndL];omega,by omega,zDT9 _ _,zt,zt,rfl,rfl⟩
 ·rintro m ⟨tm,df,H⟩ ⟨t,m',c,rfl,ht,h1,hb,hc,hn,h3,h4,rfl,rfl⟩;dsimp only at h3 h4;(try refine zBp ?_);refine za (zAV (zr2 h3 h4) ?_);refine zwh ?_ ?_
  ·intro hlt;have hlt:1<m:=by have:=of_decide_eq_true hlt;omega
   have q2:IntKind.i64.wrap (((m:Int)+18).tdiv 19)=(((m+18)/19:Nat):Int):=by
    have:m<=28:=zBQ9 hb (by match t with|0=>decide|1=>decide|t+2=>exact(show 1<=28 by decide));rw[show (m:Int)+18=((m+18:Nat):Int) by omega,IntWalk.i64_quo _ _ (by omega)];omega
   have hm28:m<=28:=zBQ9 hb (by match t with|0=>decide|1=>decide|t+2=>exact(show 1<=28 by decide));have q3:IntKind.i64.wrap ((c:Int)+(((m+18)/19:Nat):Int))=((c+(m+18)/19:Nat):Int):=zwi;(repeat refine za ?_);refine zB ?_;(repeat refine za ?_);(repeat refine za ?_);refine zAV (zr2 h3 q2) ?_;refine zJF (zr3 h3 h4 q3) ?_;refine⟨(m+18)/19,by omega,t+1,(m+18)/19,c+(m+18)/19,rfl,?_,by omega,?_,by omega,?_,zt,zt,zt,zt⟩
   ·match t,ht,hb with
    | 0,_,_=>decide
    | 1,_,_=>decide
    | 2,_,hb=>simp[bndL]at hb;omega
   ·match t,ht,hb with
    | 0,_,hb=>simp[bndL]at hb⊢;omega
    | 1,_,hb=>simp[bndL]at hb⊢;omega
    | 2,_,hb=>simp[bndL]at hb;omega
   ·have e:4-t=(4-(t+1))+1:=by omega
    rw[e,zeM,if_neg (by omega)]at hn;omega
  ·intro hlt;have hlt:¬1<m:=by have:=of_decide_eq_false hlt;omega
   obtain rfl:m=1:=by omega
   refine zOF h4 ?_;have e:4-t=(3-t)+1:=by omega
   rw[e,zeM,if_pos rfl]at hn;have:zcO n=c:=by omega
   rw[this];exact Frz.int _ _
theorem f71:ET.funcs.get 71=some T71:=zH Tryz.func71
theorem zpA:∀(l s t:List Int),(∀b,b∈s↔b∈t)->okI s l=okI t l
 | [],_,_,_=>rfl
 | b::l,s,t,h=>by
  rw[okI,okI,zpA l (b::s) (b::t) fun c=>by simp[h c]]
  congr 3
  rw[zDS9,zDE9,zDE9];exact h b
theorem zsP (p:Nat)(l:List Int)(hl:l.length<1000000):FN ET 71 [.list p 1 (l.map iv)] (.ret (.bool (okI [] l))):=by
 refine zfn f71 (.bool _) ?_;refine zG ?_;refine zB (zar (fun m s=>∃i:Nat,m=l.length-i/\i<=l.length/\okI [] l=okI (l.take i) (l.drop i)/\s.tm 0=.list p 1 (l.map iv)/\s.tm 3=iv i/\s.df=[]/\s.H=[]) (n:=l.length) ?_ ?_)
 ·exact⟨0,by simp[upd,zq]⟩
 ·rintro m ⟨tm,df,H⟩ ⟨i,rfl,hi,hd,h0,h3,rfl,rfl⟩;dsimp only at h0 h3;(try refine zBp ?_);refine za (zAV (zr2 h0 h3) ?_);refine zwh ?_ ?_;rotate_left
  ·intro hlt;have hlt:¬i<l.length:=by have:=of_decide_eq_false hlt;omega
   obtain rfl:i=l.length:=by omega
   refine zO ?_;refine za0.bool ?_;rw[hd,zBM9];rfl
  intro hlt;have hlt:i<l.length:=by have:=of_decide_eq_true hlt;omega
  obtain⟨x,hx⟩:∃x,l[i]?=some x:=⟨_,zAB9 hlt⟩
  have hxv:(l.map iv)[i]?=some (iv x):=by rw[zAH9,hx];rfl
  have hdx:l.drop i=x::l.drop (i+1):=by rw[zAW9 hlt];obtain⟨_,e⟩:=zAC9.1 hx;rw[e]
  rw[hdx,okI]at hd;have hle:i<=l.length:=hi;have htk:(l.map iv).take i=(l.take i).map iv:=by rw[zDL9]
  have hhas:=zmK p (l.take i) x (by rw[zBA9];omega);(repeat refine za ?_);refine zB ?_;(repeat refine za ?_);refine zad ?_
  by_cases b1:x<1
  ·refine ze2 (by first|exact trivial|simp only[go_sem,h0,h3,hxv,hlt,b1]) (by simp(disch:=omega)only[go_sem,h0,h3,hxv,hlt,b1]<;>rfl) rfl (by simp only[go_sem,h0,h3,hxv,hlt,b1]<;>rfl) (by simp only[go_sem]<;>rfl) ?_;refine zQF h0 ?_;refine zfc ?_ ?_
   ·intro _;refine zO ?_;refine za0.bool ?_;rw[hd];simp;omega
   ·intro h;cases h
  by_cases b2:2047<x
  ·refine ze2 (by first|exact trivial|simp only[go_sem,h0,h3,hxv,hlt,b1,b2]) (by simp(disch:=omega)only[go_sem,h0,h3,hxv,hlt,b1,b2]<;>rfl) rfl (by simp only[go_sem,h0,h3,hxv,hlt,b1,b2]<;>rfl) (by simp only[go_sem]<;>rfl) ?_;refine zQF h0 ?_;refine zfc ?_ ?_
   ·intro _;refine zO ?_;refine za0.bool ?_;rw[hd];simp;omega
   ·intro h;cases h
  refine zAZ (zr8 h0 h3 hxv hlt hle b1 b2 htk) hhas ?_;refine zQF h0 ?_
  by_cases hc:(l.take i).contains x=true
  ·refine zfc ?_ ?_ (by simp only[go_sem,hc]<;>rfl)
   ·intro _;refine zO ?_;refine za0.bool ?_;rw[hd,hc];simp
   ·intro h;cases h
  have hc:(l.take i).contains x=false:=by simpa using hc
  refine zcf ?_ (by simp only[go_sem,hc]<;>rfl);refine zBl ?_;refine zJF h3 ?_;refine⟨_,?m,i+1,rfl,hlt,?_,zu h0,zu h3,zt,zt⟩
  case m=>omega
  rw[hd,hc];have:l.take (i+1)=l.take i++[x]:=by rw[zBE9,hx];rfl
  rw[this,zpA _ (x::l.take i) (l.take i++[x]) fun b=>by simp[or_comm]];have e1:decide (1<=x)=true:=by simp;omega
  have e2:decide (x<2048)=true:=by simp;omega
  rw[e1,e2];simp
theorem f53:ET.funcs.get 53=some T53:=zH Tryz.func53
set_option maxHeartbeats 4000000 in
theorem zlt (p:Nat)(l:List Pr)(hl:l.length<1000000):FN ET 53 [psv p l] (.ret (.bool (okP l))):=by
 refine zfn f53 (.bool _) ?_;refine zG ?_;refine zB (zar (fun m s=>∃(i:Nat) (seen:List Nat) (mo:zn),m=l.length-i/\i<=l.length/\zky mo seen/\okP l=zgQ seen (zA4 l i) (l.drop i)/\s.tm 0=psv p l/\s.tm 3=.map 0/\s.tm 4=iv i/\s.df=[]/\s.H=[mo]) (n:=l.length) ?_ ?_)
 ·exact⟨0,[],.map0,rfl,zAS9 _,.inl ⟨rfl,rfl⟩,(zmI l).symm,zt,zt,zt,rfl,rfl⟩
 ·rintro m ⟨tm,df,H⟩ ⟨i,seen,mo,rfl,hi,hs,hd,h0,h3,h4,rfl,rfl⟩;dsimp only at h0 h3 h4;(try refine zBp ?_);refine za (zAV (zr2 h0 h4) ?_);refine zwh ?_ ?_;rotate_left
  ·intro hlt;have hlt:¬i<l.length:=by have:=of_decide_eq_false hlt;omega
   obtain rfl:i=l.length:=by omega
   refine zO ?_;refine za0.bool ?_;rw[hd,zBM9];rfl
  intro hlt;have hlt:i<l.length:=by have:=of_decide_eq_true hlt;omega
  obtain⟨x,hx⟩:∃x,l[i]?=some x:=⟨_,zAB9 hlt⟩
  have hxv:(l.map pv)[i]?=some (pv x):=by rw[zAH9,hx];rfl
  have hdx:l.drop i=x::l.drop (i+1):=by rw[zAW9 hlt];obtain⟨_,e⟩:=zAC9.1 hx;rw[e]
  rw[hdx,zgQ]at hd;have hpk:some x.1=zA4 l (i+1):=by unfold zA4;rw[if_neg (by omega),zEP9,zAL9,hx];rfl
  rw[hpk]at hd;(repeat refine za ?_);refine zB ?_;(repeat refine za ?_);refine zbD (Q:=fun y s'=>y=.norm/\s'.tm 46=.bool (!zce seen (zA4 l i) x)/\s'.tm 0=psv p l/\s'.tm 3=.map 0/\s'.tm 4=iv i/\s'.df=[]/\s'.H=[mo]) (zad ?_) ?_
  ·by_cases b0:(decide (1<=x.2)&&decide (x.2<=1099511627776))=true
   rotate_left
   ·have b0:(decide (1<=x.2)&&decide (x.2<=1099511627776))=false:=by simpa using b0
    refine zAZ (zr6 h0 h3 h4 hxv hlt b0) (zdx x.2) ?_;refine zQF (zr6 h0 h3 h4 hxv hlt b0) ?_;exact⟨by simp[zce,b0],h0,h3,h4⟩
   have b1:1<=x.2:=by simp at b0;exact b0.1
   have b2:x.2<=1099511627776:=by simp at b0;exact b0.2
   by_cases b3:i=0
   ·subst b3;rcases hs with⟨rfl,rfl⟩|⟨mm,rfl,hmm⟩
    ·skip
     refine zAZ (zr6 h0 h3 h4 hxv hlt b0) (zdx x.2) ?_;refine zQF (zr6 h0 h3 h4 hxv hlt b0) ?_;exact⟨by simp[zce,b1,b2,zA4,zdk],h0,h3,h4⟩
    ·have hq:=hmm x.2
     by_cases hc:seen.contains x.2=true
     ·rw[if_pos hc]at hq;have hc2:x.2∈seen:=by simpa using hc
      refine zAZ (zr7 h0 h3 h4 hxv hlt b0 hq) (zdx x.2) ?_;refine zQF (zr7 h0 h3 h4 hxv hlt b0 hq) ?_;exact⟨by simp[zce,b1,b2,zA4,zdk,hc2],h0,h3,h4⟩
     ·rw[if_neg hc]at hq;have hc2:¬x.2∈seen:=by simpa using hc
      refine zAZ (zr7 h0 h3 h4 hxv hlt b0 hq) (zdx x.2) ?_;refine zQF (zr7 h0 h3 h4 hxv hlt b0 hq) ?_;exact⟨by simp[zce,b1,b2,zA4,zdk,hc2],h0,h3,h4⟩
   have hi0:(0:Int)<(i:Int):=by omega
   have hi1:IntKind.i64.wrap ((i:Int)-1)=((i-1:Nat):Int):=zwi;have hil:i-1<l.length:=by omega
   have hpv:(l.map pv)[i-1]?=some (pv (l.getD (i-1) (0,0))):=by rw[zAH9,get_lt l hil];rfl
   have hpk2:zA4 l i=some (l.getD (i-1) (0,0)).1:=by unfold zA4;rw[if_neg b3]
   generalize l.getD (i-1) (0,0)=pr at hpv hpk2
   by_cases b4:pr.1<x.1
   ·have hkey:¬((x.1:Nat):Int)<=(pr.1:Nat):=by omega
    rcases hs with⟨rfl,rfl⟩|⟨mm,rfl,hmm⟩
    ·skip
     refine zAZ (zBb h0 h3 h4 hxv hlt b0 hi0 hi1 hil hpv hkey) (zdx x.2) ?_;refine zQF (zBb h0 h3 h4 hxv hlt b0 hi0 hi1 hil hpv hkey) ?_;exact⟨by simp[zce,b1,b2,hpk2,zdk,b4],h0,h3,h4⟩
    ·have hq:=hmm x.2
     by_cases hc:seen.contains x.2=true
     ·rw[if_pos hc]at hq;have hc2:x.2∈seen:=by simpa using hc
      refine zAZ (zBa h0 h3 h4 hxv hlt b0 hi0 hi1 hil hpv hkey hq) (zdx x.2) ?_;refine zQF (zBa h0 h3 h4 hxv hlt b0 hi0 hi1 hil hpv hkey hq) ?_;exact⟨by simp[zce,b1,b2,hpk2,zdk,b4,hc2],h0,h3,h4⟩
     ·rw[if_neg hc]at hq;have hc2:¬x.2∈seen:=by simpa using hc
      refine zAZ (zBa h0 h3 h4 hxv hlt b0 hi0 hi1 hil hpv hkey hq) (zdx x.2) ?_;refine zQF (zBa h0 h3 h4 hxv hlt b0 hi0 hi1 hil hpv hkey hq) ?_;exact⟨by simp[zce,b1,b2,hpk2,zdk,b4,hc2],h0,h3,h4⟩
   ·have hkey:((x.1:Nat):Int)<=(pr.1:Nat):=by omega
    refine zAZ (zBb h0 h3 h4 hxv hlt b0 hi0 hi1 hil hpv hkey) (zdx x.2) ?_;refine zQF (zBb h0 h3 h4 hxv hlt b0 hi0 hi1 hil hpv hkey) ?_;exact⟨by simp[zce,b1,b2,hpk2,zdk,b4],h0,h3,h4⟩
  clear h0 h3 h4;rintro y ⟨tm,df,H⟩ ⟨rfl,h46,h0,h3,h4,rfl,rfl⟩;dsimp only at h46 h0 h3 h4
  by_cases hst:zce seen (zA4 l i) x=true
  rotate_left
  ·have hst:zce seen (zA4 l i) x=false:=by simpa using hst
   refine zfc ?_ ?_ (by simp only[go_sem,h46]<;>rfl)
   ·intro _;refine zO ?_;refine za0.bool ?_;rw[hd,hst];rfl
   ·rw[hst];intro h;cases h
  rw[hst,zBY9]at hd;refine zfc ?_ ?_ (by simp only[go_sem,h46]<;>rfl)
  ·rw[hst];intro h;cases h
  intro _;refine zBl ?_;show W _ _ _ _ _ _;rcases hs with⟨rfl,rfl⟩|⟨mm,rfl,hmm⟩
  ·refine zJF (zr5 h0 h3 h4 hxv hlt) ?_;refine zJF h4 ?_;refine⟨_,?m1,i+1,[x.2],_,rfl,hlt,.inr ⟨_,rfl,fun q=>?_⟩,hd,zu h0,zu h3,zu h4,rfl,rfl⟩
   case m1=>omega
   by_cases hq:q=x.2
   ·subst hq;simp
   ·have:¬(q:Int)=x.2:=by omega
    simp[hq,this]
  ·refine zJF (zr5 h0 h3 h4 hxv hlt) ?_;refine zJF h4 ?_;refine⟨_,?m2,i+1,x.2::seen,_,rfl,hlt,.inr ⟨_,rfl,fun q=>?_⟩,hd,zu h0,zu h3,zu h4,rfl,rfl⟩
   case m2=>omega
   by_cases hq:q=x.2
   ·subst hq;simp
   ·have:¬(q:Int)=x.2:=by omega
    rw[if_neg this,hmm q];simp[hq]
theorem f72:ET.funcs.get 72=some T72:=zH Tryz.func72
theorem zjM (p:Nat)(n:zC)(h1:n.level<=12)(h2:n.sib<2048)(h3:n.way<=2)(hp:n.pairs.length<=27):FN ET 72 [zW p n] (.ret (wv 0 (zbh n))):=by
 refine zfn f72 (Lb.uvs _) ?_;have e0:(7522529147838689024:Int)+(n.level:Int)=((7522529147838689024+n.level:Nat):Int):=by omega
 have g:∀k,k<64->∃v,((zbW n k).map uv)[k]?=some v:=fun k hk=>⟨_,zAB9 (by rw[zAA9,zgT];exact hk)⟩
 have s:∀k,(zbW n (k+1)).map uv=((zbW n k).map uv).set k (uv (zlk k n)):=fun k=>by rw[show zbW n (k+1)=(zbW n k).set k (zlk k n)from rfl,zDU9]
 obtain⟨v0,g0⟩:=g 0 (by decide);obtain⟨v1,g1⟩:=g 1 (by decide);obtain⟨v2,g2⟩:=g 2 (by decide);obtain⟨v3,g3⟩:=g 3 (by decide);obtain⟨v4,g4⟩:=g 4 (by decide);have s0:((zbW n 0).map uv).set 0 (.int .u64 ((7522529147838689024+n.level:Nat):Int))=(zbW n 1).map uv:=(s 0).symm;have s1:((zbW n 1).map uv).set 1 (.int .u64 (n.sib:Int))=(zbW n 2).map uv:=(s 1).symm;have s2:((zbW n 2).map uv).set 2 (.int .u64 (n.low:Int))=(zbW n 3).map uv:=(s 2).symm;have s3:((zbW n 3).map uv).set 3 (.int .u64 (n.left:Int))=(zbW n 4).map uv:=(s 3).symm;have s4:((zbW n 4).map uv).set 4 (.int .u64 (n.way:Int))=(zbW n 5).map uv:=(s 4).symm;(repeat refine za ?_);refine zI ?_;refine zh ?_;(repeat refine za ?_);refine zI ?_;refine zh ?_;have h00:List.replicate 64 (PV.int .u64 0)=(zbW n 0).map uv:=by rw[show zbW n 0=List.replicate 64 0 from rfl,List.map_replicate];rfl
 rw[h00];generalize hL0:(zbW n 0).map uv=L0 at *
 generalize hL1:(zbW n 1).map uv=L1 at *
 generalize hL2:(zbW n 2).map uv=L2 at *
 generalize hL3:(zbW n 3).map uv=L3 at *
 generalize hL4:(zbW n 4).map uv=L4 at *
 generalize hL5:(zbW n 5).map uv=L5 at *
 (repeat refine za ?_);refine zad ?_;refine zA0 (zr3 e0 g0 s0) ?_;refine zA0 (zr2 g1 s1) ?_;refine zA0 (zr2 g2 s2) ?_;refine zA0 (zr2 g3 s3) ?_;refine zA0 (zr2 g4 s4) ?_;refine zQF e0 ?_;refine zG ?_;subst hL5;refine zB (zar (fun m s=>∃(j:Nat) (G:List zn),m=n.pairs.length-j/\j<=n.pairs.length/\s.tm 1=.ptr 0 0 0 0 6/\s.tm 3=.sl 1 0 0 64 128 1/\s.tm 4=iv j/\s.df=[]/\s.H=.row 124 6 0 0 [zW p n]::.row 24 1 0 0 ((zcs n j).map uv)::G) (n:=n.pairs.length) ?_ ?_)
 ·exact⟨0,_,rfl,zAS9 _,zt,zt,zt,rfl,rfl⟩
 ·rintro m ⟨tm,df,H⟩ ⟨j,G,rfl,hj,t1,t3,t4,rfl,rfl⟩;dsimp only at t1 t3 t4;(try refine zBp ?_);refine za (zgo ?_ (by simp(disch:=omega)only[go_sem,t1,t3,t4]<;>rfl));refine zwh ?_ ?_
  ·intro hlt;have hlt:j<n.pairs.length:=by have:=of_decide_eq_true hlt;omega
   have hpj:(n.pairs.map pv)[j]?=some (pv (n.pairs.getD j (0,0))):=by rw[zAH9,get_lt _ hlt];rfl
   obtain⟨o1,ho1⟩:∃old,(zcs n j)[8+2*j]?=some old:=⟨_,zAB9 (by rw[zdh];omega)⟩
   obtain⟨o2,ho2⟩:∃old,((zcs n j).set (8+2*j) (n.pairs.getD j (0,0)).1)[8+2*j+1]?=some old:=⟨_,zAB9 (by rw[zCP9,zdh];omega)⟩
   have w1:IntKind.i64.wrap (2*(j:Int))=((2*j:Nat):Int):=zwi;have w2:IntKind.i64.wrap (8+((2*j:Nat):Int))=((8+2*j:Nat):Int):=zwi;have w3:IntKind.i64.wrap (9+((2*j:Nat):Int))=((8+2*j+1:Nat):Int):=zwi;have c1:8+2*j<64:=by omega
   have c2:8+2*j+1<64:=by omega
   have z1:((zcs n j).map uv)[8+2*j]?=some (uv o1):=by rw[zAH9,ho1];rfl
   have z2:(((zcs n j).set (8+2*j) (n.pairs.getD j (0,0)).1).map uv)[8+2*j+1]?=some (uv o2):=by rw[zAH9,ho2];rfl
   have y1:((zcs n j).map uv).set (8+2*j) (.int .u64 ((n.pairs.getD j (0,0)).1:Int))=((zcs n j).set (8+2*j) (n.pairs.getD j (0,0)).1).map uv:=zDU9.symm;have y2:(((zcs n j).set (8+2*j) (n.pairs.getD j (0,0)).1).map uv).set (8+2*j+1) (.int .u64 ((n.pairs.getD j (0,0)).2:Int))=(zcs n (j+1)).map uv:=zDU9.symm;generalize n.pairs.getD j (0,0)=q at *
   generalize (zcs n j).map uv=K0 at *
   generalize ((zcs n j).set (8+2*j) q.1).map uv=K1 at *
   (repeat refine za ?_);refine zB ?_;(repeat refine za ?_);refine zad ?_;refine zda ?_ (by simp(disch:=omega)only[go_sem,t1,t3,t4,hpj,hlt,w1,w2,w3,c1,c2,z1,y1]<;>rfl);refine zda ?_ (by simp(disch:=omega)only[go_sem,t1,t3,t4,hpj,hlt,w1,w2,w3,c1,c2,z2,y2]<;>rfl);refine zdl ?_ (by simp(disch:=omega)only[go_sem,t3]<;>rfl);refine zL ?_;simp only[go_sem];(repeat refine za ?_);refine zrg ?_ (by simp(disch:=omega)only[go_sem,t4]<;>rfl);refine zr ?_;refine⟨_,?m2,j+1,G,rfl,hlt,by simp[upd,t1],by simp[upd,t3],by simp[upd,t4],rfl,rfl⟩
   case m2=>omega
  ·intro hlt;have hlt:¬j<n.pairs.length:=by have:=of_decide_eq_false hlt;omega
   obtain rfl:j=n.pairs.length:=by omega
   (repeat(first|refine za ?_|refine zgo ?_ (by simp(disch:=omega)only[go_sem,t3]<;>rfl)));refine zy (zfr ?_);refine Frz.whole (l:=(zcs n n.pairs.length).map uv) rfl rfl (by simp[zdh]) (by simp[zdh]) (fun v hv=>?_) zhl;obtain⟨x,_,rfl⟩:=zAM9.1 hv;rfl
theorem f28:ET.funcs.get 28=some T28:=zH Tryz.func28
theorem Frz.wholeM {H:List zn}{lab id e z z' G M o n q:Nat}{l:List PV}(hH:H[id]?=some (.row e z' G M l))(hM:M<=G)(ho:o=0)(hl:n=l.length)(hq:2*l.length<=q)(hz:∀v∈l,v.cells.length=z)(hs:∀v∈l.flatMap PV.cells,Id0 v) :
  Frz H lab (.sl id G o n q z) (.list lab z l):=by
 subst ho hl;refine .sl hH hM (zAJ9 _) (by omega) hq rfl hz (by simp) fun i x y hx hy=>?_;have:x=y:=by
  simp at hx;rw[hx]at hy;injection hy
 subst this;exact(hs _ (zAO9 hy)).frz
@[reducible] def zcm (n:zC) (pvl:PV):PV:=.agg [iv n.level,iv n.sib,uv n.low,uv n.left,iv n.way,pvl]
def zgB (H:List zn)(pvl:PV)(ps:List Pr):Prop:=(pvl=.nilsl/\ps=[])\/∃id g,pvl=.sl id g 0 ps.length (2*ps.length) 2/\H[id]?=some (.row 66 2 g 0 (ps.map pv))
def zev:PV->Option Nat
 | .sl id _ _ _ _ _=>some id
 | _=>none
structure Lvl (H:List zn)(vs:List PV)(ps:List PV)(nodes:List zC):Prop where
 lenV:vs.length=nodes.length
 lenP:ps.length=nodes.length
 val:∀(q:Nat) (n:zC) (p:PV),nodes[q]?=some n->ps[q]?=some p->vs[q]?=some (zcm n p)/\zgB H p n.pairs
 dist:∀(q r:Nat) (x y:PV) (a:Nat),ps[q]?=some x->ps[r]?=some y->zev x=some a->zev y=some a->q=r
def isP:zn->Prop
 | .row e _ _ _ _=>e=66
 | _=>False
theorem zgB.keep {H H':List zn}{p:PV}{ps:List Pr}(h:zgB H p ps)(k:∀(id:Nat) (o:zn),zev p=some id->isP o->H[id]?=some o->H'[id]?=some o):zgB H' p ps:=by
 rcases h with h|⟨id,g,rfl,h2⟩
 ·exact .inl h
 ·exact .inr ⟨id,g,rfl,k id _ rfl rfl h2⟩
theorem Lvl.keep {H H':List zn}{vs ps:List PV}{nodes:List zC}(h:Lvl H vs ps nodes)(k:∀(id:Nat) (o:zn),isP o->H[id]?=some o->H'[id]?=some o):Lvl H' vs ps nodes :=
 ⟨h.lenV,h.lenP,fun q n p hn hp=>⟨(h.val q n p hn hp).1,(h.val q n p hn hp).2.keep fun id o _ ho hi=>k id o ho hi⟩,h.dist⟩
theorem Lvl.nil (H:List zn):Lvl H [] [] []:=⟨rfl,rfl,fun q n p h=>by simp at h,fun q r x y a h=>by simp at h⟩
theorem Lvl.snoc {H:List zn}{vs ps:List PV}{nodes:List zC}(h:Lvl H vs ps nodes)(n:zC)(hn:n.pairs=[]):Lvl H (vs++[zcm n .nilsl]) (ps++[.nilsl]) (nodes++[n]):=by
 refine⟨by simp[h.lenV],by simp[h.lenP],fun q m p hm hp=>?_,fun q r x y a hx hy ha hb=>?_⟩
 ·rcases zCY9 q nodes.length with hq|hq
  ·rw[zAV9 hq]at hm;rw[zAV9 (by rw[h.lenP];exact hq)]at hp;rw[zAV9 (by rw[h.lenV];exact hq)];exact h.val q m p hm hp
  ·rw[zAP9 hq]at hm;rw[zAP9 (by rw[h.lenP];exact hq)]at hp;rw[zAP9 (by rw[h.lenV];exact hq)];rw[h.lenP]at hp;rw[h.lenV];obtain rfl:=zBF9.1 (zAO9 hm);obtain rfl:=zBF9.1 (zAO9 hp);have h0:q-nodes.length=0:=by have:=(zAC9.1 hm).1;simp at this;omega
   rw[h0];exact⟨rfl,.inl ⟨rfl,hn⟩⟩
 ·have hl:∀(s:Nat) (z:PV),(ps++[PV.nilsl])[s]?=some z->zev z=some a->ps[s]?=some z:=fun s z hz he=>by
   rcases zCY9 s ps.length with hs|hs
   ·rwa [zAV9 hs]at hz
   ·rw[zAP9 hs]at hz;obtain rfl:=zBF9.1 (zAO9 hz);simp[zev]at he
  exact h.dist q r x y a (hl q x hx ha) (hl r y hy hb) ha hb
theorem Lvl.last {H H':List zn}{vf pf:List PV}{front:List zC}{v p p':PV}{nd nd':zC}(h:Lvl H (vf++[v]) (pf++[p]) (front++[nd]))(hlv:vf.length=front.length)(hlp:pf.length=front.length)
  (hp':zgB H' p' nd'.pairs) (hd:∀a,zev p'=some a->zev p=some a\/H.length<=a) (k:∀(id:Nat) (o:zn),isP o->H[id]?=some o->H'[id]?=some o\/zev p=some id):Lvl H' (vf++[zcm nd' p']) (pf++[p']) (front++[nd']):=by
 have hlast:(pf++[p])[front.length]?=some p:=by rw[<- hlp];simp
 have hpq:∀(q:Nat) (x:PV),q<front.length->pf[q]?=some x->(pf++[p])[q]?=some x:=fun q x hq hx=>by rw[zAV9 (by omega)];exact hx
 have hbound:∀(q:Nat) (x:PV) (a:Nat),q<front.length->pf[q]?=some x->zev x=some a->a<H.length:=fun q x a hq hx ha=>by
  obtain⟨n,hn⟩:∃n,front[q]?=some n:=⟨_,zAB9 hq⟩
  have:=(h.val q n x (by rw[zAV9 hq];exact hn) (hpq q x hq hx)).2;rcases this with⟨rfl,_⟩|⟨id,g,rfl,h2⟩
  ·simp[zev]at ha
  ·simp[zev]at ha;subst ha;exact(zAC9.1 h2).1
 refine⟨by simp[hlv],by simp[hlp],fun q m x hm hx=>?_,fun q r x y a hx hy ha hb=>?_⟩
 ·rcases zCY9 q front.length with hq|hq
  ·rw[zAV9 hq]at hm;rw[zAV9 (by omega)]at hx;rw[zAV9 (by omega)];have hv:=h.val q m x (by rw[zAV9 hq];exact hm) (hpq q x hq hx);rw[zAV9 (by omega)]at hv;refine⟨hv.1,hv.2.keep fun id o he ho hi=>?_⟩;rcases k id o ho hi with h1|h1
   ·exact h1
   ·exact absurd (h.dist q front.length x p id (hpq q x hq hx) hlast he h1) (by omega)
  ·rw[zAP9 hq]at hm;rw[zAP9 (by omega)]at hx;rw[zAP9 (by omega)];have h0:q-front.length=0:=by have:=(zAC9.1 hm).1;simp at this;omega
   rw[h0]at hm;rw[hlp,h0]at hx;rw[hlv,h0];injection hm with hm;injection hx with hx;subst hm hx;exact⟨rfl,hp'⟩
 ·have hcase:∀(s:Nat) (z:PV),(pf++[p'])[s]?=some z->(s<front.length/\pf[s]?=some z)\/(s=front.length/\z=p'):=fun s z hz=>by
   rcases zCY9 s front.length with hs|hs
   ·rw[zAV9 (by omega)]at hz;exact .inl ⟨hs,hz⟩
   ·rw[zAP9 (by omega)]at hz;have h0:s-pf.length=0:=by have:=(zAC9.1 hz).1;simp at this;omega
    rw[h0]at hz;injection hz with hz;exact .inr ⟨by omega,hz.symm⟩
  have key:∀(s:Nat) (z:PV),s<front.length->pf[s]?=some z->zev z=some a->zev p'=some a->False:=fun s z hs hz he hp=>by
   rcases hd a hp with h1|h1
   ·exact absurd (h.dist s front.length z p a (hpq s z hs hz) hlast he h1) (by omega)
   ·have:=hbound s z a hs hz he;omega
  rcases hcase q x hx with⟨h1,h2⟩|⟨h1,h2⟩
  ·rcases hcase r y hy with⟨h3,h4⟩|⟨h3,h4⟩
   ·exact h.dist q r x y a (hpq q x h1 h2) (hpq r y h3 h4) ha hb
   ·rw[h4]at hb;exact(key q x h1 h2 ha hb).elim
  ·rcases hcase r y hy with⟨h3,h4⟩|⟨h3,h4⟩
   ·rw[h2]at ha;exact(key r y h3 h4 hb ha).elim
   ·omega
theorem zik (ks:List Pr)(m j:Nat)(h:j<m)(hm:m<=ks.length):(ks.take m).getD j (0,0)=ks.getD j (0,0):=by
 rw[zAL9,zAL9,zBH9,if_pos h]
theorem znl (k:Nat)(ks:List Pr)(m j:Nat)(h:k*j+k<=m):((ks.take m).drop (k*j)).take k=(ks.drop (k*j)).take k:=by
 rw[zEM9,zFP9,zDN9 (by omega)]
theorem zmA (k:Nat)(ks:List Pr)(m j:Nat)(h:m<=k*j+k):((ks.take m).drop (k*j)).take k=(ks.drop (k*j)).take (m-k*j):=by
 rw[zEM9,zFP9,Nat.min_eq_right (by omega)]
def zdc (n:zC)(l:List Pr):zC:={ n with pairs:=l }
def znJ (lv i:Nat)(x:Pr)(L:List zC):List zC:=if i%19=0 then L++[⟨lv,0,x.1,x.2,0,[]⟩]else
 match L.getLast? with
 | some n=>L.dropLast++[zdc n (n.pairs++[x])]
 | none=>L
theorem zpb (lv:Nat)(ks:List Pr)(m c:Nat)(hm:m<=ks.length)(hc:19*c<=m):(List.range c).map (zcG lv (ks.take m))=(List.range c).map (zcG lv ks):=by
 refine zEK9 fun j hj=>?_;have hj:j<c:=zCT9.1 hj;unfold zcG;rw[zik ks m _ (by omega) hm,znl 19 ks m j (by omega)]
theorem zv9 (lv:Nat)(ks:List Pr)(m c:Nat)(hm:m<=ks.length)(h1:19*c<m)(h2:m<=19*c+19):zcG lv (ks.take m) c=⟨lv,0,(ks.getD (19*c) (0,0)).1,(ks.getD (19*c) (0,0)).2,0,((ks.drop (19*c)).take (m-19*c)).drop 1⟩:=by
 unfold zcG;rw[zik ks m _ h1 hm,zmA 19 ks m c h2]
theorem zix (lv:Nat)(ks:List Pr)(m c:Nat)(hm:m<=ks.length)(h1:19*c<m)(h2:m<=19*c+19):zb7 lv (ks.take m)=(List.range c).map (zcG lv ks)++[⟨lv,0,(ks.getD (19*c) (0,0)).1,(ks.getD (19*c) (0,0)).2,0,((ks.drop (19*c)).take (m-19*c)).drop 1⟩]:=by
 unfold zb7;have:(za9 19 (ks.take m)).length=c+1:=by rw[zcM,zBA9,zDN9 hm];omega
 rw[this,zDG9,zBJ9,zpb lv ks m c hm (by omega)];simp only[zCC9,zCD9];rw[zv9 lv ks m c hm h1 h2]
theorem zuI (lv:Nat)(ks:List Pr)(i:Nat)(hi:i<ks.length):zb7 lv (ks.take (i+1))=znJ lv i (ks.getD i (0,0)) (zb7 lv (ks.take i)):=by
 unfold znJ
 by_cases h:i%19=0
 ·rw[if_pos h];obtain⟨c,rfl⟩:∃c,i=19*c:=⟨i/19,by omega⟩
  rw[zix lv ks (19*c+1) c (by omega) (by omega) (by omega)];have e:zb7 lv (ks.take (19*c))=(List.range c).map (zcG lv ks):=by
   unfold zb7;have:(za9 19 (ks.take (19*c))).length=c:=by rw[zcM,zBA9,zDN9 (by omega)];omega
   rw[this,zpb lv ks (19*c) c (by omega) (by omega)]
  rw[e];have:((ks.drop (19*c)).take (19*c+1-19*c)).drop 1=[]:=by
   apply zFA9;rw[zBA9];omega
  rw[this]
 ·rw[if_neg h];have hc1:19*(i/19)<i:=by omega
  rw[zix lv ks i (i/19) (by omega) hc1 (by omega),zix lv ks (i+1) (i/19) (by omega) (by omega) (by omega)];simp only[zEW9,zEC9,zdc]
  congr 3
  have e:i+1-19*(i/19)=(i-19*(i/19))+1:=by omega
  rw[e,zBE9,zGI9 (by rw[zBA9,zBT9];omega)]
  congr 1
  rw[zBU9,show 19*(i/19)+(i-19*(i/19))=i by omega,get_lt ks hi];rfl
def zgc (i:Nat)(x:Pr)(L:List zC):List zC:=if 0<i/\i%18=0 then L++[⟨0,0,x.1,9223372036854775808,0,[]⟩]else L
def zp3 (x:Pr)(L:List zC):List zC:=match L.getLast? with
 | some n=>L.dropLast++[zdc n (n.pairs++[x])]
 | none=>L
theorem zxy (ks:List Pr)(m c:Nat)(hm:m<=ks.length)(hc:18*c<=m):(List.range c).map (zch (ks.take m))=(List.range c).map (zch ks):=by
 refine zEK9 fun j hj=>?_;have hj:j<c:=zCT9.1 hj;unfold zch;rw[zik ks m _ (by omega) hm,znl 18 ks m j (by omega)]
theorem zhi (ks:List Pr)(m c:Nat)(hm:m<=ks.length)(h1:18*c<m\/(m=0/\c=0))(h2:m<=18*c+18):zbS (ks.take m)=(List.range c).map (zch ks)++[⟨0,0,if 0<c then(ks.getD (18*c) (0,0)).1 else 0,9223372036854775808,0,(ks.drop (18*c)).take (m-18*c)⟩]:=by
 rw[zhe,zBA9,zDN9 hm];have:max 1 ((m+17)/18)=c+1:=by omega
 rw[this,zDG9,zBJ9,zxy ks m c hm (by omega)];simp only[zCC9,zCD9]
 congr 2
 unfold zch;rw[zmA 18 ks m c h2]
 by_cases hc:0<c
 ·rw[if_pos hc,if_pos hc,zik ks m _ (by omega) hm]
 ·rw[if_neg hc,if_neg hc]
theorem zwl (ks:List Pr)(i:Nat)(hi:i<ks.length):zbS (ks.take (i+1))=zp3 (ks.getD i (0,0)) (zgc i (ks.getD i (0,0)) (zbS (ks.take i))):=by
 unfold zgc
 by_cases h:0<i/\i%18=0
 ·rw[if_pos h];obtain⟨c,rfl⟩:∃c,i=18*(c+1):=⟨i/18-1,by omega⟩
  rw[zhi ks (18*(c+1)+1) (c+1) (by omega) (by omega) (by omega),zhi ks (18*(c+1)) c (by omega) (by omega) (by omega)];unfold zp3;simp only[zEW9,zEC9,zdc];rw[zDG9,zBJ9];simp only[zCC9,zCD9,zAK9]
  congr 2
  ·congr 2
   unfold zch
   congr 1
   rw[show 18*(c+1)-18*c=18 by omega]
  ·rw[if_pos (zCQ9 _)]
   congr 1
   rw[show 18*(c+1)+1-18*(c+1)=1 by omega];rw[zAW9 hi,zEJ9,zGN9,zAL9,zAB9 hi];rfl
 ·rw[if_neg h];have hc1:18*(i/18)<i\/(i=0/\i/18=0):=by omega
  rw[zhi ks i (i/18) (by omega) hc1 (by omega),zhi ks (i+1) (i/18) (by omega) (by omega) (by omega)];unfold zp3;simp only[zEW9,zEC9,zdc]
  congr 3
  have e:i+1-18*(i/18)=(i-18*(i/18))+1:=by omega
  rw[e,zBE9]
  congr 1
  rw[zBU9,show 18*(i/18)+(i-18*(i/18))=i by omega,get_lt ks hi];rfl
theorem f73:ET.funcs.get 73=some T73:=zH Tryz.func73
def zdJ (H H':List zn):Prop:=∀(id:Nat) (o:zn),H[id]?=some o->H'[id]?=some o
theorem zdJ.refl (H:List zn):zdJ H H:=fun _ _ h=>h
theorem zdJ.app {H Hc:List zn}(h:zdJ H Hc)(X:List zn):zdJ H (Hc++X):=fun id o ho=>by
 have:=h id o ho;rw[zAV9 (zAC9.1 this).1];exact this
theorem zdJ.set {H Hc:List zn}(h:zdJ H Hc){a:Nat}(ha:H.length<=a)(o':zn):zdJ H (Hc.set a o'):=fun id o ho=>by
 have hlt:=(zAC9.1 ho).1;rw[zAZ9 (by omega)];exact h id o ho
theorem zbm {α:Type}{l X:List α}{i:Nat}{x:α}(h:l[i]?=some x):(l++X)[i]?=some x:=by
 rw[zAV9 (zAC9.1 h).1];exact h
theorem Lvl.other {H:List zn}{vs ps:List PV}{nodes:List zC}(h:Lvl H vs ps nodes){a:Nat}{o o':zn}(ha:H[a]?=some o)(ho:¬isP o)(X:List zn):Lvl ((H++X).set a o') vs ps nodes :=
 h.keep fun id q hq hi=>by
  have hne:a≠id:=fun e=>by subst e;rw[ha]at hi;injection hi with hi;subst hi;exact ho hq
  rw[zAZ9 hne];exact zbm hi
theorem zjf {α:Type}{l:List α}(h:l ≠ []):∃f x,l=f++[x]:=⟨l.dropLast,l.getLast h,(zFE9 h).symm⟩
theorem zh0 {α:Type}{l:List α}{n:Nat}(h:l.length=n+1):∃f x,l=f++[x]/\f.length=n:=by
 obtain⟨f,x,rfl⟩:=zjf (l:=l) (by intro e;rw[e]at h;simp at h);exact⟨f,x,rfl,by simpa using h⟩
theorem zvH {lv:Nat}{ks:List Pr}{n:zC}(h:n∈zb7 lv ks):n.pairs.length<=18:=by
 unfold zb7 at h;obtain⟨i,_,rfl⟩:=zAM9.1 h;show (((ks.drop (19*i)).take 19).drop 1).length<=18;rw[zBT9,zBA9];omega
set_option maxHeartbeats 4000000 in
theorem zuv (H:List zn)(i8 g8 M8 i13 g13:Nat)(vs8 ps8:List PV)(l:List zC)(bs:List Nat)(lv:Nat)(hr8:H[i8]?=some (.row 124 6 g8 M8 vs8))(hM8:M8<=g8)(hlv:Lvl H vs8 ps8 l)(hr13:H[i13]?=some (.row 3 1 g13 0 (bfl bs)))(hlen:bs.length=l.length)(hl:l.length<=1000)(hl0:∀n∈l,n.level=lv)(hlv12:lv<=12)(hb:∀b∈bs,b<2048) :
  FO ET 73 [.sl i8 g8 0 l.length (2*l.length) 6,.sl i13 g13 0 l.length (2*l.length) 1] H false (fun e H'=>zdJ H H'/\∃idL g M vs ps,e=.ret (.sl idL g 0 vs.length (2*vs.length) 6)/\M<=g/\H.length<=idL/\H'[idL]?=some (.row 124 6 g M vs)/\Lvl H' vs ps (zb7 (lv+1) ((l.map zC.low).zip bs))/\∀p∈ps,∀a,zev p=some a->H.length<=a):=by
 refine zro f73 ?_;have hkl:((l.map zC.low).zip bs).length=l.length:=by simp[hlen]
 generalize hks:(l.map zC.low).zip bs=ks at *
 refine zG ?_;refine zb2 124 6 (i:=5) rfl ?_;simp only[lzy];refine zB (zar (fun m s=>∃(i:Nat) (Hc:List zn) (idL g M:Nat) (vs ps:List PV),m=l.length-i/\i<=l.length/\zdJ H Hc/\M<=g/\Hc[idL]?=some (.row 124 6 g M vs)/\H.length<=idL/\Lvl Hc vs ps (zb7 (lv+1) (ks.take i))/\(∀p∈ps,∀a,zev p=some a->H.length<=a)/\s.tm 0=.sl i8 g8 0 l.length (2*l.length) 6/\s.tm 1=.sl i13 g13 0 l.length (2*l.length) 1/\s.tm 5=.sl idL g 0 vs.length (2*vs.length) 6/\s.tm 6=iv i/\s.df=[]/\s.H=Hc) (n:=l.length) ?_ ?_)
 ·exact⟨0,_,H.length,0,0,[],[],rfl,zAS9 _,(zdJ.refl H).app _,zAJ9 _,by simp,zAJ9 _,(by rw[zGN9];exact Lvl.nil _),fun p hp=>by simp at hp,zt,zt,zt,zt,rfl,rfl⟩
 ·rintro m ⟨tm,df,Hc⟩ ⟨i,Hc',idL,g,M,vs,ps,rfl,hi,hst,hM,hL,hidL,hlvl,hids,h0,h1,h5,h6,rfl,rfl⟩;dsimp only at h0 h1 h5 h6;(try refine zBp ?_);refine za (zAV (zr2 h0 h6) ?_);refine zwh ?_ ?_;rotate_left
  ·intro hlt;have hlt:¬i<l.length:=by have:=of_decide_eq_false hlt;omega
   obtain rfl:i=l.length:=by omega
   refine zOF h5 ?_;rw[<- hkl,zBG9]at hlvl;exact⟨hst,idL,g,M,vs,ps,rfl,hM,hidL,hL,hlvl,hids⟩
  intro hlt;have hlt:i<l.length:=by have:=of_decide_eq_true hlt;omega
  obtain⟨x,hx⟩:∃x,l[i]?=some x:=⟨_,zAB9 hlt⟩
  obtain⟨b,hbb⟩:∃b,bs[i]?=some b:=⟨_,zAB9 (by omega)⟩
  obtain⟨px,hpx⟩:∃px,ps8[i]?=some px:=⟨_,zAB9 (by rw[hlv.lenP];exact hlt)⟩
  have hv8:=(hlv.val i x px hx hpx).1;have hbv:(bfl bs)[i]?=some (iv b):=by rw[zAH9,hbb];rfl
  have hbm:=hb b (zAO9 hbb);have hxl:=hl0 x (zAO9 hx);have hkx:ks.getD i (0,0)=(x.low,b):=by
   have:ks[i]?=some (x.low,b):=by rw[<- hks,zDI9];exact⟨by rw[zAH9,hx];rfl,hbb⟩
   exact getD_some this
  have hstep:=zuI (lv+1) ks i (by omega);rw[hkx]at hstep;have h8:=hst i8 _ hr8;have h13:=hst i13 _ hr13;have hblen:(bfl bs).length=l.length:=by rw[zAA9,hlen]
  have r1:(i:Int).tmod 19=((i%19:Nat):Int):=rfl;have hal:(zb7 (lv+1) (ks.take i)).length<=1000:=by rw[zef,zBA9];omega
  have hvl:=hlvl.lenV;(repeat refine za ?_);refine zB ?_
  by_cases hm:i%19=0
  ·have g1:((i%19:Nat):Int)=0:=by omega
   have hl1:IntKind.i64.wrap ((x.level:Int)+1)=((lv+1:Nat):Int):=zwi;have hbb2:(vs.length+1)*65<=140737488355328:=by omega
   have hLX:∀X,(Hc++X)[idL]?=some (.row 124 6 g M vs):=fun X=>zbm hL;unfold znJ at hstep;rw[if_pos hm]at hstep;(repeat refine za ?_);(repeat refine za ?_);refine zAV (zr3 h6 r1 g1) ?_;refine zct ?_;(repeat refine za ?_);refine zad ?_;refine zA0 (zBa h0 h1 h5 h6 h8 h13 hL hLX hv8 hbv hlt (zr3 hM8 hl1 hbb2)) ?_;refine zQF h0 ?_;refine zhE ?_;refine zJF h6 ?_;refine⟨_,?m,i+1,_,idL,g+1,M,vs++[zcm ⟨lv+1,0,x.low,b,0,[]⟩ .nilsl],ps++[.nilsl],rfl,hlt,(hst.app _).set hidL _,by omega,zBD9 (by rw[zAD9];have:=(zAC9.1 hL).1;omega),hidL,?L,?I,zu h0,zu h1,zt,zu h6,rfl,rfl⟩
   case m=>omega
   case L=>rw[hstep];exact(hlvl.snoc _ rfl).other hL (fun h=>absurd (show (124:Nat)=66 from h) (by decide)) _
   case I =>
    intro p hp a ha;rcases zBI9.1 hp with hp|hp
    ·exact hids p hp a ha
    ·obtain rfl:=zBF9.1 hp;cases ha
  ·have g1:¬((i%19:Nat):Int)=0:=by omega
   have hne:(zb7 (lv+1) (ks.take i)).length≠0:=by rw[zef,zBA9];omega
   obtain⟨front,nd,hfr⟩:=zjf (l:=zb7 (lv+1) (ks.take i)) (fun e=>hne (by rw[e];rfl));rw[hfr]at hlvl hstep hal;have hvl:=hlvl.lenV;have hpl:=hlvl.lenP;rw[zAD9]at hvl hpl;obtain⟨vf,v,rfl,hvf⟩:=zh0 hvl;obtain⟨pf,p,rfl,hpf⟩:=zh0 hpl;have hat:=hlvl.val front.length nd p (by simp) (by rw[<- hpf];simp);have hv:v=zcm nd p:=by
    have h:=hat.1;rw[<- hvf,zAP9 (zAJ9 _),zGH9]at h;injection h
   subst hv;have hpa:=hat.2;have hpid:=hids p (zDP9 _ (zBF9.2 rfl));unfold znJ at hstep;rw[if_neg hm]at hstep;simp only[zEW9,zEC9]at hstep;have hvfl:vf.length<=1000:=by rw[zAD9]at hal;omega
   have hsub:IntKind.i64.wrap (((vf.length+1:Nat):Int)-1)=(vf.length:Int):=zwi;have hvv:(vf++[zcm nd p]).length=vf.length+1:=by simp
   have hvi:vf.length<vf.length+1:=zCE9 _;have hvg:(vf++[zcm nd p])[vf.length]?=some (zcm nd p):=by simp
   have hvs:∀y,(vf++[zcm nd p]).set vf.length y=vf++[y]:=fun y=>by simp
   have hLX:∀X,(Hc++X)[idL]?=some (.row 124 6 g M (vf++[zcm nd p])):=fun X=>zbm hL;rw[hvv]at h5;(repeat refine za ?_);(repeat refine za ?_);refine zAV (zr3 h6 r1 g1) ?_;refine zcf ?_;refine zBl ?_;show W _ _ _ _ _ _;(repeat refine za ?_);(repeat refine za ?_);refine zAV (zr2 h5 hsub) ?_;(repeat refine za ?_);refine zad ?_;rcases hpa with⟨rfl,hnp⟩|⟨idp,gp,rfl,hrp⟩
   ·have hbb2:1*17<=140737488355328:=by omega
    have hLXY:∀X Y,(Hc++X++Y)[idL]?=some (.row 124 6 g M (vf++[zcm nd .nilsl])):=fun X Y=>zbm (zbm hL);refine zA0 (zBa h0 h1 h5 h6 h8 h13 hL hLX hM hv8 hbv (zr4 hlt hM8 hvg hvi)) ?_;refine zA0 (zBb h0 h1 h5 h6 hL hLX hLXY hM hvg hvi hvs) ?_;refine zQF h0 ?_;refine zJF h6 ?_;have hlc:idL<Hc.length:=(zAC9.1 hL).1;refine⟨_,?m,i+1,_,idL,g,g,vf++[zcm (zdc nd (nd.pairs++[(x.low,b)])) (.sl (Hc.length+1) 0 0 1 2 2)],pf++[.sl (Hc.length+1) 0 0 1 2 2],rfl,hlt,((hst.app _).app _).set hidL _,zAJ9 _,?G,hidL,?L,?I,zu h0,zu h1,zu h5,zu h6,rfl,rfl⟩
    case m=>omega
    case G =>
     rw[zBD9 (by simp only[zAD9,zAE9,zAF9];omega)];simp[zdc]
    case L =>
     rw[hstep];refine hlvl.last hvf hpf ?_ (fun a ha=>?_) (fun id o ho hi=>?_)
     ·refine .inr ⟨Hc.length+1,0,by simp[zdc,hnp],?_⟩;rw[zAZ9 (by omega)];simp[zdc,hnp]
     ·right
      have:Hc.length+1=a:=by simpa[zev]using ha
      show Hc.length<=a;omega
     ·left
      have hne:idL≠id:=fun e=>by subst e;rw[hL]at hi;injection hi with hi;subst hi;exact absurd (show (124:Nat)=66 from ho) (by decide)
      rw[zAZ9 hne];exact zbm (zbm hi)
    case I =>
     intro p hp a ha;rcases zBI9.1 hp with hp|hp
     ·exact hids p (zEA9 _ hp) a ha
     ·obtain rfl:=zBF9.1 hp;have:Hc.length+1=a:=by simpa[zev]using ha
      have:=zAC9.1 hL;omega
   ·have hkl2:nd.pairs.length<=18:=zvH (n:=nd) (by rw[hfr];exact zDP9 _ (zBF9.2 rfl));have hbb2:(nd.pairs.length+1)*17<=140737488355328:=by omega
    have hrX:∀X,(Hc++X)[idp]?=some (.row 66 2 gp 0 (nd.pairs.map pv)):=fun X=>zbm hrp;have hipl:idp<Hc.length:=(zAC9.1 hrp).1;have hidp:H.length<=idp:=hpid idp rfl;have d1:idL≠idp:=fun e=>by subst e;rw[hL]at hrp;injection hrp with hrp;injection hrp with hrp;cases hrp
    have d2:i8≠idp:=by have:=(zAC9.1 hr8).1;omega
    have d3:i13≠idp:=by have:=(zAC9.1 hr13).1;omega
    have d4:Hc.length≠idp:=by omega
    have b1:(idL==idp)=false:=by simpa using d1
    have b2:(i8==idp)=false:=by simpa using d2
    have b3:(i13==idp)=false:=by simpa using d3
    have b4:(Hc.length==idp)=false:=by simpa using d4
    have b1':(idp==idL)=false:=by simpa using d1.symm
    have b2':(idp==i8)=false:=by simpa using d2.symm
    have b3':(idp==i13)=false:=by simpa using d3.symm
    have b4':(idp==Hc.length)=false:=by simpa using d4.symm
    have hLS:∀X y,((Hc++X).set idp y)[idL]?=some (.row 124 6 g M (vf++[zcm nd (.sl idp gp 0 nd.pairs.length (2*nd.pairs.length) 2)])):=fun X y=>by rw[zAZ9 (fun e=>d1 e.symm)];exact zbm hL
    refine zA0 (zBa h0 h1 h5 h6 h8 h13 hL hLX hM hv8 hbv (zr6 hlt hM8 hvg hvi hrX hbb2)) ?_;refine zda ?_ (by simp(disch:=omega)only[go_sem,h0,h1,h5,h6,hL,hLX,hLS,hM,hvg,hvi,hvs,b1,b2,b3,b4,b1',b2',b3',b4']<;>rfl) (by first|exact trivial|simp only[go_sem,h0,h1,h5,h6,hL,hLX,hLS,hM,hvg,hvi,hvs,b1,b2,b3,b4,b1',b2',b3',b4']);refine zQF h0 ?_;refine zJF h6 ?_;have hlc:idL<Hc.length:=(zAC9.1 hL).1;refine⟨_,?m,i+1,_,idL,g,g,vf++[zcm (zdc nd (nd.pairs++[(x.low,b)])) (.sl idp (gp+1) 0 (nd.pairs.length+1) (2*(nd.pairs.length+1)) 2)],pf++[.sl idp (gp+1) 0 (nd.pairs.length+1) (2*(nd.pairs.length+1)) 2],rfl,hlt,((hst.app _).set hidp _).set hidL _,zAJ9 _,?G,hidL,?L,?I,zu h0,zu h1,zu h5,zu h6,rfl,rfl⟩
    case m=>omega
    case G =>
     rw[zBD9 (by simp only[zCP9,zAD9,zAE9,zAF9];omega)];simp[zdc]
    case L =>
     rw[hstep];refine hlvl.last hvf hpf ?_ (fun a ha=>?_) (fun id o ho hi=>?_)
     ·refine .inr ⟨idp,gp+1,by simp[zdc],?_⟩;rw[zAZ9 d1,zBD9 (by simp only[zAD9,zAE9,zAF9];omega)];simp[zdc]
     ·left
      exact ha
     ·by_cases he:idp=id
      ·right;rw[<- he];rfl
      ·left
       have hne:idL≠id:=fun e=>by subst e;rw[hL]at hi;injection hi with hi;subst hi;exact absurd (show (124:Nat)=66 from ho) (by decide)
       rw[zAZ9 hne,zAZ9 he];exact zbm hi
    case I =>
     intro p hp a ha;rcases zBI9.1 hp with hp|hp
     ·exact hids p (zEA9 _ hp) a ha
     ·obtain rfl:=zBF9.1 hp;have:idp=a:=by simpa[zev]using ha
      omega
def zb8 (a:Nat)(H H':List zn):Prop:=∀(id:Nat) (o:zn),id≠a->H[id]?=some o->H'[id]?=some o
theorem zb8.refl (a:Nat)(H:List zn):zb8 a H H:=fun _ _ _ h=>h
theorem zb8.app {a:Nat}{H Hc:List zn}(h:zb8 a H Hc)(X:List zn):zb8 a H (Hc++X):=fun id o hi ho=>zbm (h id o hi ho)
theorem zb8.set {a:Nat}{H Hc:List zn}(h:zb8 a H Hc)(o':zn):zb8 a H (Hc.set a o'):=fun id o hi ho=>by
 rw[zAZ9 (fun e=>hi e.symm)];exact h id o hi ho
theorem zb8.trans {a:Nat}{H H' H'':List zn}(h:zb8 a H H')(k:zb8 a H' H''):zb8 a H H'':=fun id o hi ho=>k id o hi (h id o hi ho)
theorem zfG {H X:List zn}{a:Nat}{o o':zn}(h:H[a]?=some o):((H++X).set a o')[a]?=some o':=by
 have:=(zAC9.1 h).1;rw[zBD9 (by rw[zAD9];omega)]
theorem zwZ (q:Nat)(free:List Nat)(used n:Nat)(hfl:free.length<1000000)(hul:used+n<=free.length)(tm:Nat->PV)(H:List zn)(idL g:Nat)(z8:Nat)(idA:Nat)(hA:H[idA]?=some (.row 3 1 0 0 []))(h1:tm 1=.list q 1 (bfl free))(h8:tm 8=.sl idL g 0 n z8 6)(h12:tm 12=iv used)(h13:tm 13=.sl idA 0 0 0 0 1)(h14:tm 14=iv 0){Q:FX->FSt->Prop}
  (hQ:∀(tm':Nat->PV) (H':List zn),zb8 idA H H'->H'[idA]?=some (.row 3 1 n 0 (bfl ((free.drop used).take n)))->(∀k,k≠13->k≠14->(k<74\/88<k)->tm' k=tm k)->tm' 13=.sl idA n 0 n (2*n) 1->Q .norm ⟨tm',[],H'⟩) :
  W ET ET.caught none c27_4 ⟨tm,[],H⟩ Q:=by
 unfold c27_4 xC;have hbg:∀i,i<n->((free.drop used).take n)[i]?=some (free.getD (used+i) 0):=fun i hi=>by
  rw[zBH9,if_pos hi,zBU9,zAL9,zAB9 (show used+i<free.length by omega)];rfl
 have hbl:((free.drop used).take n).length=n:=by rw[zBA9,zBT9];omega
 generalize hbs:(free.drop used).take n=bs at *
 refine zB (zar (fun m s=>∃(i:Nat) (Hc:List zn),m=n-i/\i<=n/\zb8 idA H Hc/\Hc[idA]?=some (.row 3 1 i 0 (bfl (bs.take i)))/\(∀k,k≠13->k≠14->(k<74\/88<k)->s.tm k=tm k)/\s.tm 13=.sl idA i 0 i (2*i) 1/\s.tm 14=iv i/\s.df=[]/\s.H=Hc) (n:=n) ?_ ?_)
 ·exact⟨0,H,rfl,zAS9 _,.refl _ _,hA,fun k _ _ _=>rfl,h13,h14,rfl,rfl⟩
 ·rintro m ⟨tn,df,Hc⟩ ⟨i,Hc',rfl,hi,hst,hr,hf,h13',h14',rfl,rfl⟩;dsimp only at hf h13' h14';have h1':=(hf 1 (by decide) (by decide) (by decide)).trans h1;have h8':=(hf 8 (by decide) (by decide) (by decide)).trans h8;have h12':=(hf 12 (by decide) (by decide) (by decide)).trans h12;(try refine zBp ?_);refine za (zAV (zr2 h8' h14') ?_);refine zwh ?_ ?_
  ·intro hlt;have hlt:i<n:=by have:=of_decide_eq_true hlt;omega
   have hfi:used+i<free.length:=by omega
   have hfv:(bfl free)[used+i]?=some (iv (free.getD (used+i) 0:Nat)):=by rw[zAH9,zAB9 hfi,zAL9,zAB9 hfi];rfl
   have e1:((used:Int)+(i:Int))=((used+i:Nat):Int):=by omega
   have hb2:(i+1)*9<=140737488355328:=by omega
   have hlen:(bfl (bs.take i)).length=i:=by rw[zAA9,zBA9];omega
   have hX:∀X,(Hc++X)[idA]?=some (.row 3 1 i 0 (bfl (bs.take i))):=fun X=>zbm hr;have hstep:bfl (bs.take (i+1))=bfl (bs.take i)++[iv (free.getD (used+i) 0:Nat)]:=by
    rw[zBE9,hbg i hlt];simp
   generalize free.getD (used+i) 0=b at *
   (repeat refine za ?_);refine zB ?_;(repeat refine za ?_);refine zJF (zBc h1' h12' h13' h14' e1 hfi hfv hb2 hlen hX) ?_;refine zJF h14' ?_;refine⟨_,?m,i+1,_,rfl,hlt,(hst.app _).set _,?G,fun k k1 k2 k3=>?_,zt,zu h14',rfl,rfl⟩
   case m=>omega
   case G=>rw[zfG hr,hstep]
   ·simp(disch:=omega)only[zbo];exact hf k k1 k2 k3
  ·intro hlt;have hlt:¬i<n:=by have:=of_decide_eq_false hlt;omega
   obtain rfl:i=n:=by omega
   refine hQ _ Hc hst (by rw[hr,<- hbl,zBG9]) (fun k k1 k2 k3=>?_) (by simp[upd,h13']);simp(disch:=omega)only[zbo];exact hf k k1 k2 k3
theorem zxb (bs ws:List Nat)(i b:Nat)(hb:bs[i]?=some b)(hbm:b<2048)(hws:ws.length=64)(hbs:bs.length<1000000)(tm:Nat->PV)(H:List zn)(idO:Nat)(V0:List PV)(hV0:V0.length<1000000)(idA gA:Nat)(hne:idA≠idO)(hO:H[idO]?=some (.row 83 2 V0.length 0 V0))(hA:H[idA]?=some (.row 3 1 gA 0 (bfl bs)))(h11:tm 11=.sl idO V0.length 0 V0.length (2*V0.length) 2)(h13:tm 13=.sl idA gA 0 bs.length (2*bs.length) 1)(h15:tm 15=iv i)(h16:tm 16=wv 0 ws)(h17:tm 17=iv 0){Q:FX->FSt->Prop}
  (hQ:∀(tm':Nat->PV) (H':List zn) (V:List PV),V=V0++(ze8 b ws).map zBo->zb8 idO H H'->H'[idO]?=some (.row 83 2 V.length 0 V)->(∀k,k≠11->k≠17->(k<114\/132<k)->tm' k=tm k)->tm' 11=.sl idO V.length 0 V.length (2*V.length) 2->Q .norm ⟨tm',[],H'⟩) :
  W ET ET.caught none c27_8 ⟨tm,[],H⟩ Q:=by
 unfold c27_8 xC;refine zB (zar (fun m s=>∃(j:Nat) (V:List PV) (Hc:List zn),m=64-j/\j<=64/\V=V0++((List.range j).map fun k=>(64*b+k,ws.getD k 0)).map zBo/\zb8 idO H Hc/\Hc[idO]?=some (.row 83 2 V.length 0 V)/\(∀k,k≠11->k≠17->(k<114\/132<k)->s.tm k=tm k)/\s.tm 11=.sl idO V.length 0 V.length (2*V.length) 2/\s.tm 17=iv j/\s.df=[]/\s.H=Hc) (n:=64) ?_ ?_)
 ·exact⟨0,V0,H,rfl,zAS9 _,by simp,.refl _ _,hO,fun k _ _ _=>rfl,h11,h17,rfl,rfl⟩
 ·rintro m ⟨tn,df,Hc⟩ ⟨j,V,Hc',rfl,hj,hV,hst,hr,hf,h11',h17',rfl,rfl⟩;dsimp only at hf h11' h17';have h13':=(hf 13 (by decide) (by decide) (by decide)).trans h13;have h15':=(hf 15 (by decide) (by decide) (by decide)).trans h15;have h16':=(hf 16 (by decide) (by decide) (by decide)).trans h16;have hVl:V.length=V0.length+j:=by rw[hV];simp
  (try refine zBp ?_);refine za (zAV h17' ?_);refine zwh ?_ ?_
  ·intro hlt;have hlt:j<64:=by have:=of_decide_eq_true hlt;omega
   have hA':=hst idA _ hne hA;have hbv:(bfl bs)[i]?=some (iv b):=by rw[zAH9,hb];rfl
   have hib:i<bs.length:=(zAC9.1 hb).1;have hlt2:j<ws.length:=by omega
   have hqv:(ws.map uv)[j]?=some (uv (ws.getD j 0)):=by rw[zAH9,zAB9 hlt2,zAL9,zAB9 hlt2];rfl
   have hb2:(V.length+1)*17<=140737488355328:=by omega
   have hV2:V++[zBo (64*b+j,ws.getD j 0)]=V0++((List.range (j+1)).map fun k=>(64*b+k,ws.getD k 0)).map zBo:=by rw[zDG9,hV];simp
   have e1:IntKind.i64.wrap (64*(b:Int))=((64*b:Nat):Int):=zwi;have e2:IntKind.i64.wrap (((64*b:Nat):Int)+(j:Int))=((64*b+j:Nat):Int):=zwi;have hX:∀X,(Hc++X)[idO]?=some (.row 83 2 V.length 0 V):=fun X=>zbm hr;(repeat refine za ?_);refine zB ?_;(repeat refine za ?_);refine zad ?_;refine zA0 (zBa h11' h13' h15' h16' h17' hA' hbv hib hlt2 hqv e1 (zr3 e2 hb2 hX)) ?_;refine zQF h15' ?_;refine zJF h17' ?_;refine⟨_,?m,j+1,V++[zBo (64*b+j,ws.getD j 0)],_,rfl,hlt,hV2,(hst.app _).set _,?G,fun k k1 k2 k3=>?_,zt,zu h17',rfl,rfl⟩
   case m=>omega
   case G=>rw[zfG hr,zAD9];rfl
   ·simp(disch:=omega)only[zbo];exact hf k k1 k2 k3
  ·intro hlt;have hlt:¬j<64:=by have:=of_decide_eq_false hlt;omega
   obtain rfl:j=64:=by omega
   refine hQ _ Hc V (by rw[hV,ze8,hws]) hst hr (fun k k1 k2 k3=>?_) (by simp[upd,h11']);simp(disch:=omega)only[zbo];exact hf k k1 k2 k3
theorem zsi {l:List Pr}{n:zC}(h:n∈zbS l):n.pairs.length<=18:=by
 rw[zhe]at h;obtain⟨i,_,rfl⟩:=zAM9.1 h;show ((l.drop (18*i)).take 18).length<=18;rw[zBA9];omega
set_option maxHeartbeats 4000000 in
theorem zxI (p:Nat)(l:List Pr)(hl:l.length<=500)(tm:Nat->PV)(H:List zn)(idL g0 M0:Nat)(vs0 ps0:List PV)(hM0:M0<=g0)(hL0:H[idL]?=some (.row 124 6 g0 M0 vs0))(hlv0:Lvl H vs0 ps0 (zbS []))(h0:tm 0=psv p l)(h8:tm 8=.sl idL g0 0 vs0.length (2*vs0.length) 6)(h9:tm 9=iv 0){Q:FX->FSt->Prop}
  (hQ:∀(tm':Nat->PV) (H':List zn) (g M:Nat) (vs ps:List PV),M<=g->H'[idL]?=some (.row 124 6 g M vs)->Lvl H' vs ps (zbS l)->(∀k,k≠8->k≠9->k≠10->(k<34\/73<k)->tm' k=tm k)->tm' 8=.sl idL g 0 vs.length (2*vs.length) 6->Q .norm ⟨tm',[],H'⟩) :
  W ET ET.caught none c27_0 ⟨tm,[],H⟩ Q:=by
 unfold c27_0 xC;refine zB (zar (fun m s=>∃(i:Nat) (Hc:List zn) (g M:Nat) (vs ps:List PV),m=l.length-i/\i<=l.length/\M<=g/\Hc[idL]?=some (.row 124 6 g M vs)/\Lvl Hc vs ps (zbS (l.take i))/\(∀k,k≠8->k≠9->k≠10->(k<34\/73<k)->s.tm k=tm k)/\s.tm 8=.sl idL g 0 vs.length (2*vs.length) 6/\s.tm 9=iv i/\s.df=[]/\s.H=Hc) (n:=l.length) ?_ ?_)
 ·exact⟨0,H,g0,M0,vs0,ps0,rfl,zAS9 _,hM0,hL0,by rw[zGN9];exact hlv0,fun k _ _ _ _=>rfl,h8,h9,rfl,rfl⟩
 ·rintro m ⟨tn,df,Hc⟩ ⟨i,Hc',g,M,vs,ps,rfl,hi,hM,hL,hlvl,hf,h8',h9',rfl,rfl⟩;dsimp only at hf h8' h9';have h0':=(hf 0 (by decide) (by decide) (by decide) (by decide)).trans h0;(try refine zBp ?_);refine za (zAV (zr2 h0' h9') ?_);refine zwh ?_ ?_;rotate_left
  ·intro hlt;have hlt:¬i<l.length:=by have:=of_decide_eq_false hlt;omega
   obtain rfl:i=l.length:=by omega
   rw[zBG9]at hlvl;refine hQ _ Hc g M vs ps hM hL hlvl (fun k k1 k2 k3 k4=>?_) (by simp[upd,h8']);simp(disch:=omega)only[zbo];exact hf k k1 k2 k3 k4
  intro hlt;have hlt:i<l.length:=by have:=of_decide_eq_true hlt;omega
  obtain⟨x,hx⟩:∃x,l[i]?=some x:=⟨_,zAB9 hlt⟩
  have hxv:(l.map pv)[i]?=some (pv x):=by rw[zAH9,hx];rfl
  have hstep:=zwl l i hlt;rw[getD_some hx]at hstep;have r1:(i:Int).tmod 18=((i%18:Nat):Int):=rfl;have hnl:(zbS (l.take i)).length<=28:=by rw[zeA,zBA9];omega
  have hvl:=hlvl.lenV;have hfew:∀n∈zgc i x (zbS (l.take i)),n.pairs.length<=18:=by
   intro n hn;unfold zgc at hn
   split at hn
   ·rcases zBI9.1 hn with hn|hn
    ·exact zsi hn
    ·obtain rfl:=zBF9.1 hn;exact zAS9 _
   ·exact zsi hn
  have hnz:zgc i x (zbS (l.take i)) ≠ []:=by
   unfold zgc
   split
   ·simp
   ·intro e;have:=congrArg List.length e;rw[zeA]at this;simp at this
  have hnw:(zgc i x (zbS (l.take i))).length<=29:=by
   unfold zgc
   split
   ·rw[zAD9];simp;omega
   ·omega
  generalize hnodes:zgc i x (zbS (l.take i))=nodes at hstep hfew hnz hnw;(repeat refine za ?_);refine zB ?_;refine za (zbD (Q:=fun y s'=>y=.norm/\∃(g M:Nat) (vs ps:List PV),M<=g/\s'.H[idL]?=some (.row 124 6 g M vs)/\Lvl s'.H vs ps nodes/\(∀k,k≠8->k≠9->k≠10->(k<34\/73<k)->s'.tm k=tn k)/\s'.tm 8=.sl idL g 0 vs.length (2*vs.length) 6/\s'.tm 9=iv i/\s'.df=[]) ?_ ?_)
  ·by_cases hm:0<i/\i%18=0
   ·have g1:((i%18:Nat):Int)=0:=by omega
    have g0:(0:Int)<(i:Int):=by omega
    have hbb2:(vs.length+1)*65<=140737488355328:=by omega
    have hLX:∀X,(Hc++X)[idL]?=some (.row 124 6 g M vs):=fun X=>zbm hL;unfold zgc at hnodes;rw[if_pos hm]at hnodes;(repeat refine za ?_);(repeat refine za ?_);refine zAV (zr4 h9' r1 g1 g0) ?_;refine zct ?_;refine zAU ?_;refine zKF (zr7 h0' h8' h9' hxv hlt hbb2 hLX) ?_;refine⟨rfl,g+1,M,vs++[zcm ⟨0,0,x.1,9223372036854775808,0,[]⟩ .nilsl],ps++[.nilsl],by omega,zfG hL,?_,fun k k1 k2 k3 k4=>?_,zt,zu h9',rfl⟩
    ·rw[<- hnodes];exact(hlvl.snoc _ rfl).other hL (fun h=>absurd (show (124:Nat)=66 from h) (by decide)) _
    ·simp(disch:=omega)only[zbo]
   ·unfold zgc at hnodes;rw[if_neg hm]at hnodes
    by_cases g0:0<i
    ·have g0':(0:Int)<(i:Int):=by omega
     have g1:¬((i%18:Nat):Int)=0:=by omega
     (repeat refine za ?_);(repeat refine za ?_);refine zAV (zr4 h9' r1 g1 g0') ?_;refine zcf ?_;refine zBl ⟨rfl,g,M,vs,ps,hM,hL,by rw[<- hnodes];exact hlvl,fun k k1 k2 k3 k4=>?_,zu h8',zu h9',rfl⟩;simp(disch:=omega)only[zbo]
    ·obtain rfl:i=0:=by omega
     (repeat refine za ?_);(repeat refine za ?_);refine zAV h9' ?_;refine zcf ?_;refine zBl ⟨rfl,g,M,vs,ps,hM,hL,by rw[<- hnodes];exact hlvl,fun k k1 k2 k3 k4=>?_,zu h8',zu h9',rfl⟩;simp(disch:=omega)only[zbo]
  clear hM hL hlvl hvl h8' h9';rintro y ⟨tq,df,Hc⟩ ⟨rfl,g,M,vs,ps,hM,hL,hlvl,hf2,h8',h9',rfl⟩;dsimp only at hM hL hlvl hf2 h8' h9';have h0q:=(hf2 0 (by decide) (by decide) (by decide) (by decide)).trans h0';obtain⟨front,nd,hfr⟩:=zjf (l:=nodes) hnz;subst hfr;have hvl:=hlvl.lenV;have hpl:=hlvl.lenP;rw[zAD9]at hvl hpl;obtain⟨vf,v,rfl,hvf⟩:=zh0 hvl;obtain⟨pf,p',rfl,hpf⟩:=zh0 hpl;have hat:=hlvl.val front.length nd p' (by simp) (by rw[<- hpf];simp);have hv:v=zcm nd p':=by
   have h:=hat.1;rw[<- hvf,zAP9 (zAJ9 _),zGH9]at h;injection h
  subst hv;have hpa:=hat.2;have hkl2:nd.pairs.length<=18:=hfew nd (zDP9 _ (zBF9.2 rfl));unfold zp3 at hstep;simp only[zEW9,zEC9]at hstep;have hvfl:vf.length<=1000:=by rw[zAD9]at hnw;omega
  have hsub:IntKind.i64.wrap (((vf.length+1:Nat):Int)-1)=(vf.length:Int):=zwi;have hvv:(vf++[zcm nd p']).length=vf.length+1:=by simp
  have hvi:vf.length<vf.length+1:=zCE9 _;have hvg:(vf++[zcm nd p'])[vf.length]?=some (zcm nd p'):=by simp
  have hvs:∀y,(vf++[zcm nd p']).set vf.length y=vf++[y]:=fun y=>by simp
  have hLX:∀X,(Hc++X)[idL]?=some (.row 124 6 g M (vf++[zcm nd p'])):=fun X=>zbm hL;rw[hvv]at h8';(repeat refine za ?_);(repeat refine za ?_);refine zAV (zr2 h8' hsub) ?_;(repeat refine za ?_);refine zad ?_;rcases hpa with⟨rfl,hnp⟩|⟨idp,gp,rfl,hrp⟩
  ·have hLXY:∀X Y,(Hc++X++Y)[idL]?=some (.row 124 6 g M (vf++[zcm nd .nilsl])):=fun X Y=>zbm (zbm hL);refine zA0 (zBc h0q h8' h9' hL hLX hM hxv hlt hvg hvi) ?_;refine zA0 (zBc h0q h8' h9' hL hLX hLXY hM hvg hvi hvs) ?_;refine zQF h0q ?_;refine zJF h9' ?_;have hlc:idL<Hc.length:=(zAC9.1 hL).1;refine⟨_,?m,i+1,_,g,g,vf++[zcm (zdc nd (nd.pairs++[x])) (.sl (Hc.length+1) 0 0 1 2 2)],pf++[.sl (Hc.length+1) 0 0 1 2 2],rfl,hlt,zAJ9 _,?G,?L,fun k k1 k2 k3 k4=>?_,zu h8',zu h9',rfl,rfl⟩
   case m=>omega
   case G =>
    rw[zBD9 (by simp only[zAD9,zAE9,zAF9];omega)];simp[zdc]
   case L =>
    rw[hstep];refine hlvl.last hvf hpf ?_ (fun a ha=>?_) (fun id o ho hi=>?_)
    ·refine .inr ⟨Hc.length+1,0,by simp[zdc,hnp],?_⟩;rw[zAZ9 (by omega)];simp[zdc,hnp]
    ·right
     have:Hc.length+1=a:=by simpa[zev]using ha
     show Hc.length<=a;omega
    ·left
     have hne:idL≠id:=fun e=>by subst e;rw[hL]at hi;injection hi with hi;subst hi;exact absurd (show (124:Nat)=66 from ho) (by decide)
     rw[zAZ9 hne];exact zbm (zbm hi)
   ·simp(disch:=omega)only[zbo];exact(hf2 k k1 k2 k3 k4).trans (hf k k1 k2 k3 k4)
  ·have hbb2:(nd.pairs.length+1)*17<=140737488355328:=by omega
   have hrX:∀X,(Hc++X)[idp]?=some (.row 66 2 gp 0 (nd.pairs.map pv)):=fun X=>zbm hrp;have hipl:idp<Hc.length:=(zAC9.1 hrp).1;have d1:idL≠idp:=fun e=>by subst e;rw[hL]at hrp;injection hrp with hrp;injection hrp with hrp;cases hrp
   have d4:Hc.length≠idp:=by omega
   have b1:(idL==idp)=false:=by simpa using d1
   have b4:(Hc.length==idp)=false:=by simpa using d4
   have b1':(idp==idL)=false:=by simpa using d1.symm
   have b4':(idp==Hc.length)=false:=by simpa using d4.symm
   have hLS:∀X y,((Hc++X).set idp y)[idL]?=some (.row 124 6 g M (vf++[zcm nd (.sl idp gp 0 nd.pairs.length (2*nd.pairs.length) 2)])):=fun X y=>by rw[zAZ9 (fun e=>d1 e.symm)];exact zbm hL
   refine zA0 (zBa h0q h8' h9' hL hLX hM hxv hlt hvg hvi hrX hbb2) ?_;refine zda ?_ (by simp(disch:=omega)only[go_sem,h0q,h8',h9',hL,hLX,hLS,hM,hvg,hvi,hvs,b1,b4,b1',b4']<;>rfl) (by first|exact trivial|simp only[go_sem,h0q,h8',h9',hL,hLX,hLS,hM,hvg,hvi,hvs,b1,b4,b1',b4']);refine zQF h0q ?_;refine zJF h9' ?_;have hlc:idL<Hc.length:=(zAC9.1 hL).1;refine⟨_,?m,i+1,_,g,g,vf++[zcm (zdc nd (nd.pairs++[x])) (.sl idp (gp+1) 0 (nd.pairs.length+1) (2*(nd.pairs.length+1)) 2)],pf++[.sl idp (gp+1) 0 (nd.pairs.length+1) (2*(nd.pairs.length+1)) 2],rfl,hlt,zAJ9 _,?G,?L,fun k k1 k2 k3 k4=>?_,zu h8',zu h9',rfl,rfl⟩
   case m=>omega
   case G =>
    rw[zBD9 (by simp only[zCP9,zAD9,zAE9,zAF9];omega)];simp[zdc]
   case L =>
    rw[hstep];refine hlvl.last hvf hpf ?_ (fun a ha=>?_) (fun id o ho hi=>?_)
    ·refine .inr ⟨idp,gp+1,by simp[zdc],?_⟩;rw[zAZ9 d1,zBD9 (by simp only[zAD9,zAE9,zAF9];omega)];simp[zdc]
    ·left
     exact ha
    ·by_cases he:idp=id
     ·right;rw[<- he];rfl
     ·left
      have hne:idL≠id:=fun e=>by subst e;rw[hL]at hi;injection hi with hi;subst hi;exact absurd (show (124:Nat)=66 from ho) (by decide)
      rw[zAZ9 hne,zAZ9 he];exact zbm hi
   ·simp(disch:=omega)only[zbo];exact(hf2 k k1 k2 k3 k4).trans (hf k k1 k2 k3 k4)
theorem Lvl.setNode {H:List zn}{vs ps:List PV}{nodes:List zC}(h:Lvl H vs ps nodes){q:Nat}{n n':zC}{p:PV}(hn:nodes[q]?=some n)(hp:ps[q]?=some p)(he:n'.pairs=n.pairs):Lvl H (vs.set q (zcm n' p)) ps (nodes.set q n'):=by
 have hq:q<nodes.length:=(zAC9.1 hn).1;refine⟨by simp[h.lenV],by simp[h.lenP],fun r m x hm hx=>?_,h.dist⟩
 by_cases hr:r=q
 ·subst hr;rw[zBD9 hq]at hm;rw[zBD9 (by rw[h.lenV];exact hq)];injection hm with hm;subst hm;rw[hp]at hx;injection hx with hx;subst hx;exact⟨rfl,by rw[he];exact(h.val r n p hn hp).2⟩
 ·rw[zAZ9 (fun e=>hr e.symm)]at hm⊢;exact h.val r m x hm hx
theorem Lvl.but {H H':List zn}{vs ps:List PV}{nodes:List zC}(h:Lvl H vs ps nodes){a:Nat}{o:zn}(ha:H[a]?=some o)(ho:¬isP o)(k:zb8 a H H'):Lvl H' vs ps nodes :=
 h.keep fun id q hq hi=>k id q (fun e=>by subst e;rw[ha]at hi;injection hi with hi;subst hi;exact ho hq) hi
theorem Lvl.set0 {H:List zn}{vs ps:List PV}{nodes:List zC}(h:Lvl H vs ps nodes){a:Nat}{o o':zn}(ha:H[a]?=some o)(ho:¬isP o):Lvl (H.set a o') vs ps nodes :=
 h.but ha ho ((zb8.refl a H).set o')
theorem zgB.frz {H:List zn}{p:PV}{ps:List Pr}(h:zgB H p ps):Frz H 1 p (psv 1 ps):=by
 rcases h with⟨rfl,rfl⟩|⟨id,g,rfl,h2⟩
 ·exact .nil _ _
 ·exact Frz.whole h2 rfl (by simp) (by simp) (fun v hv=>by obtain⟨x,_,rfl⟩:=zAM9.1 hv;rfl) zeF
def zgv (bs:List Nat)(q:Nat)(n:zC):zC:={ n with sib:=bs.getD (q+1) 0 }
set_option maxHeartbeats 4000000 in
theorem zxf (bs:List Nat)(nl:List zC)(hbl:bs.length=nl.length)(hnl:nl.length<=100)(hbm:∀b∈bs,b<2048)(hg:∀n∈nl,zcQ n/\n.sib=0)(tm:Nat->PV)(H:List zn)(idL idA idO g M0 gA:Nat)(vs0 ps V0:List PV)(hV0:V0.length<900000)(hM0:M0<=g)(hL0:H[idL]?=some (.row 124 6 g M0 vs0))(hlv0:Lvl H vs0 ps nl)(hA0:H[idA]?=some (.row 3 1 gA 0 (bfl bs)))(hO0:H[idO]?=some (.row 83 2 V0.length 0 V0))(h8:tm 8=.sl idL g 0 nl.length (2*nl.length) 6)(h11:tm 11=.sl idO V0.length 0 V0.length (2*V0.length) 2)(h13:tm 13=.sl idA gA 0 bs.length (2*bs.length) 1)(h15:tm 15=iv 0){Q:FX->FSt->Prop}
  (hQ:∀(tm':Nat->PV) (H':List zn) (M:Nat) (vs V:List PV),M<=g->H'[idL]?=some (.row 124 6 g M vs)->Lvl H' vs ps (zbq bs nl)->H'[idA]?=some (.row 3 1 gA 0 (bfl bs))->H'[idO]?=some (.row 83 2 V.length 0 V)->V=V0++(ze3 bs (zbq bs nl)).map zBo->(∀k,k<11\/(11<k/\k<15)\/132<k->tm' k=tm k)->tm' 11=.sl idO V.length 0 V.length (2*V.length) 2->Q .norm ⟨tm',[],H'⟩) :
  W ET ET.caught none c27_6 ⟨tm,[],H⟩ Q:=by
 unfold c27_6 xC;have hll:=zcV bs nl hbl;have hVl:∀i,(((bs.zip (zbq bs nl)).take i).flatMap fun x=>ze8 x.1 (zbh x.2)).length<=64*i:=fun i=>by
  rw[zhQ,zBA9];omega
 refine zB (zar (fun m s=>∃(i:Nat) (Hc:List zn) (M:Nat) (vs V:List PV) (nodes:List zC),m=nl.length-i/\i<=nl.length/\M<=g/\Hc[idL]?=some (.row 124 6 g M vs)/\Lvl Hc vs ps nodes/\nodes.length=nl.length/\(∀(q:Nat) (n:zC),nl[q]?=some n->nodes[q]?=some (if q<i then zgv bs q n else n))/\Hc[idA]?=some (.row 3 1 gA 0 (bfl bs))/\Hc[idO]?=some (.row 83 2 V.length 0 V)/\V=V0++(((bs.zip (zbq bs nl)).take i).flatMap fun x=>ze8 x.1 (zbh x.2)).map zBo/\(∀k,k<11\/(11<k/\k<15)\/132<k->s.tm k=tm k)/\s.tm 11=.sl idO V.length 0 V.length (2*V.length) 2/\s.tm 15=iv i/\s.df=[]/\s.H=Hc) (n:=nl.length) ?_ ?_)
 ·exact⟨0,H,M0,vs0,V0,nl,rfl,zAS9 _,hM0,hL0,hlv0,rfl,fun q n hn=>by rw[if_neg (zFI9 _)];exact hn,hA0,hO0,by simp,fun k _=>rfl,h11,h15,rfl,rfl⟩
 ·rintro m ⟨tn,df,Hc⟩ ⟨i,Hc',M,vs,V,nodes,rfl,hi,hM,hL,hlvl,hnlen,hnode,hA,hO,hV,hf,h11',h15',rfl,rfl⟩;dsimp only at hf h11' h15';have h8':=(hf 8 (by decide)).trans h8;have h13':=(hf 13 (by decide)).trans h13;have hVli:=hVl i;have hVlen:V.length<=V0.length+64*i:=by rw[hV,zAD9,zAA9];omega
  (try refine zBp ?_);refine za (zAV (zr2 h8' h15') ?_);refine zwh ?_ ?_;rotate_left
  ·intro hlt;have hlt:¬i<nl.length:=by have:=of_decide_eq_false hlt;omega
   obtain rfl:i=nl.length:=by omega
   have hnl2:nodes=zbq bs nl:=by
    apply zFC9
    intro q;rcases zCY9 q nl.length with hq|hq
    ·have hn:=zAB9 hq;rw[hnode q _ hn,if_pos hq,zei bs nl q _ hbl hn];rfl
    ·rw[zBP9 (by omega),zBP9 (by omega)]
   rw[hnl2]at hlvl;refine hQ _ Hc M vs V hM hL hlvl hA hO ?_ (fun k k1=>?_) (by simp[upd,h11'])
   ·rw[hV,zCS9 (by simp;omega)];rfl
   ·simp(disch:=omega)only[zbo];exact hf k k1
  intro hlt;have hlt:i<nl.length:=by have:=of_decide_eq_true hlt;omega
  obtain⟨x,hx⟩:∃x,nl[i]?=some x:=⟨_,zAB9 hlt⟩
  obtain⟨b,hb⟩:∃b,bs[i]?=some b:=⟨_,zAB9 (by omega)⟩
  obtain⟨p,hp⟩:∃p,ps[i]?=some p:=⟨_,zAB9 (by rw[hlvl.lenP];omega)⟩
  have hxn:nodes[i]?=some x:=by have:=hnode i x hx;rwa [if_neg (zGR9 _)]at this
  have hvx:=(hlvl.val i x p hxn hp).1;have hgx:=hg x (zAO9 hx);have hli:=zei bs nl i x hbl hx;change (zbq bs nl)[i]?=some (zgv bs i x)at hli;have hbmb:=hbm b (zAO9 hb);have hsib:bs.getD (i+1) 0<2048:=by
   rcases zCY9 (i+1) bs.length with h|h
   ·rw[zAL9,zAB9 h];exact hbm _ (zBN9 _)
   ·rw[zAL9,zBP9 (by omega)];decide
  have hgx':zcQ (zgv bs i x):=hgx.1.setSib hsib;have dLO:idO≠idL:=fun e=>by subst e;rw[hL]at hO;injection hO with hO;injection hO with hO;cases hO
  have dLA:idA≠idL:=fun e=>by subst e;rw[hL]at hA;injection hA with hA;injection hA with hA;cases hA
  have dAO:idA≠idO:=fun e=>by subst e;rw[hO]at hA;injection hA with hA;injection hA with hA;cases hA
  have e2:((i:Int)+1)=((i+1:Nat):Int):=by omega
  have hvsl:i<vs.length:=by rw[hlvl.lenV];omega
  (repeat refine za ?_);refine zB ?_;refine za (zbD (Q:=fun y s'=>y=.norm/\∃(M:Nat) (vs:List PV) (nodes:List zC),M<=g/\s'.H[idL]?=some (.row 124 6 g M vs)/\Lvl s'.H vs ps nodes/\nodes.length=nl.length/\(∀(q:Nat) (n:zC),nl[q]?=some n->nodes[q]?=some (if q<i+1 then zgv bs q n else n))/\s'.H[idA]?=some (.row 3 1 gA 0 (bfl bs))/\s'.H[idO]?=some (.row 83 2 V.length 0 V)/\(∀k,k<15\/132<k->s'.tm k=tn k)/\s'.tm 15=iv i/\s'.df=[]) ?_ ?_)
  ·by_cases hi1:i+1<nl.length
   ·have g1:((i+1:Nat):Int)<(nl.length:Nat):=by omega
    have hi1b:i+1<bs.length:=by omega
    have hbv:(bfl bs)[i+1]?=some (iv (bs.getD (i+1) 0:Nat)):=by rw[zAH9,zAB9 hi1b,zAL9,zAB9 hi1b];rfl
    (repeat refine za ?_);(repeat refine za ?_);refine zAV (zr4 h8' h15' e2 g1) ?_;refine zct ?_;refine zAU ?_;refine zKF (zBb h8' h13' h15' e2 hi1b hbv hA hL hM hvx hlt) ?_;refine⟨rfl,g,vs.set i (zcm (zgv bs i x) p),nodes.set i (zgv bs i x),zAJ9 _,?G,?L,by simp[hnlen],?N,?A,?O,fun k k1=>?_,zu h15',rfl⟩
    case G=>rw[zBD9 (zAC9.1 hL).1];rfl
    case L=>exact(hlvl.setNode (n':=zgv bs i x) hxn hp rfl).set0 hL (fun h=>absurd (show (124:Nat)=66 from h) (by decide))
    case N =>
     intro q n hn
     by_cases hq:q=i
     ·subst hq;rw[zBD9 (by omega),if_pos (zCE9 _)];rw[hx]at hn;injection hn with hn;subst hn;rfl
     ·rw[zAZ9 (fun e=>hq e.symm),hnode q n hn]
      by_cases h1:q<i
      ·rw[if_pos h1,if_pos (by omega)]
      ·rw[if_neg h1,if_neg (by omega)]
    case A=>rw[zAZ9 (fun e=>dLA e.symm)];exact hA
    case O=>rw[zAZ9 (fun e=>dLO e.symm)];exact hO
    ·simp(disch:=omega)only[zbo]
   ·have g1:¬((i+1:Nat):Int)<(nl.length:Nat):=by omega
    (repeat refine za ?_);(repeat refine za ?_);refine zAV (zr4 h8' h15' e2 g1) ?_;refine zcf ?_;refine zBl ⟨rfl,M,vs,nodes,hM,hL,hlvl,hnlen,?_,hA,hO,fun k k1=>?_,zu h15',rfl⟩
    ·intro q n hn;rw[hnode q n hn]
     by_cases h1:q<i
     ·rw[if_pos h1,if_pos (by omega)]
     ·by_cases hq:q=i
      ·subst hq;rw[if_neg h1,if_pos (zCE9 _)];rw[hx]at hn;injection hn with hn;subst hn;have h0:=hgx.2;unfold zgv;rw[zAL9,zBP9 (show bs.length<=q+1 by omega)];obtain⟨a1,a2,a3,a4,a5,a6⟩:=x;dsimp only at h0;rw[h0];rfl
      ·rw[if_neg h1,if_neg (by omega)]
    ·simp(disch:=omega)only[zbo]
  clear hM hL hlvl hA hO hnlen hnode hxn hvx h15' hvsl;rintro y ⟨tq,df,Hc⟩ ⟨rfl,M,vs,nodes,hM,hL,hlvl,hnlen,hnode,hA,hO,hf2,h15',rfl⟩;dsimp only at hM hL hlvl hA hO hf2 h15';have hxn:nodes[i]?=some (zgv bs i x):=by have:=hnode i x hx;rwa [if_pos (zCE9 _)]at this
  have hvx:=hlvl.val i _ p hxn hp;have h8q:=(hf2 8 (by decide)).trans h8';have h11q:=(hf2 11 (by decide)).trans h11';have h13q:=(hf2 13 (by decide)).trans h13';have hw:=zjM 1 (zgv bs i x) hgx'.level hgx'.sib hgx'.way hgx'.few;have hfz:Frz Hc 1 (zcm (zgv bs i x) p) (zW 1 (zgv bs i x)):=Frz.aggL ⟨.int _ _,.int _ _,.int _ _,.int _ _,.int _ _,hvx.2.frz,trivial⟩;have hvv:=hvx.1;generalize hx':zgv bs i x=x' at *
  (repeat refine za ?_);refine zAU ?_;refine zAW (zr6 h8q h15' hL hM hvv hlt) ?_;refine zdA (caps:=?_) (vs:=?_) ?_ ?_ hw ?_ ?_;rotate_left 2;(first|rfl|(simp only[zV,zZ,go_sem]<;>rfl));(simp only[go_sem]<;>rfl)
  ·exact⟨hfz,trivial⟩
  refine zN ?_;(repeat refine za ?_);refine zI ?_;refine zh ?_;refine zxb bs (zbh x') i b hb hbmb (zdg _) (by omega) _ Hc idO V (by omega) idA gA dAO hO hA (by simp[upd,h11q]) (by simp[upd,h13q]) (by simp[upd,h15']) (by simp[upd]) (by simp[upd]) (fun tm2 H2 V2 hV2 hst hO2 hfr h11x=>?_);have h15x:tm2 15=iv i:=(hfr 15 (by decide) (by decide) (by decide)).trans (by simp[upd,h15']);refine zJF h15x ?_;refine⟨_,?m,i+1,H2,M,vs,V2,nodes,rfl,hlt,hM,hst idL _ dLO.symm hL,hlvl.but hO (fun h=>absurd (show (83:Nat)=66 from h) (by decide)) hst,hnlen,hnode,hst idA _ dAO hA,hO2,?_,fun k k1=>?_,by simp[upd,h11x],by simp[upd,h15x],rfl,rfl⟩
  case m=>omega
  ·rw[hV2,hV,zq1 hb hli];simp
  ·simp(disch:=omega)only[zbo];rw[hfr k (by omega) (by omega) (by omega)];simp(disch:=omega)only[zbo];exact(hf2 k (by omega)).trans (hf k k1)
theorem f27:ET.funcs.get 27=some T27:=zH Tryz.func27
theorem zl0 {H:List zn}(n:Nat):Frz H 0 (.tuple [iv 0,.nilsl,iv 0,iv n]) (.tuple [iv 0,.list 0 2 (([]:List Pr).map zBo),iv 0,iv n]):=Frz.tupL ⟨.int _ _,.nil _ _,.int _ _,.int _ _,trivial⟩
set_option maxHeartbeats 4000000 in
theorem zpP (p q:Nat)(l:List Pr)(fr:List Int)(hl:l.length<=500)(hfr:fr.length<=2000):FN ET 27 [psv p l,.list q 1 (fr.map iv)] (zcK l fr):=by
 refine zfn f27 (zrw l fr) ?_;refine zG ?_;(repeat refine za ?_);refine zAU ?_;have hris:=zlt p l (by omega);have hblk:=zsP q fr (by omega)
 by_cases hokP:okP l=true
 rotate_left
 ·have hokP:okP l=false:=by simpa using hokP
  have he:zcK l fr=zjD 2:=by unfold zcK;rw[hokP];rfl
  rw[hokP]at hris;refine zfx ?_;refine zca hris ?_;refine zN ?_;refine zU ?_;rw[he];exact zl0 2
 rw[hokP]at hris
 by_cases hokI:okI [] fr=true
 rotate_left
 ·have hokI:okI [] fr=false:=by simpa using hokI
  have he:zcK l fr=zjD 2:=by unfold zcK;rw[hokI,zGM9];rfl
  rw[hokI]at hblk;refine zfx ?_;refine zca hris ?_;refine zfx ?_;refine zca hblk ?_;refine zN ?_;refine zU ?_;rw[he];exact zl0 2
 rw[hokI]at hblk;refine zfx ?_;refine zca hris ?_;refine zfx ?_;refine zca hblk ?_;refine zN ?_;refine zcf ?_;refine zBl ?_;show W _ _ _ _ _ _;obtain⟨free,rfl,hokF⟩:=zjy hokI;have hff:=(zfE free).1 hokF;have hfree:(free.map fun(b:Nat)=>(b:Int)).map Int.toNat=free:=by rw[zDH9];exact zFU9 free
 have hbE:zcK l (free.map fun(b:Nat)=>(b:Int))=match zex l free with
   | none=>zjD 221
   | some T=>bOk T:=by unfold zcK;rw[hokP,hokI,hfree];rfl
 have hfv:(free.map fun(b:Nat)=>(b:Int)).map iv=bfl free:=by rw[zDH9];rfl
 have hfl:free.length<=2000:=by simpa using hfr
 rw[hbE,hfv];have hfbl:(bfl free).length=free.length:=by rw[zAA9]
 (repeat refine za ?_);refine zAU ?_;refine zfx ?_;refine zca (zmh l.length hl) ?_
 by_cases hsp:free.length<zcO l.length
 ·have g:((free.length:Nat):Int)<(zcO l.length:Nat):=by omega
  have hn:=(ziw (free:=free) hl).2 hsp;refine zNF g ?_;refine zU ?_;rw[hn];exact zl0 221
 have g:¬((free.length:Nat):Int)<(zcO l.length:Nat):=by omega
 refine zNF g ?_;refine zcf ?_;refine zBl ?_;show W _ _ _ _ _ _;obtain⟨TT,hTT⟩:∃TT,zex l free=some TT:=by
  cases h:zex l free with
  | none=>exact absurd ((ziw (free:=free) hl).1 h) hsp
  | some TT=>exact⟨TT,rfl⟩
 rw[hTT];refine zG ?_;refine zxI p l hl _ _ 0 0 0 [zcm ⟨0,0,0,9223372036854775808,0,[]⟩ .nilsl] [.nilsl] (zAJ9 _) rfl ((Lvl.nil _).snoc ⟨0,0,0,9223372036854775808,0,[]⟩ rfl) (by simp[upd,zq]) (by simp[upd]) (by simp[upd]) (fun tm1 H1 g1 M1 vs1 ps1 hM1 hL1 hlv1 hf1 h81=>?_);have k1:tm1 1=.list q 1 (bfl free):=(hf1 1 (by decide) (by decide) (by decide) (by decide)).trans (by simp[upd,zq]);clear hf1;refine zG ?_;refine zb2 83 2 (i:=11) (by simp[upd]) ?_;simp only[lzy];have hO1:(H1++[zn.row 83 2 0 0 []])[H1.length]?=some (.row 83 2 0 0 []):=by simp
 have hL1':(H1++[zn.row 83 2 0 0 []])[0]?=some (.row 124 6 g1 M1 vs1):=zbm hL1;have hlv1':Lvl (H1++[zn.row 83 2 0 0 []]) vs1 ps1 (zbS l):=hlv1.keep fun id o _ h=>zbm h;refine zB (zar (fun m s=>∃(k:Nat) (nl:List zC) (used:Nat) (T:List Lev) (Hc:List zn) (idL g M idO:Nat) (vs ps V:List PV),m=k/\1<=k/\3<=k+T.length/\zjn l free nl used T/\zg6 free k nl used T=some TT/\used=(T.reverse.flatMap Prod.fst).length/\V=(zcD T.reverse).map zBo/\V.length=64*used/\M<=g/\Hc[idL]?=some (.row 124 6 g M vs)/\Lvl Hc vs ps nl/\Hc[idO]?=some (.row 83 2 V.length 0 V)/\s.tm 1=.list q 1 (bfl free)/\s.tm 8=.sl idL g 0 vs.length (2*vs.length) 6/\s.tm 11=.sl idO V.length 0 V.length (2*V.length) 2/\s.tm 12=iv used/\s.df=[]/\s.H=Hc) (n:=4) ?_ ?_)
 ·exact⟨4,zbS l,0,[],_,0,g1,M1,H1.length,vs1,ps1,[],rfl,by decide,by decide,zjh free hokP hl,hTT,rfl,rfl,rfl,hM1,hL1',hlv1',hO1,by simp[upd,k1],zu h81,zt,zt,rfl,rfl⟩
 ·clear hM1 hL1 hlv1 hL1' hlv1' hO1 k1 h81;rintro m ⟨tm,df,Hc⟩ ⟨k,nl,used,T,Hc',idL,g,M,idO,vs,ps,V,rfl,hk1,hk3,hI,hbd,hus,hV,hVl,hM,hL,hlvl,hO,h1,h8,h11,h12,rfl,rfl⟩;dsimp only at h1 h8 h11 h12;obtain⟨k,rfl⟩:∃k,m=k+1:=⟨m-1,by omega⟩
  have hnl0:0<nl.length:=zBV9.2 hI.ok.ne;have hnlb:nl.length<=28:=by
   have:=hI.bndL;have hb:∀t,bndL t<=28:=fun t=>by match t with|0=>decide|1=>decide|t+2=>exact(show 1<=28 by decide)
   exact zBQ9 this (hb _)
  rw[zg6]at hbd;have hul:=hI.used
  by_cases hsp2:free.length<used+nl.length
  ·rw[if_pos hsp2]at hbd;cases hbd
  rw[if_neg hsp2]at hbd;have hvn:=hlvl.lenV;rw[hvn]at h8;(repeat refine za ?_);refine zB ?_;refine zG ?_;refine zb2 3 1 (i:=13) (by simp[upd]) ?_;simp only[lzy];have hlc:idL<Hc.length:=(zAC9.1 hL).1;have hoc:idO<Hc.length:=(zAC9.1 hO).1;refine zwZ q free used nl.length (by omega) (by omega) _ _ idL g _ Hc.length (by simp) (by simp[upd,h1]) (by simp[upd,h8];rfl) (by simp[upd,h12]) (by simp[upd]) (by simp[upd]) (fun tm2 H2 hst2 hA2 hf2 h13=>?_);obtain⟨v1,v2,v3,v4,v5,v6,v7,v8⟩:=hI.level hokF hsp2;have hnx:=hI.next hokF hsp2;have hlvl3:=hI.lvl;have hL2:H2[idL]?=some (.row 124 6 g M vs):=hst2 idL _ (by omega) (zbm hL);have hO2:H2[idO]?=some (.row 83 2 V.length 0 V):=hst2 idO _ (by omega) (zbm hO);have hlv2:Lvl H2 vs ps nl:=hlvl.keep fun id o _ h=>hst2 id o (by have h1:id<Hc.length:=(zAC9.1 h).1;omega) (zbm h);have x1:tm2 1=.list q 1 (bfl free):=(hf2 1 (by decide) (by decide) (by decide)).trans (by simp[upd,h1]);have x8:tm2 8=.sl idL g 0 nl.length (2*nl.length) 6:=(hf2 8 (by decide) (by decide) (by decide)).trans (by simp[upd,h8]);have x11:tm2 11=.sl idO V.length 0 V.length (2*V.length) 2:=(hf2 11 (by decide) (by decide) (by decide)).trans (by simp[upd,h11]);have x12:tm2 12=iv used:=(hf2 12 (by decide) (by decide) (by decide)).trans (by simp[upd,h12]);clear hf2 hst2 h1 h8 h11 h12;generalize hbs:(free.drop used).take nl.length=bs at *
  refine zG ?_;refine zxf bs nl v1 (by omega) (fun b hb=>(v4 b hb).2) (fun n hn=>⟨(hI.ok.each n hn).1,(hI.ok.each n hn).2.2⟩) _ H2 idL Hc.length idO g M nl.length vs ps V (by omega) hM hL2 hlv2 hA2 hO2 (by simp[upd,x8]) (by simp[upd,x11]) (by simp[upd,h13,v1]) (by simp[upd]) (fun tm3 H3 M3 vs3 V3 hM3 hL3 hlv3 hA3 hO3 hV3 hf3 h11=>?_);have y1:tm3 1=.list q 1 (bfl free):=(hf3 1 (by decide)).trans (by simp[upd,x1]);have y8:tm3 8=.sl idL g 0 nl.length (2*nl.length) 6:=(hf3 8 (by decide)).trans (by simp[upd,x8]);have y12:tm3 12=iv used:=(hf3 12 (by decide)).trans (by simp[upd,x12]);have y13:tm3 13=.sl Hc.length nl.length 0 nl.length (2*nl.length) 1:=(hf3 13 (by decide)).trans (by simp[upd,h13]);clear hf3 x1 x8 x11 x12;have hpl:(ze3 bs (zbq bs nl)).length=64*nl.length:=by
   unfold ze3;rw[zhQ];simp[v1,zcV bs nl v1]
  have hV4:V3=(zcD ((bs,zbq bs nl)::T).reverse).map zBo:=by
   rw[hV3,hV,zEF9,zcD,zcD,zCN9];simp
  have hV3l:V3.length=64*(used+nl.length):=by rw[hV3,zAD9,zAA9,hpl];omega
  have hus2:used+nl.length=(((bs,zbq bs nl)::T).reverse.flatMap Prod.fst).length:=by
   rw[zEF9,zCN9,zAD9,<- hus];simp[v1]
  have hw:IntKind.i64.wrap ((used:Int)+(nl.length:Int))=((used+nl.length:Nat):Int):=zwi
  by_cases ho:nl.length=1
  ·rw[if_pos ho]at hbd;injection hbd with hbd;subst hbd;have g1:((nl.length:Nat):Int)=1:=by omega
   obtain⟨b0,hb0⟩:=zDV9.1 (v1.trans ho);have hA0:(bfl bs)[0]?=some (iv b0):=by rw[hb0];rfl
   have hgA:0<=nl.length:=zAS9 _;(repeat refine za ?_);(repeat refine za ?_);refine zAV (zr3 y8 y12 hw) ?_;(repeat refine za ?_);(repeat refine za ?_);refine zAV (zr2 y8 g1) ?_;refine zct ?_;(repeat refine za ?_);(repeat refine za ?_);refine zAV (zr6 y13 h11 hA3 hA0 hnl0 hgA) ?_;refine zy (zfr ?_);have hroot:zhz ((bs,zbq bs nl)::T)=b0:=by rw[hb0];rfl
   refine Frz.tupL ⟨?_,?_,?_,.int _ _,trivial⟩
   ·rw[hroot];exact .int _ _
   ·rw[<- hV4];refine Frz.whole hO3 rfl rfl (zAJ9 _) (fun v hv=>?_) (fun v hv=>?_)
    ·rw[hV4]at hv;obtain⟨x,_,rfl⟩:=zAM9.1 hv;rfl
    ·rw[hV4]at hv;obtain⟨x,hx,hv⟩:=zBB9.1 hv;obtain⟨y,_,rfl⟩:=zAM9.1 hx;simp[PV.cells]at hv;rcases hv with rfl|rfl<;>exact .int _ _
   ·rw[<- hus2];exact .int _ _
  ·rw[if_neg ho]at hbd;have g1:¬((nl.length:Nat):Int)=1:=by omega
   have hnx:=hnx ho;have hT1:T.length<=1:=by
    have:=hnx.lvl;simp at this;omega
   obtain⟨w1,w2,w3⟩:=zeS bs nl v1;have hll:=zcV bs nl v1;have hlevs:∀n∈zbq bs nl,n.level=T.length:=by
    intro n hn;obtain⟨j,hj⟩:=zDW9.1 hn;have hjl:j<nl.length:=by rw[<- hll];exact(zAC9.1 hj).1
    have e:=zei bs nl j _ v1 (zAB9 hjl);rw[hj]at e;injection e with e;subst e;exact(hI.ok.each _ (zBN9 _)).2.1
   have hab:=zuv H3 idL g M3 Hc.length nl.length vs3 ps (zbq bs nl) bs T.length hL3 hM3 hlv3 hA3 (by rw[hll];exact v1) (by omega) hlevs (by omega) (fun b hb=>(v4 b hb).2);rw[hll,w2]at hab;(repeat refine za ?_);(repeat refine za ?_);refine zAV (zr3 y8 y12 hw) ?_;(repeat refine za ?_);(repeat refine za ?_);refine zAV (zr2 y8 g1) ?_;refine zcf ?_;refine zBl ?_;show W _ _ _ _ _ _;(repeat refine za ?_);refine zAU ?_;refine zAW (zr2 y8 y13) ?_;refine zbN (caps:=?caps) (vs:=?vs) ?a1 ?a2 hab ?a3 ?a4 ?a5
   case a1=>first|rfl|(simp only[zV,zZ,go_sem]<;>rfl)
   case a2=>simp only[go_sem]<;>rfl
   case a3=>rfl
   case a4=>rfl
   rintro e H4 ⟨hst4,idL4,g4,M4,vs4,ps4,rfl,hM4,_,hL4,hlv4,_⟩;refine zK ?_;refine⟨k,zCE9 _,k,_,used+nl.length,(bs,zbq bs nl)::T,H4,idL4,g4,M4,idO,vs4,ps4,V3,rfl,by omega,?_,hnx,hbd,hus2,hV4,hV3l,hM4,hL4,hlv4,hst4 idO _ hO3,by simp[upd,y1],zt,zu h11,zt,rfl,rfl⟩;simp;omega
theorem f9:FN ET 9 [] (.ret (.bool true)):=zzs (by kernel_rfl) (by rfl)
theorem zhG:∀X:List Lev,(∀M∈X,M.1.length=M.2.length)->(zcD X).length=64*(X.flatMap Prod.fst).length
 | [],_=>rfl
 | M::X,h=>by
  have h1:=zhG X fun K hK=>h K (zAT9 _ hK);have h2:=h M (zAU9 ..);unfold zcD at h1⊢;rw[zBS9,zAD9,h1,zBS9,zAD9];unfold ze3;rw[zhQ,List.length_zip];omega
theorem f156:ET.funcs.get 156=some T156:=zH Tryz.func156
theorem f141:ET.funcs.get 141=some T141:=zH Tryz.func141
theorem f158:ET.funcs.get 158=some T158:=zH Tryz.func158
theorem f139:ET.funcs.get 139=some T139:=zH Tryz.func139
theorem f195:ET.funcs.get 195=some T195:=zH Tryz.func195
theorem zmP (left n:Nat):zbx left n=(decide (left≠0)&&decide (n%2=0)&&decide (4<=n)&&decide (n<=56)):=by
 rw[zDS9];simp only[zbx,zAQ9,decide_eq_true_eq];omega
theorem zlA (p left:Nat)(w:List Nat)(hw:za7 w.length):FN ET 156 [uv left,wv p w] (.ret (.bool (zbx left w.length))):=by
 refine zfn f156 (.bool _) ?_;have r1:(w.length:Int).tmod 2=((w.length%2:Nat):Int):=rfl;rw[zmP]
 by_cases b1:left=0
 ·have a1:(left:Int)=0:=by omega
  refine zOF a1 ?_;exact za0.bool (by simp[b1])
 have a1:¬(left:Int)=0:=by omega
 by_cases b2:w.length%2=0
 rotate_left
 ·have a2:¬((w.length%2:Nat):Int)=0:=by omega
  refine zOF (zr3 a1 r1 a2) ?_;exact za0.bool (by simp[b1,b2])
 have a2:((w.length%2:Nat):Int)=0:=by omega
 by_cases b3:4<=w.length
 rotate_left
 ·have a3:¬(4:Int)<=(w.length:Nat):=by omega
  refine zOF (zr4 a1 r1 a2 a3) ?_;exact za0.bool (by simp[b3])
 have a3:(4:Int)<=(w.length:Nat):=by omega
 by_cases b4:w.length<=56
 ·have a4:((w.length:Nat):Int)<=56:=by omega
  refine zOF (zr5 a1 r1 a2 a3 a4) ?_;exact za0.bool (by simp[b1,b2,b3,b4])
 ·have a4:¬((w.length:Nat):Int)<=56:=by omega
  refine zOF (zr5 a1 r1 a2 a3 a4) ?_;exact za0.bool (by simp[b4])
theorem zcE {w:List Nat}{i:Nat}(h:i<w.length):(w.map uv)[i]?=some (uv (w.getD i 0)):=by
 rw[zAH9,zAB9 h,zAL9,zAB9 h];rfl
theorem ziH (p left:Nat)(w:List Nat)(j:Nat)(hw:za7 w.length)(h:2*j<w.length+1):FN ET 141 [uv left,wv p w,iv j] (.ret (uv (zbU left w j))):=by
 refine zfn f141 (.int _ _) ?_;unfold zbU;refine zG ?_;refine zfc ?_ ?_
 ·intro hj;obtain rfl:j=0:=by have:=of_decide_eq_true hj;omega
  refine zO ?_;exact Frz.int _ _
 ·intro hj;have hj:¬j=0:=by have:=of_decide_eq_false hj;omega
  rw[if_neg hj];refine zBl ?_;show W _ _ _ _ _ _;have w1:IntKind.i64.wrap (2*(j:Int))=((2*j:Nat):Int):=zwi;have w2:IntKind.i64.wrap (((2*j:Nat):Int)-1)=((2*(j-1)+1:Nat):Int):=zwi;have c1:2*(j-1)+1<w.length:=by omega
  have z1:=zcE c1;refine zOF (zr4 w1 w2 c1 z1) ?_;exact Frz.int _ _
theorem zpV (p:Nat)(w:List Nat)(hw:za7 w.length):FN ET 158 [wv p w] (.ret (iv (zbr w:Nat))):=by
 refine zfn f158 (.int _ _) ?_;have e0:IntKind.i64.wrap ((w.length:Int).tdiv 2)=((w.length/2:Nat):Int):=by rw[IntWalk.i64_quo _ _ (by omega)];omega
 refine zG ?_;refine zB (zar (fun m s=>∃i:Nat,m=w.length-i/\2*i<=w.length/\zbr w=i+zbr (w.drop (2*i))/\s.tm 0=wv p w/\s.tm 3=iv i/\s.df=[]/\s.H=[]) (n:=w.length) ?_ ?_)
 ·exact⟨0,by simp[upd,zq]⟩
 ·rintro m ⟨tm,df,H⟩ ⟨i,rfl,hi,hc,h0,h3,rfl,rfl⟩;dsimp only at h0 h3
  by_cases hlt:i<w.length/2
  ·have g1:(i:Int)<((w.length/2:Nat):Int):=by omega
   have w1:IntKind.i64.wrap (2*(i:Int))=((2*i:Nat):Int):=zwi;have w2:IntKind.i64.wrap (((2*i:Nat):Int)+1)=((2*i+1:Nat):Int):=zwi;have c1:2*i+1<w.length:=by omega
   have z1:=zcE c1;have hd:=zk1 w i c1;have hx:w[2*i+1]=w.getD (2*i+1) 0:=by rw[zAL9,zAB9 c1];rfl
   rw[hx]at hd;generalize w.getD (2*i+1) 0=x at *
   by_cases hz:x=0
   ·have gx:(x:Int)=0:=by omega
    (try refine zBp ?_);refine za (zAV (zr9 h0 h3 e0 g1 w1 w2 c1 z1 gx) ?_);refine zwh ?_ ?_
    ·intro h;cases h
    ·intro _;refine zOF h3 ?_;rw[hc,hd,zbr,if_pos hz];exact Frz.int _ _
   ·have gx:¬(x:Int)=0:=by omega
    (try refine zBp ?_);refine za (zAV (zr9 h0 h3 e0 g1 w1 w2 c1 z1 gx) ?_);refine zwh ?_ ?_
    ·intro _;refine zB ?_;refine zJF h3 ?_;refine⟨_,?m,i+1,rfl,by omega,?_,zu h0,zu h3,zt,zt⟩
     case m=>omega
     rw[hc,hd,zbr,if_neg hz];omega
    ·intro h;cases h
  ·have g1:¬(i:Int)<((w.length/2:Nat):Int):=by omega
   (try refine zBp ?_);refine za (zAV (zr4 h0 h3 e0 g1) ?_);refine zwh ?_ ?_
   ·intro h;cases h
   ·intro _;refine zOF h3 ?_;rw[hc,zmC (by simp;omega)];exact Frz.int _ _
def zf2 (l:List Pr)(x:Nat):Bool:=(l.map Prod.snd).contains x
theorem zo0 (p:Nat)(l:List Pr)(x:Nat)(hl:za7 l.length):FN ET 195 [psv p l,uv x] (.ret (.bool (zf2 l x))):=by
 refine zfn f195 (.bool _) ?_;refine zG ?_;refine zB (zar (fun m s=>∃i:Nat,m=l.length-i/\i<=l.length/\zf2 l x=zf2 (l.drop i) x/\s.tm 0=psv p l/\s.tm 1=uv x/\s.tm 5=iv i/\s.df=[]/\s.H=[]) (n:=l.length) ?_ ?_)
 ·exact⟨0,by simp[upd,zq]⟩
 ·rintro m ⟨tm,df,H⟩ ⟨i,rfl,hi,hc,h0,h1,h5,rfl,rfl⟩;dsimp only at h0 h1 h5;(try refine zBp ?_);refine za (zAV (zr2 h0 h5) ?_);refine zwh ?_ ?_
  ·intro hlt;have hlt:i<l.length:=by have:=of_decide_eq_true hlt;omega
   obtain⟨q,hq⟩:∃q,l[i]?=some q:=⟨_,zAB9 hlt⟩
   have hqv:(l.map pv)[i]?=some (pv q):=by rw[zAH9,hq];rfl
   have hdr:l.drop i=q::l.drop (i+1):=by rw[zAW9 hlt];obtain⟨_,e⟩:=zAC9.1 hq;rw[e]
   (repeat refine za ?_);refine zB ?_
   by_cases he:q.2=x
   ·have g1:(q.2:Int)=x:=by omega
    (repeat refine za ?_);refine zAV (zr6 h0 h1 h5 hqv hlt g1) ?_;refine zU ?_;exact za0.bool (by rw[hc,hdr];simp[zf2,he])
   ·have g1:¬(q.2:Int)=x:=by omega
    (repeat refine za ?_);refine zAV (zr6 h0 h1 h5 hqv hlt g1) ?_;refine zcf ?_;refine zBl ?_;refine zJF h5 ?_;refine⟨_,?m,i+1,rfl,hlt,?_,zu h0,zu h1,zu h5,zt,zt⟩
    case m=>omega
    rw[hc,hdr];simp[zf2,Ne.symm he]
  ·intro hlt;have hlt:¬i<l.length:=by have:=of_decide_eq_false hlt;omega
   obtain rfl:i=l.length:=by omega
   refine zO ?_;exact za0.bool (by rw[hc,zBM9];rfl)
theorem zen:∀(l:List Nat) (j prev:Nat),2*(zbG j prev l).length<=l.length
 | [],_,_=>by simp[zbG]
 | [_],_,_=>by simp[zbG]
 | _::p::l,j,prev=>by
  have:=zen l (j+1) p;rw[zbG]
  split
  ·simp
  ·split<;>simp<;>omega
theorem zsw {l:List Nat}(h:zbr l=0)(j prev:Nat):zbG j prev l=[]:=by
 match l,h with
 | [],_=>simp[zbG]
 | [_],_=>simp[zbG]
 | a::b::l,h =>
  rw[zbr]at h
  by_cases hb:b=0
  ·rw[zbG,if_pos hb]
  ·rw[if_neg hb]at h;omega
set_option maxHeartbeats 1000000 in
theorem zf8 (p left:Nat)(w:List Nat)(hw:w.length<1000000):FN ET 139 [uv left,wv p w] (.ret (.tuple [psv 0 (zab left w),.list 0 1 ((zbG 0 left w).map fun x=>iv (x.1:Nat))])):=by
 refine zfn f139 (Lb.two (Lb.pvs _) ?_) ?_
 ·have:=Lb.ivs (z:=1) ((zbG 0 left w).map fun x=>(x.1:Int));rw[zDH9]at this;exact this
 refine zG ?_;refine zb2 66 2 (i:=6) rfl ?_;refine zb2 3 1 (i:=7) rfl ?_;simp only[lzy,zAD9,zAE9,zAF9,zAR9,zAG9,zAI9,zAK9];refine zB (zar (fun m s=>∃(j:Nat) (V1 V2:List PV) (I:List (Nat×Pr)) (G:List zn),m=w.length-j/\j<=zbr w/\zbr w=j+zbr (w.drop (2*j))/\zbG 0 left w=I++zbG j (zbU left w j) (w.drop (2*j))/\V1=I.map (fun x=>pv x.2)/\V2=I.map (fun x=>iv (x.1:Nat))/\s.tm 0=uv left/\s.tm 1=wv p w/\s.tm 6=.sl 0 V1.length 0 V1.length (2*V1.length) 2/\s.tm 7=.sl 1 V2.length 0 V2.length (2*V2.length) 1/\s.tm 8=iv j/\s.df=[]/\s.H=.row 66 2 V1.length 0 V1::.row 3 1 V2.length 0 V2::G) (n:=w.length) ?_ ?_)
 ·exact⟨0,[],[],[],[],rfl,zAS9 _,by simp,by simp[zbU],rfl,rfl,zt,zt,zt,zt,zt,rfl,rfl⟩
 ·rintro m ⟨tm,df,H⟩ ⟨j,V1,V2,I,G,rfl,hj,hraw,hit,hV1,hV2,h0,h1,h6,h7,h8,rfl,rfl⟩;dsimp only at h0 h1 h6 h7 h8;have hrl:=zi4 w;have hIl:I.length<=w.length:=by have:=zen w 0 left;rw[hit,zAD9]at this;omega
  have hl1:V1.length=I.length:=by rw[hV1,zAA9]
  have hl2:V2.length=I.length:=by rw[hV2,zAA9]
  refine zBp ?_;refine zIF (zr2 h1 h8) ?_;refine zca (zpV p w (by omega)) ?_;refine zN ?_;refine zwh ?_ ?_
  ·intro hlt;have hlt:j<zbr w:=by have:=of_decide_eq_true hlt;omega
   have w1:IntKind.i64.wrap (2*(j:Int))=((2*j:Nat):Int):=zwi;have w2:IntKind.i64.wrap (((2*j:Nat):Int)+1)=((2*j+1:Nat):Int):=zwi;have c0:2*j<w.length:=by omega
   have c1:2*j+1<w.length:=by omega
   have z0:=zcE c0;have z1:=zcE c1;have hd:=zk1 w j c1;have hx0:w[2*j]=w.getD (2*j) 0:=by rw[zAL9,zAB9 c0];rfl
   have hx1:w[2*j+1]=w.getD (2*j+1) 0:=by rw[zAL9,zAB9 c1];rfl
   have han:zbU left w (j+1)=w.getD (2*j+1) 0:=by unfold zbU;rw[if_neg (by omega),zEP9]
   have hah:=ziH p left w j (by omega) (by omega);rw[hx0,hx1]at hd;generalize w.getD (2*j) 0=k at *
   generalize w.getD (2*j+1) 0=x at *
   generalize zbU left w j=a at *
   have hxz:x≠0:=by
    intro e;rw[hraw,hd,zbr,if_pos e]at hlt;omega
   rw[hd,zbr,if_neg hxz]at hraw;rw[hd,zbG,if_neg hxz]at hit;(repeat refine za ?_);refine zB ?_;(repeat refine za ?_);refine zad ?_
   by_cases he:x=a
   ·have g1:(x:Int)=a:=by omega
    rw[if_pos he]at hit;refine zAZ (zr7 h0 h1 h8 w1 w2 c1 z1) hah ?_;refine zQF (zr2 h0 g1) ?_;refine zfc ?_ ?_
    ·intro h;simp[g1]at h
    intro _;refine zBl ?_;refine zJF h8 ?_;refine⟨_,?m1,j+1,V1,V2,I,G,rfl,hlt,by omega,(by rw[han];exact hit),hV1,hV2,zu h0,zu h1,zu h6,zu h7,zu h8,rfl,rfl⟩
    case m1=>omega
   ·have g1:¬(x:Int)=a:=by omega
    rw[if_neg he]at hit;refine zAZ (zr7 h0 h1 h8 w1 w2 c1 z1) hah ?_;refine zQF (zr2 h0 g1) ?_;refine zfc ?_ ?_;rotate_left
    ·intro h;simp[g1]at h
    intro _;have hb1:(V1.length+1)*17<=140737488355328:=by omega
    have hb2:(V2.length+1)*9<=140737488355328:=by omega
    (repeat refine za ?_);refine zad ?_;refine zA0 (zBa h0 h1 h6 h7 h8 w1 w2 c0 c1 z0 z1 hb1) ?_;refine zQF h0 ?_;refine zJF (zr3 h7 h8 hb2) ?_;refine zJF h8 ?_;refine⟨_,?m2,j+1,V1++[pv (k,x)],V2++[iv (j:Nat)],I++[(j,(k,x))],?G2,rfl,hlt,by omega,(by rw[hit,han];simp),(by rw[hV1];simp),(by rw[hV2];simp),zu h0,zu h1,zt,zt,zu h8,zt,?H⟩
    case m2=>omega
    case H=>simp only[zAD9,zAE9,zAF9,zAG9,zAI9];rfl
  ·intro hlt;have hlt:¬j<zbr w:=by have:=of_decide_eq_false hlt;omega
   rw[zsw (l:=w.drop (2*j)) (by omega),zDO9]at hit;refine zOF (zr2 h6 h7) ?_;have e1:zab left w=I.map (fun x=>x.2):=by rw[<- zcL w 0 left,hit]
   have e2:(I.map (fun x=>x.2)).map pv=V1:=by rw[hV1,zDH9];rfl
   rw[e1,hit];refine Frz.tupL ⟨?_,?_,trivial⟩
   ·show Frz _ _ _ (.list 0 2 ((I.map fun x=>x.2).map pv));rw[e2];exact Frz.whole (l:=V1) rfl rfl rfl (zAJ9 _) (fun v hv=>by rw[hV1]at hv;obtain⟨x,_,rfl⟩:=zAM9.1 hv;rfl) (by rw[<- e2];exact zeF)
   ·rw[<- hV2];have e3:V2=(I.map fun x=>(x.1:Int)).map iv:=by rw[hV2,zDH9];rfl
    exact Frz.whole (l:=V2) rfl rfl rfl (zAJ9 _) (fun v hv=>by rw[hV2]at hv;obtain⟨x,_,rfl⟩:=zAM9.1 hv;rfl) (by rw[e3];exact zlg)
theorem f157:ET.funcs.get 157=some T157:=zH Tryz.func157
theorem f104:ET.funcs.get 104=some T104:=zH Tryz.func104
theorem f140:ET.funcs.get 140=some T140:=zH Tryz.func140
theorem f173:ET.funcs.get 173=some T173:=zH Tryz.func173
def zfg (left:Nat)(l:List Pr)(i:Nat):Bool :=
 (decide (i=0)||decide ((l.getD (i-1) (0,0)).1<(l.getD i (0,0)).1)) && !zf2 (l.take i) (l.getD i (0,0)).2 && !decide ((l.getD i (0,0)).2=left)
def zhd (left:Nat)(l:List Pr):Bool:=zbn l&&zcn [left] l
theorem zrM (left:Nat)(l:List Pr):zhd left l=true↔∀i,i<l.length->zfg left l i=true:=by
 unfold zhd;rw[zAQ9,zec,zeY];have hget:∀i,i<l.length->l[i]?=some (l.getD i (0,0)):=fun i hi=>get_lt l hi
 constructor
 ·rintro ⟨h1,h2,h3⟩ i hi;unfold zfg;simp only[zAQ9,zEQ9,zCU9,decide_eq_true_eq,decide_eq_false_iff_not];refine⟨⟨?_,?_⟩,?_⟩
  ·by_cases h0:i=0
   ·exact .inl h0
   ·right
    refine h1 (i-1) _ _ (hget _ (by omega)) ?_;rw[show i-1+1=i by omega];exact hget i hi
  ·unfold zf2;rw[<- zEN9,zDE9];intro hm;obtain⟨q,hq,e⟩:=zAM9.1 hm;obtain⟨k,hk,hkq⟩:=zBO9.1 hq;rw[zBA9]at hk;rw[zGV9]at hkq;have hp:=zDX9.1 h2 k i (by simp;omega) (by simpa using hi) (by omega);rw[zFZ9,zFZ9,hkq]at hp
   apply hp
   rw[e,zAL9,zAB9 hi];rfl
  ·intro e;exact h3 _ (zAO9 (hget i hi)) (by rw[e];exact zAU9 ..)
 ·intro h;have k:∀i,i<l.length->(i=0\/(l.getD (i-1) (0,0)).1<(l.getD i (0,0)).1)/\zf2 (l.take i) (l.getD i (0,0)).2=false/\¬(l.getD i (0,0)).2=left:=fun i hi=>by
   have:=h i hi;unfold zfg at this;simp only[zAQ9,zEQ9,zCU9,decide_eq_true_eq,decide_eq_false_iff_not]at this;exact⟨this.1.1,this.1.2,this.2⟩
  refine⟨fun i x y hx hy=>?_,?_,fun p hp hm=>?_⟩
  ·have hi:=(zAC9.1 hy).1;have:=(k (i+1) hi).1;rw[getD_some hy,zEP9,getD_some hx]at this;rcases this with h0|h0
   ·omega
   ·exact h0
  ·show List.Pairwise (fun x y=>x≠y) (l.map Prod.snd);rw[zDX9];intro i j hi hj hij e;rw[zAA9]at hi hj;rw[zFZ9,zFZ9]at e;have h2:=(k j hj).2.1;unfold zf2 at h2;rw[<- zEN9,zDE9]at h2
   apply h2
   rw[zAL9,zAB9 hj];show l[j].2∈_;rw[<- e];exact List.mem_map_of_mem (zBO9.2 ⟨i,by rw[zBA9];omega,zGV9⟩)
  ·obtain⟨i,hi,e⟩:=zBO9.1 hp;have h3:=(k i hi).2.2;rw[zAL9,zAB9 hi]at h3
   apply h3
   show l[i].2=left;rw[e];simpa using hm
theorem zuB (p left:Nat)(l:List Pr)(hl:l.length<1000000):FN ET 157 [uv left,psv p l] (.ret (.bool (zhd left l))):=by
 refine zfn f157 (.bool _) ?_;refine zG ?_;have bad:∀i,i<l.length->zfg left l i=false->zhd left l=false:=fun i hi h=>by
  cases hf:zhd left l with
  | false=>rfl
  | true=>rw[(zrM left l).1 hf i hi]at h;cases h
 refine zB (zar (fun m s=>∃i:Nat,m=l.length-i/\i<=l.length/\(∀j,j<i->zfg left l j=true)/\s.tm 0=uv left/\s.tm 1=psv p l/\s.tm 5=iv i/\s.df=[]/\s.H=[]) (n:=l.length) ?_ ?_)
 ·exact⟨0,rfl,zAS9 _,fun j hj=>by omega,zt,zt,zt,rfl,rfl⟩
 ·rintro m ⟨tm,df,H⟩ ⟨i,rfl,hi,hok,h0,h1,h5,rfl,rfl⟩;dsimp only at h0 h1 h5;(try refine zBp ?_);refine za (zAV (zr2 h1 h5) ?_);refine zwh ?_ ?_;rotate_left
  ·intro hlt;have hlt:¬i<l.length:=by have:=of_decide_eq_false hlt;omega
   obtain rfl:i=l.length:=by omega
   refine zO ?_;exact za0.bool ((zrM left l).2 hok).symm
  intro hlt;have hlt:i<l.length:=by have:=of_decide_eq_true hlt;omega
  have hxv:(l.map pv)[i]?=some (pv (l.getD i (0,0))):=by rw[zAH9,get_lt l hlt];rfl
  have htk:(l.map pv).take i=(l.take i).map pv:=by rw[zDL9]
  have hle:i<=l.length:=hi;have hhas:=zo0 p (l.take i) (l.getD i (0,0)).2 (by rw[zBA9];omega);have hfa:zfg left l i=((decide (i=0)||decide ((l.getD (i-1) (0,0)).1<(l.getD i (0,0)).1)) && !zf2 (l.take i) (l.getD i (0,0)).2 && !decide ((l.getD i (0,0)).2=left)):=rfl;(repeat refine za ?_);refine zB ?_;(repeat refine za ?_);refine zbD (Q:=fun y s'=>y=.norm/\s'.tm 47=.bool (!zfg left l i)/\s'.tm 0=uv left/\s'.tm 1=psv p l/\s'.tm 5=iv i/\s'.df=[]/\s'.H=[]) (zad ?_) ?_
  ·generalize zf2 (l.take i) (l.getD i (0,0)).2=hp at *
   generalize zfg left l i=fa at *
   by_cases b0:i=0
   ·have g0:¬(0:Int)<(i:Int):=by omega
    cases hp with
    | true =>
     refine zAZ (zr7 h1 h5 g0 hxv hlt hle htk) hhas ?_;refine zQF (zr3 h0 h1 h5) ?_;exact⟨by rw[hfa];simp,h0,h1,h5⟩
    | false =>
     by_cases b2:(l.getD i (0,0)).2=left
     ·have g2:((l.getD i (0,0)).2:Int)=left:=by omega
      refine zAZ (zr7 h1 h5 g0 hxv hlt hle htk) hhas ?_;refine zQF (zr6 h0 h1 h5 hxv hlt g2) ?_;exact⟨by rw[hfa,decide_eq_true b2];simp,h0,h1,h5⟩
     ·have g2:¬((l.getD i (0,0)).2:Int)=left:=by omega
      refine zAZ (zr7 h1 h5 g0 hxv hlt hle htk) hhas ?_;refine zQF (zr6 h0 h1 h5 hxv hlt g2) ?_;exact⟨by rw[hfa,decide_eq_false b2,decide_eq_true b0];rfl,h0,h1,h5⟩
   have g0:(0:Int)<(i:Int):=by omega
   have hi1:IntKind.i64.wrap ((i:Int)-1)=((i-1:Nat):Int):=zwi;have hil:i-1<l.length:=by omega
   have hpv:(l.map pv)[i-1]?=some (pv (l.getD (i-1) (0,0))):=by rw[zAH9,get_lt l hil];rfl
   generalize l.getD (i-1) (0,0)=pr at *
   generalize l.getD i (0,0)=x at *
   by_cases b1:pr.1<x.1
   rotate_left
   ·have hkey:((x.1:Nat):Int)<=(pr.1:Nat):=by omega
    refine ze2 (by first|exact trivial|simp only[go_sem,h0,h1,h5,g0,hi1,hil,hpv,hxv,hlt,hle,hkey]) (by simp(disch:=omega)only[go_sem,h0,h1,h5,g0,hi1,hil,hpv,hxv,hlt,hle,hkey]<;>rfl) rfl (by simp only[go_sem,h0,h1,h5,g0,hi1,hil,hpv,hxv,hlt,hle,hkey]<;>rfl) (by simp only[go_sem]<;>rfl) ?_;refine zQF (zBb h0 h1 h5 g0 hi1 hil hpv hxv hlt hle hkey) ?_;exact⟨by rw[hfa];simp[b0,b1],h0,h1,h5⟩
   have hkey:¬((x.1:Nat):Int)<=(pr.1:Nat):=by omega
   cases hp with
   | true =>
    refine zAZ (zBb h1 h5 g0 hi1 hil hpv hxv hlt hle htk hkey) hhas ?_;refine zQF (zr3 h0 h1 h5) ?_;exact⟨by rw[hfa];simp,h0,h1,h5⟩
   | false =>
    by_cases b2:x.2=left
    ·have g2:(x.2:Int)=left:=by omega
     refine zAZ (zBb h1 h5 g0 hi1 hil hpv hxv hlt hle htk hkey) hhas ?_;refine zQF (zr6 h0 h1 h5 hxv hlt g2) ?_;exact⟨by rw[hfa];simp[b2],h0,h1,h5⟩
    ·have g2:¬(x.2:Int)=left:=by omega
     refine zAZ (zBb h1 h5 g0 hi1 hil hpv hxv hlt hle htk hkey) hhas ?_;refine zQF (zr6 h0 h1 h5 hxv hlt g2) ?_;exact⟨by rw[hfa];simp[b1,b2],h0,h1,h5⟩
  clear h0 h1 h5;rintro y ⟨tm,df,H⟩ ⟨rfl,h47,h0,h1,h5,rfl,rfl⟩;dsimp only at h47 h0 h1 h5
  by_cases hfi:zfg left l i=true
  rotate_left
  ·have hfi:zfg left l i=false:=by simpa using hfi
   refine zfc ?_ ?_ (by simp only[go_sem,h47]<;>rfl)
   ·intro _;refine zO ?_;exact za0.bool (bad i hlt hfi).symm
   ·rw[hfi];intro h;cases h
  refine zfc ?_ ?_ (by simp only[go_sem,h47]<;>rfl)
  ·rw[hfi];intro h;cases h
  intro _;refine zBl ?_;refine zJF h5 ?_;refine⟨_,?m,i+1,rfl,hlt,fun j hj=>?_,zu h0,zu h1,zu h5,zt,zt⟩
  case m=>omega
  rcases zCY9 j i with h|h
  ·exact hok j h
  ·rw[show j=i by omega];exact hfi
theorem ziA (p left:Nat)(w:List Nat)(hw:w.length<1000000):FN ET 104 [uv left,wv p w] (.ret (iv (zbt left w:Nat))):=by
 refine zfn f104 (.int _ _) ?_;have hR:=zlA p left w (by omega);have hRd:=zf8 p left w hw;have hRaw:=zpV p w (by omega);have e0:IntKind.i64.wrap ((w.length:Int).tdiv 2)=((w.length/2:Nat):Int):=by rw[IntWalk.i64_quo _ _ (by omega)];omega
 refine zG ?_;refine zI ?_;refine zca hR ?_;refine zN ?_
 by_cases hr:zbx left w.length=true
 rotate_left
 ·have hr:zbx left w.length=false:=by simpa using hr
  rw[hr];refine zU ?_;have:zbt left w=2:=by unfold zbt;rw[hr];rfl
  rw[this];exact Frz.int _ _
 rw[hr];refine zcf ?_;refine zBl ?_;show W _ _ _ _ _ _;refine zI ?_;refine zca hRd ?_;refine zN ?_;have hsr:zbv left w=zab left w:=by unfold zbv;rw[if_pos hr]
 have hrl:=zdz left w;have hset:zb9 left w=(zhd left (zab left w)&&decide ((zab left w).length=zbr w)&&decide ((zab left w).length<w.length/2)&&zd4 (w.drop (2*(zab left w).length))):=by unfold zb9 zhd;rw[hsr]
 have hck:zbt left w=if zb9 left w=true then 0 else 190:=by unfold zbt;rw[if_pos hr]
 rw[hsr]at hrl;generalize zab left w=L at *
 have hF:=zuB 0 left L (by omega);have bad:zb9 left w=false->za0 [] 0 (.ret (iv 190)) (.ret (iv (zbt left w:Nat))):=fun h=>by rw[hck,h];exact Frz.int _ _
 refine zI ?_;refine zca hF ?_
 by_cases hf:zhd left L=true
 rotate_left
 ·have hf:zhd left L=false:=by simpa using hf
  rw[hf];refine zN ?_;refine zU ?_;exact bad (by rw[hset,hf];rfl)
 rw[hf];refine zfx ?_;refine zca hRaw ?_
 by_cases hq:L.length=zbr w
 rotate_left
 ·have g1:¬(L.length:Int)=(zbr w:Nat):=by omega
  refine zNF g1 ?_;refine zU ?_;exact bad (by rw[hset];simp[hq])
 have g1:(L.length:Int)=(zbr w:Nat):=by omega
 by_cases hlt:L.length<w.length/2
 rotate_left
 ·have g2:((w.length/2:Nat):Int)<=(L.length:Nat):=by omega
  have g2':((w.length/2:Nat):Int)<=(zbr w:Nat):=by omega
  refine zNF (zr4 g1 g2 g2' e0) ?_;refine zU ?_;exact bad (by rw[hset];simp;omega)
 have g2:¬((w.length/2:Nat):Int)<=(L.length:Nat):=by omega
 have g2':¬((w.length/2:Nat):Int)<=(zbr w:Nat):=by omega
 refine zNF (zr4 g1 g2 g2' e0) ?_;refine zcf ?_;refine zBl ?_;show W _ _ _ _ _ _;refine zG ?_;have hset2:zb9 left w=zd4 (w.drop (2*L.length)):=by rw[hset,hf];simp[hq];omega
 clear hset g1 g2 g2';refine zB (zar (fun m s=>∃i:Nat,m=w.length-i/\L.length<=i/\i<=w.length/2/\zb9 left w=zd4 (w.drop (2*i))/\s.tm 1=wv p w/\s.tm 7=iv i/\s.df=[]/\s.H=[]) (n:=w.length-L.length) ?_ ?_)
 ·exact⟨L.length,rfl,zAJ9 _,by omega,hset2,zt,by simp[upd];try omega,rfl,rfl⟩
 ·rintro m ⟨tm,df,H⟩ ⟨i,rfl,hli,hi,hz,h1,h7,rfl,rfl⟩;dsimp only at h1 h7;(try refine zBp ?_);refine za (zAV (zr3 h1 h7 e0) ?_);refine zwh ?_ ?_
  ·intro hlt;have hlt:i<w.length/2:=by have:=of_decide_eq_true hlt;omega
   have w1:IntKind.i64.wrap (2*(i:Int))=((2*i:Nat):Int):=zwi;have w2:IntKind.i64.wrap (((2*i:Nat):Int)+1)=((2*i+1:Nat):Int):=zwi;have c1:2*i+1<w.length:=by omega
   have z1:=zcE c1;have hst:=znF w i c1;have hx:w[2*i+1]=w.getD (2*i+1) 0:=by rw[zAL9,zAB9 c1];rfl
   rw[hx]at hst;generalize w.getD (2*i+1) 0=x at *
   (repeat refine za ?_);refine zB ?_
   by_cases hx0:x=0
   ·have gx:(x:Int)=0:=by omega
    (repeat refine za ?_);refine zAV (zr7 h1 h7 w1 w2 c1 z1 gx) ?_;refine zcf ?_;refine zBl ?_;refine zJF h7 ?_;refine⟨_,?m,i+1,rfl,by omega,by omega,by rw[hz,hst,hx0];rfl,zu h1,zu h7,zt,zt⟩
    case m=>omega
   ·have gx:¬(x:Int)=0:=by omega
    (repeat refine za ?_);refine zAV (zr7 h1 h7 w1 w2 c1 z1 gx) ?_;refine zU ?_;exact bad (by rw[hz,hst];simp[hx0])
  ·intro hlt;have hlt:¬i<w.length/2:=by have:=of_decide_eq_false hlt;omega
   refine zO ?_;rw[hck,hz,zpG w i (by simp[zbx]at hr;omega)];exact Frz.int _ _
def zb4 (l:List Pr)(key:Nat):Nat:=(l.takeWhile fun x=>decide (x.1<key)).length
def sIs (l:List Pr)(key:Nat):Bool:=match l[zb4 l key]? with
 | some x=>decide (x.1=key)
 | none=>false
theorem zjr (l:List Pr)(key:Nat):zb4 l key<=l.length:=by
 unfold zb4;exact(List.takeWhile_sublist _).length_le
theorem znq (p key:Nat)(l:List Pr)(hl:l.length<1000000):FN ET 140 [psv p l,uv key] (.ret (.tuple [iv (zb4 l key:Nat),.bool (sIs l key)])):=by
 refine zfn f140 (Lb.two (.int _ _) (.bool _)) ?_;refine zG ?_;refine zB (zar (fun m s=>∃i:Nat,m=l.length-i/\i<=l.length/\zb4 l key=i+((l.drop i).takeWhile fun x=>decide (x.1<key)).length/\s.tm 0=psv p l/\s.tm 1=uv key/\s.tm 6=iv i/\s.df=[]/\s.H=[]) (n:=l.length) ?_ ?_)
 ·exact⟨0,rfl,zAS9 _,by simp[zb4],zt,zt,zt,rfl,rfl⟩
 ·rintro m ⟨tm,df,H⟩ ⟨i,rfl,hi,hc,h0,h1,h6,rfl,rfl⟩;dsimp only at h0 h1 h6
  by_cases hlt:i<l.length
  ·have g1:(i:Int)<(l.length:Nat):=by omega
   obtain⟨q,hq⟩:∃q,l[i]?=some q:=⟨_,zAB9 hlt⟩
   have hqv:(l.map pv)[i]?=some (pv q):=by rw[zAH9,hq];rfl
   have hdr:l.drop i=q::l.drop (i+1):=by rw[zAW9 hlt];obtain⟨_,e⟩:=zAC9.1 hq;rw[e]
   rw[hdr,List.takeWhile_cons]at hc
   by_cases hk:q.1<key
   ·have gk:(q.1:Int)<key:=by omega
    rw[if_pos (decide_eq_true hk)]at hc;(try refine zBp ?_);refine za (zAV (zr7 h0 h1 h6 g1 hqv hlt gk) ?_);refine zwh ?_ ?_
    ·intro _;refine zB ?_;refine zJF h6 ?_;refine⟨_,?m,i+1,rfl,hlt,by rw[hc];simp;omega,zu h0,zu h1,zu h6,zt,zt⟩
     case m=>omega
    ·intro h;cases h
   ·have gk:¬(q.1:Int)<key:=by omega
    rw[if_neg (by simpa using hk)]at hc;have hf:zb4 l key=i:=by simpa using hc
    (try refine zBp ?_);refine za (zAV (zr7 h0 h1 h6 g1 hqv hlt gk) ?_);refine zwh ?_ ?_
    ·intro h;cases h
    ·intro _;have hsi:sIs l key=decide (q.1=key):=by unfold sIs;rw[hf,hq]
     rw[hf,hsi];(repeat refine za ?_);refine zad ?_
     by_cases he:q.1=key
     ·have ge:(q.1:Int)=key:=by omega
      refine zQF (zr7 h0 h1 h6 g1 hqv hlt ge) ?_;refine zy (zfr ?_);rw[decide_eq_true he];exact Frz.tupL ⟨.int _ _,.bool _,trivial⟩
     ·have ge:¬(q.1:Int)=key:=by omega
      refine zQF (zr7 h0 h1 h6 g1 hqv hlt ge) ?_;refine zy (zfr ?_);rw[decide_eq_false he];exact Frz.tupL ⟨.int _ _,.bool _,trivial⟩
  ·obtain rfl:i=l.length:=by omega
   have g1:¬(l.length:Int)<(l.length:Nat):=by omega
   rw[zBM9]at hc;have hf:zb4 l key=l.length:=by simpa using hc
   have hsi:sIs l key=false:=by unfold sIs;rw[hf,zBP9 (zAJ9 _)]
   rw[hf,hsi];(try refine zBp ?_);refine za (zAV (zr4 h0 h1 h6 g1) ?_);refine zwh ?_ ?_
   ·intro h;cases h
   ·intro _;(repeat refine za ?_);refine zad ?_;refine zQF (zr4 h0 h1 h6 g1) ?_;refine zy (zfr ?_);exact Frz.tupL ⟨.int _ _,.bool _,trivial⟩
theorem f120:ET.funcs.get 120=some T120:=zH Tryz.func120
theorem f142:ET.funcs.get 142=some T142:=zH Tryz.func142
theorem f94:ET.funcs.get 94=some T94:=zH Tryz.func94
def zcz (left:Nat)(w:List Nat)(x:Pr):Nat :=
 if(zbx left w.length && !decide (x.2=0) && !decide (x.2=left))=true then(if(decide (zbt left w=0)&&zf2 (zab left w) x.2)=true then 2 else zbt left w)else 2
theorem zpY (p left:Nat)(w:List Nat)(x:Pr)(hw:w.length<1000000):FN ET 173 [uv left,wv p w,pv x] (.ret (iv (zcz left w x:Nat))):=by
 refine zfn f173 (.int _ _) ?_;have hR:=zlA p left w (by omega);have hRd:=zf8 p left w hw;have hC:=ziA p left w hw;have bad:(zbx left w.length && !decide (x.2=0) && !decide (x.2=left))=false->zcz left w x=2:=fun h=>by unfold zcz;rw[h];rfl
 refine zG ?_;refine zI ?_;refine zca hR ?_
 by_cases hr:zbx left w.length=true
 rotate_left
 ·have hr:zbx left w.length=false:=by simpa using hr
  rw[hr];refine zN ?_;refine zU ?_;rw[bad (by rw[hr];rfl)];exact Frz.int _ _
 rw[hr]
 by_cases h0:x.2=0
 ·have g0:(x.2:Int)=0:=by omega
  refine zNF g0 ?_;refine zU ?_;rw[bad (by rw[hr,h0];rfl)];exact Frz.int _ _
 have g0:¬(x.2:Int)=0:=by omega
 by_cases h1:x.2=left
 ·have g1:(x.2:Int)=left:=by omega
  have g0':¬(left:Int)=0:=by omega
  refine zNF (zr3 g0 g0' g1) ?_;refine zU ?_;rw[bad (by rw[hr,decide_eq_true h1];simp)];exact Frz.int _ _
 have g1:¬(x.2:Int)=left:=by omega
 refine zNF (zr2 g0 g1) ?_;refine zcf ?_;refine zBl ?_;show W _ _ _ _ _ _;refine zI ?_;refine zca hC ?_;refine zN ?_;refine zI ?_;refine zca hRd ?_;refine zN ?_;have hp:zcz left w x=if(decide (zbt left w=0)&&zf2 (zab left w) x.2)=true then 2 else zbt left w:=by
  unfold zcz;rw[if_pos (by rw[hr,decide_eq_false h0,decide_eq_false h1];rfl)]
 have hrl:(zab left w).length<=28:=by have:=zdz left w;unfold zbv at this;rwa [if_pos hr]at this
 have hH:=zo0 0 (zab left w) x.2 (by omega);generalize zab left w=L at *
 generalize zbt left w=c at *
 by_cases hc:c=0
 rotate_left
 ·have g2:¬(c:Int)=0:=by omega
  (repeat refine za ?_);refine zAV g2 ?_;refine zcf ?_;refine zBl ?_;show W _ _ _ _ _ _;refine zO ?_;rw[hp,if_neg (by simp[hc])];exact Frz.int _ _
 have g2:(c:Int)=0:=by omega
 refine zIF g2 ?_;refine zca hH ?_;refine zN ?_
 by_cases hh:zf2 L x.2=true
 ·refine zfc ?_ ?_
  ·intro _;refine zO ?_;rw[hp,if_pos (by rw[hh,decide_eq_true hc];rfl)];exact Frz.int _ _
  ·rw[hh];intro h;cases h
 ·refine zfc ?_ ?_
  ·intro h;exact absurd h hh
  intro _;refine zBl ?_;show W _ _ _ _ _ _;refine zO ?_;rw[hp,if_neg (by simp[hh]),hc];exact Frz.int _ _
theorem zb3 {l:List Pr}:∀v∈(l.map zBo).flatMap PV.cells,Id0 v:=fun v hv=>by
 obtain⟨x,hx,hv⟩:=zBB9.1 hv;obtain⟨n,_,rfl⟩:=zAM9.1 hx;simp[PV.cells]at hv;rcases hv with rfl|rfl<;>exact .int _ _
def upL (l:List Pr)(i:Nat):Nat->List Pr
 | 0=>[]
 | m+1=>if i<=m then(2*m+3,(l.getD m (0,0)).2)::(2*m+2,(l.getD m (0,0)).1)::upL l i m else[]
def znH (left:Nat)(w:List Nat)(l:List Pr)(i:Nat)(x:Pr):List Pr:=(2*l.length+3,0)::(upL l i l.length++[(2*i+1,zbU left w i),(2*i,x.1),(2*i+1,x.2)])
def zdK (left:Nat)(w:List Nat)(x:Pr):List Pr×Nat :=
 if zcz left w x=0 then(if sIs (zab left w) x.1=true then([],191)else if w.length/2<=(zab left w).length+1 then([],3)else(znH left w (zab left w) (zb4 (zab left w) x.1) x,0))else([],zcz left w x)
theorem zgr {left:Nat}{w:List Nat}{x:Pr}(h:zcz left w x=0):zbx left w.length=true/\zbt left w=0:=by
 unfold zcz at h
 by_cases hr:(zbx left w.length && !decide (x.2=0) && !decide (x.2=left))=true
 ·rw[if_pos hr]at h;rw[zAQ9,zAQ9]at hr;refine⟨hr.1.1,?_⟩
  split at h
  ·cases h
  ·exact h
 ·rw[if_neg hr]at h;cases h
theorem zhh {left:Nat}{w:List Nat}(h:zbx left w.length=true):(zab left w).length<=28:=by
 have:=zdz left w;unfold zbv at this;rwa [if_pos h]at this
set_option maxHeartbeats 1000000 in
theorem zv3 (p left:Nat)(w:List Nat)(x:Pr)(hw:w.length<1000000):FN ET 120 [uv left,wv p w,pv x] (.ret (.tuple [.list 0 2 ((zdK left w x).1.map zBo),iv ((zdK left w x).2:Nat)])):=by
 refine zfn f120 (Lb.two (zc9 _) (.int _ _)) ?_;have hP:=zpY p left w x hw;have hRd:=zf8 p left w hw;have e0:IntKind.i64.wrap ((w.length:Int).tdiv 2)=((w.length/2:Nat):Int):=by rw[IntWalk.i64_quo _ _ (by omega)];omega
 refine zG ?_;refine zI ?_;refine zca hP ?_;refine zN ?_
 by_cases hp0:zcz left w x=0
 rotate_left
 ·have g:¬(zcz left w x:Int)=0:=by omega
  refine zSF g ?_;refine zO ?_;have:zdK left w x=([],zcz left w x):=by unfold zdK;rw[if_neg hp0]
  rw[this];exact Frz.tupL ⟨.nil _ _,.int _ _,trivial⟩
 have g:(zcz left w x:Int)=0:=by omega
 refine zTF g ?_;refine zBl ?_;show W _ _ _ _ _ _;obtain⟨hr,hck⟩:=zgr hp0;have hLl:=zhh hr;have hrl:=hr;rw[zmP]at hrl;simp only[zAQ9,decide_eq_true_eq]at hrl;have hsp:zdK left w x=if sIs (zab left w) x.1=true then([],191)else if w.length/2<=(zab left w).length+1 then([],3)else(znH left w (zab left w) (zb4 (zab left w) x.1) x,0):=by unfold zdK;rw[if_pos hp0]
 rw[hsp];clear hsp g hP;have hraw:(zab left w).length<=w.length/2:=by
  have:=zen w 0 left;have h2:=congrArg List.length (zcL w 0 left);rw[zAA9]at h2;omega
 generalize zab left w=L at *
 have hF:=znq 0 x.1 L (by omega);have hfl:=zjr L x.1;refine zI ?_;refine zca hRd ?_;refine zN ?_;refine zI ?_;refine zca hF ?_;refine zN ?_;generalize zb4 L x.1=i at *
 refine zG ?_
 by_cases his:sIs L x.1=true
 ·refine zfc ?_ ?_
  ·intro _;refine zO ?_;rw[if_pos his];exact Frz.tupL ⟨.nil _ _,.int _ _,trivial⟩
  ·intro h;rw[his]at h;cases h
 rw[if_neg his];refine zfc ?_ ?_
 ·intro h;exact absurd h his
 intro _;refine zBl ?_;show W _ _ _ _ _ _
 by_cases hlong:w.length/2<=L.length+1
 ·have g2:((w.length/2:Nat):Int)<=(L.length:Int)+1:=by omega
  refine zSF (zr2 e0 g2) ?_;refine zO ?_;rw[if_pos hlong];exact Frz.tupL ⟨.nil _ _,.int _ _,trivial⟩
 rw[if_neg hlong];have g2:¬((w.length/2:Nat):Int)<=(L.length:Int)+1:=by omega
 have g3:(L.length:Int)+1<((w.length/2:Nat):Int):=by omega
 refine zTF (zr2 e0 g2) ?_;refine zBl ?_;show W _ _ _ _ _ _;(repeat refine za ?_);refine zgo ?_;refine zb2 83 2 (i:=14) rfl ?_;simp only[lzy,zAD9,zAE9,zAF9,zAR9,zAG9,zAI9,zAK9];refine zSF (zr2 e0 g3) ?_;have w0:IntKind.i64.wrap (2*(L.length:Int))=((2*L.length:Nat):Int):=zwi;have w1:IntKind.i64.wrap (((2*L.length:Nat):Int)+3)=((2*L.length+3:Nat):Int):=zwi;refine zGF (zr2 w0 w1) ?_;generalize hD:znH left w L i x=D;refine zB (zar (fun m s=>∃(V:List PV) (g:Nat) (G:List zn),i<=m/\m<=L.length/\V.length<=1+2*(L.length-m)/\D.map zBo=V++(upL L i m++[(2*i+1,zbU left w i),(2*i,x.1),(2*i+1,x.2)]).map zBo/\s.tm 0=uv left/\s.tm 1=wv p w/\s.tm 5=.ptr 0 0 0 0 2/\s.tm 9=psv 0 L/\s.tm 11=iv i/\s.tm 14=.sl 1 g 0 V.length (2*V.length) 2/\s.tm 15=iv ((m:Int)-1)/\s.df=[]/\s.H=.row 66 2 0 0 [pv x]::.row 83 2 g 0 V::G) (n:=L.length) ?_ ?_)
 ·refine⟨[zBo (2*L.length+3,0)],1,_,hfl,zAJ9 _,by simp,by rw[<- hD];rfl,zt,zt,zt,zt,zt,zt,zt,rfl,rfl⟩
 ·rintro m ⟨tm,df,H⟩ ⟨V,g,G,him,hmL,hVl,hDV,h0,h1,h5,h9,h11,h14,h15,rfl,rfl⟩;dsimp only at h0 h1 h5 h9 h11 h14 h15
  by_cases hm:i<m
  ·obtain⟨k,rfl⟩:∃k,m=k+1:=⟨m-1,by omega⟩
   rw[show ((k+1:Nat):Int)-1=(k:Nat) by omega]at h15;rw[upL,if_pos (by omega)]at hDV;have g4:(i:Int)<=(k:Nat):=by omega
   have hkl:k<L.length:=by omega
   have hkv:(L.map pv)[k]?=some (pv (L.getD k (0,0))):=by rw[zAH9,get_lt L hkl];rfl
   have w2:IntKind.i64.wrap (2*(k:Int))=((2*k:Nat):Int):=zwi;have w3:IntKind.i64.wrap (((2*k:Nat):Int)+3)=((2*k+3:Nat):Int):=zwi;have w4:IntKind.i64.wrap (((2*k:Nat):Int)+2)=((2*k+2:Nat):Int):=zwi;have hb:(V.length+2)*17<=140737488355328:=by omega
   generalize L.getD k (0,0)=y at *
   (try refine zBp ?_);refine za (zAV (zr3 h11 h15 g4) ?_);refine zwh ?_ ?_
   ·intro _;(repeat refine za ?_);refine zB ?_;(repeat refine za ?_);refine zad ?_;refine zA0 (zr9 h9 h14 h15 w2 w3 w4 hkv hkl hb) ?_;refine zQF h5 ?_;refine zJF h15 ?_;refine⟨k,zCE9 _,V++[zBo (2*k+3,y.2),zBo (2*k+2,y.1)],g+1,?G2,by omega,by omega,by simp;omega,(by rw[hDV];simp),zu h0,zu h1,zu h5,zu h9,zu h11,zt,zu h15,zt,?H⟩
    case H=>rfl
   ·intro h;cases h
  ·obtain rfl:m=i:=by omega
   have g4:¬(m:Int)<=(m:Int)-1:=by omega
   have hup:upL L m m=[]:=by cases m with
    | zero=>rfl
    | succ k=>rw[upL,if_neg (by omega)]
   rw[hup,zAK9]at hDV;(try refine zBp ?_);refine za (zAV (zr3 h11 h15 g4) ?_);refine zwh ?_ ?_
   ·intro h;cases h
   intro _;have w2:IntKind.i64.wrap (2*(m:Int))=((2*m:Nat):Int):=zwi;have w3:IntKind.i64.wrap (((2*m:Nat):Int)+1)=((2*m+1:Nat):Int):=zwi;have hah:=ziH p left w m (by omega) (by omega);have hb:(V.length+3)*17<=140737488355328:=by omega
   (repeat refine za ?_);refine zad ?_;refine zAZ (zr7 h0 h1 h5 h11 h14 w2 w3) hah ?_;refine zA0 (zr8 h0 h1 h5 h11 h14 w2 w3 hb) ?_;refine zQF h5 ?_;refine zy (zfr ?_);refine Frz.tupL ⟨?_,.int _ _,trivial⟩;rw[hDV];exact Frz.whole rfl rfl (by simp) (by simp) (fun v hv=>by rw[<- hDV]at hv;obtain⟨x,_,rfl⟩:=zAM9.1 hv;rfl) (by rw[<- hDV];exact zb3)
def dnL (w:List Nat)(d k:Nat):List Pr:=(List.range k).flatMap fun q=>[(2*(d+q),w.getD (2*(d+q)+2) 0),(2*(d+q)+1,w.getD (2*(d+q)+3) 0)]
def zcp (w:List Nat)(d m:Nat):List Pr:=dnL w d (m-1-d)++[(2*m-1,0)]
theorem zjL (w:List Nat)(d k:Nat):dnL w d (k+1)=dnL w d k++[(2*(d+k),w.getD (2*(d+k)+2) 0),(2*(d+k)+1,w.getD (2*(d+k)+3) 0)]:=by
 unfold dnL;rw[zDG9,zCN9];simp
theorem zhm (w:List Nat)(d k:Nat):(dnL w d k).length=2*k:=by
 induction k with
 | zero=>rfl
 | succ k ih=>rw[zjL,zAD9,ih];simp;omega
theorem zss (p d m:Nat)(w:List Nat)(hw:w.length<1000000)(hd:d<m)(hm:2*m<=w.length):FN ET 142 [wv p w,iv d,iv m] (.ret (.list 0 2 ((zcp w d m).map zBo))):=by
 refine zfn f142 (zc9 _) ?_;refine zG ?_;refine zb2 83 2 (i:=7) rfl ?_;simp only[lzy,zAD9,zAE9,zAF9,zAR9,zAG9,zAI9,zAK9];refine zB (zar (fun n s=>∃(q:Nat) (V:List PV) (g:Nat) (G:List zn),n=m-q/\d+q+1<=m/\V=(dnL w d q).map zBo/\s.tm 0=wv p w/\s.tm 2=iv m/\s.tm 7=.sl 0 g 0 V.length (2*V.length) 2/\s.tm 8=iv ((d+q:Nat):Int)/\s.df=[]/\s.H=.row 83 2 g 0 V::G) (n:=m) ?_ ?_)
 ·exact⟨0,[],0,_,rfl,hd,rfl,zt,zt,zt,zt,rfl,rfl⟩
 ·rintro n ⟨tm,df,H⟩ ⟨q,V,g,G,rfl,hq,hV,h0,h2,h7,h8,rfl,rfl⟩;dsimp only at h0 h2 h7 h8;have hVl:V.length=2*q:=by rw[hV,zAA9,zhm]
  by_cases hlt:d+q+2<=m
  ·have g1:((d+q:Nat):Int)<=(m:Int)-2:=by omega
   have hs:=zjL w d q;generalize hj:d+q=j at *
   have w1:IntKind.i64.wrap (2*(j:Int))=((2*j:Nat):Int):=zwi;have w2:IntKind.i64.wrap (((2*j:Nat):Int)+1)=((2*j+1:Nat):Int):=zwi;have w3:IntKind.i64.wrap (((2*j:Nat):Int)+2)=((2*j+2:Nat):Int):=zwi;have w4:IntKind.i64.wrap (((2*j:Nat):Int)+3)=((2*j+3:Nat):Int):=zwi;have c2:2*j+2<w.length:=by omega
   have c3:2*j+3<w.length:=by omega
   have z2:=zcE c2;have z3:=zcE c3;have hb:(V.length+2)*17<=140737488355328:=by omega
   generalize w.getD (2*j+2) 0=a at *
   generalize w.getD (2*j+3) 0=b at *
   (try refine zBp ?_);refine za (zAV (zr3 h2 h8 g1) ?_);refine zwh ?_ ?_
   ·intro _;(repeat refine za ?_);refine zB ?_;(repeat refine za ?_);refine zad ?_;refine zA0 (zBa h0 h7 h8 w1 w2 w3 w4 c2 c3 z2 z3 hb) ?_;refine zQF h0 ?_;refine zJF h8 ?_;refine⟨_,?m1,q+1,V++[zBo (2*j,a),zBo (2*j+1,b)],g+1,?G2,rfl,by omega,(by rw[hs,hV];simp),zu h0,zu h2,zt,?T,zt,?H⟩
    case m1=>omega
    case T=>rw[show d+(q+1)=j+1 by omega];simp[upd,h8]
    case H=>rfl
   ·intro h;cases h
  ·have g1:¬((d+q:Nat):Int)<=(m:Int)-2:=by omega
   have hsh:(zcp w d m).map zBo=V++[zBo (2*m-1,0)]:=by unfold zcp;rw[show m-1-d=q by omega,hV];simp
   have w1:IntKind.i64.wrap (2*(m:Int))=((2*m:Nat):Int):=zwi;have w2:IntKind.i64.wrap (((2*m:Nat):Int)-1)=((2*m-1:Nat):Int):=zwi;have hb:(V.length+1)*17<=140737488355328:=by omega
   (try refine zBp ?_);refine za (zAV (zr3 h2 h8 g1) ?_);refine zwh ?_ ?_
   ·intro h;cases h
   intro _;refine zOF (zr5 h2 h7 w1 w2 hb) ?_;have hfl:∀v∈(V++[zBo (2*m-1,0)]).flatMap PV.cells,Id0 v:=by rw[<- hsh];exact zb3
   rw[hsh];exact Frz.whole rfl rfl (by simp) (by simp) (fun v hv=>by rw[<- hsh]at hv;obtain⟨x,_,rfl⟩:=zAM9.1 hv;rfl) hfl
def zbY (left:Nat)(w:List Nat)(key:Nat):List Pr×Nat :=
 if zbt left w=0 then(if sIs (zab left w) key=true then((2*zb4 (zab left w) key+1,zbU left w (zb4 (zab left w) key))::zcp w (zb4 (zab left w) key) (zab left w).length,0)else([],5))else([],zbt left w)
theorem zeK {left:Nat}{w:List Nat}(h:zbt left w=0):zbx left w.length=true:=by
 unfold zbt at h
 split at h
 ·assumption
 ·cases h
theorem zke {l:List Pr}{key:Nat}(h:sIs l key=true):zb4 l key<l.length:=by
 unfold sIs at h
 split at h
 ·rename_i x hx;exact(zAC9.1 hx).1
 ·cases h
theorem zlJ (left:Nat)(w:List Nat):2*(zab left w).length<=w.length:=by
 have:=zen w 0 left;have h2:=congrArg List.length (zcL w 0 left);rw[zAA9]at h2;omega
set_option maxHeartbeats 1000000 in
theorem zvW (p left key:Nat)(w:List Nat)(hw:w.length<1000000):FN ET 94 [uv left,wv p w,uv key] (.ret (.tuple [.list 0 2 ((zbY left w key).1.map zBo),iv ((zbY left w key).2:Nat)])):=by
 refine zfn f94 (Lb.two (zc9 _) (.int _ _)) ?_;have hC:=ziA p left w hw;have hRd:=zf8 p left w hw;refine zG ?_;refine zI ?_;refine zca hC ?_;refine zN ?_
 by_cases hc0:zbt left w=0
 rotate_left
 ·have g:¬(zbt left w:Int)=0:=by omega
  refine zSF g ?_;refine zO ?_;have:zbY left w key=([],zbt left w):=by unfold zbY;rw[if_neg hc0]
  rw[this];exact Frz.tupL ⟨.nil _ _,.int _ _,trivial⟩
 have g:(zbt left w:Int)=0:=by omega
 refine zTF g ?_;refine zBl ?_;show W _ _ _ _ _ _;have hr:=zeK hc0;have hst:zbY left w key=if sIs (zab left w) key=true then((2*zb4 (zab left w) key+1,zbU left w (zb4 (zab left w) key))::zcp w (zb4 (zab left w) key) (zab left w).length,0)else([],5):=by unfold zbY;rw[if_pos hc0]
 rw[hst];have hLl:=zhh hr;have hL2:=zlJ left w;clear hst g hC;generalize zab left w=L at *
 have hF:=znq 0 key L (by omega);refine zI ?_;refine zca hRd ?_;refine zN ?_;refine zI ?_;refine zca hF ?_;refine zN ?_
 by_cases his:sIs L key=true
 rotate_left
 ·have his:sIs L key=false:=by simpa using his
  rw[if_neg (by rw[his];decide),his];refine zS ?_;refine zO ?_;exact Frz.tupL ⟨.nil _ _,.int _ _,trivial⟩
 have hfl:=zke his;rw[if_pos his,his];generalize zb4 L key=i at *
 refine zT ?_;refine zBl ?_;show W _ _ _ _ _ _;have w2:IntKind.i64.wrap (2*(i:Int))=((2*i:Nat):Int):=zwi;have w3:IntKind.i64.wrap (((2*i:Nat):Int)+1)=((2*i+1:Nat):Int):=zwi;have hah:=ziH p left w i (by omega) (by omega);have hsh:=zss p i L.length w hw hfl hL2;have hsl:(zcp w i L.length).length=2*(L.length-1-i)+1:=by unfold zcp;rw[zAD9,zhm];rfl
 generalize zcp w i L.length=S at *
 have hne:¬S.length=0:=by omega
 have hb:(1+S.length)*17<=140737488355328:=by omega
 refine zIF (zr2 w2 w3) ?_;refine zca hah ?_;refine zAW (zr2 w2 w3) ?_;refine zca hsh ?_;refine zPF (zr2 hne hb) ?_;refine Frz.tupL ⟨?_,.int _ _,trivial⟩;have hS:((2*i+1,zbU left w i)::S).map zBo=[zBo (2*i+1,zbU left w i)]++S.map zBo:=rfl;have hfl2:∀v∈([zBo (2*i+1,zbU left w i)]++S.map zBo).flatMap PV.cells,Id0 v:=by rw[<- hS];exact zb3
 rw[hS];exact Frz.whole rfl rfl (by simp;omega) (by simp;omega) (fun v hv=>by rw[<- hS]at hv;obtain⟨x,_,rfl⟩:=zAM9.1 hv;rfl) hfl2
theorem f144:ET.funcs.get 144=some T144:=zH Tryz.func144
theorem f103:ET.funcs.get 103=some T103:=zH Tryz.func103
theorem f61:ET.funcs.get 61=some T61:=zH Tryz.func61
theorem zlD (x:Nat):FN ET 144 [uv x] (.ret (.bool (zc0 x))):=by
 refine zfn f144 (.bool _) ?_
 by_cases h:1<=x
 ·have g:(1:Int)<=x:=by omega
  by_cases h2:x<=2047
  ·have g2:(x:Int)<=2047:=by omega
   refine zOF (zr2 g g2) ?_;exact za0.bool (by simp[zc0,h];omega)
  ·have g2:¬(x:Int)<=2047:=by omega
   refine zOF (zr2 g g2) ?_;exact za0.bool (by simp[zc0,h];omega)
 ·have g:¬(1:Int)<=x:=by omega
  refine zOF g ?_;exact za0.bool (by simp[zc0,h])
def zhI (lv x:Nat):Bool:=if lv=0 then decide (1<=x)&&decide (x<=1099511627776)else zc0 x
theorem zlH (lv x:Nat):FN ET 99 [iv lv,uv x] (.ret (.bool (zhI lv x))):=by
 by_cases h:lv=0
 ·subst h;exact zdx x
 have g:¬(lv:Int)=0:=by omega
 have:zhI lv x=zc0 x:=by unfold zhI;rw[if_neg h]
 rw[this];refine zfn f99 (.bool _) ?_;refine zTF g ?_;refine zBl ?_;show W _ _ _ _ _ _;refine zI ?_;refine zca (zlD x) ?_;refine zP ?_;exact Frz.bool _
def zeu (w:List Nat):Bool:=decide (w.length=64)&&decide (7522529147838689024<=w.getD 0 0)&&decide (w.getD 0 0<=7522529147838689024+12)&&decide (w.getD 1 0<=2047)&&decide (w.getD 4 0<=2)&&decide (w.getD 5 0=0)&&decide (w.getD 6 0=0)&&decide (w.getD 7 0=0)
def zfm (lv x:Nat):Bool:=(decide (lv=0)&&decide (x=9223372036854775808))||(decide (0<lv)&&zc0 x)
theorem mp0 (lv a:Nat):zcR 0 lv a=(decide (7522529147838689024<=a)&&decide (a<=7522529147838689024+12)):=by rw[zcR]
theorem mp3 (lv a:Nat):zcR 3 lv a=zfm lv a:=by rw[zcR,zfm]
theorem mp1 (lv a:Nat):zcR 1 lv a=decide (a<=2047):=by
 rw[zcR,zDS9,decide_eq_true_eq,decide_eq_true_eq];omega
theorem mp4 (lv a:Nat):zcR 4 lv a=decide (a<=2):=by rw[zcR];all_goals (intro h;cases h)
theorem ziJ (w:List Nat):headB w=(zeu w&&zfm (zf0 (w.getD 0 0)) (w.getD 3 0)):=by
 by_cases hl:w.length=64
 rotate_left
 ·unfold headB zeu;rw[decide_eq_false hl];simp only[zDQ9]
 obtain⟨lv,hlv⟩:=zun w;rw[zqv w hl lv hlv,<- hlv];have h567:((w.take 8).drop 5)=[w.getD 5 0,w.getD 6 0,w.getD 7 0]:=by
  apply List.ext_getElem
  ·simp;omega
  ·intro i h1 h2;simp only[List.getElem_drop,zGV9,zAL9]
   match i,h2 with
   | 0,_=>simp[zAB9 (show 5<w.length by omega)]
   | 1,_=>simp[zAB9 (show 6<w.length by omega)]
   | 2,_=>simp[zAB9 (show 7<w.length by omega)]
 have hr:List.range 5=[0,1,2,3,4]:=rfl;rw[h567,hr];unfold zeu;rw[decide_eq_true hl,zBY9];simp only[List.any_cons,List.any_nil,List.all_cons,List.all_nil,zFV9,Bool.or_false];rw[mp0,mp1,mp3,mp4];have m2:zcR 2 lv (w.getD 2 0)=true:=rfl;rw[m2];generalize w.getD 0 0=a0;generalize w.getD 5 0=a5;generalize w.getD 6 0=a6;generalize w.getD 7 0=a7;generalize decide (7522529147838689024<=a0)=b0;generalize decide (a0<=7522529147838689024+12)=b1;generalize decide (w.getD 1 0<=2047)=b2;generalize decide (w.getD 4 0<=2)=b3;generalize zfm lv (w.getD 3 0)=b4
 by_cases h5:a5=0<;>by_cases h6:a6=0<;>by_cases h7:a7=0<;>simp[h5,h6,h7]<;>cases b0<;>cases b1<;>cases b2<;>cases b3<;>cases b4<;>rfl
set_option maxHeartbeats 4000000 in
theorem zfB (p:Nat)(w:List Nat)(hw:za7 w.length):FN ET 103 [wv p w] (zdX w):=by
 refine zfn f103 ?_ ?_
 ·unfold zdX;split
  ·exact Lb.two (Lb.node _) (.int _ _)
  ·exact Lb.two (Lb.node _) (.int _ _)
 have hsp:=ziJ w;refine zG ?_;(repeat refine za ?_);refine zbD (Q:=fun y s'=>y=.norm/\s'.tm 49=.bool (!zeu w)/\s'.tm 0=wv p w/\s'.tm 2=.ptr 0 0 0 0 6/\s'.df=[]/\s'.H=[.row 124 6 0 0 [zfl]]) (zAU ?_) ?_
 ·have h0:True:=trivial;have fin:∀(tm:Nat->PV) (b:Bool),b=zeu w->tm 49=.bool (!b)->tm 0=wv p w->tm 2=.ptr 0 0 0 0 6->(FX.norm=FX.norm/\tm 49=.bool (!zeu w)/\tm 0=wv p w/\tm 2=.ptr 0 0 0 0 6/\([]:List FD)=[]/\[zn.row 124 6 0 0 [zfl]]=[.row 124 6 0 0 [zfl]]):=fun tm b hb h49 h0 h2=>⟨rfl,by rw[h49,hb],h0,h2,rfl,rfl⟩
  by_cases hl:w.length=64
  rotate_left
  ·have g:¬(w.length:Int)=64:=by omega
   refine zKF g ?_;exact fin _ false (by unfold zeu;rw[decide_eq_false hl];rfl) (by simp[upd]) (by simp[upd,zq]) (by simp[upd])
  have g:(w.length:Int)=64:=by omega
  have c0:0<w.length:=by omega
  have c1:1<w.length:=by omega
  have c4:4<w.length:=by omega
  have c5:5<w.length:=by omega
  have c6:6<w.length:=by omega
  have c7:7<w.length:=by omega
  have z0:=zcE c0;have z1:=zcE c1;have z4:=zcE c4;have z5:=zcE c5;have z6:=zcE c6;have z7:=zcE c7;have h8:zeu w=(decide (7522529147838689024<=w.getD 0 0)&&decide (w.getD 0 0<=7522529147838689024+12)&&decide (w.getD 1 0<=2047)&&decide (w.getD 4 0<=2)&&decide (w.getD 5 0=0)&&decide (w.getD 6 0=0)&&decide (w.getD 7 0=0)):=by unfold zeu;rw[decide_eq_true hl,zBY9]
  generalize zeu w=hd at *
  generalize w.getD 0 0=a0 at *
  generalize w.getD 1 0=a1 at *
  generalize w.getD 4 0=a4 at *
  generalize w.getD 5 0=a5 at *
  generalize w.getD 6 0=a6 at *
  generalize w.getD 7 0=a7 at *
  by_cases b0:7522529147838689024<=a0
  rotate_left
  ·have g0:(a0:Int)<7522529147838689024:=by omega
   refine zKF (zr5 g hl c0 z0 g0) ?_;exact fin _ false (by rw[h8,decide_eq_false b0];rfl) (by simp[upd]) (by simp[upd,zq]) (by simp[upd])
  have g0:¬(a0:Int)<7522529147838689024:=by omega
  rw[decide_eq_true b0]at h8
  by_cases b1:a0<=7522529147838689024+12
  rotate_left
  ·have g1:(7522529147838689036:Int)<a0:=by omega
   refine zKF (zr6 g hl c0 z0 g0 g1) ?_;exact fin _ false (by rw[h8,decide_eq_false b1];simp) (by simp[upd]) (by simp[upd,zq]) (by simp[upd])
  have g1:¬(7522529147838689036:Int)<a0:=by omega
  rw[decide_eq_true b1]at h8
  by_cases b2:a1<=2047
  rotate_left
  ·have g2:(2047:Int)<a1:=by omega
   refine zKF (zr9 g hl c0 z0 g0 g1 c1 z1 g2) ?_;exact fin _ false (by rw[h8,decide_eq_false b2];simp) (by simp[upd]) (by simp[upd,zq]) (by simp[upd])
  have g2:¬(2047:Int)<a1:=by omega
  rw[decide_eq_true b2]at h8
  by_cases b4:a4<=2
  rotate_left
  ·have g4:(2:Int)<a4:=by omega
   refine zKF (zBa g hl c0 z0 g0 g1 c1 z1 g2 c4 z4 g4) ?_;exact fin _ false (by rw[h8,decide_eq_false b4];simp) (by simp[upd]) (by simp[upd,zq]) (by simp[upd])
  have g4:¬(2:Int)<a4:=by omega
  rw[decide_eq_true b4]at h8
  by_cases b5:a5=0
  rotate_left
  ·have g5:¬(a5:Int)=0:=by omega
   refine zKF (zBa g hl c0 z0 g0 g1 c1 z1 g2 c4 z4 (zr4 g4 c5 z5 g5)) ?_;exact fin _ false (by rw[h8,decide_eq_false b5];simp) (by simp[upd]) (by simp[upd,zq]) (by simp[upd])
  have g5:(a5:Int)=0:=by omega
  rw[decide_eq_true b5]at h8
  by_cases b6:a6=0
  rotate_left
  ·have g6:¬(a6:Int)=0:=by omega
   refine zKF (zBa g hl c0 z0 g0 g1 c1 z1 g2 c4 z4 (zr7 g4 c5 z5 g5 c6 z6 g6)) ?_;exact fin _ false (by rw[h8,decide_eq_false b6];simp) (by simp[upd]) (by simp[upd,zq]) (by simp[upd])
  have g6:(a6:Int)=0:=by omega
  rw[decide_eq_true b6]at h8
  by_cases b7:a7=0
  rotate_left
  ·have g7:¬(a7:Int)=0:=by omega
   refine zKF (zBa g hl c0 z0 g0 g1 c1 z1 g2 c4 z4 (zBc g4 c5 z5 g5 c6 z6 g6 c7 z7 g7)) ?_;exact fin _ false (by rw[h8,decide_eq_false b7];simp) (by simp[upd]) (by simp[upd,zq]) (by simp[upd])
  have g7:(a7:Int)=0:=by omega
  rw[decide_eq_true b7]at h8;refine zKF (zBa g hl c0 z0 g0 g1 c1 z1 g2 c4 z4 (zBc g4 c5 z5 g5 c6 z6 g6 c7 z7 g7)) ?_;exact fin _ true (by rw[h8];rfl) (by simp[upd]) (by simp[upd,zq]) (by simp[upd])
 rintro y ⟨tm,df,H⟩ ⟨rfl,h49,h0,h2,rfl,rfl⟩;dsimp only at h49 h0 h2;have badE:headB w=false->zdX w=.ret (.tuple [zW 0 zd3,iv 210]):=fun h=>by unfold zdX;rw[if_neg (by rw[h];decide)]
 by_cases h8:zeu w=true
 rotate_left
 ·have h8:zeu w=false:=by simpa using h8
  rw[h8]at h49 hsp;refine zct ?_ (by simp only[go_sem,h49]<;>rfl);refine zGF h2 ?_;refine zy ?_;(try simp only[zc,zf,ze,zd,zg]);refine zj (vs:=[zfl,iv 210]) ?_ ?_
  ·simp only[T103,zE,go_sem,h2];rfl
  rw[badE hsp];exact zoq
 rw[h8]at h49;refine zcf ?_ (by simp only[go_sem,h49]<;>rfl);refine zBl ?_;show W _ _ _ _ _ _;rw[h8,zBY9]at hsp;have h8':=h8;unfold zeu at h8';simp only[zAQ9,decide_eq_true_eq]at h8';obtain⟨⟨⟨⟨⟨⟨⟨hl,b0⟩,b1⟩,b2⟩,b4⟩,_⟩,_⟩,_⟩:=h8';obtain⟨lv,hlv⟩:=zun w;have hN:=zqS w lv hlv;rw[<- hlv]at hsp;have hlv2:lv=w.getD 0 0-7522529147838689024:=by rw[hlv,zkW]
 have okE:headB w=true->zdX w=.ret (.tuple [zW 0 (headN w),iv 0]):=fun h=>by unfold zdX;rw[if_pos h]
 rw[hN]at okE;have c0:0<w.length:=by omega
 have c1:1<w.length:=by omega
 have c2:2<w.length:=by omega
 have c3:3<w.length:=by omega
 have c4:4<w.length:=by omega
 have z0:=zcE c0;have z1:=zcE c1;have z2:=zcE c2;have z3:=zcE c3;have z4:=zcE c4;have q0:IntKind.i64.wrap (IntKind.u64.wrap ((w.getD 0 0:Int)-7522529147838689024))=(lv:Int):=by
  rw[zBm (by omega) (by omega),wrap_i64 (by omega) (by omega)];omega
 have q0a:IntKind.u64.wrap ((w.getD 0 0:Int)-7522529147838689024)=(lv:Int):=by
  rw[zBm (by omega) (by omega)];omega
 have hl12:lv<=12:=by omega
 clear hlv hlv2 h8 h49;have hd8:List.drop 8 (List.map uv w)=(w.drop 8).map uv:=by rw[zCM9]
 have hRd:=zf8 p (w.getD 3 0) (w.drop 8) (by rw[zBT9];omega);have hdl:(w.drop 8).length=56:=by rw[zBT9];omega
 have hle8:8<=w.length:=by omega
 generalize w.getD 0 0=a0 at *
 generalize w.getD 1 0=a1 at *
 generalize w.getD 2 0=a2 at *
 generalize w.getD 3 0=a3 at *
 generalize w.getD 4 0=a4 at *
 (repeat refine za ?_);refine zad ?_;refine zA0 (zBa h0 h2 c0 c1 c2 c3 c4 z0 z1 z2 z3 (zr3 z4 q0 q0a)) ?_;refine zQF h0 ?_;have stop:∀(tm:Nat->PV) (H:List zn) (o:zn) (k:FSt->Prop),headB w=false->tm 2=.ptr 0 0 0 0 6->H=[zn.row 124 6 0 0 [zfl],o]->W ET ET.caught none (.seq (.region [⟨some 90,.build [.int .i64 0,.int .i64 0,.int .u64 0,.int .u64 0,.int .i64 0,.nilsl] [],[],none⟩,⟨none,.store 6,[.tmp 2,.tmp 90],none⟩,⟨some 3,.mov,[.const (.int .i64 210)],none⟩]) .ret) ⟨tm,[],H⟩ (zc k (zdj ET T103 fun e' H=>za0 H 0 e' (zdX w))):=fun tm H o k hb h2 hH=>by
  subst hH;refine zGF h2 ?_;refine zy ?_;(try simp only[zc,zf,ze,zd,zg]);refine zj (vs:=[zfl,iv 210]) ?_ ?_
  ·simp only[T103,zE,go_sem,h2];rfl
  rw[badE hb];exact zoq
 have hgo:zfm lv a3=true->a3≠0:=fun h=>by
  unfold zfm at h;simp only[zEQ9,zAQ9,decide_eq_true_eq,zel]at h;omega
 have hrd:a3≠0->zbv a3 (w.drop 8)=zab a3 (w.drop 8):=fun h=>by
  unfold zbv;rw[if_pos (by unfold zbx;rw[hdl];simp[h])]
 by_cases hz:lv=0
 ·have g0:(lv:Int)=0:=by omega
  have g0':¬(0:Int)<(lv:Int):=by omega
  by_cases he:a3=9223372036854775808
  rotate_left
  ·have ge:¬(a3:Int)=9223372036854775808:=by omega
   (repeat refine za ?_);refine zAV (zr3 g0 g0' ge) ?_;refine zct ?_;refine stop _ _ ?so1 _ ?sa1 ?sb1 ?sc1
   case sc1=>rfl
   case sa1=>rw[hsp];simp[zfm,hz,he]
   case sb1=>simp[upd,h2]
  have ge:(a3:Int)=9223372036854775808:=by omega
  have hh:zfm lv a3=true:=by unfold zfm;simp[hz,he]
  rw[hh]at hsp;rw[okE hsp,hrd (hgo hh)];(repeat refine za ?_);refine zAV (zr3 g0 g0' ge) ?_;refine zcf ?_;refine zBl ?_;show W _ _ _ _ _ _;(repeat refine za ?_);refine zad ?_;refine zAZ (zr4 h0 h2 hd8 hle8) hRd ?_;refine zA0 (zr2 h0 h2) ?_;refine zdl ?_ (by simp(disch:=omega)only[go_sem,h0]<;>rfl) (by first|exact trivial|simp only[go_sem,h0]);refine zL ?_;simp only[go_sem];refine zGF h2 ?_;refine zy ?_;(try simp only[zc,zf,ze,zd,zg]);refine zj (vs:=?_) ?_ ?_;rotate_left
  ·simp only[T103,zE,go_sem,h2];rfl
  exact Frz.tupL ⟨Frz.aggL ⟨(by subst hz;exact .int _ _),.int _ _,.int _ _,.int _ _,.int _ _,.list _ _ _,trivial⟩,.int _ _,trivial⟩
 ·have g0:¬(lv:Int)=0:=by omega
  have g0':(0:Int)<(lv:Int):=by omega
  (repeat refine za ?_);refine zAU ?_;refine zAW (zr2 g0 g0') ?_;refine zca (zlD a3) ?_
  by_cases hb:zc0 a3=true
  rotate_left
  ·have hb:zc0 a3=false:=by simpa using hb
   rw[hb];refine zN ?_;refine zct ?_;refine stop _ _ ?so2 _ ?sa2 ?sb2 ?sc2
   case sc2=>rfl
   case sa2=>rw[hsp];simp[zfm,hz,hb]
   case sb2=>simp[upd,h2]
  have hh:zfm lv a3=true:=by unfold zfm;rw[hb];simp;omega
  rw[hh]at hsp;rw[okE hsp,hrd (hgo hh),hb];refine zN ?_;refine zcf ?_;refine zBl ?_;show W _ _ _ _ _ _;(repeat refine za ?_);refine zad ?_;refine zAZ (zr4 h0 h2 hd8 hle8) hRd ?_;refine zA0 (zr2 h0 h2) ?_;refine zdl ?_ (by simp(disch:=omega)only[go_sem,h0]<;>rfl) (by first|exact trivial|simp only[go_sem,h0]);refine zL ?_;simp only[go_sem];refine zGF h2 ?_;refine zy ?_;(try simp only[zc,zf,ze,zd,zg]);refine zj (vs:=?_) ?_ ?_;rotate_left
  ·simp only[T103,zE,go_sem,h2];rfl
  exact Frz.tupL ⟨Frz.aggL ⟨.int _ _,.int _ _,.int _ _,.int _ _,.int _ _,.list _ _ _,trivial⟩,.int _ _,trivial⟩
theorem f119:ET.funcs.get 119=some T119:=zH Tryz.func119
theorem f95:ET.funcs.get 95=some T95:=zH Tryz.func95
theorem f96:ET.funcs.get 96=some T96:=zH Tryz.func96
theorem zpu (n:zC)(q:Pr):zb1 n q=(zhI n.level q.2 && !decide (q.1<n.low) && !(decide (0<n.level)&&decide (q.1=n.low))):=by
 unfold zb1 zhI
 by_cases h:n.level=0
 ·rw[if_pos h,if_pos h,h,zDS9];simp
 ·rw[if_neg h,if_neg h,decide_eq_true (show 0<n.level by omega),zBY9]
  by_cases b1:n.low<q.1
  ·rw[decide_eq_true b1,decide_eq_false (show ¬q.1<n.low by omega),decide_eq_false (show ¬q.1=n.low by omega)];simp
  ·rw[decide_eq_false b1,zGM9]
   by_cases b3:q.1=n.low
   ·rw[decide_eq_true b3];simp
   ·rw[decide_eq_true (show q.1<n.low by omega)];simp
theorem zml {w:List Nat}(h:headB w=false):zdX w=.ret (.tuple [zW 0 zd3,iv 210]):=by unfold zdX;rw[if_neg (by rw[h];decide)]
theorem ztZ (p:Nat)(w:List Nat)(hO:FN ET 103 [wv p w] (.ret (.tuple [zW 0 zd3,iv 210]))):FN ET 61 [wv p w] (.ret (iv (210:Nat))):=by
 refine zfn f61 (.int _ _) ?_;refine zG ?_;refine zI ?_;refine zca hO ?_;refine zN ?_;refine zS ?_;refine zO ?_;exact Frz.int _ _
def zi7 (n:zC)(sc:Nat):Nat:=if(decide (sc=0) && !(n.pairs.any fun q=>!zb1 n q))=true then 0 else 190
set_option maxHeartbeats 1000000 in
theorem zuM (p:Nat)(w:List Nat)(n:zC)(sc:Nat)(hwl:w.length=64)(hpl:n.pairs.length<=28)(hO:FN ET 103 [wv p w] (.ret (.tuple [zW 0 n,iv 0])))(hC:FN ET 104 [uv n.left,wv p (w.drop 8)] (.ret (iv (sc:Nat)))):FN ET 61 [wv p w] (.ret (iv (zi7 n sc:Nat))):=by
 refine zfn f61 (.int _ _) ?_;refine zG ?_;refine zI ?_;have hd8:List.drop 8 (List.map uv w)=(w.drop 8).map uv:=by rw[zCM9]
 have hle8:8<=w.length:=by omega
 refine zca hO ?_;refine zN ?_;refine zT ?_;refine zBl ?_;show W _ _ _ _ _ _;obtain⟨ok,hpk⟩:∃ok,ok=(decide (sc=0) && !(n.pairs.any fun q=>!zb1 n q)):=⟨_,rfl⟩
 have hck:zi7 n sc=if ok=true then 0 else 190:=by unfold zi7;rw[hpk]
 have bad:∀H,ok=false->za0 H 0 (.ret (iv 190)) (.ret (iv (zi7 n sc:Nat))):=fun H h=>by rw[hck,h];exact Frz.int _ _
 (repeat refine za ?_);refine zad ?_
 by_cases hs:sc=0
 rotate_left
 ·have g:¬(sc:Int)=0:=by omega
  refine zAZ (zr2 hd8 hle8) hC ?_;refine zQF g ?_;refine zfc ?_ ?_;rotate_left
  ·intro h;simp[g]at h
  intro _;refine zO ?_;exact bad _ (by rw[hpk,decide_eq_false hs];rfl)
 have g:(sc:Int)=0:=by omega
 rw[decide_eq_true hs,zBY9]at hpk;refine zAZ (zr2 hd8 hle8) hC ?_;refine zQF g ?_;refine zfc ?_ ?_
 ·intro h;simp[g]at h
 intro _;refine zBl ?_;show W _ _ _ _ _ _;refine zG ?_;refine zB (zar (fun m s=>∃(i:Nat) (G:List zn),m=n.pairs.length-i/\i<=n.pairs.length/\ok=!((n.pairs.drop i).any fun q=>!zb1 n q)/\s.tm 3=.ptr 0 0 0 0 6/\s.tm 5=iv i/\s.df=[]/\s.H=.row 124 6 0 0 [zW 0 n]::G) (n:=n.pairs.length) ?_ ?_)
 ·exact⟨0,_,rfl,zAS9 _,hpk,zt,zt,rfl,rfl⟩
 ·rintro m ⟨tm,df,H⟩ ⟨i,G,rfl,hi,hp,h3,h5,rfl,rfl⟩;dsimp only at h3 h5;(try refine zBp ?_);refine za (zAV (zr2 h3 h5) ?_);refine zwh ?_ ?_;rotate_left
  ·intro hlt;have hlt:¬i<n.pairs.length:=by have:=of_decide_eq_false hlt;omega
   obtain rfl:i=n.pairs.length:=by omega
   refine zO ?_;rw[zBM9]at hp;rw[hck,hp];exact Frz.int _ _
  intro hlt;have hlt:i<n.pairs.length:=by have:=of_decide_eq_true hlt;omega
  obtain⟨q,hq⟩:∃q,n.pairs[i]?=some q:=⟨_,zAB9 hlt⟩
  have hqv:(n.pairs.map pv)[i]?=some (pv q):=by rw[zAH9,hq];rfl
  have hdr:n.pairs.drop i=q::n.pairs.drop (i+1):=by rw[zAW9 hlt];obtain⟨_,e⟩:=zAC9.1 hq;rw[e]
  rw[hdr,List.any_cons]at hp;have hma:=zpu n q;have hRt:=zlH n.level q.2;(repeat refine za ?_);refine zB ?_;(repeat refine za ?_);refine zAU ?_;refine zNF (zr4 h3 h5 hqv hlt) ?_;(repeat refine za ?_);refine zbD (Q:=fun y s'=>y=.norm/\s'.tm 57=.bool (!zb1 n q)/\s'.tm 3=.ptr 0 0 0 0 6/\s'.tm 5=iv i/\s'.df=[]/\∃G,s'.H=.row 124 6 0 0 [zW 0 n]::G) (zAU ?_) ?_
  ·generalize zb1 n q=mq at *
   refine zAW (zr2 h3 h5) ?_;refine zca hRt ?_
   cases hr:zhI n.level q.2 with
   | false =>
    refine zKF (zr2 h3 h5) ?_;exact⟨rfl,by rw[hma,hr];simp[upd],zu h3,zu h5,rfl,_,rfl⟩
   | true =>
    by_cases b1:q.1<n.low
    ·have g1:(q.1:Int)<n.low:=by omega
     refine zKF (zr3 h3 h5 g1) ?_;exact⟨rfl,by rw[hma,decide_eq_true b1];simp[upd],zu h3,zu h5,rfl,_,rfl⟩
    have g1:¬(q.1:Int)<n.low:=by omega
    by_cases b2:0<n.level
    rotate_left
    ·have g2:¬(0:Int)<n.level:=by omega
     refine zKF (zr4 h3 h5 g1 g2) ?_;exact⟨rfl,by rw[hma,hr,decide_eq_false b1,decide_eq_false b2];simp[upd],zu h3,zu h5,rfl,_,rfl⟩
    have g2:(0:Int)<n.level:=by omega
    by_cases b3:q.1=n.low
    ·have g3:(q.1:Int)=n.low:=by omega
     have g1':¬(n.low:Int)<n.low:=by omega
     refine zKF (zr6 h3 h5 g1 g1' g2 g3) ?_;exact⟨rfl,by rw[hma,hr,decide_eq_false b1,decide_eq_true b2,decide_eq_true b3];simp[upd],zu h3,zu h5,rfl,_,rfl⟩
    ·have g3:¬(q.1:Int)=n.low:=by omega
     refine zKF (zr5 h3 h5 g1 g2 g3) ?_;exact⟨rfl,by rw[hma,hr,decide_eq_false b1,decide_eq_true b2,decide_eq_false b3];simp[upd],zu h3,zu h5,rfl,_,rfl⟩
  clear h3 h5;rintro y ⟨tm,df,H⟩ ⟨rfl,h57,h3,h5,rfl,G,rfl⟩;dsimp only at h57 h3 h5
  cases hmq:zb1 n q with
  | false =>
   rw[hmq]at h57 hp;refine zct ?_ (by simp only[go_sem,h57]<;>rfl);refine zO ?_;exact bad _ (by rw[hp];rfl)
  | true =>
   rw[hmq]at h57 hp;refine zcf ?_ (by simp only[go_sem,h57]<;>rfl);refine zBl ?_;refine zJF h5 ?_;refine⟨_,?m1,i+1,_,rfl,hlt,hp,zu h3,zu h5,rfl,rfl⟩
   case m1=>omega
theorem zf6 (p:Nat)(w:List Nat)(hw:za7 w.length):FN ET 61 [wv p w] (.ret (iv (zbi w:Nat))):=by
 have hO:=zfB p w hw
 by_cases hh:headB w=true
 rotate_left
 ·have hh:headB w=false:=by simpa using hh
  rw[zml hh]at hO;have:=ztZ p w hO;have e:zbi w=210:=by unfold zbi;rw[if_neg (by rw[hh];decide)]
  rw[e];exact this
 rw[zeg _ hh]at hO;have hwl:w.length=64:=by unfold headB at hh;simp only[zAQ9,decide_eq_true_eq]at hh;exact hh.1.1
 have hC:=ziA p (headN w).left (w.drop 8) (by rw[zBT9];omega);have:=zuM p w (headN w) _ hwl (zA2 w) hO hC;have e:zbi w=zi7 (headN w) (zbt (headN w).left (w.drop 8)):=by unfold zbi;rw[if_pos hh];unfold zet zi7;rfl
 rw[e];exact this
def zfi (w:List Nat)(x:Pr):Nat:=if zbi w=0 then(if zb1 (headN w) x=true then 0 else 2)else zbi w
theorem zs3 (p:Nat)(w:List Nat)(x:Pr)(c:Nat)(hc:¬c=0)(hC:FN ET 61 [wv p w] (.ret (iv (c:Nat)))):FN ET 119 [wv p w,pv x] (.ret (iv (c:Nat))):=by
 refine zfn f119 (.int _ _) ?_;refine zG ?_;refine zI ?_;refine zca hC ?_;refine zN ?_;have g:¬(c:Int)=0:=by omega
 refine zSF g ?_;refine zO ?_;exact Frz.int _ _
set_option maxHeartbeats 1000000 in
theorem zsT (p:Nat)(w:List Nat)(x:Pr)(n:zC)(hC:FN ET 61 [wv p w] (.ret (iv (0:Nat))))(hO:FN ET 103 [wv p w] (.ret (.tuple [zW 0 n,iv 0]))):FN ET 119 [wv p w,pv x] (.ret (iv ((if zb1 n x=true then 0 else 2:Nat)))):=by
 refine zfn f119 (.int _ _) ?_;have hma:=zpu n x;have hRt:=zlH n.level x.2;obtain⟨co,hco⟩:∃co:Nat,co=if zb1 n x=true then 0 else 2:=⟨_,rfl⟩
 rw[<- hco];refine zG ?_;refine zI ?_;refine zca hC ?_;refine zN ?_;refine zT ?_;refine zBl ?_;show W _ _ _ _ _ _;refine zI ?_;refine zca hO ?_;refine zN ?_;(repeat refine za ?_);refine zbD (Q:=fun y s'=>y=.norm/\s'.tm 42=.bool (!zb1 n x)/\s'.df=[]) (zAU ?_) ?_
 ·generalize zb1 n x=mq at *
  refine zfx ?_;refine zca hRt ?_
  cases hr:zhI n.level x.2 with
  | false =>
   refine zK ?_;exact⟨rfl,by rw[hma,hr];simp[upd],rfl⟩
  | true =>
   by_cases b1:x.1<n.low
   ·have g1:(x.1:Int)<n.low:=by omega
    refine zKF g1 ?_;exact⟨rfl,by rw[hma,decide_eq_true b1];simp[upd],rfl⟩
   have g1:¬(x.1:Int)<n.low:=by omega
   by_cases b2:0<n.level
   rotate_left
   ·have g2:¬(0:Int)<n.level:=by omega
    refine zKF (zr2 g1 g2) ?_;exact⟨rfl,by rw[hma,hr,decide_eq_false b1,decide_eq_false b2];simp[upd],rfl⟩
   have g2:(0:Int)<n.level:=by omega
   by_cases b3:x.1=n.low
   ·have g3:(x.1:Int)=n.low:=by omega
    have g1':¬(n.low:Int)<n.low:=by omega
    refine zKF (zr4 g1 g1' g2 g3) ?_;exact⟨rfl,by rw[hma,hr,decide_eq_false b1,decide_eq_true b2,decide_eq_true b3];simp[upd],rfl⟩
   ·have g3:¬(x.1:Int)=n.low:=by omega
    refine zKF (zr3 g1 g2 g3) ?_;exact⟨rfl,by rw[hma,hr,decide_eq_false b1,decide_eq_true b2,decide_eq_false b3];simp[upd],rfl⟩
 rintro y ⟨tm,df,H⟩ ⟨rfl,h42,rfl⟩;dsimp only at h42
 cases hmq:zb1 n x with
 | false =>
  rw[hmq]at h42 hco;refine zct ?_ (by simp only[go_sem,h42]<;>rfl);refine zO ?_;rw[hco];exact Frz.int _ _
 | true =>
  rw[hmq]at h42 hco;refine zcf ?_ (by simp only[go_sem,h42]<;>rfl);refine zBl ?_;show W _ _ _ _ _ _;refine zO ?_;rw[hco];exact Frz.int _ _
theorem zsF (p:Nat)(w:List Nat)(x:Pr)(hw:za7 w.length):FN ET 119 [wv p w,pv x] (.ret (iv (zfi w x:Nat))):=by
 have hC:=zf6 p w hw;have hO:=zfB p w hw;unfold zfi
 by_cases hc:zbi w=0
 ·rw[if_pos hc];rw[zeg _ (zdd hc)]at hO;rw[hc]at hC;exact zsT p w x _ hC hO
 ·rw[if_neg hc];exact zs3 p w x _ hc hC
def zdH (w:List Nat)(v:Nat):List Pr:=if w.getD 4 0=v then[]else[(4,v)]
theorem zq7 (p:Nat)(w:List Nat)(v:Nat)(hw:4<w.length)(H:List zn):FO ET 95 [wv p w,uv v] H false fun e H'=>∃(g:Nat) (G:List zn),e=.ret (.sl H.length g 0 (zdH w v).length (2*(zdH w v).length) 2)/\H'=H++.row 83 2 g 0 ((zdH w v).map zBo)::G:=by
 refine zro f95 ?_;have z4:=zcE hw;unfold zdH;generalize w.getD 4 0=a at *
 refine zG ?_
 by_cases h:a=v
 ·have g:(a:Int)=v:=by omega
  rw[if_pos h];refine zSF (zr3 hw z4 g) ?_;refine zG ?_;refine zb2 83 2 (i:=4) rfl ?_;simp only[lzy];refine zy (zfr ?_);exact⟨0,[],rfl,rfl⟩
 ·have g:¬(a:Int)=v:=by omega
  rw[if_neg h];refine zTF (zr3 hw z4 g) ?_;refine zBl ?_;show W _ _ _ _ _ _;refine zO ?_;exact⟨0,[],rfl,rfl⟩
def zbR (l:List Pr):List Pr:=l.map fun x=>(x.1+8,x.2)
theorem zmt (p:Nat)(l:List Pr)(hl:l.length<1000000)(hat:∀x∈l,x.1<1000000):FN ET 96 [.list p 2 (l.map zBo)] (.ret (.list 0 2 ((zbR l).map zBo))):=by
 refine zfn f96 (zc9 _) ?_;refine zG ?_;refine zb2 83 2 (i:=3) rfl ?_;simp only[lzy,zAD9,zAE9,zAF9,zAR9,zAG9,zAI9,zAK9];refine zB (zar (fun m s=>∃(i:Nat) (V:List PV) (G:List zn),m=l.length-i/\i<=l.length/\V=(zbR (l.take i)).map zBo/\s.tm 0=.list p 2 (l.map zBo)/\s.tm 3=.sl 0 V.length 0 V.length (2*V.length) 2/\s.tm 4=iv i/\s.df=[]/\s.H=.row 83 2 V.length 0 V::G) (n:=l.length) ?_ ?_)
 ·exact⟨0,[],_,rfl,zAS9 _,rfl,zt,zt,zt,rfl,rfl⟩
 ·rintro m ⟨tm,df,H⟩ ⟨i,V,G,rfl,hi,hV,h0,h3,h4,rfl,rfl⟩;dsimp only at h0 h3 h4;have hVl:V.length=i:=by rw[hV];simp[zbR];omega
  (try refine zBp ?_);refine za (zAV (zr2 h0 h4) ?_);refine zwh ?_ ?_
  ·intro hlt;have hlt:i<l.length:=by have:=of_decide_eq_true hlt;omega
   obtain⟨q,hq⟩:∃q,l[i]?=some q:=⟨_,zAB9 hlt⟩
   have hqv:(l.map zBo)[i]?=some (zBo q):=by rw[zAH9,hq];rfl
   have hq1:=hat q (zAO9 hq);have w1:IntKind.i64.wrap ((q.1:Int)+8)=((q.1+8:Nat):Int):=zwi;have hb:(V.length+1)*17<=140737488355328:=by omega
   (repeat refine za ?_);refine zB ?_;(repeat refine za ?_);refine zad ?_;refine zA0 (zr7 h0 h3 h4 hqv hlt w1 hb) ?_;refine zQF h0 ?_;refine zJF h4 ?_;refine⟨_,?m1,i+1,V++[zBo (q.1+8,q.2)],?G2,rfl,hlt,(by rw[zBE9,hq,hV];simp[zbR]),zu h0,zt,zu h4,zt,?H⟩
   case m1=>omega
   case H=>(try dsimp only);rw[zAD9];rfl
  ·intro hlt;have hlt:¬i<l.length:=by have:=of_decide_eq_false hlt;omega
   obtain rfl:i=l.length:=by omega
   refine zOF h3 ?_;rw[zBG9]at hV;rw[<- hV];exact Frz.whole rfl rfl rfl (zAJ9 _) (fun v hv=>by rw[hV]at hv;obtain⟨x,_,rfl⟩:=zAM9.1 hv;rfl) (by rw[hV];exact zb3)
theorem f80:ET.funcs.get 80=some T80:=zH Tryz.func80
theorem f47:ET.funcs.get 47=some T47:=zH Tryz.func47
theorem f93:ET.funcs.get 93=some T93:=zH Tryz.func93
theorem zpK (l:List Pr)(i:Nat):∀m,(upL l i m).length<=2*m/\∀x∈upL l i m,x.1<=2*m+1
 | 0=>⟨zAJ9 _,fun x hx=>by simp[upL]at hx⟩
 | m+1=>by
  obtain⟨h1,h2⟩:=zpK l i m;rw[upL]
  split
  ·refine⟨by simp;omega,fun x hx=>?_⟩;rcases zAX9.1 hx with rfl|hx
   ·simp;omega
   rcases zAX9.1 hx with rfl|hx
   ·simp;omega
   ·have:=h2 x hx;omega
  ·exact⟨zAS9 _,fun x hx=>by simp at hx⟩
theorem zux {left:Nat}{w:List Nat}{x:Pr}(h:(zdK left w x).2=0):0<(zdK left w x).1.length/\(zdK left w x).1.length<=1000/\∀y∈(zdK left w x).1,y.1<1000:=by
 unfold zdK at h⊢
 by_cases hp:zcz left w x=0
 rotate_left
 ·rw[if_neg hp]at h;exact absurd h hp
 rw[if_pos hp]at h⊢;obtain⟨hr,_⟩:=zgr hp;have hl:=zhh hr
 by_cases hs:sIs (zab left w) x.1=true
 ·rw[if_pos hs]at h;cases h
 rw[if_neg hs]at h⊢
 split at h
 ·cases h
 rename_i hlong;rw[if_neg hlong];have hf:=zjr (zab left w) x.1;generalize zab left w=L at *
 generalize zb4 L x.1=i at *
 have hu:=zpK L i L.length;unfold znH;refine⟨by simp,by simp;omega,fun y hy=>?_⟩;rcases zAX9.1 hy with rfl|hy
 ·simp;omega
 rcases zBI9.1 hy with hy|hy
 ·have:=hu.2 y hy;omega
 ·simp at hy;rcases hy with rfl|rfl|rfl<;>simp<;>omega
theorem zlz {left:Nat}{w:List Nat}{key:Nat}(h:(zbY left w key).2=0):0<(zbY left w key).1.length/\(zbY left w key).1.length<=1000/\∀y∈(zbY left w key).1,y.1<1000:=by
 unfold zbY at h⊢
 by_cases hc:zbt left w=0
 rotate_left
 ·rw[if_neg hc]at h;exact absurd h hc
 rw[if_pos hc]at h⊢;have hl:=zhh (zeK hc)
 by_cases hs:sIs (zab left w) key=true
 rotate_left
 ·rw[if_neg hs]at h;cases h
 rw[if_pos hs];have hf:=zke hs;generalize zab left w=L at *
 generalize zb4 L key=i at *
 refine⟨by simp,?_,fun y hy=>?_⟩
 ·simp[zcp,zhm];omega
 rcases zAX9.1 hy with rfl|hy
 ·simp;omega
 unfold zcp at hy;rcases zBI9.1 hy with hy|hy
 ·unfold dnL at hy;obtain⟨q,hq,hy⟩:=zBB9.1 hy;have hq:=zCT9.1 hq;simp at hy;rcases hy with rfl|rfl<;>simp<;>omega
 ·simp at hy;subst hy;simp;omega
def chg (w:List Nat)(v:Nat)(no:Nat)(r:List Pr×Nat):List Pr×Nat:=if no=0 then(if r.2=0 then(zdH w v++zbR r.1,0)else([],r.2))else([],no)
def zcc (w:List Nat)(x:Pr):List Pr×Nat:=chg w 1 (zfi w x) (zdK (w.getD 3 0) (w.drop 8) x)
def zci (w:List Nat)(key:Nat):List Pr×Nat:=chg w 2 (zbi w) (zbY (w.getD 3 0) (w.drop 8) key)
theorem zkC {w:List Nat}{x:Pr}(h:zfi w x=0):zbi w=0:=by
 unfold zfi at h
 split at h
 ·assumption
 ·rename_i h2;exact absurd h h2
theorem zjo {w:List Nat}(h:zbi w=0):w.length=64:=by
 have:=zdd h;unfold headB at this;simp only[zAQ9,decide_eq_true_eq]at this;exact this.1.1
theorem ztc {H:List zn}{id g:Nat}{A B:List Pr}{n q:Nat}(hH:H[id]?=some (.row 83 2 g 0 (A.map zBo++B.map zBo)))(hn:n=A.length+B.length)(hq:2*(A.length+B.length)<=q):Frz H 0 (.sl id g 0 n q 2) (.list 0 2 ((A++B).map zBo)):=by
 rw[<- zBJ9]at hH;refine Frz.whole hH rfl (by rw[zAA9,zAD9];exact hn) (by rw[zAA9,zAD9];exact hq) (fun v hv=>by obtain⟨x,_,rfl⟩:=zAM9.1 hv;rfl) zb3
set_option maxHeartbeats 1000000 in
theorem zlV (p:Nat)(w:List Nat)(x:Pr)(hw:za7 w.length):FN ET 80 [wv p w,pv x] (.ret (.tuple [.list 0 2 ((zcc w x).1.map zBo),iv ((zcc w x).2:Nat)])):=by
 refine zfn f80 (Lb.two (zc9 _) (.int _ _)) ?_;have hC:=zsF p w x hw;unfold zcc chg
 by_cases hc:zfi w x=0
 rotate_left
 ·rw[if_neg hc];have g:¬(zfi w x:Int)=0:=by omega
  generalize zfi w x=c at *
  refine zG ?_;refine zI ?_;refine zca hC ?_;refine zN ?_;refine zSF g ?_;refine zO ?_;exact Frz.tupL ⟨.nil _ _,.int _ _,trivial⟩
 rw[if_pos hc];rw[hc]at hC;have hwl:=zjo (zkC hc);have hP:=zv3 p (w.getD 3 0) (w.drop 8) x (by rw[zBT9];omega);have hsm:=zux (left:=w.getD 3 0) (w:=w.drop 8) (x:=x);have hd8:List.drop 8 (List.map uv w)=(w.drop 8).map uv:=by rw[zCM9]
 have hle8:8<=w.length:=by omega
 have c3:3<w.length:=by omega
 have z3:=zcE c3;generalize w.getD 3 0=a3 at *
 generalize zdK a3 (w.drop 8) x=r at *
 obtain⟨L,no⟩:=r;dsimp only at hP hsm⊢;refine zG ?_;refine zI ?_;refine zca hC ?_;refine zN ?_;refine zT ?_;refine zBl ?_;show W _ _ _ _ _ _;(repeat refine za ?_);refine zad ?_;refine zAZ (zr4 c3 z3 hd8 hle8) hP ?_;refine zQF hwl ?_
 by_cases hn:no=0
 rotate_left
 ·rw[if_neg hn];have g:¬(no:Int)=0:=by omega
  refine zSF g ?_;refine zO ?_;exact Frz.tupL ⟨.nil _ _,.int _ _,trivial⟩
 rw[if_pos hn];have g:(no:Int)=0:=by omega
 obtain⟨s1,s2,s3⟩:=hsm hn;refine zTF g ?_;refine zBl ?_;show W _ _ _ _ _ _;refine zI ?_;refine zco (zq7 p w 1 (by omega) [.row 66 2 0 0 [pv x]]) ?_ (by first|rfl|(simp only[go_sem,hwl]<;>rfl)) (by simp only[go_sem,hwl]<;>rfl);rintro e H' ⟨g1,G,rfl,rfl⟩;have hM:=zmt 0 L (by omega) (fun y hy=>by have:=s3 y hy;omega);have hml:(zbR L).length=L.length:=by unfold zbR;rw[zAA9]
 have hwl2:(zdH w 1).length<=1:=by unfold zdH;split<;>simp
 have hne:¬(zbR L).length=0:=by omega
 have hb:((zdH w 1).length+(zbR L).length)*17<=140737488355328:=by omega
 generalize zbR L=M at *
 generalize zdH w 1=A at *
 refine zfx ?_;refine zca hM ?_;refine zPF (zr2 hne hb) ?_;refine Frz.tupL ⟨ztc rfl ?_ ?_,.int _ _,trivial⟩
 ·rfl
 ·omega
set_option maxHeartbeats 1000000 in
theorem zpw (p key:Nat)(w:List Nat)(hw:za7 w.length):FN ET 47 [wv p w,uv key] (.ret (.tuple [.list 0 2 ((zci w key).1.map zBo),iv ((zci w key).2:Nat)])):=by
 refine zfn f47 (Lb.two (zc9 _) (.int _ _)) ?_;have hC:=zf6 p w hw;unfold zci chg
 by_cases hc:zbi w=0
 rotate_left
 ·rw[if_neg hc];have g:¬(zbi w:Int)=0:=by omega
  generalize zbi w=c at *
  refine zG ?_;refine zI ?_;refine zca hC ?_;refine zN ?_;refine zSF g ?_;refine zO ?_;exact Frz.tupL ⟨.nil _ _,.int _ _,trivial⟩
 rw[if_pos hc];rw[hc]at hC;have hwl:=zjo (hc);have hP:=zvW p (w.getD 3 0) key (w.drop 8) (by rw[zBT9];omega);have hsm:=zlz (left:=w.getD 3 0) (w:=w.drop 8) (key:=key);have hd8:List.drop 8 (List.map uv w)=(w.drop 8).map uv:=by rw[zCM9]
 have hle8:8<=w.length:=by omega
 have c3:3<w.length:=by omega
 have z3:=zcE c3;generalize w.getD 3 0=a3 at *
 generalize zbY a3 (w.drop 8) key=r at *
 obtain⟨L,no⟩:=r;dsimp only at hP hsm⊢;refine zG ?_;refine zI ?_;refine zca hC ?_;refine zN ?_;refine zT ?_;refine zBl ?_;show W _ _ _ _ _ _;(repeat refine za ?_);refine zad ?_;refine zAZ (zr4 c3 z3 hd8 hle8) hP ?_;refine zQF hwl ?_
 by_cases hn:no=0
 rotate_left
 ·rw[if_neg hn];have g:¬(no:Int)=0:=by omega
  refine zSF g ?_;refine zO ?_;exact Frz.tupL ⟨.nil _ _,.int _ _,trivial⟩
 rw[if_pos hn];have g:(no:Int)=0:=by omega
 obtain⟨s1,s2,s3⟩:=hsm hn;refine zTF g ?_;refine zBl ?_;show W _ _ _ _ _ _;refine zI ?_;refine zco (zq7 p w 2 (by omega) []) ?_ (by first|rfl|(simp only[go_sem,hwl]<;>rfl)) (by simp only[go_sem,hwl]<;>rfl);rintro e H' ⟨g1,G,rfl,rfl⟩;have hM:=zmt 0 L (by omega) (fun y hy=>by have:=s3 y hy;omega);have hml:(zbR L).length=L.length:=by unfold zbR;rw[zAA9]
 have hwl2:(zdH w 2).length<=1:=by unfold zdH;split<;>simp
 have hne:¬(zbR L).length=0:=by omega
 have hb:((zdH w 2).length+(zbR L).length)*17<=140737488355328:=by omega
 generalize zbR L=M at *
 generalize zdH w 2=A at *
 refine zfx ?_;refine zca hM ?_;refine zPF (zr2 hne hb) ?_;refine Frz.tupL ⟨ztc rfl ?_ ?_,.int _ _,trivial⟩
 ·rfl
 ·omega
def zd2 (left:Nat)(l:List Pr)(key:Nat):Nat:=l.foldl (fun a q=>if q.1<=key then q.2 else a) left
def zcv (w:List Nat)(key:Nat):Nat×Nat:=if zbi w=0 then(if(headN w).level=0 then(0,2)else(zd2 (headN w).left (headN w).pairs key,0))else(0,zbi w)
theorem zpq (l:List Pr)(key:Nat):∀left,zd2 left l key=left\/∃q∈l,zd2 left l key=q.2:=by
 induction l with
 | nil=>exact fun left=>.inl rfl
 | cons a l ih =>
  intro left;have h:=ih (if a.1<=key then a.2 else left);have e:zd2 left (a::l) key=zd2 (if a.1<=key then a.2 else left) l key:=rfl;rw[e];rcases h with h|⟨q,hq,h⟩
  ·rw[h]
   split
   ·exact .inr ⟨a,zAU9 ..,rfl⟩
   ·exact .inl rfl
  ·exact .inr ⟨q,zAT9 _ hq,h⟩
theorem zqA {l:List Pr}{left key:Nat}(h:∀x∈(0,left)::l,x.2<2048):zd2 left l key<2048:=by
 rcases zpq l key left with e|⟨q,hq,e⟩
 ·rw[e];exact h _ (zAU9 ..)
 ·rw[e];exact h q (zAT9 _ hq)
theorem ztX (p key:Nat)(w:List Nat)(c:Nat)(hc:¬c=0)(hC:FN ET 61 [wv p w] (.ret (iv (c:Nat)))):FN ET 93 [wv p w,uv key] (.ret (.tuple [iv 0,iv (c:Nat)])):=by
 refine zfn f93 (Lb.two (.int _ _) (.int _ _)) ?_;refine zG ?_;refine zI ?_;refine zca hC ?_;refine zN ?_;have g:¬(c:Int)=0:=by omega
 refine zSF g ?_;refine zO ?_;exact Frz.tupL ⟨.int _ _,.int _ _,trivial⟩
set_option maxHeartbeats 1000000 in
theorem zuT (p key:Nat)(w:List Nat)(n:zC)(hpl:n.pairs.length<=28)(hk:0<n.level->∀x∈(0,n.left)::n.pairs,x.2<2048)(hC:FN ET 61 [wv p w] (.ret (iv (0:Nat))))(hO:FN ET 103 [wv p w] (.ret (.tuple [zW 0 n,iv 0]))):FN ET 93 [wv p w,uv key] (if n.level=0 then .ret (.tuple [iv 0,iv 2])else .ret (.tuple [iv (zd2 n.left n.pairs key:Nat),iv 0])):=by
 refine zfn f93 ?_ ?_
 ·split<;>exact Lb.two (.int _ _) (.int _ _)
 refine zG ?_;refine zI ?_;refine zca hC ?_;refine zN ?_;refine zT ?_;refine zBl ?_;show W _ _ _ _ _ _;refine zI ?_;refine zca hO ?_;refine zN ?_
 by_cases hz:n.level=0
 ·have g:(n.level:Int)=0:=by omega
  rw[if_pos hz];refine zSF g ?_;refine zO ?_;exact Frz.tupL ⟨.int _ _,.int _ _,trivial⟩
 have g:¬(n.level:Int)=0:=by omega
 have hkl:=zqA (key:=key) (hk (by omega));rw[if_neg hz];refine zTF g ?_;refine zBl ?_;show W _ _ _ _ _ _;refine zG ?_;refine zB (zar (fun m s=>∃(i a:Nat),m=n.pairs.length-i/\i<=n.pairs.length/\zd2 n.left n.pairs key=zd2 a (n.pairs.drop i) key/\s.tm 1=uv key/\s.tm 7=.ptr 0 0 0 0 6/\s.tm 9=uv a/\s.tm 10=iv i/\s.df=[]/\s.H=[.row 124 6 0 0 [zW 0 n]]) (n:=n.pairs.length) ?_ ?_)
 ·exact⟨0,n.left,rfl,zAS9 _,rfl,zt,zt,zt,zt,rfl,rfl⟩
 ·rintro m ⟨tm,df,H⟩ ⟨i,a,rfl,hi,hka,h1,h7,h9,h10,rfl,rfl⟩;dsimp only at h1 h7 h9 h10;(try refine zBp ?_);refine za (zAV (zr2 h7 h10) ?_);refine zwh ?_ ?_
  ·intro hlt;have hlt:i<n.pairs.length:=by have:=of_decide_eq_true hlt;omega
   obtain⟨q,hq⟩:∃q,n.pairs[i]?=some q:=⟨_,zAB9 hlt⟩
   have hqv:(n.pairs.map pv)[i]?=some (pv q):=by rw[zAH9,hq];rfl
   have hdr:n.pairs.drop i=q::n.pairs.drop (i+1):=by rw[zAW9 hlt];obtain⟨_,e⟩:=zAC9.1 hq;rw[e]
   rw[hdr]at hka;change _=zd2 (if q.1<=key then q.2 else a) _ key at hka;(repeat refine za ?_);refine zB ?_
   by_cases hle:q.1<=key
   ·have g1:(q.1:Int)<=key:=by omega
    rw[if_pos hle]at hka;(repeat refine za ?_);refine zAV (zr6 h1 h7 h10 hqv hlt g1) ?_;refine zct ?_;refine zJF (zr4 h7 h10 hqv hlt) ?_;refine zJF h10 ?_;refine⟨_,?m1,i+1,q.2,rfl,hlt,hka,zu h1,zu h7,zt,zu h10,zt,zt⟩
    case m1=>omega
   ·have g1:¬(q.1:Int)<=key:=by omega
    rw[if_neg hle]at hka;(repeat refine za ?_);refine zAV (zr6 h1 h7 h10 hqv hlt g1) ?_;refine zcf ?_;refine zBl ?_;refine zJF h10 ?_;refine⟨_,?m2,i+1,a,rfl,hlt,hka,zu h1,zu h7,zu h9,zu h10,zt,zt⟩
    case m2=>omega
  ·intro hlt;have hlt:¬i<n.pairs.length:=by have:=of_decide_eq_false hlt;omega
   obtain rfl:i=n.pairs.length:=by omega
   rw[zBM9]at hka;change _=a at hka;rw[hka]at hkl⊢;have w1:IntKind.i64.wrap (a:Int)=(a:Int):=zwi;refine zOF (zr2 h9 w1) ?_;exact Frz.tupL ⟨.int _ _,.int _ _,trivial⟩
theorem zue (p key:Nat)(w:List Nat)(hw:za7 w.length):FN ET 93 [wv p w,uv key] (.ret (.tuple [iv ((zcv w key).1:Nat),iv ((zcv w key).2:Nat)])):=by
 have hC:=zf6 p w hw;have hO:=zfB p w hw;unfold zcv
 by_cases hc:zbi w=0
 ·rw[if_pos hc];rw[zeg _ (zdd hc)]at hO;rw[hc]at hC;have h:=zuT p key w _ (zA2 w) (fun hl x hx=>by
   rcases zAX9.1 hx with rfl|hx
   ·exact zfX hc hl ((headN w).low,(headN w).left) (zAU9 ..)
   ·exact zfX hc hl x (zAT9 _ hx)) hC hO
  by_cases hz:(headN w).level=0
  ·rw[if_pos hz]at h⊢;exact h
  ·rw[if_neg hz]at h⊢;exact h
 ·rw[if_neg hc];exact ztX p key w _ hc hC
theorem f121:ET.funcs.get 121=some T121:=zH Tryz.func121
theorem Lb.three {a b c:PV}(ha:Lb a)(hb:Lb b)(hc:Lb c):Lb (.tuple [a,b,c]):=.tuple fun v hv=>by
 simp at hv;rcases hv with h|h|h<;>subst h<;>assumption
def zcu (n:zC):zC:=⟨n.level,n.sib,(n.pairs.getD (n.pairs.length/2) (0,0)).1,(if 0<n.level then(n.pairs.getD (n.pairs.length/2) (0,0)).2 else 9223372036854775808),0,(if 0<n.level then n.pairs.drop (n.pairs.length/2+1)else n.pairs.drop (n.pairs.length/2))⟩
def zfY (m:Nat):Nat->List Pr
 | 0=>[]
 | k+1=>if m<=k then(9+2*k,0)::zfY m k else[]
def zfd (n:zC)(a:Nat):List Pr:=(1,a)::zfY (n.pairs.length/2) n.pairs.length
def zjA (n:zC)(a:Int):Bool:=decide (1<=a)&&decide (a<=2047)&&decide (2<=n.pairs.length)
def zjs (n:zC)(a:Int):FE:=if zjA n a=true then .ret (.tuple [wv 0 (zbh (zcu n)),.list 0 2 ((zfd n a.toNat).map zBo),iv 0])else .ret (.tuple [wv 0 [],.list 0 2 (([]:List Pr).map zBo),iv 2])
theorem zkZ {H:List zn}(c:Int):Frz H 0 (.tuple [.nilsl,.nilsl,iv c]) (.tuple [wv 0 [],.list 0 2 (([]:List Pr).map zBo),iv c]):=Frz.tupL ⟨.nil _ _,.nil _ _,.int _ _,trivial⟩
theorem zsv (p:Nat)(a:Int)(w:List Nat)(c:Nat)(hc:¬c=0)(hC:FN ET 61 [wv p w] (.ret (iv (c:Nat)))):FN ET 121 [wv p w,iv a] (.ret (.tuple [wv 0 [],.list 0 2 (([]:List Pr).map zBo),iv (c:Nat)])):=by
 refine zfn f121 (Lb.three (Lb.uvs _) (zc9 _) (.int _ _)) ?_;refine zG ?_;refine zI ?_;refine zca hC ?_;refine zN ?_;have g:¬(c:Int)=0:=by omega
 refine zSF g ?_;refine zO ?_;exact zkZ _
set_option maxHeartbeats 2000000 in
theorem zsx (p:Nat)(a:Int)(w:List Nat)(n:zC)(h12:n.level<=12)(hsb:n.sib<2048)(hpl:n.pairs.length<=28)(hC:FN ET 61 [wv p w] (.ret (iv (0:Nat))))(hO:FN ET 103 [wv p w] (.ret (.tuple [zW 0 n,iv 0]))):FN ET 121 [wv p w,iv a] (zjs n a):=by
 refine zfn f121 ?_ ?_
 ·unfold zjs;split<;>exact Lb.three (Lb.uvs _) (zc9 _) (.int _ _)
 refine zG ?_;refine zI ?_;refine zca hC ?_;refine zN ?_;refine zT ?_;refine zBl ?_;show W _ _ _ _ _ _;refine zI ?_;refine zca hO ?_;refine zN ?_;have badE:zjA n a=false->zjs n a=.ret (.tuple [wv 0 [],.list 0 2 (([]:List Pr).map zBo),iv 2]):=fun h=>by unfold zjs;rw[h];rfl
 by_cases b1:a<1
 ·refine zSF b1 ?_;refine zO ?_;rw[badE (by unfold zjA;rw[decide_eq_false (show ¬1<=a by omega)];rfl)];exact zkZ _
 by_cases b2:2047<a
 ·refine zSF (zr2 b1 b2) ?_;refine zO ?_;rw[badE (by unfold zjA;rw[decide_eq_false (show ¬a<=2047 by omega)];simp)];exact zkZ _
 by_cases b3:n.pairs.length<2
 ·have g3:(n.pairs.length:Int)<2:=by omega
  refine zSF (zr3 b1 b2 g3) ?_;refine zO ?_;rw[badE (by unfold zjA;rw[decide_eq_false (show ¬2<=n.pairs.length by omega)];simp)];exact zkZ _
 have g3:¬(n.pairs.length:Int)<2:=by omega
 have hok:zjs n a=.ret (.tuple [wv 0 (zbh (zcu n)),.list 0 2 ((zfd n a.toNat).map zBo),iv 0]):=by
  unfold zjs;rw[if_pos (by unfold zjA;rw[decide_eq_true (show 1<=a by omega),decide_eq_true (show a<=2047 by omega),decide_eq_true (show 2<=n.pairs.length by omega)];rfl)]
 rw[hok];clear badE hok;obtain⟨b,rfl⟩:∃b:Nat,a=b:=⟨a.toNat,by omega⟩
 rw[zCV9];have e0:IntKind.i64.wrap ((n.pairs.length:Int).tdiv 2)=((n.pairs.length/2:Nat):Int):=by rw[IntWalk.i64_quo _ _ (by omega)];omega
 refine zTF (zr4 b1 b2 g3 e0) ?_;refine zBl ?_;show W _ _ _ _ _ _;refine zGF e0 ?_;have hmn:n.pairs.length/2<n.pairs.length:=by omega
 have hmv:(n.pairs.map pv)[n.pairs.length/2]?=some (pv (n.pairs.getD (n.pairs.length/2) (0,0))):=by rw[zAH9,get_lt _ hmn];rfl
 have hd0:List.drop (n.pairs.length/2) (n.pairs.map pv)=(n.pairs.drop (n.pairs.length/2)).map pv:=by rw[zCM9]
 have hd1:List.drop (n.pairs.length/2+1) (n.pairs.map pv)=(n.pairs.drop (n.pairs.length/2+1)).map pv:=by rw[zCM9]
 have hm14:n.pairs.length/2<=14:=by omega
 have hW:=zjM 0 (zcu n) h12 hsb (zAS9 _) (by
  show (if 0<n.level then n.pairs.drop (n.pairs.length/2+1)else n.pairs.drop (n.pairs.length/2)).length<=27
  split<;>rw[zBT9]<;>omega)
 have hsl:zfd n b=(1,b)::zfY (n.pairs.length/2) n.pairs.length:=rfl;rw[hsl];have hsp:zW 0 (zcu n)=.agg [iv n.level,iv n.sib,uv (n.pairs.getD (n.pairs.length/2) (0,0)).1,uv (if 0<n.level then(n.pairs.getD (n.pairs.length/2) (0,0)).2 else 9223372036854775808:Nat),iv 0,psv 0 (if 0<n.level then n.pairs.drop (n.pairs.length/2+1)else n.pairs.drop (n.pairs.length/2))]:=rfl;rw[hsp]at hW;generalize zbh (zcu n)=LW at *
 clear hsl hsp;have hle2:n.pairs.length/2<=n.pairs.length:=by omega
 have hle3:n.pairs.length/2+1<=n.pairs.length:=by omega
 generalize hmm:n.pairs.length/2=m at *
 generalize n.pairs.getD m (0,0)=y at *
 (repeat refine za ?_);refine zad ?_;refine zA0 (zr4 hmn hmv hd0 hle2) ?_;refine zdl ?_ (by simp(disch:=omega)only[go_sem,hmn]<;>rfl) (by first|exact trivial|simp only[go_sem,hmn]);refine zL ?_;simp only[go_sem];refine za (zbD (Q:=fun y' s'=>y'=.norm/\s'.tm 1=iv b/\s'.tm 8=.ptr 0 0 0 0 6/\s'.tm 10=iv m/\s'.tm 11=.ptr 1 0 0 0 6/\s'.df=[]/\s'.H=[.row 124 6 0 0 [zW 0 n],.row 124 6 0 0 [.agg [iv n.level,iv n.sib,uv y.1,uv (if 0<n.level then y.2 else 9223372036854775808:Nat),iv 0,psv 0 (if 0<n.level then n.pairs.drop (m+1)else n.pairs.drop m)]]]) ?_ ?_)
 ·by_cases hz:0<n.level
  ·have g:(0:Int)<n.level:=by omega
   rw[if_pos hz,if_pos hz];have e5:(m:Int)+1=((m+1:Nat):Int):=by omega
   refine zSF g ?_;(repeat refine za ?_);refine zad ?_;refine zA0 (zr5 hmn hmv e5 hd1 hle3) ?_;refine zA0 (zr5 hmn hmv e5 hd1 hle3) ?_;refine zdl ?_ (by simp(disch:=omega)only[go_sem,hmn]<;>rfl) (by first|exact trivial|simp only[go_sem,hmn]);refine zL ?_;simp only[go_sem]
  ·have g:¬(0:Int)<n.level:=by omega
   rw[if_neg hz,if_neg hz];refine zTF g ?_;refine zBl ?_;exact⟨rfl,zt,zt,zt,zt,rfl,rfl⟩
 rintro y' ⟨tm,df,H⟩ ⟨rfl,h1,h8,h10,h11,rfl,rfl⟩;dsimp only at h1 h8 h10 h11;have w1:IntKind.u64.wrap (b:Int)=(b:Int):=zwu;refine zGF (zr3 h1 h8 w1) ?_;generalize hNV:PV.agg [iv n.level,iv n.sib,uv y.1,uv (if 0<n.level then y.2 else 9223372036854775808:Nat),iv 0,psv 0 (if 0<n.level then n.pairs.drop (m+1)else n.pairs.drop m)]=NV at *
 generalize hD:(1,b)::zfY m n.pairs.length=D;refine zB (zar (fun k s=>∃(V:List PV) (g:Nat) (G:List zn),m<=k/\k<=n.pairs.length/\V.length<=1+(n.pairs.length-k)/\D.map zBo=V++(zfY m k).map zBo/\s.tm 10=iv m/\s.tm 11=.ptr 1 0 0 0 6/\s.tm 12=.sl 2 g 0 V.length (2*V.length) 2/\s.tm 13=iv ((k:Int)-1)/\s.df=[]/\s.H=.row 124 6 0 0 [zW 0 n]::.row 124 6 0 0 [NV]::.row 83 2 g 0 V::G) (n:=n.pairs.length) ?_ ?_)
 ·exact⟨[zBo (1,b)],0,[],by omega,zAJ9 _,by simp,by rw[<- hD];rfl,zu h10,zu h11,zt,zt,rfl,rfl⟩
 ·clear h1 h8 h10 h11;rintro k ⟨tm,df,H⟩ ⟨V,g,G,hmk,hkL,hVl,hDV,h10,h11,h12',h13,rfl,rfl⟩;dsimp only at h10 h11 h12' h13
  by_cases hk:m<k
  ·obtain⟨q,rfl⟩:∃q,k=q+1:=⟨k-1,by omega⟩
   rw[show ((q+1:Nat):Int)-1=(q:Nat) by omega]at h13;rw[zfY,if_pos (by omega)]at hDV;have g4:(m:Int)<=(q:Nat):=by omega
   have w2:IntKind.i64.wrap (2*(q:Int))=((2*q:Nat):Int):=zwi;have w3:IntKind.i64.wrap (9+((2*q:Nat):Int))=((9+2*q:Nat):Int):=zwi;have hb:(V.length+1)*17<=140737488355328:=by omega
   (try refine zBp ?_);refine za (zAV (zr3 h10 h13 g4) ?_);refine zwh ?_ ?_
   ·intro _;(repeat refine za ?_);refine zB ?_;refine zJF (zr5 h12' h13 w2 w3 hb) ?_;refine zJF h13 ?_;refine⟨q,zCE9 _,V++[zBo (9+2*q,0)],g+1,?G2,by omega,by omega,by simp;omega,(by rw[hDV];simp),zu h10,zu h11,zt,zu h13,zt,?H⟩
    case H=>rfl
   ·intro h;cases h
  ·obtain rfl:k=m:=by omega
   have g4:¬(k:Int)<=(k:Int)-1:=by omega
   have hup:zfY k k=[]:=by cases k with
    | zero=>rfl
    | succ q=>rw[zfY,if_neg (by omega)]
   rw[hup,zCD9,zDO9]at hDV;(try refine zBp ?_);refine za (zAV (zr3 h10 h13 g4) ?_);refine zwh ?_ ?_
   ·intro h;cases h
   intro _;subst hNV;refine zIF h11 ?_;refine zca hW ?_;refine zPF h12' ?_;refine Frz.tupL ⟨.list _ _ _,?_,.int _ _,trivial⟩;rw[hDV];exact Frz.whole rfl rfl rfl (zAJ9 _) (fun v hv=>by rw[<- hDV]at hv;obtain⟨x,_,rfl⟩:=zAM9.1 hv;rfl) (by rw[<- hDV];exact zb3)
def zqn (w:List Nat)(a:Int):FE:=if zbi w=0 then zjs (headN w) a else .ret (.tuple [wv 0 [],.list 0 2 (([]:List Pr).map zBo),iv (zbi w:Nat)])
theorem zsp (p:Nat)(a:Int)(w:List Nat)(hw:za7 w.length):FN ET 121 [wv p w,iv a] (zqn w a):=by
 have hC:=zf6 p w hw;have hO:=zfB p w hw;unfold zqn
 by_cases hc:zbi w=0
 ·rw[if_pos hc];rw[zeg _ (zdd hc)]at hO;rw[hc]at hC;have hb:=zdY (zdd hc);exact zsx p a w _ hb.1 hb.2.1 (zA2 w) hC hO
 ·rw[if_neg hc];exact zsv p a w _ hc hC
theorem f97:ET.funcs.get 97=some T97:=zH Tryz.func97
theorem f49:ET.funcs.get 49=some T49:=zH Tryz.func49
theorem zuD (p q:Nat)(w:List Nat)(x:Pr)(hw:w.length<1000000)(hx:x.1<w.length):FN ET 97 [wv p w,iv 1,.list q 2 [zBo x]] (.ret (.tuple [wv 0 (w.set x.1 x.2),iv 0])):=by
 refine zfn f97 (Lb.two (Lb.uvs _) (.int _ _)) ?_;have hb:w.length*9<=140737488355328:=by omega
 have hne:¬w.length=0:=by omega
 have hxv:([zBo x]:List PV)[0]?=some (zBo x):=rfl;have g0:¬((x.1:Nat):Int)<0:=by omega
 have g1:((x.1:Nat):Int)<(w.length:Nat):=by omega
 have g2:¬((w.length:Nat):Int)<=(x.1:Nat):=by omega
 obtain⟨o,ho⟩:∃old,w[x.1]?=some old:=⟨_,zAB9 hx⟩
 have z1:(w.map uv)[x.1]?=some (uv o):=by rw[zAH9,ho];rfl
 have y1:(w.map uv).set x.1 (.int .u64 (x.2:Int))=(w.set x.1 x.2).map uv:=zDU9.symm;refine zTF (zr2 hb hne) ?_;refine zBl ?_;show W _ _ _ _ _ _;refine zGF (zr2 hb hne) ?_;refine zB (zar (fun m s=>∃(i M:Nat) (K:List Nat),m=1-i/\i<=1/\M<=1/\(i=0->K=w)/\(i=1->K=w.set x.1 x.2)/\s.tm 1=iv 1/\s.tm 2=.list q 2 [zBo x]/\s.tm 8=.sl 0 1 0 w.length (2*w.length) 1/\s.tm 9=iv i/\s.df=[]/\s.H=[.row 24 1 1 M (K.map uv)]) (n:=1) ?_ ?_)
 ·exact⟨0,0,w,rfl,zAS9 _,by decide,fun _=>rfl,fun h=>absurd h (by decide),zt,zt,zt,zt,rfl,rfl⟩
 ·rintro m ⟨tm,df,Hx⟩ ⟨i,M,K,rfl,hi,hM,hK0,hK1,h1,h2,h8,h9,rfl,rfl⟩;dsimp only at h1 h2 h8 h9;obtain rfl|rfl:i=0\/i=1:=by omega
  ·obtain rfl:=hK0 rfl;(try refine zBp ?_);refine za (zAV (zr2 h1 h9) ?_);refine zwh ?_ ?_
   ·intro _;(repeat refine za ?_);refine zB ?_;(repeat refine za ?_);generalize K.map uv=K0 at *
    (repeat refine za ?_);refine zAV (zr7 h2 h8 h9 hxv g0 g1 g2) ?_;refine zcf ?_;refine zBl ?_;show W _ _ _ _ _ _;refine zad ?_;refine zA0 (zr8 h2 h8 h9 hxv hx hM z1 y1) ?_;refine zQF h8 ?_;refine zJF h9 ?_;refine⟨_,?m,1,1,K.set x.1 x.2,rfl,zAJ9 _,zAJ9 _,fun h=>absurd h (by decide),fun _=>rfl,zu h1,zu h2,zu h8,zu h9,rfl,rfl⟩
    case m=>omega
   ·intro h;cases h
  ·obtain rfl:=hK1 rfl;(try refine zBp ?_);refine za (zAV (zr2 h1 h9) ?_);refine zwh ?_ ?_
   ·intro h;cases h
   intro _;refine zOF h8 ?_;exact Frz.tupL ⟨Frz.wholeM rfl hM rfl (by simp) (by simp) (fun v hv=>by obtain⟨x,_,rfl⟩:=zAM9.1 hv;rfl) zhl,.int _ _,trivial⟩
section mid
variable {α:Type}
theorem ga0 (G l:List α)(a:α):(G++a::l)[G.length]?=some a:=by simp
theorem ga1 (G l:List α)(a b:α):(G++a::b::l)[G.length+1]?=some b:=by simp
theorem ga2 (G l:List α)(a b c:α):(G++a::b::c::l)[G.length+1+1]?=some c:=by
 rw[zAP9 (by omega),show G.length+1+1-G.length=2 by omega];rfl
theorem sa0 (G l:List α)(a x:α):(G++a::l).set G.length x=G++x::l:=by
 rw[zCA9 _ _ (zAJ9 _),zGH9];rfl
theorem sa1 (G l:List α)(a b x:α):(G++a::b::l).set (G.length+1) x=G++a::x::l:=by
 rw[zCA9 _ _ (by omega),show G.length+1-G.length=1 by omega];rfl
theorem sa2 (G l:List α)(a b c x:α):(G++a::b::c::l).set (G.length+1+1) x=G++a::b::x::l:=by
 rw[zCA9 _ _ (by omega),show G.length+1+1-G.length=2 by omega];rfl
theorem ga3 (G l:List α)(a b c d:α):(G++a::b::c::d::l)[G.length+3]?=some d:=by
 rw[zAP9 (by omega),show G.length+3-G.length=3 by omega];rfl
end mid
structure Wk where
 p:Nat
 q:Nat
 W:List Nat
 L:List Pr
 fr:PV
 used:Nat
def wkv (x:Wk):PV:=.agg [wv x.p x.W,.list x.q 2 (x.L.map zBo),x.fr,iv x.used]
def Wk.one (x:Wk)(c:Pr):Wk:=⟨0,0,x.W.set c.1 c.2,x.L++[c],x.fr,x.used⟩
def Wk.does (x:Wk)(l:List Pr):Wk:=l.foldl Wk.one x
def zaZ (a:Nat)(l:List Pr):List Pr:=l.map fun c=>(a+c.1,c.2)
theorem zv6 (x:Wk)(l:List Pr)(c:Pr):x.does (l++[c])=(x.does l).one c:=by unfold Wk.does;rw[zGU9];rfl
theorem zcJ:∀(l:List Pr) (x:Wk),(x.does l).W.length=x.W.length/\(x.does l).L.length=x.L.length+l.length/\(x.does l).fr=x.fr/\(x.does l).used=x.used
 | [],x=>⟨rfl,rfl,rfl,rfl⟩
 | c::l,x=>by
  have h:=zcJ l (x.one c);have e:x.does (c::l)=(x.one c).does l:=rfl;rw[e];refine⟨h.1.trans (by simp[Wk.one]),h.2.1.trans (by simp[Wk.one];omega),h.2.2.1,h.2.2.2⟩
theorem zcF {x:Wk}(h:Id0 x.fr):Id0 (wkv x):=.agg fun v hv=>by
 simp at hv;rcases hv with rfl|rfl|rfl|rfl
 ·exact .list _ _ _
 ·exact .list _ _ _
 ·exact h
 ·exact .int _ _
set_option maxHeartbeats 2000000 in
theorem zdQ (x:Wk)(hfr:Id0 x.fr)(a r:Nat)(l:List Pr)(hl:x.L.length+l.length<1000000)(hw:x.W.length<1000000)(hin:∀c∈l,a+c.1<x.W.length):FP ET 49 [wkv x,iv a,.list r 2 (l.map zBo)] (.ret (wkv (x.does (zaZ a l)))):=by
 refine zfp f49 ?_;refine zG ?_;refine zB (zar (fun m s=>∃(i:Nat) (G:List zn),m=l.length-i/\i<=l.length/\s.tm 1=iv a/\s.tm 2=.list r 2 (l.map zBo)/\s.tm 3=.ptr 0 0 0 0 4/\s.tm 6=.ptr 1 0 0 0 4/\s.tm 7=iv i/\s.df=[]/\s.H=.row 107 4 0 0 [wkv (x.does (zaZ a (l.take i)))]::.row 107 4 0 0 [.agg [.nilsl,.nilsl,.nilsl,iv 0]]::G) (n:=l.length) ?_ ?_)
 ·exact⟨0,[],rfl,zAS9 _,zt,zt,zt,zt,zt,rfl,rfl⟩
 ·rintro m ⟨tm,df,Hx⟩ ⟨i,G,rfl,hi,h1,h2,h3,h6,h7,rfl,rfl⟩;dsimp only at h1 h2 h3 h6 h7;(try refine zBp ?_);refine za (zAV (zr2 h2 h7) ?_);refine zwh ?_ ?_;rotate_left
  ·intro hlt;have hlt:¬i<l.length:=by have:=of_decide_eq_false hlt;omega
   obtain rfl:i=l.length:=by omega
   rw[zBG9];unfold wkv;refine zGF (zr2 h3 h6) ?_;refine zy ?_;refine zj (vs:=[wkv (x.does (zaZ a l))]) ?_ ?_
   ·simp[T49,xT,zE,okv,upd,h6,zae,zaz,zaH,PV.cells,wkv]
   ·exact(zcF (by rw[(zcJ _ x).2.2.1];exact hfr)).frz
  intro hlt;have hlt:i<l.length:=by have:=of_decide_eq_true hlt;omega
  obtain⟨c,hc⟩:∃c,l[i]?=some c:=⟨_,zAB9 hlt⟩
  have hcv:(l.map zBo)[i]?=some (zBo c):=by rw[zAH9,hc];rfl
  have hcin:=hin c (zAO9 hc);have htk:x.does (zaZ a (l.take (i+1)))=(x.does (zaZ a (l.take i))).one (a+c.1,c.2):=by
   rw[<- zv6,zBE9,hc];simp[zaZ]
  obtain⟨d1,d2,d3,d4⟩:=zcJ (zaZ a (l.take i)) x;have hol:(zaZ a (l.take i)).length<=l.length:=by simp[zaZ];omega
  generalize x.does (zaZ a (l.take i))=y at *
  have w1:IntKind.i64.wrap ((a:Int)+((c.1:Nat):Int))=((a+c.1:Nat):Int):=zwi;(repeat refine za ?_);refine zB ?_;(repeat refine za ?_);refine zad ?_;unfold wkv;refine zda ?_ (by simp(disch:=omega)only[go_sem,h1,h2,h7,hcv,hlt,w1,ga0,sa0,zAG9,zAD9]<;>rfl);refine zQF h7 ?_;have hbb:y.L.length*17<=140737488355328:=by omega
  have hbc:(y.L.length+1)*17<=140737488355328:=by omega
  refine za (zbD (Q:=fun yy s'=>yy=.norm/\∃g,s'.tm 1=iv a/\s'.tm 2=.list r 2 (l.map zBo)/\s'.tm 3=.ptr 0 0 0 0 4/\s'.tm 6=.ptr 1 0 0 0 4/\s'.tm 7=iv i/\s'.tm 8=.ptr (G.length+1+1) 0 0 0 2/\s'.df=[]/\s'.H=.row 107 4 0 0 [.agg [wv y.p y.W,.sl (G.length+1+1+1) g 0 (y.L.length+1) (2*(y.L.length+1)) 2,y.fr,iv y.used]]::.row 107 4 0 0 [.agg [.nilsl,.nilsl,.nilsl,iv 0]]::(G++.row 83 2 0 0 [zBo (a+c.1,c.2)]::.row 83 2 g 0 (y.L.map zBo++[zBo (a+c.1,c.2)])::.row 83 2 0 0 [zBo (a+c.1,c.2)]::[])) (zad ?_) ?_)
  ·by_cases hy:y.L=[]
   ·have hy0:y.L.length=0:=by rw[hy];rfl
    rw[hy];refine zda ?_ (by simp(disch:=omega)only[go_sem,hbb,hbc,h1,h2,h3,h6,h7,ga0,ga1,ga2,sa0,sa1,sa2,zAG9,zAD9,zCD9,zbI,zbL,zbJ,zbK]<;>rfl) (by first|exact trivial|simp only[go_sem,hbb,hbc,h1,h2,h3,h6,h7,ga0,ga1,ga2,sa0,sa1,sa2,zAG9,zAD9,zCD9,zbI,zbL,zbJ,zbK]);refine zda ?_ (by simp(disch:=omega)only[go_sem,hbb,hbc,h1,h2,h3,h6,h7,ga0,ga1,ga2,sa0,sa1,sa2,zAG9,zAD9,zCD9,zbI,zbL,zbJ,zbK]<;>rfl) (by first|exact trivial|simp only[go_sem,hbb,hbc,h1,h2,h3,h6,h7,ga0,ga1,ga2,sa0,sa1,sa2,zAG9,zAD9,zCD9,zbI,zbL,zbJ,zbK]);refine zda ?_ (by simp(disch:=omega)only[go_sem,hbb,hbc,h1,h2,h3,h6,h7,ga0,ga1,ga2,sa0,sa1,sa2,zAG9,zAD9,zCD9,zbI,zbL,zbJ,zbK]<;>rfl) (by first|exact trivial|simp only[go_sem,hbb,hbc,h1,h2,h3,h6,h7,ga0,ga1,ga2,sa0,sa1,sa2,zAG9,zAD9,zCD9,zbI,zbL,zbJ,zbK]);refine zdl ?_ (by simp(disch:=omega)only[go_sem,h1,h2,h3,h6,h7,ga0,ga1,ga2,sa0,sa1,sa2,zAG9,zAD9,zCD9,zbI,zbL,zbJ,zbK]<;>rfl) (by first|exact trivial|simp only[go_sem,h1,h2,h3,h6,h7,ga0,ga1,ga2,sa0,sa1,sa2,zAG9,zAD9,zCD9,zbI,zbL,zbJ,zbK]);refine zL ?_;simp only[go_sem];exact⟨1,h1,h2,h3,h6,h7,rfl⟩
   ·have hy0:¬y.L.length=0:=by simpa using hy
    refine zda ?_ (by simp(disch:=omega)only[go_sem,hy0,hbb,hbc,h1,h2,h3,h6,h7,ga0,ga1,ga2,sa0,sa1,sa2,zAG9,zAD9,zCD9,zbI,zbL,zbJ,zbK]<;>rfl) (by first|exact trivial|simp only[go_sem,hy0,hbb,hbc,h1,h2,h3,h6,h7,ga0,ga1,ga2,sa0,sa1,sa2,zAG9,zAD9,zCD9,zbI,zbL,zbJ,zbK]);refine zda ?_ (by simp(disch:=omega)only[go_sem,hy0,hbb,hbc,h1,h2,h3,h6,h7,ga0,ga1,ga2,sa0,sa1,sa2,zAG9,zAD9,zCD9,zbI,zbL,zbJ,zbK]<;>rfl) (by first|exact trivial|simp only[go_sem,hy0,hbb,hbc,h1,h2,h3,h6,h7,ga0,ga1,ga2,sa0,sa1,sa2,zAG9,zAD9,zCD9,zbI,zbL,zbJ,zbK]);refine zda ?_ (by simp(disch:=omega)only[go_sem,hy0,hbb,hbc,h1,h2,h3,h6,h7,ga0,ga1,ga2,sa0,sa1,sa2,zAG9,zAD9,zCD9,zbI,zbL,zbJ,zbK]<;>rfl) (by first|exact trivial|simp only[go_sem,hy0,hbb,hbc,h1,h2,h3,h6,h7,ga0,ga1,ga2,sa0,sa1,sa2,zAG9,zAD9,zCD9,zbI,zbL,zbJ,zbK]);refine zdl ?_ (by simp(disch:=omega)only[go_sem,h1,h2,h3,h6,h7,ga0,ga1,ga2,sa0,sa1,sa2,zAG9,zAD9,zCD9,zbI,zbL,zbJ,zbK]<;>rfl) (by first|exact trivial|simp only[go_sem,h1,h2,h3,h6,h7,ga0,ga1,ga2,sa0,sa1,sa2,zAG9,zAD9,zCD9,zbI,zbL,zbJ,zbK]);refine zL ?_;simp only[go_sem];exact⟨2,h1,h2,h3,h6,h7,rfl⟩
  clear h1 h2 h3 h6 h7;rintro yy ⟨tm,df,H⟩ ⟨rfl,g,h1,h2,h3,h6,h7,h8,rfl,rfl⟩;dsimp only at h1 h2 h3 h6 h7 h8;have hV:y.L.map zBo++[zBo (a+c.1,c.2)]=(y.L++[(a+c.1,c.2)]).map zBo:=by simp
  have hVl:y.L.length+1=(y.L++[(a+c.1,c.2)]).length:=by simp
  rw[hV,hVl];refine zsE 0 (G.length+1+1+1) (v':=.agg [wv y.p y.W,.list 0 2 ((y.L++[(a+c.1,c.2)]).map zBo),y.fr,iv y.used]) rfl (by simp only[zAY9,ga1]<;>rfl) (by omega) rfl rfl (fun k u v hu hv=>?_) ?_
  ·match k with
   | 0=>injection hu with hu;injection hv with hv;subst hu hv;exact .inl rfl
   | 1 =>
    injection hu with hu;injection hv with hv;subst hu hv;exact .inr (Frz.whole (zgw (by simp only[zAY9,ga1]<;>rfl)) rfl (by simp) (by simp) (fun v hv=>by obtain⟨x,_,rfl⟩:=zAM9.1 hv;rfl) zb3)
   | 2=>injection hu with hu;injection hv with hv;subst hu hv;exact .inl rfl
   | 3=>injection hu with hu;injection hv with hv;subst hu hv;exact .inl rfl
   | k+4=>simp[PV.cells]at hu
  simp only[zCI9,zCK9,sa1];have hap:=zuD y.p 1 y.W (a+c.1,c.2) (by omega) (by dsimp only;omega);(repeat refine za ?_);refine zAU ?_;refine zfx ?_ (by simp(disch:=omega)only[go_sem,h3,h8,ga0,zAG9,zAD9]<;>rfl);refine zcl hap ?_ ?_;(repeat(first|exact trivial|refine And.intro ?_ ?_|exact .int _ _|exact .bool _|exact .list _ _ _|exact .elem _|exact .nilsl|exact .nil _ _|exact .str _|refine Frz.aggL ?_|refine Frz.fnL ?_|refine Frz.tupL ?_|refine .iface ?_|exact zbF rfl rfl (by assumption)))
  ·exact Frz.whole (l:=[zBo (a+c.1,c.2)]) (by simp only[zAY9,ga3]<;>rfl) rfl rfl (zAJ9 _) (fun v hv=>by obtain rfl:=zBF9.1 hv;rfl) (zb3 (l:=[(a+c.1,c.2)]))
  ·(repeat(first|exact trivial|refine And.intro ?_ ?_|exact .int _ _|exact .bool _|exact .list _ _ _|exact .elem _|exact .nilsl|exact .nil _ _|exact .str _|refine Frz.aggL ?_|refine Frz.fnL ?_|refine Frz.tupL ?_|refine .iface ?_|exact zbF rfl rfl (by assumption)))
  refine zN ?_;(repeat refine za ?_);refine zJF h3 ?_;refine zJF h7 ?_;refine⟨_,?m,i+1,?G,rfl,hlt,zu h1,zu h2,zu h3,zu h6,zu h7,zt,?H⟩
  case m=>omega
  case H=>(try dsimp only);rw[htk];rfl
theorem f51:ET.funcs.get 51=some T51:=zH Tryz.func51
theorem f143:ET.funcs.get 143=some T143:=zH Tryz.func143
set_option maxHeartbeats 1000000 in
theorem zjx (p q:Nat)(bs:List Nat)(L:List zC)(hl:L.length<1000000)(hp:∀n∈L,n.pairs.length<=28)(hall:(levP L).length<1000000):FN ET 51 [zby p q bs L] (zf7 L):=by
 refine zfn f51 ?_ ?_
 ·unfold zf7;split
  ·exact Lb.two (Lb.pvs _) (.bool _)
  ·exact Lb.two (Lb.pvs _) (.bool _)
 refine zG ?_;refine zb2 66 2 (i:=4) rfl ?_;simp only[lzy,zAE9,zAF9,zAI9,zAK9];refine zG ?_;refine zB (zar (fun m s=>∃(i:Nat) (acc:List Pr) (G:List zn),m=L.length-i/\i<=L.length/\levP L=acc++levP (L.drop i)/\zbn acc=true/\s.tm 1=.ptr 0 0 0 0 2/\s.tm 4=.sl 1 acc.length 0 acc.length (2*acc.length) 2/\s.tm 5=iv i/\s.df=[]/\s.H=.row 116 2 0 0 [zby p q bs L]::.row 66 2 acc.length 0 (acc.map pv)::G) (n:=L.length) ?_ ?_)
 ·exact⟨0,[],[],rfl,by omega,rfl,rfl,zt,zt,zt,rfl,rfl⟩
 ·rintro m ⟨tm,df,H⟩ ⟨i,acc,G,rfl,hi,hac,hri,h1,h4,h5,rfl,rfl⟩;dsimp only at h1 h4 h5;(try refine zBp ?_);refine za (zAV (zr2 h1 h5) ?_);refine zwh ?_ ?_
  ·intro hlt;have hlt:i<L.length:=by have:=of_decide_eq_true hlt;omega
   have hLi:=zAB9 hlt;rw[zpQ L i hlt]at hac;have hn28:=hp _ (zBN9 hlt);have hLiv:(L.map (zW q))[i]?=some (zW q L[i]):=by rw[zAH9,hLi];rfl
   generalize L[i]=n at *
   (repeat refine za ?_);refine zB ?_;refine zGF (zr4 h1 h5 hLiv hlt) ?_;generalize hR:levP (List.drop (i+1) L)=R at hac;refine zB (zar (fun m s=>∃(j:Nat) (acc:List Pr) (G:List zn),m=n.pairs.length-j/\j<=n.pairs.length/\levP L=acc++((n.pairs.drop j).filter (zdv L[i+1]?)++R)/\zbn acc=true/\s.tm 1=.ptr 0 0 0 0 2/\s.tm 4=.sl 1 acc.length 0 acc.length (2*acc.length) 2/\s.tm 5=iv i/\s.tm 6=psv q n.pairs/\s.tm 7=iv j/\s.df=[]/\s.H=.row 116 2 0 0 [zby p q bs L]::.row 66 2 acc.length 0 (acc.map pv)::G) (n:=n.pairs.length) ?_ ?_)
   ·exact⟨0,acc,_,rfl,by omega,hac,hri,zu h1,zu h4,zu h5,zt,zt,rfl,rfl⟩
   ·clear h1 h4 h5 hac hri;rintro m ⟨tm,df,H⟩ ⟨j,acc,G,rfl,hj,hac,hri,h1,h4,h5,h6,h7,rfl,rfl⟩;dsimp only at h1 h4 h5 h6 h7;(try refine zBp ?_);refine za (zAV (zr2 h6 h7) ?_);refine zwh ?_ ?_
    ·intro hltj;have hltj:j<n.pairs.length:=by have:=of_decide_eq_true hltj;omega
     have hxj:=zAB9 hltj;rw[zAW9 hltj,zBR9]at hac;have hxv:(n.pairs.map pv)[j]?=some (pv n.pairs[j]):=by rw[zAH9,hxj];rfl
     generalize n.pairs[j]=x at *
     (repeat refine za ?_);refine zB ?_;(repeat refine za ?_);refine zbD (Q:=fun y s'=>y=.norm/\s'.tm 1=.ptr 0 0 0 0 2/\s'.tm 4=.sl 1 acc.length 0 acc.length (2*acc.length) 2/\s'.tm 5=iv i/\s'.tm 6=psv q n.pairs/\s'.tm 7=iv j/\s'.tm 48=.bool (!zdv L[i+1]? x)/\s'.df=[]/\s'.H=.row 116 2 0 0 [zby p q bs L]::.row 66 2 acc.length 0 (acc.map pv)::G) (zad ?_) ?_
     ·have e1:((i:Int)+1)=((i+1:Nat):Int):=by omega
      by_cases hi1:i+1<L.length
      ·have g1:((i+1:Nat):Int)<(L.length:Nat):=by omega
       have hz:=zAB9 hi1;have hzv:(L.map (zW q))[i+1]?=some (zW q L[i+1]):=by rw[zAH9,hz];rfl
       rw[hz];generalize L[i+1]=z at *
       refine zQF (zBc h1 h5 h6 h7 e1 g1 hzv hxv hltj hi1) ?_;exact⟨h1,h4,h5,h6,h7,by simp[zdv]⟩
      ·have g1:¬((i+1:Nat):Int)<(L.length:Nat):=by omega
       have hz:L[i+1]?=none:=zBP9 (by omega);rw[hz];refine zQF (zr7 h1 h5 h6 h7 e1 g1 hltj) ?_;exact⟨h1,h4,h5,h6,h7,by simp[zdv]⟩
     ·clear h1 h4 h5 h6 h7;rintro y ⟨tm,df,H⟩ ⟨rfl,h1,h4,h5,h6,h7,h48,rfl,rfl⟩;dsimp only at h1 h4 h5 h6 h7 h48
      by_cases hk:zdv L[i+1]? x=true
      rotate_left
      ·rw[if_neg hk]at hac;have hk:zdv L[i+1]? x=false:=by simpa using hk
       refine zfc ?_ ?_ (by simp only[go_sem,h48]<;>rfl)
       ·intro _;refine zhE ?_;refine zJF h7 ?_;refine⟨_,?m1,j+1,acc,_,rfl,hltj,hac,hri,zu h1,zu h4,zu h5,zu h6,zu h7,rfl,rfl⟩
        case m1=>omega
       ·rw[hk];intro h;cases h
      rw[if_pos hk]at hac;refine zfc ?_ ?_ (by simp only[go_sem,h48]<;>rfl)
      ·rw[hk];intro h;cases h
      intro _;refine zBl ?_;show W _ _ _ _ _ _;refine zGF h4 ?_;have hal:acc.length<1000000:=by have:=congrArg List.length hac;simp only[zAD9]at this;omega
      refine zbD (Q:=fun y s'=>y=.norm/\s'.tm 1=.ptr 0 0 0 0 2/\s'.tm 4=.sl 1 acc.length 0 acc.length (2*acc.length) 2/\s'.tm 5=iv i/\s'.tm 6=psv q n.pairs/\s'.tm 7=iv j/\s'.tm 66=.bool (zdN acc x)/\s'.df=[]/\s'.H=.row 116 2 0 0 [zby p q bs L]::.row 66 2 acc.length 0 (acc.map pv)::G) (zad ?_) ?_
      ·by_cases ha0:acc.length=0
       ·have g1:¬(0:Int)<(acc.length:Nat):=by omega
        have g2:¬(0:Int)<=(acc.length:Int)-1:=by omega
        refine zQF (zr7 h4 h6 h7 g1 g2 hltj hxv) ?_;obtain rfl:acc=[]:=zCO9 ha0;exact⟨h1,h4,h5,h6,h7,rfl⟩
       ·have e1:(acc.length:Int)-1=((acc.length-1:Nat):Int):=by omega
        have g2:(0:Int)<=((acc.length-1:Nat):Int):=by omega
        have e2:acc.length-1<acc.length:=by omega
        obtain⟨y,hy⟩:∃y,acc.getLast?=some y:=by
         cases hh:acc.getLast? with
         | none=>rw[zDA9]at hh;subst hh;simp at ha0
         | some y=>exact⟨y,rfl⟩
        have hy2:acc[acc.length-1]?=some y:=by rw[<- zCJ9];exact hy
        have hyv:(acc.map pv)[acc.length-1]?=some (pv y):=by rw[zAH9,hy2];rfl
        refine zQF (zr9 h4 h6 h7 e1 g2 e2 hyv hltj hxv) ?_;exact⟨h1,h4,h5,h6,h7,by simp[zdN,hy]⟩
      ·clear h1 h4 h5 h6 h7 h48;rintro y ⟨tm,df,H⟩ ⟨rfl,h1,h4,h5,h6,h7,h66,rfl,rfl⟩;dsimp only at h1 h4 h5 h6 h7 h66
       by_cases hk2:zdN acc x=true
       ·refine zfc ?_ ?_ (by simp only[go_sem,h66]<;>rfl)
        ·intro _;refine zO ?_;exact zyr hac (znr hk2)
        ·rw[hk2];intro h;cases h
       have hk2:zdN acc x=false:=by simpa using hk2
       refine zfc ?_ ?_ (by simp only[go_sem,h66]<;>rfl)
       ·rw[hk2];intro h;cases h
       intro _;refine zBl ?_;have hbb:(acc.length+1)*17<=140737488355328:=by omega
       refine zJF (zr6 h4 h6 h7 hxv hltj hbb) ?_;refine zJF h7 ?_;refine⟨_,?m3,j+1,acc++[x],?G3,rfl,hltj,by rw[hac];simp,zBg hri hk2,zu h1,zt,zu h5,zu h6,zu h7,zt,?H3⟩
       case m3=>omega
       case H3=>(try dsimp only);rw[zBJ9,zAD9];rfl
    ·intro hltj;have hltj:¬j<n.pairs.length:=by have:=of_decide_eq_false hltj;omega
     obtain rfl:j=n.pairs.length:=by omega
     refine zJF h5 ?_;rw[zBM9,List.filter_nil,zAK9,<- hR]at hac;refine⟨_,?m9,i+1,acc,G,rfl,hlt,hac,hri,zu h1,zu h4,zu h5,rfl,rfl⟩
     case m9=>omega
  ·intro hlt;have hlt:¬i<L.length:=by have:=of_decide_eq_false hlt;omega
   obtain rfl:i=L.length:=by omega
   refine zOF h4 ?_;rw[zBM9,levP,zDO9]at hac;unfold zf7;rw[hac,if_pos hri];refine Frz.tupL ⟨?_,.bool _,trivial⟩;exact Frz.whole (l:=acc.map pv) rfl rfl (by simp) (by simp) (fun v hv=>by obtain⟨x,_,rfl⟩:=zAM9.1 hv;rfl) zeF
theorem zsy (p:Nat)(w:List Nat)(b:Nat)(hw:za7 w.length):FN ET 143 [wv p w,uv b] (.ret (.bool (decide (1<=b)&&decide (b<w.length/64)))):=by
 refine zfn f143 (.bool _) ?_;unfold za7 at hw;have w1:IntKind.u64.wrap (((w.length/64:Nat):Int))=((w.length/64:Nat):Int):=zwu;have hq:IntKind.i64.wrap ((w.length:Int)/64)=((w.length/64:Nat):Int):=zwi;have q1:IntKind.i64.wrap ((w.length:Int).tdiv 64)=((w.length/64:Nat):Int):=by rw[IntWalk.i64_quo _ _ (by omega)];omega
 by_cases h:1<=b
 ·have g:(1:Int)<=b:=by omega
  by_cases h2:b<w.length/64
  ·have g2:(b:Int)<((w.length/64:Nat):Int):=by omega
   refine zOF (zr5 g q1 hq w1 g2) ?_;exact za0.bool (by simp[h,h2])
  ·have g2:¬(b:Int)<((w.length/64:Nat):Int):=by omega
   refine zOF (zr5 g q1 hq w1 g2) ?_;exact za0.bool (by simp[h,h2])
 ·have g:¬(1:Int)<=b:=by omega
  refine zOF g ?_;exact za0.bool (by simp[h])
theorem f98:ET.funcs.get 98=some T98:=zH Tryz.func98
def zga (w:List Nat)(lv:Int):Nat->List Nat->List Nat->List zC->Nat->List Nat×List zC×Bool
 | 0,_,bs,ns,b=>(bs,ns,decide (b=0) && !ns.isEmpty)
 | k+1,seen,bs,ns,b=>if b=0 then(bs,ns,!ns.isEmpty)else
  if decide (w.length/64<=b)||seen.contains b then(bs,ns,false)else
  if headB (zA w b)&&zbT ns (headN (zA w b)) lv then zga w lv k (b::seen) (bs++[b]) (ns++[headN (zA w b)]) (headN (zA w b)).sib else(bs,ns,false)
theorem zo6 {w:List Nat}{lv:Int}:∀(k:Nat) (seen bs:List Nat) (ns:List zC) (b:Nat),zbs w lv k seen bs ns b=none->(zga w lv k seen bs ns b).2.2=false
 | 0,seen,bs,ns,b,h=>by
  rw[zbs]at h;rw[zga]
  by_cases hb:b=0
  ·rw[if_pos hb]at h;cases h
  ·simp[hb]
 | k+1,seen,bs,ns,b,h=>by
  rw[zbs]at h;rw[zga]
  split
  ·rename_i hb;rw[if_pos hb]at h;cases h
  ·rename_i hb;rw[if_neg hb]at h
   split
   ·rfl
   ·rename_i h2;rw[if_neg h2]at h
    split
    ·rename_i h3;rw[if_pos h3]at h;exact zo6 k _ _ _ _ h
    ·rfl
theorem zpT {w:List Nat}{lv:Int}{r:List Nat×List Nat×List zC}:∀(k:Nat) (seen bs:List Nat) (ns:List zC) (b:Nat),zbs w lv k seen bs ns b=some r->zga w lv k seen bs ns b=(r.2.1,r.2.2,!r.2.2.isEmpty)
 | 0,seen,bs,ns,b,h=>by
  rw[zbs]at h;rw[zga]
  by_cases hb:b=0
  ·rw[if_pos hb]at h;injection h with h;subst h;simp[hb]
  ·rw[if_neg hb]at h;cases h
 | k+1,seen,bs,ns,b,h=>by
  rw[zbs]at h;rw[zga]
  split
  ·rename_i hb;rw[if_pos hb]at h;injection h with h;subst h;rfl
  ·rename_i hb;rw[if_neg hb]at h
   split
   ·rename_i h2;rw[if_pos h2]at h;cases h
   ·rename_i h2;rw[if_neg h2]at h
    split
    ·rename_i h3;rw[if_pos h3]at h;exact zpT k _ _ _ _ h
    ·rename_i h3;rw[if_neg h3]at h;cases h
theorem zkz (l:List Nat)(b:Nat):(l.map fun(x:Nat)=>(x:Int)).contains (b:Int)=l.contains b:=by
 rw[zDS9];simp only[zDE9,zAM9];exact⟨fun⟨a,h1,h2⟩=>by rw[show b=a by omega];exact h1,fun h=>⟨b,h,rfl⟩⟩
theorem zn2 (l:List Nat):(l.map fun(x:Nat)=>(x:Int)).map iv=l.map fun(b:Nat)=>iv (b:Int):=by rw[zDH9];rfl
theorem zod (p:Nat)(l:List Nat)(n:Nat)(hl:l.length<4611686018427387904):FN ET 58 [.list p 1 (l.map fun(b:Nat)=>iv (b:Int)),iv (n:Nat)] (.ret (.bool (l.contains n))):=by
 have:=zmK p (l.map fun(x:Nat)=>(x:Int)) n (by simpa using hl);rw[zn2,zkz]at this;exact this
theorem zz8 (bs:List Nat)(ns:List zC):Lb (zby 0 0 bs ns):=.agg fun x hx=>by
 simp at hx;rcases hx with rfl|rfl
 ·exact Lb.ivn _
 ·exact Lb.nodes _
def lvH (z:PV)(bs:List Nat)(ns:List zC)(G:List zn):List zn :=
 .row 116 2 0 0 [z]::.row 116 2 0 0 [.agg [.sl 2 bs.length 0 bs.length (2*bs.length) 1,.sl 3 ns.length 0 ns.length (2*ns.length) 6]]::.row 3 1 bs.length 0 (bs.map fun(b:Nat)=>iv (b:Int))::.row 124 6 ns.length 0 (ns.map (zW 0))::G
theorem ztJ (z:PV)(bs:List Nat)(ns:List zC)(G:List zn)(lab:Nat):LF (lvH z bs ns G) lab [.sl 2 bs.length 0 bs.length (2*bs.length) 1,.sl 3 ns.length 0 ns.length (2*ns.length) 6] [.list lab 1 (bs.map fun(b:Nat)=>iv (b:Int)),.list lab 6 (ns.map (zW 0))] :=
  ⟨Frz.whole (e:=3) (z':=1) (G:=bs.length) (l:=bs.map fun(b:Nat)=>iv (b:Int)) rfl rfl (by simp) (by simp) (fun v hv=>by obtain⟨x,_,rfl⟩:=zAM9.1 hv;rfl) zfA,
   Frz.whole (e:=124) (z':=6) (G:=ns.length) (l:=ns.map (zW 0)) rfl rfl (by simp) (by simp) (fun v hv=>by obtain⟨x,_,rfl⟩:=zAM9.1 hv;rfl) zfI,trivial⟩
theorem ziU {bs:List Nat}{ns:List zC}{G:List zn}{tm:Nat->PV}{b:Bool}{R:List Nat×List zC×Bool}(h8:tm 8=.ptr 0 0 0 0 2)(h9:tm 9=.bool b)(hR:R=(bs,ns,b)):zdj ET T98 (fun e' H=>za0 H 0 e' (.ret (.tuple [zby 0 0 R.1 R.2.1,.bool R.2.2]))) .ret ⟨tm,[],lvH (.agg [.sl 2 bs.length 0 bs.length (2*bs.length) 1,.sl 3 ns.length 0 ns.length (2*ns.length) 6]) bs ns G⟩:=by
 subst hR;refine zj (vs:=[.agg [.sl 2 bs.length 0 bs.length (2*bs.length) 1,.sl 3 ns.length 0 ns.length (2*ns.length) 6],.bool b]) ?_ ?_
 ·simp[T98,xT,zE,okv,h8,h9,zae,zaz,zaH,lvH,PV.cells]
 ·exact Frz.tupL ⟨Frz.aggL (ztJ _ bs ns G 0),.bool _,trivial⟩
theorem zcI {E:Env}{caught:Tr Unit}{rnd:Option Nat}{code:zbk}{s:FSt}{Q:FX->FSt->Prop}(F:(Nat->PV)->Prop)(hF:F s.tm)(k:∀tm,F tm->W E caught rnd code ⟨tm,s.df,s.H⟩ Q):W E caught rnd code s Q:=k s.tm hF
set_option maxHeartbeats 4000000 in
theorem zuq (p r:Nat)(w:List Nat)(hw:64<=w.length/\w.length<=131072)(b:Nat)(lv:Int)(sR seen:List Nat)(hs:∀x,x∈sR↔x∈seen)(hsl:sR.length<1000000)(R:List Nat×List zC×Bool)(hR:zga w lv (w.length/64) seen [] [] b=R) :
  FN ET 98 [wv p w,uv b,iv lv,.list r 1 (sR.map fun(b:Nat)=>iv (b:Int))] (.ret (.tuple [zby 0 0 R.1 R.2.1,.bool R.2.2])):=by
 refine zfn f98 (Lb.two (zz8 _ _) (.bool _)) ?_;refine zG ?_;refine zeN 3 1 (id:=1) (v:=.agg [.nilsl,.nilsl]) (v':=.agg [.sl 2 0 0 0 0 1,.nilsl]) (e0:=116) (z0:=2) (G:=0) (M:=0) rfl rfl (fun k x y hx hy=>?_) ?_
 ·match k with
  | 0=>injection hx with hx;injection hy with hy;subst hx hy;exact .inr ⟨rfl,by simp[lzy]⟩
  | 1=>injection hx with hx;injection hy with hy;subst hx hy;exact .inl rfl
  | k+2=>simp[PV.cells]at hx
 simp only[zCI9,zCK9,zAI9,zAK9];refine zeN 124 6 (id:=1) (v:=.agg [.sl 2 0 0 0 0 1,.nilsl]) (v':=.agg [.sl 2 0 0 0 0 1,.sl 3 0 0 0 0 6]) (e0:=116) (z0:=2) (G:=0) (M:=0) rfl rfl (fun k x y hx hy=>?_) ?_
 ·match k with
  | 0=>injection hx with hx;injection hy with hy;subst hx hy;exact .inl rfl
  | 1=>injection hx with hx;injection hy with hy;subst hx hy;exact .inr ⟨rfl,by simp[lzy]⟩
  | k+2=>simp[PV.cells]at hx
 simp only[zCI9,zCK9,zAI9,zAK9];have hnb:w.length/64<=2048:=by omega
 have hsm:za7 w.length:=by unfold za7;omega
 refine zB (zar (fun m s=>∃(k:Nat) (S:List Nat) (bs:List Nat) (ns:List zC) (b2:Nat) (G:List zn),m=k/\zdC (w.length/64) S<=k/\zga w lv k S bs ns b2=R/\bs.length=ns.length/\bs.length+k<=2048/\(∀x,x∈S↔x∈sR\/x∈bs)/\(∀n∈ns,lv<0\/(n.level:Int)=lv)/\b2<2048+b+1/\s.tm 0=wv p w/\s.tm 1=uv b2/\s.tm 2=iv lv/\s.tm 3=.list r 1 (sR.map fun(b:Nat)=>iv (b:Int))/\s.tm 8=.ptr 0 0 0 0 2/\s.tm 10=.ptr 1 0 0 0 2/\s.df=[]/\s.H=lvH (.agg [.nilsl,.nilsl]) bs ns G) (n:=w.length/64) ?_ ?_)
 ·exact⟨_,seen,[],[],b,[],rfl,zjk _ _,hR,rfl,by simpa using hnb,fun x=>by simp[hs x],fun n hn=>by simp at hn,by omega,zt,zt,zt,zt,zt,zt,rfl,rfl⟩
 ·clear hR;rintro m ⟨tm,df,H⟩ ⟨k,S,bs,ns,b2,G,rfl,hun,hR,hbn,hbk,hS,hlvs,hb2,h0,h1,h2,h3,h8,h10,rfl,rfl⟩;dsimp only at h0 h1 h2 h3 h8 h10;(try refine zBp ?_);refine za (zAV h1 ?_);refine zwh ?_ ?_;rotate_left
  ·intro hb0;have hb0:b2=0:=by simpa using hb0
   subst hb0;have hR2:R=(bs,ns,!ns.isEmpty):=by rw[<- hR];cases m<;>simp[zga]
   unfold lvH;(repeat refine za ?_);refine zad ?_
   by_cases hne:ns=[]
   ·subst hne;refine zA0 (zr2 h8 h10) ?_;refine zdl ?_ (by simp(disch:=omega)only[go_sem,h8]<;>rfl) (by first|exact trivial|simp only[go_sem,h8]);refine zL ?_;simp only[go_sem];refine zy ?_;exact ziU (by simp[upd,h8]) (by simp[upd]) hR2
   ·have g:(0:Int)<(ns.length:Nat):=by have:=zBV9.2 hne;omega
    refine zA0 (zr3 h8 h10 g) ?_;refine zdl ?_ (by simp(disch:=omega)only[go_sem,h8,g]<;>rfl) (by first|exact trivial|simp only[go_sem,h8,g]);refine zL ?_;simp only[go_sem];refine zy ?_;exact ziU (b:=true) (by simp[upd,h8]) (by simp[upd]) (by rw[hR2];simp[hne])
  intro hb0;have hb0:¬b2=0:=by simpa using hb0
  (repeat refine za ?_);refine zB ?_;(repeat refine za ?_);have hth:=zsy p w b2 hsm;have hb1:1<=b2:=by omega
  rw[decide_eq_true hb1,zBY9]at hth;refine zbD (Q:=fun y s'=>y=.norm/\s'.tm 0=wv p w/\s'.tm 1=uv b2/\s'.tm 2=iv lv/\s'.tm 3=.list r 1 (sR.map fun(b:Nat)=>iv (b:Int))/\s'.tm 8=.ptr 0 0 0 0 2/\s'.tm 10=.ptr 1 0 0 0 2/\s'.tm 32=.bool (decide (w.length/64<=b2)||S.contains b2)/\s'.df=[]/\s'.H=lvH (.agg [.nilsl,.nilsl]) bs ns G) (zAU ?_) ?_
  ·by_cases hge:b2<w.length/64
   rotate_left
   ·rw[decide_eq_false hge]at hth;refine zAW (zr2 h0 h1) ?_;refine zca hth ?_;refine zK ?_;exact⟨zt,h0,h1,h2,h3,h8,h10,by simp[upd];omega,rfl,rfl⟩
   rw[decide_eq_true hge]at hth;have w1:IntKind.i64.wrap (b2:Int)=(b2:Int):=zwi;have hh1:=zod r sR b2 (by omega);have hh2:=zod 1 bs b2 (by omega);have hSc:S.contains b2=(sR.contains b2||bs.contains b2):=by
    rw[zDS9];simp[hS b2]
   have hng:decide (w.length/64<=b2)=false:=decide_eq_false (by omega);rw[hSc,hng,Bool.false_or];refine zAW (zr2 h0 h1) ?_;refine zca hth ?_;refine zAW (zr3 h1 h3 w1) ?_;refine zca hh1 ?_
   by_cases hc1:sR.contains b2=true
   ·rw[hc1,Bool.true_or];refine zK ?_;exact⟨zt,h0,h1,h2,h3,h8,h10,zt,rfl,rfl⟩
   have hc1:sR.contains b2=false:=by simpa using hc1
   rw[hc1,Bool.false_or];unfold lvH;refine zAW (zr3 h1 h10 w1) ?_;refine zcl hh2 ?_ ?_;(repeat(first|exact trivial|refine And.intro ?_ ?_|exact .int _ _|exact .bool _|exact .list _ _ _|exact .elem _|exact .nilsl|exact .nil _ _|exact .str _|refine Frz.aggL ?_|refine Frz.fnL ?_|refine Frz.tupL ?_|refine .iface ?_|exact zbF rfl rfl (by assumption)))
   ·exact(ztJ (.agg [.nilsl,.nilsl]) bs ns G 1).1
   ·(repeat(first|exact trivial|refine And.intro ?_ ?_|exact .int _ _|exact .bool _|exact .list _ _ _|exact .elem _|exact .nilsl|exact .nil _ _|exact .str _|refine Frz.aggL ?_|refine Frz.fnL ?_|refine Frz.tupL ?_|refine .iface ?_|exact zbF rfl rfl (by assumption)))
   refine zK ?_;exact⟨zt,h0,h1,h2,h3,h8,h10,zt,rfl,rfl⟩
  clear h0 h1 h2 h3 h8 h10;rintro y ⟨tm,df,H⟩ ⟨rfl,h0,h1,h2,h3,h8,h10,h32,rfl,rfl⟩;dsimp only at h0 h1 h2 h3 h8 h10 h32
  by_cases hbad:(decide (w.length/64<=b2)||S.contains b2)=true
  ·rw[hbad]at h32;refine zct ?_ (by simp only[go_sem,h32]<;>rfl);unfold lvH;refine zGF (zr2 h8 h10) ?_;refine zy ?_;exact ziU (b:=false) (by simp[upd,h8]) (by simp[upd]) (by
    rw[<- hR]
    cases m with
    | zero=>rw[zga];simp[hb0]
    | succ m=>rw[zga,if_neg hb0,if_pos hbad])
  have hbad:(decide (w.length/64<=b2)||S.contains b2)=false:=by simpa using hbad
  rw[hbad]at h32;refine zcf ?_ (by simp only[go_sem,h32]<;>rfl);refine zBl ?_;show W _ _ _ _ _ _;have hbl:b2<w.length/64:=by
   cases h:decide (w.length/64<=b2)with
   | true=>rw[h]at hbad;cases hbad
   | false=>have:=of_decide_eq_false h;omega
  have hbs:¬S.contains b2=true:=by intro h;rw[h,zGE9]at hbad;cases hbad
  have hm1:∃m',m=m'+1:=by
   cases m with
   | zero=>exact absurd (ziE _ b2 S (by omega) hbl) hbs
   | succ m=>exact⟨m,rfl⟩
  obtain⟨m',rfl⟩:=hm1;rw[zga,if_neg hb0,if_neg (by rw[hbad];decide)]at hR;have hOf:=zfB p (zA w b2) (by unfold zA za7;simp;omega);have e1:IntKind.u64.wrap ((64:Int)*(b2:Int))=((64*b2:Nat):Int):=zwu;have e2:IntKind.u64.wrap (((64*b2:Nat):Int)+64)=((64*b2+64:Nat):Int):=zwu;have e3:64*b2<=64*b2+64:=by omega
  have e4:64*b2+64<=w.length:=by omega
  have e6:0<w.length:=by omega
  have e5:List.drop (64*b2) (List.take (64*b2+64) (List.map uv w))=(zA w b2).map uv:=by simp[zA,zCM9,zDL9]
  (repeat refine za ?_);refine zAU ?_;refine zAW (zr8 h0 h1 e1 e2 e3 e4 e5 e6) ?_
  by_cases hh:headB (zA w b2)=true
  rotate_left
  ·have hh:headB (zA w b2)=false:=by simpa using hh
   rw[zml hh]at hOf;rw[hh,zDQ9,if_neg (by decide)]at hR;refine zca hOf ?_;unfold lvH;refine zN ?_;refine zGF h10 ?_;refine zcI (fun tm=>tm 8=.ptr 0 0 0 0 2/\tm 10=.ptr 1 0 0 0 2/\tm 12=iv 210) ⟨zu h8,zu h10,by simp[upd]⟩ ?_;clear h8 h10;rintro tm ⟨h8,h10,h12⟩;refine(zbD (Q:=fun y s'=>y=.norm/\s'.tm 8=.ptr 0 0 0 0 2/\s'.tm 10=.ptr 1 0 0 0 2/\s'.tm 95=.bool true/\s'.df=[]/\∃G2,s'.H=lvH (.agg [.nilsl,.nilsl]) bs ns G2) (zad ?_) ?_)
   ·have g210:¬(210:Int)=0:=by decide
    refine zQF (zr2 h12 g210) ?_;exact⟨h8,h10,G++_,rfl⟩
   rintro y ⟨tm,df,H⟩ ⟨rfl,h8,h10,h95,rfl,G2,rfl⟩;dsimp only at h8 h10 h95;refine zct ?_ (by simp only[go_sem,h95]<;>rfl);unfold lvH;refine zGF (zr2 h8 h10) ?_;refine zy ?_;exact ziU (b:=false) (by simp[upd,h8]) (by simp[upd]) hR.symm
  obtain⟨b12,b2048,bw⟩:=zdY hh;rw[zeg _ hh]at hOf;rw[hh,zBY9]at hR;generalize headN (zA w b2)=nd at hOf hR b12 b2048 bw;refine zca hOf ?_;unfold lvH;refine zN ?_;refine zGF h10 ?_;refine zcI (fun tm=>tm 0=wv p w/\tm 1=uv b2/\tm 2=iv lv/\tm 3=.list r 1 (sR.map fun(b:Nat)=>iv (b:Int))/\tm 8=.ptr 0 0 0 0 2/\tm 10=.ptr 1 0 0 0 2/\tm 11=.ptr (G.length+1+1+1+1) 0 0 0 6/\tm 12=iv 0/\tm 13=iv ((ns.length:Int)-1)) ⟨zu h0,zu h1,zu h2,zu h3,zu h8,zu h10,zt,zt,by simp[upd]⟩ ?_;clear h0 h1 h2 h3 h8 h10 h32;rintro tm ⟨h0,h1,h2,h3,h8,h10,h11,h12,h13⟩;refine(zbD (Q:=fun y s'=>y=.norm/\s'.tm 0=wv p w/\s'.tm 1=uv b2/\s'.tm 2=iv lv/\s'.tm 3=.list r 1 (sR.map fun(b:Nat)=>iv (b:Int))/\s'.tm 8=.ptr 0 0 0 0 2/\s'.tm 10=.ptr 1 0 0 0 2/\s'.tm 11=.ptr (G.length+1+1+1+1) 0 0 0 6/\s'.tm 95=.bool (!zbT ns nd lv)/\s'.df=[]/\s'.H=lvH (.agg [.nilsl,.nilsl]) bs ns (G++[.row 124 6 0 0 [zW 0 nd]])) (zad ?_) ?_)
  --CASES
  ·skip
   by_cases g0:(0:Int)<=lv
   ·by_cases g1:(nd.level:Int)=lv
    rotate_left
    ·have hgo:zbT ns nd lv=false:=by
      rw[zbT]
      cases hh:ns.getLast? with
      | none=>simp;intro _;omega
      | some z =>
       have hzl:=hlvs z (zGF9 hh);simp;intro _;omega
     refine zdl ?_ (by simp(disch:=omega)only[go_sem,h2,g0,g1,h10,h11,h12,h13,ga0,ga1,zAG9,zAD9]<;>rfl);refine zL ?_;simp only[go_sem];have hgv:zbT ns nd lv=!true:=(by rw[hgo];rfl)
     exact⟨h0,h1,h2,h3,h8,h10,h11,by first|(simp[hgv,lvH];done)|(simp[hgv,lvH];omega)⟩
    by_cases hns:ns=[]
    ·have hn0:ns.length=0:=by rw[hns];rfl
     have c0:(ns.length:Int)-1<0:=by omega
     have c1:¬(0:Int)<=(ns.length:Int)-1:=by omega
     by_cases hz:nd.low=0
     ·have c2:(nd.low:Int)=0:=by omega
      refine zdl ?_ (by simp(disch:=omega)only[go_sem,h2,g0,g1,c0,c1,c2,h10,h11,h12,h13,ga0,ga1,zAG9,zAD9]<;>rfl);refine zL ?_;simp only[go_sem];have hgv:zbT ns nd lv=!false:=(by rw[zbT,hns];simp[hz];omega)
      exact⟨h0,h1,h2,h3,h8,h10,h11,by first|(simp[hgv,lvH];done)|(simp[hgv,lvH];omega)⟩
     ·have c2:¬(nd.low:Int)=0:=by omega
      refine zdl ?_ (by simp(disch:=omega)only[go_sem,h2,g0,g1,c0,c1,c2,h10,h11,h12,h13,ga0,ga1,zAG9,zAD9]<;>rfl);refine zL ?_;simp only[go_sem];have hgv:zbT ns nd lv=!true:=(by rw[zbT,hns];simp[hz])
      exact⟨h0,h1,h2,h3,h8,h10,h11,by first|(simp[hgv,lvH];done)|(simp[hgv,lvH];omega)⟩
    have hnl:0<ns.length:=zBV9.2 hns;obtain⟨z,hz⟩:∃z,ns.getLast?=some z:=by
     cases hh:ns.getLast? with
     | none=>rw[zDA9]at hh;exact absurd hh hns
     | some z=>exact⟨z,rfl⟩
    have hz2:ns[ns.length-1]?=some z:=by rw[<- zCJ9];exact hz
    have hzv:(ns.map (zW 0))[ns.length-1]?=some (zW 0 z):=by rw[zAH9,hz2];rfl
    have hzl:=hlvs z (zAO9 hz2);have d0:(ns.length:Int)-1=((ns.length-1:Nat):Int):=by omega
    have d1:¬((ns.length-1:Nat):Int)<0:=by omega
    have d2:(0:Int)<=((ns.length-1:Nat):Int):=by omega
    have d3:ns.length-1<ns.length:=by omega
    have hgo:zbT ns nd lv=(decide (z.low<nd.low)&&decide (nd.level=z.level)):=by rw[zbT,hz]
    by_cases b1:z.low<nd.low
    rotate_left
    ·have d4:(nd.low:Int)<=z.low:=by omega
     refine zdl ?_ (by simp(disch:=omega)only[go_sem,h2,g0,g1,d0,d1,d2,d3,d4,hzv,h10,h11,h12,h13,ga0,ga1,zAG9,zAD9]<;>rfl);refine zL ?_;simp only[go_sem];have hgv:zbT ns nd lv=!true:=(by rw[hgo];simp[b1])
     exact⟨h0,h1,h2,h3,h8,h10,h11,by first|(simp[hgv,lvH];done)|(simp[hgv,lvH];omega)⟩
    have d4:¬(nd.low:Int)<=z.low:=by omega
    by_cases b2':nd.level=z.level
    ·have d5:(z.level:Int)=nd.level:=by omega
     refine zdl ?_ (by simp(disch:=omega)only[go_sem,h2,g0,g1,d0,d1,d2,d3,d4,d5,hzv,h10,h11,h12,h13,ga0,ga1,zAG9,zAD9]<;>rfl);refine zL ?_;simp only[go_sem];have hgv:zbT ns nd lv=!false:=(by rw[hgo];simp[b1,b2'])
     exact⟨h0,h1,h2,h3,h8,h10,h11,by first|(simp[hgv,lvH];done)|(simp[hgv,lvH];omega)⟩
    ·have d5:¬(z.level:Int)=nd.level:=by omega
     refine zdl ?_ (by simp(disch:=omega)only[go_sem,h2,g0,g1,d0,d1,d2,d3,d4,d5,hzv,h10,h11,h12,h13,ga0,ga1,zAG9,zAD9]<;>rfl);refine zL ?_;simp only[go_sem];have hgv:zbT ns nd lv=!true:=(by rw[hgo];simp[b1,b2'])
     exact⟨h0,h1,h2,h3,h8,h10,h11,by first|(simp[hgv,lvH];done)|(simp[hgv,lvH];omega)⟩
   ·have g0:¬(0:Int)<=lv:=g0
    by_cases hns:ns=[]
    ·have hn0:ns.length=0:=by rw[hns];rfl
     have c0:(ns.length:Int)-1<0:=by omega
     have c1:¬(0:Int)<=(ns.length:Int)-1:=by omega
     by_cases hz:nd.low=0
     ·have c2:(nd.low:Int)=0:=by omega
      refine zdl ?_ (by simp(disch:=omega)only[go_sem,h2,g0,c0,c1,c2,h10,h11,h12,h13,ga0,ga1,zAG9,zAD9]<;>rfl);refine zL ?_;simp only[go_sem];have hgv:zbT ns nd lv=!false:=(by rw[zbT,hns];simp[hz];omega)
      exact⟨h0,h1,h2,h3,h8,h10,h11,by first|(simp[hgv,lvH];done)|(simp[hgv,lvH];omega)⟩
     ·have c2:¬(nd.low:Int)=0:=by omega
      refine zdl ?_ (by simp(disch:=omega)only[go_sem,h2,g0,c0,c1,c2,h10,h11,h12,h13,ga0,ga1,zAG9,zAD9]<;>rfl);refine zL ?_;simp only[go_sem];have hgv:zbT ns nd lv=!true:=(by rw[zbT,hns];simp[hz])
      exact⟨h0,h1,h2,h3,h8,h10,h11,by first|(simp[hgv,lvH];done)|(simp[hgv,lvH];omega)⟩
    have hnl:0<ns.length:=zBV9.2 hns;obtain⟨z,hz⟩:∃z,ns.getLast?=some z:=by
     cases hh:ns.getLast? with
     | none=>rw[zDA9]at hh;exact absurd hh hns
     | some z=>exact⟨z,rfl⟩
    have hz2:ns[ns.length-1]?=some z:=by rw[<- zCJ9];exact hz
    have hzv:(ns.map (zW 0))[ns.length-1]?=some (zW 0 z):=by rw[zAH9,hz2];rfl
    have hzl:=hlvs z (zAO9 hz2);have d0:(ns.length:Int)-1=((ns.length-1:Nat):Int):=by omega
    have d1:¬((ns.length-1:Nat):Int)<0:=by omega
    have d2:(0:Int)<=((ns.length-1:Nat):Int):=by omega
    have d3:ns.length-1<ns.length:=by omega
    have hgo:zbT ns nd lv=(decide (z.low<nd.low)&&decide (nd.level=z.level)):=by rw[zbT,hz]
    by_cases b1:z.low<nd.low
    rotate_left
    ·have d4:(nd.low:Int)<=z.low:=by omega
     refine zdl ?_ (by simp(disch:=omega)only[go_sem,h2,g0,d0,d1,d2,d3,d4,hzv,h10,h11,h12,h13,ga0,ga1,zAG9,zAD9]<;>rfl);refine zL ?_;simp only[go_sem];have hgv:zbT ns nd lv=!true:=(by rw[hgo];simp[b1])
     exact⟨h0,h1,h2,h3,h8,h10,h11,by first|(simp[hgv,lvH];done)|(simp[hgv,lvH];omega)⟩
    have d4:¬(nd.low:Int)<=z.low:=by omega
    by_cases b2':nd.level=z.level
    ·have d5:(z.level:Int)=nd.level:=by omega
     refine zdl ?_ (by simp(disch:=omega)only[go_sem,h2,g0,d0,d1,d2,d3,d4,d5,hzv,h10,h11,h12,h13,ga0,ga1,zAG9,zAD9]<;>rfl);refine zL ?_;simp only[go_sem];have hgv:zbT ns nd lv=!false:=(by rw[hgo];simp[b1,b2'])
     exact⟨h0,h1,h2,h3,h8,h10,h11,by first|(simp[hgv,lvH];done)|(simp[hgv,lvH];omega)⟩
    ·have d5:¬(z.level:Int)=nd.level:=by omega
     refine zdl ?_ (by simp(disch:=omega)only[go_sem,h2,g0,d0,d1,d2,d3,d4,d5,hzv,h10,h11,h12,h13,ga0,ga1,zAG9,zAD9]<;>rfl);refine zL ?_;simp only[go_sem];have hgv:zbT ns nd lv=!true:=(by rw[hgo];simp[b1,b2'])
     exact⟨h0,h1,h2,h3,h8,h10,h11,by first|(simp[hgv,lvH];done)|(simp[hgv,lvH];omega)⟩
  --ENDCASES
  clear h0 h1 h2 h3 h8 h10 h11 h12 h13;rintro y ⟨tm,df,H⟩ ⟨rfl,h0,h1,h2,h3,h8,h10,h11,h95,rfl,rfl⟩;dsimp only at h0 h1 h2 h3 h8 h10 h11 h95
  by_cases hg:zbT ns nd lv=true
  rotate_left
  ·have hg:zbT ns nd lv=false:=by simpa using hg
   rw[hg]at hR h95;rw[if_neg (by decide)]at hR;refine zct ?_ (by simp only[go_sem,h95]<;>rfl);unfold lvH;refine zGF (zr2 h8 h10) ?_;refine zy ?_;exact ziU (b:=false) (by simp[upd,h8]) (by simp[upd]) hR.symm
  rw[hg]at hR h95;rw[if_pos rfl]at hR;refine zcf ?_ (by simp only[go_sem,h95]<;>rfl);refine zBl ?_;show W _ _ _ _ _ _;unfold lvH;have hba:(bs.length+1)*9<=140737488355328:=by omega
  have hbb:(ns.length+1)*65<=140737488355328:=by omega
  have w1:IntKind.i64.wrap (b2:Int)=(b2:Int):=zwi;(repeat refine za ?_);refine zad ?_;refine zda ?_ (by simp(disch:=omega)only[go_sem,h1,h10,h11,w1,hba,hbb,zbI,zbL,zbJ,zbK,ga0,ga1,ga2,zAG9,zAD9]<;>rfl) (by first|exact trivial|simp only[go_sem,h1,h10,h11,w1,hba,hbb,zbI,zbL,zbJ,zbK,ga0,ga1,ga2,zAG9,zAD9]);refine zda ?_ (by simp(disch:=omega)only[go_sem,h1,h10,h11,w1,hba,hbb,zbI,zbL,zbJ,zbK,ga0,ga1,ga2,zAG9,zAD9]<;>rfl) (by first|exact trivial|simp only[go_sem,h1,h10,h11,w1,hba,hbb,zbI,zbL,zbJ,zbK,ga0,ga1,ga2,zAG9,zAD9]);refine zda ?_ (by simp(disch:=omega)only[go_sem,h1,h10,h11,w1,hba,hbb,zbI,zbL,zbJ,zbK,ga0,ga1,ga2,zAG9,zAD9]<;>rfl) (by first|exact trivial|simp only[go_sem,h1,h10,h11,w1,hba,hbb,zbI,zbL,zbJ,zbK,ga0,ga1,ga2,zAG9,zAD9]);refine zda ?_ (by simp(disch:=omega)only[go_sem,h1,h10,h11,w1,hba,hbb,zbI,zbL,zbJ,zbK,ga0,ga1,ga2,zAG9,zAD9]<;>rfl) (by first|exact trivial|simp only[go_sem,h1,h10,h11,w1,hba,hbb,zbI,zbL,zbJ,zbK,ga0,ga1,ga2,zAG9,zAD9]);refine zdl ?_ (by simp(disch:=omega)only[go_sem,h1,h10,h11,w1,hba,hbb,zbI,zbL,zbJ,zbK,ga0,ga1,ga2,zAG9,zAD9]<;>rfl) (by first|exact trivial|simp only[go_sem,h1,h10,h11,w1,hba,hbb,zbI,zbL,zbJ,zbK,ga0,ga1,ga2,zAG9,zAD9]);refine zL ?_;simp only[go_sem];(repeat refine za ?_);refine zrg ?_ (by simp(disch:=omega)only[go_sem,h11,ga0]<;>rfl);refine zr ?_;refine⟨_,?m,m',b2::S,bs++[b2],ns++[nd],nd.sib,?G,rfl,?hu,hR,?b1,?b2,?sx,?lev,?nb,zu h0,zt,zu h2,zu h3,zu h8,zu h10,zt,?H⟩
  case m=>omega
  case hu=>have:=zkn _ _ _ hbl hbs;omega
  case b1=>simp;omega
  case b2=>simp;omega
  case sx=>intro x;simp[hS x];constructor<;>(intro h;rcases h with h|h|h<;>simp[h])
  case nb=>omega
  case lev =>
   intro n hn;rcases zBI9.1 hn with hn|hn
   ·exact hlvs n hn
   ·obtain rfl:=zBF9.1 hn;rw[zbT]at hg
    cases hh:ns.getLast? with
    | none=>rw[hh]at hg;simp at hg;omega
    | some z=>rw[hh]at hg;simp at hg;have:=hlvs z (zGF9 hh);omega
  case H =>
   simp only[zAD9,zAE9,zAF9,zAR9,zBJ9,zCC9,zCD9];rfl
theorem f50:ET.funcs.get 50=some T50:=zH Tryz.func50
def zdI (w:List Nat):Nat->List Nat->List Lev->Nat->Int->List Lev×Bool
 | 0,_,_,_,_=>([],false)
 | d+1,seen,acc,b,lv=>match zbs w lv (w.length/64) seen [] [] b with
  | none=>([],false)
  | some (_,_,[])=>([],false)
  | some (seen',bs,n::ns)=>if n.level=0 then(acc++[(bs,n::ns)],zbn (levP (n::ns)))else zdI w d seen' (acc++[(bs,n::ns)]) n.left ((n.level:Int)-1)
def zbM (w:List Nat)(a:Nat):List Lev×Bool:=zdI w 14 [] [] (w.getD a 0) (-1)
theorem zrn {w:List Nat}:∀(d:Nat) (seen:List Nat) (acc:List Lev) (b:Nat) (lv:Int),(zdI w d seen acc b lv).2=(zbB w d seen acc b lv).2/\((zdI w d seen acc b lv).2=true->(zdI w d seen acc b lv).1=(zbB w d seen acc b lv).1)
 | 0,seen,acc,b,lv=>⟨rfl,fun h=>by cases h⟩
 | d+1,seen,acc,b,lv=>by
  rw[zdI,zbB]
  cases hr:zbs w lv (w.length/64) seen [] [] b with
  | none=>exact⟨rfl,fun h=>by cases h⟩
  | some r =>
   obtain⟨s',bs,ns⟩:=r
   cases ns with
   | nil=>exact⟨rfl,fun h=>by cases h⟩
   | cons n ns =>
    simp only
    by_cases hl:n.level=0
    ·rw[if_pos hl,if_pos hl];exact⟨rfl,fun _=>rfl⟩
    ·rw[if_neg hl,if_neg hl];exact zrn d _ _ _ _
theorem zeG (w:List Nat)(a:Nat):(zbM w a).2=(zac w a).2/\((zac w a).2=true->(zbM w a).1=(zac w a).1):=by
 have:=zrn (w:=w) 14 [] [] (w.getD a 0) (-1);exact⟨this.1,fun h=>this.2 (by rw[this.1];exact h)⟩
theorem zwb {T:List Lev}:∀v∈(T.map fun L=>zby 0 0 L.1 L.2).flatMap PV.cells,Id0 v:=fun v hv=>by
 obtain⟨y,hy,hv⟩:=zBB9.1 hv;obtain⟨L,_,rfl⟩:=zAM9.1 hy;simp[PV.cells]at hv;rcases hv with rfl|rfl<;>exact .list _ _ _
theorem zgF {w:List Nat}{lv:Int}:∀(k:Nat) (seen bs:List Nat) (ns:List zC) (b:Nat) (r:List Nat×List Nat×List zC),zbs w lv k seen bs ns b=some r->∃X,r.2.1=bs++X/\r.1=X.reverse++seen/\X.Nodup/\∀x∈X,x ∉ seen/\x≠0
 | 0,seen,bs,ns,b,r,h=>by
  rw[zbs]at h
  split at h
  ·injection h with h;subst h;exact⟨[],by simp,by simp,zGO9,fun x hx=>by simp at hx⟩
  ·cases h
 | k+1,seen,bs,ns,b,r,h=>by
  rw[zbs]at h
  split at h
  ·injection h with h;subst h;exact⟨[],by simp,by simp,zGO9,fun x hx=>by simp at hx⟩
  rename_i hb0
  split at h
  ·cases h
  rename_i hbad
  split at h
  rotate_left
  ·cases h
  obtain⟨X,h1,h2,h3,h4⟩:=zgF k _ _ _ _ r h;have hbs:b ∉ seen:=fun hm=>hbad (by simp[hm]);refine⟨b::X,by rw[h1];simp,by rw[h2];simp,zEB9.2 ⟨fun hm=>(h4 b hm).1 (zAU9 ..),h3⟩,fun x hx=>?_⟩;rcases zAX9.1 hx with rfl|hx
  ·exact⟨hbs,hb0⟩
  ·obtain⟨k1,k2⟩:=h4 x hx;exact⟨fun hm=>k1 (zAT9 _ hm),k2⟩
set_option maxHeartbeats 2000000 in
theorem zfj (p:Nat)(w:List Nat)(hw:64<=w.length/\w.length<=131072)(a:Nat)(ha:a<w.length):FN ET 50 [wv p w,iv a] (.ret (.tuple [zbQ (zbM w a).1,.bool (zbM w a).2])):=by
 refine zfn f50 (Lb.two (zlb _) (.bool _)) ?_;have hwa:=zcE ha;unfold zbM;generalize w.getD a 0=b0 at *
 obtain⟨R,hR⟩:∃R,zdI w 14 [] [] b0 (-1)=R:=⟨_,rfl⟩
 rw[hR];refine zGF (zr2 hwa ha) ?_;refine zb2 116 2 (i:=6) rfl ?_;refine zb2 3 1 (i:=7) rfl ?_;simp only[lzy,zAD9,zAE9,zAF9,zAR9,zAG9,zAI9,zAK9];refine zB (zar (fun m s=>∃(d:Nat) (seen:List Nat) (acc:List Lev) (b:Nat) (lv:Int) (sR:List Nat) (g:Nat) (G:List zn),m=d/\d<=14/\((0<=lv/\lv+1<=d)\/14<=d)/\zdI w d seen acc b lv=R/\(∀x,x∈sR↔x∈seen)/\acc.length+d=14/\sR.length<=2048*acc.length/\s.tm 0=wv p w/\s.tm 6=.sl 0 acc.length 0 acc.length (2*acc.length) 2/\s.tm 7=.sl 1 g 0 sR.length (2*sR.length) 1/\s.tm 8=uv b/\s.tm 9=iv lv/\s.tm 10=iv ((14-d:Nat):Int)/\s.df=[]/\s.H=.row 116 2 acc.length 0 (acc.map fun L=>zby 0 0 L.1 L.2)::.row 3 1 g 0 (sR.map fun(b:Nat)=>iv (b:Int))::G) (n:=14) ?_ ?_)
 ·exact⟨14,[],[],b0,-1,[],0,[],rfl,zAJ9 _,.inr (zAJ9 _),hR,fun x=>Iff.rfl,rfl,zAS9 _,zt,zt,zt,zt,zt,zt,rfl,rfl⟩
 ·clear hR;rintro m ⟨tm,df,H⟩ ⟨d,seen,acc,b,lv,sR,g,G,rfl,hd14,hd,hR,hS,had,hsl,h0,h6,h7,h8,h9,h10,rfl,rfl⟩;dsimp only at h0 h6 h7 h8 h9 h10;obtain⟨d,rfl⟩:∃e,m=e+1:=⟨m-1,by omega⟩
  have g10:((14-(d+1):Nat):Int)<20:=by omega
  (try refine zBp ?_);refine za (zAV (zr2 h10 g10) ?_);refine zwh ?_ ?_;rotate_left
  ·intro h;cases h
  intro _;(repeat refine za ?_);refine zB ?_;have hc:=zuq p 1 w hw b lv sR seen hS (by omega) _ rfl;rw[zdI]at hR;have fz:Frz (.row 116 2 acc.length 0 (acc.map fun L=>zby 0 0 L.1 L.2)::.row 3 1 g 0 (sR.map fun(b:Nat)=>iv (b:Int))::G) 1 (.sl 1 g 0 sR.length (2*sR.length) 1) (.list 1 1 (sR.map fun(b:Nat)=>iv (b:Int))) :=
   Frz.whole (e:=3) (z':=1) (l:=sR.map fun(b:Nat)=>iv (b:Int)) rfl rfl (by simp) (by simp) (fun v hv=>by obtain⟨x,_,rfl⟩:=zAM9.1 hv;rfl) zfA
  cases hr:zbs w lv (w.length/64) seen [] [] b with
  | none =>
   rw[hr]at hR;have hf:=zo6 _ _ _ _ _ hr;generalize zga w lv (w.length/64) seen [] [] b=R0 at hc hf;rw[hf]at hc;(repeat refine za ?_);refine zAU ?_;refine zAW (zr4 h0 h7 h8 h9) ?_;refine zcl hc ?_ ?_;(repeat(first|exact trivial|refine And.intro ?_ ?_|exact .int _ _|exact .bool _|exact .list _ _ _|exact .elem _|exact .nilsl|exact .nil _ _|exact .str _|refine Frz.aggL ?_|refine Frz.fnL ?_|refine Frz.tupL ?_|refine .iface ?_|exact zbF rfl rfl (by assumption)))
   ·exact fz
   ·(repeat(first|exact trivial|refine And.intro ?_ ?_|exact .int _ _|exact .bool _|exact .list _ _ _|exact .elem _|exact .nilsl|exact .nil _ _|exact .str _|refine Frz.aggL ?_|refine Frz.fnL ?_|refine Frz.tupL ?_|refine .iface ?_|exact zbF rfl rfl (by assumption)))
   refine zN ?_;refine zS ?_;refine zO ?_;rw[<- hR];exact Frz.tupL ⟨.nil _ _,.bool _,trivial⟩
  | some r =>
   obtain⟨s',bs,ns⟩:=r;rw[hr]at hR;rw[zpT _ _ _ _ _ hr]at hc;obtain⟨X,x1,x2,x3,x4⟩:=zgF _ _ _ _ _ _ hr;obtain⟨hF,hfst,hbl⟩:=ze6 (N:=2048) _ _ _ _ _ _ hr (LvF.nil w) (fun n hn=>by simp at hn) (by simp;omega);dsimp only at x1 x2 hF hfst hbl hc;rw[zAK9]at x1;subst x1
   cases ns with
   | nil =>
    simp only[List.isEmpty_nil,Bool.not_true]at hc;(repeat refine za ?_);refine zAU ?_;refine zAW (zr4 h0 h7 h8 h9) ?_;refine zcl hc ?_ ?_;(repeat(first|exact trivial|refine And.intro ?_ ?_|exact .int _ _|exact .bool _|exact .list _ _ _|exact .elem _|exact .nilsl|exact .nil _ _|exact .str _|refine Frz.aggL ?_|refine Frz.fnL ?_|refine Frz.tupL ?_|refine .iface ?_|exact zbF rfl rfl (by assumption)))
    ·exact fz
    ·(repeat(first|exact trivial|refine And.intro ?_ ?_|exact .int _ _|exact .bool _|exact .list _ _ _|exact .elem _|exact .nilsl|exact .nil _ _|exact .str _|refine Frz.aggL ?_|refine Frz.fnL ?_|refine Frz.tupL ?_|refine .iface ?_|exact zbF rfl rfl (by assumption)))
    refine zN ?_;refine zS ?_;refine zO ?_;rw[<- hR];exact Frz.tupL ⟨.nil _ _,.bool _,trivial⟩
   | cons nd ns =>
    simp only[List.isEmpty_cons,Bool.not_false]at hc;simp only at hR;have hlen:=hF.len;obtain⟨hpp,b12,b2048⟩:=hF.node (zAU9 ..);have hfl:=hfst nd rfl;(repeat refine za ?_);refine zAU ?_;refine zAW (zr4 h0 h7 h8 h9) ?_;refine zcl hc ?_ ?_;(repeat(first|exact trivial|refine And.intro ?_ ?_|exact .int _ _|exact .bool _|exact .list _ _ _|exact .elem _|exact .nilsl|exact .nil _ _|exact .str _|refine Frz.aggL ?_|refine Frz.fnL ?_|refine Frz.tupL ?_|refine .iface ?_|exact zbF rfl rfl (by assumption)))
    ·exact fz
    ·(repeat(first|exact trivial|refine And.intro ?_ ?_|exact .int _ _|exact .bool _|exact .list _ _ _|exact .elem _|exact .nilsl|exact .nil _ _|exact .str _|refine Frz.aggL ?_|refine Frz.fnL ?_|refine Frz.tupL ?_|refine .iface ?_|exact zbF rfl rfl (by assumption)))
    refine zN ?_;refine zT ?_;refine zBl ?_;show W _ _ _ _ _ _;have hba:(acc.length+1)*49<=140737488355328:=by omega
    have hbb:(sR.length+bs.length)*9<=140737488355328:=by omega
    (repeat refine za ?_);refine zad ?_;have hXne:¬bs.length=0:=by rw[hlen];simp
    refine zda ?_ (by simp(disch:=omega)only[go_sem,hXne,h6,h7,hba,hbb,zbI,zbL,zbJ,zbK,ga0,ga1,ga2,zAG9,zAD9]<;>rfl) (by first|exact trivial|simp only[go_sem,hXne,h6,h7,hba,hbb,zbI,zbL,zbJ,zbK,ga0,ga1,ga2,zAG9,zAD9]);refine zda ?_ (by simp(disch:=omega)only[go_sem,hXne,h6,h7,hba,hbb,zbI,zbL,zbJ,zbK,ga0,ga1,ga2,zAG9,zAD9]<;>rfl) (by first|exact trivial|simp only[go_sem,hXne,h6,h7,hba,hbb,zbI,zbL,zbJ,zbK,ga0,ga1,ga2,zAG9,zAD9]);refine zdl ?_ (by simp(disch:=omega)only[go_sem,h6,h7,hba,hbb,zbI,zbL,zbJ,zbK,ga0,ga1,ga2,zAG9,zAD9]<;>rfl) (by first|exact trivial|simp only[go_sem,h6,h7,hba,hbb,zbI,zbL,zbJ,zbK,ga0,ga1,ga2,zAG9,zAD9]);refine zL ?_;simp only[go_sem];have hg0:(List.map (zW 0) (nd::ns))[0]?=some (zW 0 nd):=rfl;have hi0:0<(nd::ns).length:=zCQ9 _;generalize hNS:nd::ns=NS at *
    have hll:=zhM NS fun n hn=>(hF.node hn).1;have hfew:NS.length<=2048:=by omega
    by_cases hlv:nd.level=0
    ·have g1:(nd.level:Int)-1<0:=by omega
     rw[if_pos hlv]at hR;(repeat(first|refine za ?_|refine zgo ?_ (by simp(disch:=omega)only[go_sem,hg0,hi0,g1,ga0]<;>rfl)));refine zct ?_;have hlp:=zjx 0 0 bs NS (by omega) (fun n hn=>(hF.node hn).1) (by omega);unfold zf7 at hlp;have fzL:∀(G:List zn),Frz (.row 116 2 (acc.length+1) 0 ((acc.map fun L=>zby 0 0 L.1 L.2)++[zby 0 0 bs NS])::G) 0 (.sl 0 (acc.length+1) 0 (acc.length+1) (2*(acc.length+1)) 2) (zbQ (acc++[(bs,NS)])):=fun G=>by
      have e:(acc.map fun L=>zby 0 0 L.1 L.2)++[zby 0 0 bs NS]=(acc++[(bs,NS)]).map fun L=>zby 0 0 L.1 L.2:=by simp
      rw[e];exact Frz.whole rfl rfl (by simp) (by simp) (fun v hv=>by obtain⟨x,_,rfl⟩:=zAM9.1 hv;rfl) zwb
     by_cases hri:zbn (levP NS)=true
     ·rw[if_pos hri]at hlp;(repeat refine za ?_);refine zAU ?_;refine zfx ?_ (by simp(disch:=omega)only[go_sem,ga0]<;>rfl);refine zca hlp ?_;refine zN ?_;refine zOF h6 ?_;rw[<- hR,hri];exact Frz.tupL ⟨fzL _,.bool _,trivial⟩
     ·rw[if_neg hri]at hlp;(repeat refine za ?_);refine zAU ?_;refine zfx ?_ (by simp(disch:=omega)only[go_sem,ga0]<;>rfl);refine zca hlp ?_;refine zN ?_;refine zOF h6 ?_;rw[<- hR,show zbn (levP NS)=false by simpa using hri];exact Frz.tupL ⟨fzL _,.bool _,trivial⟩
    ·have g1:¬(nd.level:Int)-1<0:=by omega
     rw[if_neg hlv]at hR;(repeat(first|refine za ?_|refine zgo ?_ (by simp(disch:=omega)only[go_sem,hg0,hi0,g1,ga0]<;>rfl)));refine zcf ?_;refine zBl ?_;show W _ _ _ _ _ _;(repeat refine za ?_);refine zrg ?_ (by simp(disch:=omega)only[go_sem,hg0,hi0,ga0]<;>rfl);refine zr ?_;have e14:((14-(d+1):Nat):Int)+1=((14-d:Nat):Int):=by omega
     refine zJF (zr2 h10 e14) ?_;refine⟨d,zCE9 _,d,s',acc++[(bs,NS)],nd.left,(nd.level:Int)-1,sR++bs,g+1,?G,rfl,?c1,?c2,hR,?c3,?c4,?c5,zu h0,zt,zt,zt,zt,zu h10,zt,?H⟩
     case c1=>omega
     case c2=>omega
     case c3=>intro x;rw[x2];simp[hS x,or_comm]
     case c4=>simp;omega
     case c5=>simp;omega
     case H=>simp only[zAD9,zAE9,zAF9,zAR9,zBJ9,zCC9,zCD9];rfl
theorem f62:ET.funcs.get 62=some T62:=zH Tryz.func62
section mid2
variable {α:Type}
theorem gb0 (G G2 l:List α)(a b:α):(G++a::(G2++b::l))[G.length+(G2.length+1)]?=some b:=by
 rw[zAP9 (by omega),show G.length+(G2.length+1)-G.length=G2.length+1 by omega,zAY9];exact ga0 _ _ _
theorem gb1 (G G2 l:List α)(a b c:α):(G++a::(G2++b::c::l))[G.length+(G2.length+1)+1]?=some c:=by
 rw[zAP9 (by omega),show G.length+(G2.length+1)+1-G.length=G2.length+1+1 by omega,zAY9];exact ga1 _ _ _ _
theorem zuL (G G2 l:List α)(a b c:α):(G++a::(G2++b::c::l))[G.length+(G2.length+1+1)]?=some c:=gb1 G G2 l a b c
end mid2
@[reducible] def kP (K:List Pr):List PV:=K.map fun x=>uv x.2
@[reducible] def kL (K:List Pr):List PV:=K.map fun x=>uv x.1
def chH (z:PV)(K:List Pr)(G:List zn):List zn:=.row 116 2 0 0 [z]::.row 24 1 K.length 0 (kP K)::.row 24 1 K.length 0 (kL K)::G
set_option maxHeartbeats 2000000 in
theorem zpX (p q:Nat)(bs:List Nat)(L:List zC)(hl:L.length<=3000)(hp:∀n∈L,n.pairs.length<=28):FN ET 62 [zby p q bs L] (.ret (.tuple [.list 0 1 (kP (L.flatMap zcC)),.list 0 1 (kL (L.flatMap zcC))])):=by
 have lbk:∀(f:Pr->Nat) (K:List Pr),Lb (.list 0 1 (K.map fun x=>uv (f x))):=fun f K=>by
  have:(K.map fun x=>uv (f x))=(K.map f).map uv:=by rw[zDH9];rfl
  rw[this];exact Lb.uvs _
 refine zfn f62 (Lb.two (lbk _ _) (lbk _ _)) ?_;refine zG ?_;refine zb2 24 1 (i:=4) rfl ?_;refine zb2 24 1 (i:=5) rfl ?_;simp only[lzy,zAD9,zAE9,zAF9,zAR9,zAG9,zAI9,zAK9];refine zG ?_;refine zB (zar (fun m s=>∃(i:Nat) (K:List Pr) (G:List zn),m=L.length-i/\i<=L.length/\K=(L.take i).flatMap zcC/\s.tm 1=.ptr 0 0 0 0 2/\s.tm 4=.sl 1 K.length 0 K.length (2*K.length) 1/\s.tm 5=.sl 2 K.length 0 K.length (2*K.length) 1/\s.tm 6=iv i/\s.df=[]/\s.H=chH (zby p q bs L) K G) (n:=L.length) ?_ ?_)
 ·exact⟨0,[],[],rfl,by omega,rfl,zt,zt,zt,zt,rfl,rfl⟩
 ·rintro m ⟨tm,df,H⟩ ⟨i,K,G,rfl,hi,hK,h1,h4,h5,h6,rfl,rfl⟩;dsimp only at h1 h4 h5 h6;unfold chH;(try refine zBp ?_);refine za (zAV (zr2 h1 h6) ?_);refine zwh ?_ ?_;rotate_left
  ·intro hlt;have hlt:¬i<L.length:=by have:=of_decide_eq_false hlt;omega
   obtain rfl:i=L.length:=by omega
   rw[zBG9]at hK;refine zOF (zr2 h4 h5) ?_;rw[<- hK];have fk:∀(f:Pr->Nat),∀v∈(K.map fun x=>uv (f x)).flatMap PV.cells,Id0 v:=fun f v hv=>by
    obtain⟨y,hy,hv⟩:=zBB9.1 hv;obtain⟨x,_,rfl⟩:=zAM9.1 hy;simp[PV.cells]at hv;subst hv;exact .int _ _
   refine Frz.tupL ⟨?_,?_,trivial⟩
   ·exact Frz.whole (l:=kP K) rfl rfl (by simp) (by simp) (fun v hv=>by obtain⟨x,_,rfl⟩:=zAM9.1 hv;rfl) (fk _)
   ·exact Frz.whole (l:=kL K) rfl rfl (by simp) (by simp) (fun v hv=>by obtain⟨x,_,rfl⟩:=zAM9.1 hv;rfl) (fk _)
  intro hlt;have hlt:i<L.length:=by have:=of_decide_eq_true hlt;omega
  obtain⟨n,hn⟩:∃n,L[i]?=some n:=⟨_,zAB9 hlt⟩
  have hnv:(L.map (zW q))[i]?=some (zW q n):=by rw[zAH9,hn];rfl
  have hp28:=hp n (zAO9 hn);have hK2:(L.take (i+1)).flatMap zcC=(K++[(n.low,n.left)])++n.pairs:=by
   rw[zBE9,hn,zCN9,<- hK];simp[zcC]
  have hKl:K.length<=29*i:=by
   rw[hK];have:∀M:List zC,(∀n∈M,n.pairs.length<=28)->(M.flatMap zcC).length<=29*M.length:=fun M=>by
    induction M with
    | nil=>intro _;simp
    | cons z M ih =>
     intro h;have h1:=h z (zAU9 ..);have h2:=ih fun n hn=>h n (zAT9 _ hn);rw[zBS9,zAD9,zAE9];simp only[zcC,zAE9];omega
   have:=this (L.take i) fun n hn=>hp n (zBX9 hn);rw[zBA9]at this;omega
  (repeat refine za ?_);refine zB ?_;refine zGF (zr4 h1 h6 hnv hlt) ?_;have hbb:(K.length+1)*9<=140737488355328:=by omega
  (repeat refine za ?_);refine zad ?_;refine zda ?_ (by simp(disch:=omega)only[go_sem,h1,h4,h5,h6,hbb,zbI,zbL,zbJ,zbK,ga0,ga1,ga2,zAG9,zAD9]<;>rfl) (by first|exact trivial|simp only[go_sem,h1,h4,h5,h6,hbb,zbI,zbL,zbJ,zbK,ga0,ga1,ga2,zAG9,zAD9]);refine zda ?_ (by simp(disch:=omega)only[go_sem,h1,h4,h5,h6,hbb,zbI,zbL,zbJ,zbK,ga0,ga1,ga2,zAG9,zAD9]<;>rfl) (by first|exact trivial|simp only[go_sem,h1,h4,h5,h6,hbb,zbI,zbL,zbJ,zbK,ga0,ga1,ga2,zAG9,zAD9]);refine zdl ?_ (by simp(disch:=omega)only[go_sem,h1,h4,h5,h6,hbb,zbI,zbL,zbJ,zbK,ga0,ga1,ga2,zAG9,zAD9]<;>rfl) (by first|exact trivial|simp only[go_sem,h1,h4,h5,h6,hbb,zbI,zbL,zbJ,zbK,ga0,ga1,ga2,zAG9,zAD9]);refine zL ?_;simp only[go_sem];refine zG ?_;have hKa:K.length+1=(K++[(n.low,n.left)]).length:=by simp
  have hKb:kP K++[uv n.left]=kP (K++[(n.low,n.left)]):=by simp
  have hKc:kL K++[uv n.low]=kL (K++[(n.low,n.left)]):=by simp
  refine zB (zar (fun m s=>∃(j:Nat) (K2:List Pr) (G2:List zn),m=n.pairs.length-j/\j<=n.pairs.length/\K2=K++[(n.low,n.left)]++n.pairs.take j/\s.tm 1=.ptr 0 0 0 0 2/\s.tm 4=.sl 1 K2.length 0 K2.length (2*K2.length) 1/\s.tm 5=.sl 2 K2.length 0 K2.length (2*K2.length) 1/\s.tm 6=iv i/\s.tm 7=.ptr (G.length+1+1+1) 0 0 0 6/\s.tm 8=iv j/\s.df=[]/\s.H=chH (zby p q bs L) K2 (G++.row 124 6 0 0 [zW q n]::G2)) (n:=n.pairs.length) ?_ ?_)
  ·refine⟨0,K++[(n.low,n.left)],?G0,rfl,zAS9 _,by simp,zu h1,zt,zt,zu h6,zt,zt,rfl,?H0⟩
   case H0 =>
    unfold chH;rw[<- hKa,<- hKb,<- hKc]
  ·clear h1 h4 h5 h6;rintro m ⟨tm,df,H⟩ ⟨j,K2,G2,rfl,hj,hK3,h1,h4,h5,h6,h7,h8,rfl,rfl⟩;dsimp only at h1 h4 h5 h6 h7 h8;have hK2l:K2.length<=100000:=by rw[hK3];simp;omega
   have hbb:(K2.length+1)*9<=140737488355328:=by omega
   unfold chH;(try refine zBp ?_);refine za (zgo ?_ (by simp(disch:=omega)only[go_sem,h7,h8,ga0]<;>rfl));refine zwh ?_ ?_;rotate_left
   ·intro hltj;have hltj:¬j<n.pairs.length:=by have:=of_decide_eq_false hltj;omega
    obtain rfl:j=n.pairs.length:=by omega
    refine zJF h6 ?_;refine⟨_,?m9,i+1,K2,_,rfl,hlt,by rw[hK2,hK3,zBG9],zu h1,zu h4,zu h5,zu h6,rfl,rfl⟩
    case m9=>omega
   intro hltj;have hltj:j<n.pairs.length:=by have:=of_decide_eq_true hltj;omega
   obtain⟨x,hx⟩:∃x,n.pairs[j]?=some x:=⟨_,zAB9 hltj⟩
   have hxv:(n.pairs.map pv)[j]?=some (pv x):=by rw[zAH9,hx];rfl
   (repeat refine za ?_);refine zB ?_;(repeat refine za ?_);refine zad ?_;refine zda ?_ (by simp(disch:=omega)only[go_sem,hxv,hltj,h7,h8,gb0,gb1,zuL,h1,h4,h5,h6,hbb,zbI,zbL,zbJ,zbK,ga0,ga1,ga2,zAG9,zAD9]<;>rfl) (by first|exact trivial|simp only[go_sem,hxv,hltj,h7,h8,gb0,gb1,zuL,h1,h4,h5,h6,hbb,zbI,zbL,zbJ,zbK,ga0,ga1,ga2,zAG9,zAD9]);refine zda ?_ (by simp(disch:=omega)only[go_sem,hxv,hltj,h7,h8,gb0,gb1,zuL,h1,h4,h5,h6,hbb,zbI,zbL,zbJ,zbK,ga0,ga1,ga2,zAG9,zAD9]<;>rfl) (by first|exact trivial|simp only[go_sem,hxv,hltj,h7,h8,gb0,gb1,zuL,h1,h4,h5,h6,hbb,zbI,zbL,zbJ,zbK,ga0,ga1,ga2,zAG9,zAD9]);refine zdl ?_ (by simp(disch:=omega)only[go_sem,h1,h4,h5,h6,hbb,zbI,zbL,zbJ,zbK,ga0,ga1,ga2,zAG9,zAD9]<;>rfl) (by first|exact trivial|simp only[go_sem,h1,h4,h5,h6,hbb,zbI,zbL,zbJ,zbK,ga0,ga1,ga2,zAG9,zAD9]);refine zL ?_;simp only[go_sem];refine zJF h8 ?_;refine⟨_,?m8,j+1,K2++[x],?G8,rfl,hltj,?k8,zu h1,zt,zt,zu h6,zu h7,zu h8,zt,?H8⟩
   case m8=>omega
   case k8=>rw[hK3,zBE9,hx];simp
   case H8 =>
    simp only[zAD9,zAE9,zAF9,zAR9,zBJ9,zCC9,zCD9];rfl
theorem f57:ET.funcs.get 57=some T57:=zH Tryz.func57
theorem f22:ET.funcs.get 22=some T22:=zH Tryz.func22
theorem zjg (p:Nat)(w:List Nat)(a:Int)(hw:za7 w.length):FN ET 57 [wv p w,iv a] (.ret (.bool (zbO w.length a))):=by
 refine zfn f57 (.bool _) ?_
 by_cases h1:64<=w.length
 rotate_left
 ·have g1:¬(64:Int)<=w.length:=by omega
  refine zOF g1 ?_;exact za0.bool (by simp[zbO,h1])
 have g1:(64:Int)<=w.length:=by omega
 by_cases h2:w.length%64=0
 rotate_left
 ·have g2:¬(w.length:Int).tmod 64=0:=by rw[IntWalk.rem_in _ _ (by omega)];omega
  refine zOF (zr2 g1 g2) ?_;exact za0.bool (by simp[zbO,h1,h2])
 have g2:(w.length:Int).tmod 64=0:=by rw[IntWalk.rem_in _ _ (by omega)];omega
 by_cases h3:w.length<=131072
 rotate_left
 ·have g3:¬(w.length:Int)<=131072:=by omega
  refine zOF (zr3 g1 g2 g3) ?_;exact za0.bool (by simp[zbO,h1,h2,h3])
 have g3:(w.length:Int)<=131072:=by omega
 by_cases h4:(0:Int)<=a
 rotate_left
 ·refine zOF (zr4 g1 g2 g3 h4) ?_;exact za0.bool (by simp[zbO,h1,h2,h3,h4])
 refine zOF (zr4 g1 g2 g3 h4) ?_;exact za0.bool (by simp[zbO,h1,h2,h3,h4])
theorem zqH (w:List Nat)(bs:List Nat)(ns:List zC)(k:Nat)(h:ns.length<=k):zck w (bs.drop k) (ns.drop k)=true:=by
 rw[zFB9 h]
 cases bs.drop k<;>rfl
theorem zq0 (w:List Nat)(T:List Lev)(i:Nat)(L:Lev)(hL:T[i]?=some L):zbX w (T.drop i)=(zck w L.1 L.2&&(match T[i+1]? with|some M=>decide (L.2.flatMap zcC=zcU M)&&zbX w (T.drop (i+1))|none=>true)):=by
 have hi:=(zAC9.1 hL).1;have e:T.drop i=L::T.drop (i+1):=by
  rw[zAW9 hi];rw[zAB9 hi]at hL;injection hL with hL;rw[hL]
 rw[e]
 cases hM:T[i+1]? with
 | none=>rw[zFB9 (by have:=zFJ9.1 hM;omega)];simp[zbX]
 | some M =>
  have hi1:=(zAC9.1 hM).1;have e1:T.drop (i+1)=M::T.drop (i+2):=by
   rw[zAW9 hi1];rw[zAB9 hi1]at hM;injection hM with hM;rw[hM]
  rw[e1,zbX,Bool.and_assoc]
def zkg (w:List Nat)(b:Nat)(n:zC)(z:Option zC):Bool:=decide (zbi (zA w b)=0)&&zdp n z
set_option maxHeartbeats 4000000 in
theorem zuF (p:Nat)(w:List Nat)(a:Int)(hw:64<=w.length/\w.length<=131072)(T:List Lev)(hr:FN ET 57 [wv p w,iv a] (.ret (.bool true)))(hl:FN ET 50 [wv p w,iv a] (.ret (.tuple [zbQ T,.bool true])))(f1:∀L∈T,zhL w L)(f3:T ≠ [])(f5:T.length<=14) :
  FN ET 22 [wv p w,iv a] (.ret (iv ((if zfe w T=true then 0 else 220:Nat):Int))):=by
 refine zfn f22 (.int _ _) ?_;obtain⟨L0,R,rfl⟩:∃L0 R,T=L0::R:=by
  cases T with
  | nil=>exact absurd rfl f3
  | cons a l=>exact⟨a,l,rfl⟩
 have hT0:(List.map (fun L=>zby 0 0 L.1 L.2) (L0::R))[0]?=some (zby 0 0 L0.1 L0.2):=rfl;obtain⟨n0,hn0,hsb⟩:∃n0:zC,(L0.2.map (zW 0))[0]?=some (zW 0 n0)/\zrx (L0::R)=decide (n0.sib=0):=by
  have:=(f1 L0 (zAU9 ..)).ne;obtain⟨bs,ns⟩:=L0
  cases ns with
  | nil=>exact absurd rfl this
  | cons n ns=>exact⟨n,rfl,rfl⟩
 have hnl:0<L0.2.length:=zBV9.2 (f1 L0 (zAU9 ..)).ne;have hrl:0<R.length+1:=zCQ9 _;refine zG ?_;refine zI ?_;refine zca hr ?_;refine zN ?_;refine zcf ?_;refine zBl ?_;show W _ _ _ _ _ _;refine zI ?_;refine zca hl ?_;refine zN ?_
 by_cases hsib:n0.sib=0
 rotate_left
 ·have g:¬(n0.sib:Int)=0:=by omega
  refine zSF (zr5 hT0 hn0 hnl hrl g) ?_;refine zO ?_;rw[if_neg (by unfold zfe;rw[hsb];simp[hsib])];exact Frz.int _ _
 have g:(n0.sib:Int)=0:=by omega
 refine zTF (zr5 hT0 hn0 hnl hrl g) ?_;refine zBl ?_;show W _ _ _ _ _ _;refine zG ?_;have hset:zfe w (L0::R)=zbX w (L0::R):=by unfold zfe;rw[hsb,hsib];rfl
 rw[hset];clear hset hsb hT0 hn0 hnl hrl g hsib;have hTpos:0<(L0::R).length:=zCQ9 _;have hTl:(L0::R).length=R.length+1:=rfl;generalize L0::R=T at *
 have bad:∀H,zbX w T=false->za0 H 0 (.ret (iv 220)) (.ret (iv ((if zbX w T=true then 0 else 220:Nat):Int))):=fun H h=>by rw[h];exact Frz.int _ _
 have good:zbX w T=true->((if zbX w T=true then 0 else 220:Nat):Int)=0:=fun h=>by rw[h];rfl
 refine zB (zar (fun m s=>∃(i:Nat) (H:List zn),m=T.length-i/\i<T.length/\zbX w T=zbX w (T.drop i)/\s.tm 0=wv p w/\s.tm 5=zbQ T/\s.tm 7=iv i/\s.df=[]/\s.H=H) (n:=T.length) ?_ ?_)
 ·exact⟨0,_,rfl,hTpos,rfl,zt,zt,zt,rfl,rfl⟩
 ·rintro m ⟨tm,df,H⟩ ⟨i,H',rfl,hlt,hls,h0,h5,h7,rfl,rfl⟩;dsimp only at h0 h5 h7;have g7:(i:Int)<(T.length:Nat):=by omega
  (try refine zBp ?_);refine za (zAV (zr3 h5 h7 g7) ?_);refine zwh ?_ ?_;rotate_left
  ·intro h;exact absurd h (by simp[hlt])
  intro _;obtain⟨L,hL⟩:∃L,T[i]?=some L:=⟨_,zAB9 hlt⟩
  have hLT:(T.map fun L=>zby 0 0 L.1 L.2)[i]?=some (zby 0 0 L.1 L.2):=by rw[zAH9,hL];rfl
  have hLF:=f1 L (zAO9 hL);rw[zq0 w T i L hL]at hls;have hbl:=hLF.lv.len;have hfew:=hLF.few;(repeat refine za ?_);refine zB ?_;(repeat refine za ?_);refine zG ?_;refine zB (zar (fun m s=>∃(k:Nat) (H:List zn),m=L.2.length-k/\k<=L.2.length/\zck w L.1 L.2=zck w (L.1.drop k) (L.2.drop k)/\s.tm 0=wv p w/\s.tm 5=zbQ T/\s.tm 7=iv i/\s.tm 8=iv k/\s.df=[]/\s.H=H) (n:=L.2.length) ?_ ?_)
  ·exact⟨0,_,rfl,zAS9 _,rfl,zu h0,zu h5,zu h7,zt,rfl,rfl⟩
  clear h0 h5 h7;rintro m ⟨tm,df,H⟩ ⟨k,H',rfl,hk,hns,h0,h5,h7,h8,rfl,rfl⟩;dsimp only at h0 h5 h7 h8;(try refine zBp ?_);refine za (zAV (zr5 h5 h7 h8 hLT hlt) ?_);refine zwh ?_ ?_
  ·intro hltk;have hltk:k<L.2.length:=by have:=of_decide_eq_true hltk;omega
   obtain⟨n,hn⟩:∃n,L.2[k]?=some n:=⟨_,zAB9 hltk⟩
   obtain⟨b,hb⟩:∃b,L.1[k]?=some b:=⟨_,zAB9 (by omega)⟩
   have hnv:(L.2.map (zW 0))[k]?=some (zW 0 n):=by rw[zAH9,hn];rfl
   have hbv:(L.1.map fun(b:Nat)=>iv (b:Int))[k]?=some (iv b):=by rw[zAH9,hb];rfl
   have hltb:k<L.1.length:=by omega
   have hbb:=(hLF.lv.each b (zAO9 hb)).1;rw[zjW w L.1 L.2 k b n hb hn]at hns;have w1:IntKind.i64.wrap ((64:Int)*(b:Int))=((64*b:Nat):Int):=zwi;(repeat refine za ?_);refine zB ?_;refine zGF (zBc h5 h7 h8 hLT hlt hnv hbv hltk hltb w1) ?_;have e2:((64*b:Nat):Int)+64=((64*b+64:Nat):Int):=by omega
   have e3:64*b<=64*b+64:=by omega
   have e4:64*b+64<=w.length:=by omega
   have e6:0<w.length:=by omega
   have e5:List.drop (64*b) (List.take (64*b+64) (List.map uv w))=(zA w b).map uv:=by simp[zA,zCM9,zDL9]
   have hC:=zf6 p (zA w b) (by unfold zA za7;simp;omega);refine zcI (fun tm=>tm 0=wv p w/\tm 5=zbQ T/\tm 7=iv i/\tm 8=iv k/\tm 9=iv (64*b:Nat)/\tm 10=psv 0 n.pairs) ⟨zu h0,zu h5,zu h7,zu h8,zt,by simp[upd]⟩ ?_;clear h0 h5 h7 h8;rintro tm ⟨h0,h5,h7,h8,h9,h10⟩;refine zbD (Q:=fun y s'=>y=.norm/\s'.tm 0=wv p w/\s'.tm 5=zbQ T/\s'.tm 7=iv i/\s'.tm 8=iv k/\s'.tm 112=.bool (!zkg w b n L.2[k+1]?)/\s'.df=[]) (zad ?_) ?_
   ·have e1:(k:Int)+1=((k+1:Nat):Int):=by omega
    unfold zkg;generalize zbi (zA w b)=c at *
    refine zAZ (zr7 h9 h0 e2 e3 e4 e5 e6) hC ?_
    by_cases hc:c=0
    rotate_left
    ·have gc:¬(c:Int)=0:=by omega
     refine zQF gc ?_;exact⟨h0,h5,h7,h8,by simp[hc]⟩
    have gc:(c:Int)=0:=by omega
    rw[decide_eq_true hc,zBY9]
    by_cases hk1:k+1<L.2.length
    rotate_left
    ·have g1:¬((k+1:Nat):Int)<(L.2.length:Nat):=by omega
     have hz:L.2[k+1]?=none:=zBP9 (by omega);refine zQF (zBb gc g1 h0 h5 h7 h8 h9 h10 e1 hLT hlt) ?_;exact⟨h0,h5,h7,h8,by rw[hz];unfold zdp;cases n.pairs.getLast? <;> rfl⟩
    have g1:((k+1:Nat):Int)<(L.2.length:Nat):=by omega
    obtain⟨z,hz⟩:∃z,L.2[k+1]?=some z:=⟨_,zAB9 hk1⟩
    have hzv:(L.2.map (zW 0))[k+1]?=some (zW 0 z):=by rw[zAH9,hz];rfl
    rw[hz]
    by_cases hp0:n.pairs=[]
    ·have g2:¬(0:Int)<(n.pairs.length:Nat):=by rw[hp0];simp
     refine zQF (zBa gc g1 g2 h0 h5 h7 h8 h9 h10 e1 hLT hlt) ?_;have hll:zdp n (some z)=true:=by unfold zdp;rw[hp0];rfl
     exact⟨h0,h5,h7,h8,by rw[hll];rfl⟩
    have hn28:=(hLF.lv.node (zAO9 hn)).1;have hpl:0<n.pairs.length:=zBV9.2 hp0;have g2:(0:Int)<(n.pairs.length:Nat):=by omega
    obtain⟨q,hq⟩:∃q,n.pairs.getLast?=some q:=by
     cases hh:n.pairs.getLast? with
     | none=>rw[zDA9]at hh;exact absurd hh hp0
     | some q=>exact⟨q,rfl⟩
    have hq2:n.pairs[n.pairs.length-1]?=some q:=by rw[<- zCJ9];exact hq
    have hqv:(n.pairs.map pv)[n.pairs.length-1]?=some (pv q):=by rw[zAH9,hq2];rfl
    have g3:(n.pairs.length:Int)-1=((n.pairs.length-1:Nat):Int):=by omega
    have g4:n.pairs.length-1<n.pairs.length:=by omega
    have hll:zdp n (some z)=decide (q.1<z.low):=by unfold zdp;rw[hq]
    rw[hll]
    by_cases hqz:q.1<z.low
    ·have g5:¬(z.low:Int)<=q.1:=by omega
     refine zQF (zBa gc g1 g2 g3 g4 g5 hk1 hzv hqv h0 h5 (zr7 h7 h8 h9 h10 e1 hLT hlt)) ?_;exact⟨h0,h5,h7,h8,by simp[hqz]⟩
    ·have g5:(z.low:Int)<=q.1:=by omega
     refine zQF (zBa gc g1 g2 g3 g4 g5 hk1 hzv hqv h0 h5 (zr7 h7 h8 h9 h10 e1 hLT hlt)) ?_;exact⟨h0,h5,h7,h8,by simp[hqz]⟩
   clear h0 h5 h7 h8 h9 h10;rintro y ⟨tm,df,H⟩ ⟨rfl,h0,h5,h7,h8,h112,rfl⟩;dsimp only at h0 h5 h7 h8 h112
   cases hok:zkg w b n L.2[k+1]? with
   | false =>
    rw[hok]at h112;refine zct ?_ (by simp only[go_sem,h112]<;>rfl);refine zO ?_;exact bad _ (by rw[hls,hns];unfold zkg at hok;rw[hok];rfl)
   | true =>
    rw[hok]at h112;refine zcf ?_ (by simp only[go_sem,h112]<;>rfl);refine zBl ?_;refine zJF h8 ?_;unfold zkg at hok;refine⟨_,?m1,k+1,_,rfl,hltk,by rw[hns,hok,zBY9],zu h0,zu h5,zu h7,zu h8,rfl,rfl⟩
    case m1=>omega
  ·intro hltk;have hltk:¬k<L.2.length:=by have:=of_decide_eq_false hltk;omega
   rw[zqH w L.1 L.2 k (by omega)]at hns;rw[hns,zBY9]at hls;have gT:(T.length:Int)-1=((T.length-1:Nat):Int):=by omega
   by_cases hi1:i+1<T.length
   rotate_left
   ·have g1:(i:Int)=((T.length-1:Nat):Int):=by omega
    have hM:T[i+1]?=none:=zBP9 (by omega);rw[hM]at hls;refine zSF (zr4 h5 h7 gT g1) ?_;refine zhE ?_;refine zO ?_;rw[good hls];exact Frz.int _ _
   have g1:¬(i:Int)=((T.length-1:Nat):Int):=by omega
   obtain⟨M,hM⟩:∃M,T[i+1]?=some M:=⟨_,zAB9 hi1⟩
   rw[hM]at hls;dsimp only at hls;have hMT:(T.map fun L=>zby 0 0 L.1 L.2)[i+1]?=some (zby 0 0 M.1 M.2):=by rw[zAH9,hM];rfl
   have hMF:=f1 M (zAO9 hM);have hml:=hMF.lv.len;have hMfew:=hMF.few;have hch:=zpX 0 0 L.1 L.2 (by omega) fun n hn=>(hLF.lv.node hn).1;generalize L.2.flatMap zcC=K at *
   have e1:(i:Int)+1=((i+1:Nat):Int):=by omega
   refine zTF (zr4 h5 h7 gT g1) ?_;refine zBl ?_;show W _ _ _ _ _ _;(repeat refine za ?_);refine zAU ?_;refine zAW (zr4 h5 h7 hLT hlt) ?_;refine zca hch ?_;refine zN ?_;have hlow:(zcU M).length=M.2.length:=by unfold zcU;simp[hml]
   by_cases hKl:K.length=M.2.length
   rotate_left
   ·have g2:¬(K.length:Int)=(M.2.length:Nat):=by omega
    refine zSF (zr6 h5 h7 e1 hMT hi1 g2) ?_;refine zO ?_;refine bad _ ?_;rw[hls,decide_eq_false (fun h=>hKl (by rw[h,hlow])),zDQ9]
   have g2:(K.length:Int)=(M.2.length:Nat):=by omega
   refine zTF (zr6 h5 h7 e1 hMT hi1 g2) ?_;refine zBl ?_;show W _ _ _ _ _ _;refine zG ?_;refine zB (zar (fun m s=>∃(j:Nat) (H:List zn),m=K.length-j/\j<=K.length/\(∀q,q<j->K[q]?=(zcU M)[q]?)/\s.tm 0=wv p w/\s.tm 5=zbQ T/\s.tm 7=iv i/\s.tm 11=.list 0 1 (kP K)/\s.tm 12=.list 0 1 (kL K)/\s.tm 13=iv j/\s.df=[]/\s.H=H) (n:=K.length) ?_ ?_)
   ·exact⟨0,_,rfl,zAS9 _,fun q hq=>absurd hq (zFI9 _),zu h0,zu h5,zu h7,zt,zt,zt,rfl,rfl⟩
   clear h0 h5 h7 h8 hns hch;rintro m ⟨tm,df,H⟩ ⟨j,H',rfl,hj,hsame,h0,h5,h7,h11,h12,h13,rfl,rfl⟩;dsimp only at h0 h5 h7 h11 h12 h13;(try refine zBp ?_);refine za (zAV (zr2 h11 h13) ?_);refine zwh ?_ ?_;rotate_left
   ·intro hltj;have hltj:¬j<K.length:=by have:=of_decide_eq_false hltj;omega
    have hKM:K=zcU M:=zFC9 fun q=>by
     by_cases hq:q<j
     ·exact hsame q hq
     ·rw[zBP9 (by omega),zBP9 (by omega)]
    rw[decide_eq_true hKM,zBY9]at hls;refine zJF (zr2 h7 e1) ?_;refine⟨_,?m2,i+1,_,rfl,hi1,hls,zu h0,zu h5,zu h7,rfl,rfl⟩
    case m2=>omega
   intro hltj;have hltj:j<K.length:=by have:=of_decide_eq_true hltj;omega
   obtain⟨x,hx⟩:∃x,K[j]?=some x:=⟨_,zAB9 hltj⟩
   obtain⟨z,hz⟩:∃z,M.2[j]?=some z:=⟨_,zAB9 (by omega)⟩
   obtain⟨b,hb0⟩:∃b,M.1[j]?=some b:=⟨_,zAB9 (by omega)⟩
   have hKv:(kP K)[j]?=some (uv x.2):=by rw[zAH9,hx];rfl
   have hLv:(kL K)[j]?=some (uv x.1):=by rw[zAH9,hx];rfl
   have hzv:(M.2.map (zW 0))[j]?=some (zW 0 z):=by rw[zAH9,hz];rfl
   have hbv:(M.1.map fun(b:Nat)=>iv (b:Int))[j]?=some (iv b):=by rw[zAH9,hb0];rfl
   have hb:j<M.1.length:=by omega
   have hzl:j<M.2.length:=by omega
   have hbb:=(hMF.lv.each b (zAO9 hb0)).1;have w1:IntKind.u64.wrap (b:Int)=(b:Int):=zwu;have hlj:(zcU M)[j]?=some (z.low,b):=by unfold zcU;rw[zDI9];exact⟨by rw[zAH9,hz];rfl,hb0⟩
   have hKf:¬x=(z.low,b)->zbX w T=false:=fun h=>by
    rw[hls,decide_eq_false (fun e=>h (by rw[e,hlj]at hx;injection hx with hx;exact hx.symm)),zDQ9]
   (repeat refine za ?_);refine zB ?_;refine za (zbD (Q:=fun y s'=>y=.norm/\s'.tm 0=wv p w/\s'.tm 5=zbQ T/\s'.tm 7=iv i/\s'.tm 11=.list 0 1 (kP K)/\s'.tm 12=.list 0 1 (kL K)/\s'.tm 13=iv j/\s'.tm 173=.bool (!decide (x=(z.low,b)))/\s'.df=[]) (zad ?_) ?_)
   ·by_cases c1:x.2=b
    rotate_left
    ·have d1:¬(x.2:Int)=b:=by omega
     refine zQF (zBa d1 h5 h7 h11 h12 h13 e1 hMT hi1 hKv hLv (zr4 hltj hbv hb w1)) ?_;exact⟨h0,h5,h7,h11,h12,h13,by rw[decide_eq_false (fun e=>c1 (by rw[e]))];rfl⟩
    have d1:(x.2:Int)=b:=by omega
    by_cases c2:x.1=z.low
    rotate_left
    ·have d2:¬(x.1:Int)=z.low:=by omega
     refine zQF (zBa d1 d2 hzv hzl h5 h7 h11 h12 h13 e1 hMT (zr7 hi1 hKv hLv hltj hbv hb w1)) ?_;exact⟨h0,h5,h7,h11,h12,h13,by rw[decide_eq_false (fun e=>c2 (by rw[e]))];rfl⟩
    have d2:(x.1:Int)=z.low:=by omega
    refine zQF (zBa d1 d2 hzv hzl h5 h7 h11 h12 h13 e1 hMT (zr7 hi1 hKv hLv hltj hbv hb w1)) ?_;exact⟨h0,h5,h7,h11,h12,h13,by rw[decide_eq_true (Prod.ext c2 c1)];rfl⟩
   clear h0 h5 h7 h11 h12 h13;rintro y ⟨tm,df,H⟩ ⟨rfl,h0,h5,h7,h11,h12,h13,h173,rfl⟩;dsimp only at h0 h5 h7 h11 h12 h13 h173
   by_cases hxe:x=(z.low,b)
   rotate_left
   ·rw[decide_eq_false hxe]at h173;refine zct ?_ (by simp only[go_sem,h173]<;>rfl);refine zO ?_;exact bad _ (hKf hxe)
   rw[decide_eq_true hxe]at h173;refine zcf ?_ (by simp only[go_sem,h173]<;>rfl);refine zBl ?_;refine zJF h13 ?_;refine⟨_,?m3,j+1,_,rfl,hltj,fun q hq=>?q3,zu h0,zu h5,zu h7,zu h11,zu h12,zu h13,rfl,rfl⟩
   case m3=>omega
   case q3 =>
    rcases zCY9 q j with h|h
    ·exact hsame q h
    ·obtain rfl:q=j:=by omega
     rw[hx,hlj,hxe]
theorem zt2 (p:Nat)(w:List Nat)(a:Int)(hs:za7 w.length):FN ET 22 [wv p w,iv a] (.ret (iv (ziQ w a:Nat))):=by
 have hr:=zjg p w a hs;unfold ziQ
 by_cases h:zbO w.length a=true
 rotate_left
 ·rw[if_neg h];rw[show zbO w.length a=false by simpa using h]at hr;refine zfn f22 (.int _ _) ?_;refine zG ?_;refine zI ?_;refine zca hr ?_;refine zN ?_;refine zU ?_;exact Frz.int _ _
 rw[if_pos h];have hb:=(zdR _ _).1 h;rw[h]at hr;obtain⟨n,rfl⟩:∃n:Nat,a=n:=⟨a.toNat,by omega⟩
 rw[zCV9];have hl:=zfj p w ⟨hb.1,hb.2.2.1⟩ n (by omega);obtain⟨e1,e2⟩:=zeG w n
 by_cases ht:(zac w n).2=true
 rotate_left
 ·rw[if_neg ht];rw[e1,show (zac w n).2=false by simpa using ht]at hl;generalize (zbM w n).1=T at hl;refine zfn f22 (.int _ _) ?_;refine zG ?_;refine zI ?_;refine zca hr ?_;refine zN ?_;refine zcf ?_;refine zBl ?_;show W _ _ _ _ _ _;refine zI ?_;refine zca hl ?_;refine zN ?_;refine zS ?_;refine zO ?_;exact Frz.int _ _
 rw[if_pos ht];rw[e1,e2 ht,ht]at hl;obtain⟨f1,f2,f3,f4,f5⟩:=zcN (w:=w) (T:=(zac w n).1) (by omega) n (by rw[<- ht]);exact zuF p w n ⟨hb.1,hb.2.2.1⟩ _ hr hl f1 f3 f5
theorem f92:ET.funcs.get 92=some T92:=zH Tryz.func92
theorem f45:ET.funcs.get 45=some T45:=zH Tryz.func45
theorem f46:ET.funcs.get 46=some T46:=zH Tryz.func46
def zg3 (n:Nat)(fr:List Int)(i:Nat)(f:Int):Bool:=decide (1<=f)&&decide (f<n) && !(fr.take i).contains f
def zfU (n:Nat)(fr:List Int)(k:Nat):Bool:=(List.range k).all fun i=>zg3 n fr i (fr.getD i 0)
theorem znj (n:Nat)(fr:List Int)(k:Nat):zfU n fr (k+1)=(zfU n fr k&&zg3 n fr k (fr.getD k 0)):=by
 unfold zfU;rw[zDG9,List.all_append];simp
theorem zri (n:Nat)(fr:List Int)(j:Nat):∀k,zfU n fr (j+k)=true->zfU n fr j=true
 | 0,h=>h
 | k+1,h=>by rw[<- zDK9,znj,zAQ9]at h;exact zri n fr j k h.1
def zmT (L:Lev)(fr:List Int):Bool:=fr.all fun f=>!(L.1.map fun(b:Nat)=>(b:Int)).contains f
def zgR (T:List Lev)(fr:List Int):Bool:=T.all fun L=>zmT L fr
def zA6 (w:List Nat)(a:Nat)(fr:List Int):Bool:=zfU (w.length/64) fr fr.length&&(!(zbM w a).2||zgR (zbM w a).1 fr)
set_option maxHeartbeats 4000000 in
theorem zwf (p r:Nat)(w:List Nat)(hw:64<=w.length/\w.length<=131072)(a:Nat)(ha:a<w.length)(fr:List Int)(hfl:fr.length<1000000)(hT:(zbM w a).1.length<=100)(hTb:∀L∈(zbM w a).1,L.1.length<=100000) :
  FN ET 92 [wv p w,iv a,.list r 1 (fr.map iv)] (.ret (.bool (zA6 w a fr))):=by
 refine zfn f92 (.bool _) ?_;have hl:=zfj p w hw a ha;unfold zA6;generalize (zbM w a).1=T at *
 generalize (zbM w a).2=fine at *
 refine zG ?_;refine zB (zar (fun m s=>∃(i:Nat) (H:List zn),m=fr.length-i/\i<=fr.length/\zfU (w.length/64) fr i=true/\s.tm 0=wv p w/\s.tm 1=iv a/\s.tm 2=.list r 1 (fr.map iv)/\s.tm 7=iv i/\s.df=[]/\s.H=H) (n:=fr.length) ?_ ?_)
 ·exact⟨0,_,rfl,zAS9 _,rfl,zt,zt,zt,zt,rfl,rfl⟩
 rintro m ⟨tm,df,H⟩ ⟨i,H',rfl,hi,hok,h0,h1,h2,h7,rfl,rfl⟩;dsimp only at h0 h1 h2 h7;(try refine zBp ?_);refine za (zAV (zr2 h2 h7) ?_);refine zwh ?_ ?_
 ·intro hlt;have hlt:i<fr.length:=by have:=of_decide_eq_true hlt;omega
  obtain⟨f,hf⟩:∃f,fr[i]?=some f:=⟨_,zAB9 hlt⟩
  have hfv:(fr.map iv)[i]?=some (iv f):=by rw[zAH9,hf];rfl
  have hfd:fr.getD i 0=f:=by rw[zAL9,hf];rfl
  have hs:=znj (w.length/64) fr i;rw[hok,zBY9,hfd]at hs;have q1:IntKind.i64.wrap ((w.length:Int).tdiv 64)=((w.length/64:Nat):Int):=by rw[IntWalk.i64_quo _ _ (by omega)];omega
  have hq:IntKind.i64.wrap ((w.length:Int)/64)=((w.length/64:Nat):Int):=zwi;have htk:List.take i (fr.map iv)=(fr.take i).map iv:=by rw[zDL9]
  have hile:i<=fr.length:=hi;have hh:=zmK r (fr.take i) f (by rw[zBA9];omega);(repeat refine za ?_);refine zB ?_;(repeat refine za ?_);refine zbD (Q:=fun y s'=>y=.norm/\s'.tm 0=wv p w/\s'.tm 1=iv a/\s'.tm 2=.list r 1 (fr.map iv)/\s'.tm 7=iv i/\s'.tm 42=.bool (!zg3 (w.length/64) fr i f)/\s'.df=[]) (zad ?_) ?_
  ·unfold zg3
   by_cases c1:(1:Int)<=f
   rotate_left
   ·have d1:f<1:=by omega
    refine ze2 (by first|exact trivial|simp only[go_sem,d1,h0,h2,h7,hfv,hlt]) (by simp(disch:=omega)only[go_sem,d1,h0,h2,h7,hfv,hlt]<;>rfl) rfl (by simp only[go_sem,d1,h0,h2,h7,hfv,hlt]<;>rfl) (by simp only[go_sem]<;>rfl) ?_;refine zQF h7 ?_;exact⟨h0,h1,h2,h7,by rw[decide_eq_false c1];rfl⟩
   have d1:¬f<1:=by omega
   rw[decide_eq_true c1,zBY9]
   by_cases c2:f<((w.length/64:Nat):Int)
   rotate_left
   ·have d2:((w.length/64:Nat):Int)<=f:=by omega
    refine ze2 (by first|exact trivial|simp only[go_sem,d1,d2,q1,h0,h2,h7,hfv,hlt]) (by simp(disch:=omega)only[go_sem,d1,d2,q1,h0,h2,h7,hfv,hlt]<;>rfl) rfl (by simp only[go_sem,d1,d2,q1,h0,h2,h7,hfv,hlt]<;>rfl) (by simp only[go_sem]<;>rfl) ?_;refine zQF h7 ?_;exact⟨h0,h1,h2,h7,by rw[decide_eq_false c2];rfl⟩
   have d2:¬((w.length/64:Nat):Int)<=f:=by omega
   rw[decide_eq_true c2,zBY9,Bool.not_not];refine zAZ (zBc d1 d2 q1 htk hile h0 h2 h7 hfv hlt) hh ?_;refine zQF h7 ?_;exact⟨h0,h1,h2,h7⟩
  clear h0 h1 h2 h7;rintro y ⟨tm,df,H⟩ ⟨rfl,h0,h1,h2,h7,h42,rfl⟩;dsimp only at h0 h1 h2 h7 h42
  cases hv:zg3 (w.length/64) fr i f with
  | false =>
   rw[hv]at h42 hs;refine zct ?_ (by simp only[go_sem,h42]<;>rfl);refine zO ?_;refine za0.bool ?_
   cases hk:zfU (w.length/64) fr fr.length with
   | false=>rfl
   | true =>
    obtain⟨d,hd⟩:∃d,fr.length=i+1+d:=⟨fr.length-(i+1),by omega⟩
    rw[hd]at hk;rw[zri _ _ _ _ hk]at hs
    cases hs
  | true =>
   rw[hv]at h42 hs;refine zcf ?_ (by simp only[go_sem,h42]<;>rfl);refine zBl ?_;refine zJF h7 ?_;refine⟨_,?m1,i+1,_,rfl,hlt,hs,zu h0,zu h1,zu h2,zu h7,rfl,rfl⟩
   case m1=>omega
 intro hlt;have hlt:¬i<fr.length:=by have:=of_decide_eq_false hlt;omega
 obtain rfl:i=fr.length:=by omega
 rw[hok,zBY9];(repeat refine za ?_);refine zAU ?_;refine zAW (zr2 h0 h1) ?_;refine zca hl ?_;refine zN ?_;refine zG ?_;refine zB (zar (fun m s=>∃(j:Nat) (H:List zn),m=T.length-j/\j<=T.length/\(fine=true->zgR (T.take j) fr=true)/\(j=0\/fine=true)/\s.tm 2=.list r 1 (fr.map iv)/\s.tm 8=zbQ T/\s.tm 9=.bool fine/\s.tm 10=iv j/\s.df=[]/\s.H=H) (n:=T.length) ?_ ?_)
 ·exact⟨0,_,rfl,zAS9 _,fun _=>rfl,.inl rfl,zu h2,zt,zt,zt,rfl,rfl⟩
 clear h0 h1 h2 h7 hl;rintro m ⟨tm,df,H⟩ ⟨j,H',rfl,hj,hno,hj0,h2,h8,h9,h10,rfl,rfl⟩;dsimp only at h2 h8 h9 h10
 by_cases hgo:j<T.length/\fine=true
 rotate_left
 ·have hend:(!fine||zgR T fr)=true:=by
   cases fine with
   | false=>rfl
   | true =>
    obtain rfl:j=T.length:=by have:¬j<T.length:=fun h=>hgo ⟨h,rfl⟩;omega
    have h3:=hno rfl;rw[zBG9]at h3;rw[h3];rfl
  rw[hend]
  by_cases hlj:j<T.length
  ·have g:(j:Int)<(T.length:Nat):=by omega
   obtain rfl:fine=false:=by cases fine with|false=>rfl|true=>exact absurd ⟨hlj,rfl⟩ hgo
   (try refine zBp ?_);refine za (zAV (zr4 h8 h9 h10 g) ?_);refine zwh ?_ ?_
   ·intro h;cases h
   intro _;refine zO ?_;exact Frz.bool _
  ·have g:¬(j:Int)<(T.length:Nat):=by omega
   (try refine zBp ?_);refine za (zAV (zr4 h8 h9 h10 g) ?_);refine zwh ?_ ?_
   ·intro h;cases h
   intro _;refine zO ?_;exact Frz.bool _
 obtain⟨hlj,rfl⟩:=hgo;have hno:=hno rfl;have g:(j:Int)<(T.length:Nat):=by omega
 (try refine zBp ?_);refine za (zAV (zr4 h8 h9 h10 g) ?_);refine zwh ?_ ?_;rotate_left
 ·intro h;cases h
 intro _;obtain⟨L,hL⟩:∃L,T[j]?=some L:=⟨_,zAB9 hlj⟩
 have hLT:(T.map fun L=>zby 0 0 L.1 L.2)[j]?=some (zby 0 0 L.1 L.2):=by rw[zAH9,hL];rfl
 have hLb:=hTb L (zAO9 hL);(repeat refine za ?_);refine zB ?_;refine zG ?_;refine zB (zar (fun m s=>∃(k:Nat) (H:List zn),m=fr.length-k/\k<=fr.length/\(∀f∈fr.take k,¬(L.1.map fun(b:Nat)=>(b:Int)).contains f=true)/\s.tm 2=.list r 1 (fr.map iv)/\s.tm 8=zbQ T/\s.tm 9=.bool true/\s.tm 10=iv j/\s.tm 11=iv k/\s.df=[]/\s.H=H) (n:=fr.length) ?_ ?_)
 ·exact⟨0,_,rfl,zAS9 _,fun f hf=>by simp at hf,zu h2,zu h8,zu h9,zu h10,zt,rfl,rfl⟩
 clear h2 h8 h9 h10;rintro m ⟨tm,df,H⟩ ⟨k,H',rfl,hk,hnk,h2,h8,h9,h10,h11,rfl,rfl⟩;dsimp only at h2 h8 h9 h10 h11;(try refine zBp ?_);refine za (zAV (zr2 h2 h11) ?_);refine zwh ?_ ?_;rotate_left
 ·intro hlt;have hlt:¬k<fr.length:=by have:=of_decide_eq_false hlt;omega
  obtain rfl:k=fr.length:=by omega
  rw[zBG9]at hnk;refine zJF h10 ?_;refine⟨_,?m3,j+1,_,rfl,hlj,fun _=>?n3,.inr rfl,zu h2,zu h8,zu h9,zu h10,rfl,rfl⟩
  case m3=>omega
  case n3 =>
   unfold zgR at hno⊢;rw[zBE9,hL,List.all_append,hno,zBY9];simp only[zGQ9,List.all_cons,List.all_nil,zFV9];unfold zmT;rw[zBL9];intro f hf;simpa using hnk f hf
 intro hlt;have hlt:k<fr.length:=by have:=of_decide_eq_true hlt;omega
 obtain⟨f,hf⟩:∃f,fr[k]?=some f:=⟨_,zAB9 hlt⟩
 have hfv:(fr.map iv)[k]?=some (iv f):=by rw[zAH9,hf];rfl
 have hh:=zmK 0 (L.1.map fun(b:Nat)=>(b:Int)) f (by rw[zAA9];omega);rw[zn2]at hh;(repeat refine za ?_);refine zB ?_;(repeat refine za ?_);refine zad ?_;refine zAZ (zr8 h2 h8 h10 h11 hLT hlj hfv hlt) hh ?_;refine zQF h2 ?_
 cases hc:(L.1.map fun(b:Nat)=>(b:Int)).contains f with
 | true =>
  refine zU ?_;refine za0.bool ?_;rw[eq_comm];(first|(rw[Bool.or_eq_false_iff];refine⟨rfl,?_⟩)|skip);unfold zgR;rw[List.all_eq_false];refine⟨L,zAO9 hL,?_⟩;unfold zmT;rw[zBL9];intro h;have:=h f (zAO9 hf);rw[hc]at this;cases this
 | false =>
  refine zcf ?_;refine zBl ?_;refine zJF h11 ?_;refine⟨_,?m4,k+1,_,rfl,hlt,?n4,zu h2,zu h8,zu h9,zu h10,zu h11,rfl,rfl⟩
  case m4=>omega
  case n4 =>
   intro g hg;rw[zBE9,hf]at hg;rcases zBI9.1 hg with hg|hg
   ·exact hnk g hg
   ·obtain rfl:g=f:=by simpa using hg
    rw[hc];decide
end Fv
end Go.Proofs.YtfomlmhnmheenaaGreat
