/- TreeTakes returns true for every input, and its input reads afterwards as it did. No condition. -/
import Derived.Test.YtfomlmhnmheenaaGreatTT8
import Derived.WalkKit
import Derived.WalkSpells
import Derived.WalkLawsBesides
import Derived.Lib.Hide
import Derived.Recover
import Derived.RecoverIn
import Derived.Shelf.Abstract
import Derived.Test.YtfomlmhnmheenaaGreatProg
import Derived.Sort.OwnSortedInts
import Derived.ProofKit
import Derived.OpenShut
import Derived.Deep.Slices
import Derived.Deep.SlicePairs
import Derived.ShutString
import Derived.ChangeOld
import Derived.Test.YtfomlmhnmheenaaGreatRows
set_option linter.unusedSimpArgs false
set_option linter.unusedVariables false
namespace Go.Proofs.YtfomlmhnmheenaaGreat
namespace Fv
open Tw


set_option maxRecDepth 100000
set_option maxHeartbeats 4000000 in
theorem zgf (p r n key:Nat)(w:List Nat)(ws:List Nat)(leaf:Nat)(x0 x1 x2 x3:Wk)(frN:List Nat)(tk:List Pr×Nat)(T:List Lev)(LL:Lev)(P:List Pr)(f f2:Bool)(root used:Nat)(more:List Pr)(bl:List Nat)(R:PV)(hlb:Lb R)(hN:w.length<=131072)(hx0:x0=⟨p,0,w,[],frV r frN,0⟩)
  (hA:FN ET 45 [wv p w,iv n,frV r frN] (.ret (iv (0:Nat)))) (hW:FN ET 46 [wv p w,iv n,uv key] (.ret (.list 0 1 (zd1 ws)))) (hwl:ws.length<=20) (hlf:ws[ws.length-1]?=some leaf) (hne:0<ws.length) (hin:64*leaf+64<=w.length)
  (htk:FN ET 47 [wv p (zA w leaf),uv key] (.ret (.tuple [.list 0 2 (tk.1.map zBo),iv (tk.2:Nat)])))
  (hR1:¬tk.2=0->R=zdq [] 0 [] tk.2)
  (hdo:tk.2=0->FP ET 49 [wkv x0,iv (64*leaf:Nat),.list 0 2 (tk.1.map zBo)] (.ret (wkv x1))/\x1.fr=frV r frN/\x1.q=0/\x1.used=0)
  (hlv:tk.2=0->FN ET 50 [wv x1.p x1.W,iv n] (.ret (.tuple [zbQ T,.bool f]))) (hT:T[T.length-1]?=some LL) (hTl:0<T.length/\T.length<=14) (hLL:LL.2.length<=40)
  (hpa:FN ET 51 [zby 0 0 LL.1 LL.2] (.ret (.tuple [psv 0 P,.bool f2]))) (hP:P.length<=100000) (hfl:frN.length<=100)
  (hR2:tk.2=0->(T.length=1\/6*LL.2.length<P.length\/frN.length<zcO P.length\/okP P=false)->R=zdq x1.L 0 [] 0)
  (hR3:tk.2=0->¬(T.length=1\/6*LL.2.length<P.length\/frN.length<zcO P.length\/okP P=false)->R=zdq x3.L used bl 0/\root<1000000/\FN ET 27 [psv 0 P,frV r frN] (.ret (.tuple [iv root,.list 0 2 (more.map zBo),iv used,iv 0]))/\FP ET 49 [wkv x1,iv 0,.list 0 2 (more.map zBo)] (.ret (wkv x2))/\FP ET 49 [wkv x2,iv 0,.list 0 2 ([(n,root)].map zBo)] (.ret (wkv x3))/\x2.fr=frV r frN/\x3.fr=frV r frN/\x3.q=0)
  (hbl:FN ET 19 [wv p w,iv n] (.ret (.tuple [.list 0 1 (bfl bl),iv 0]))) :
  FN ET 12 [wv p w,iv n,uv key,frV r frN] (.ret R):=by
 refine zfn f12 hlb ?_;have hx0f:Id0 x0.fr:=by rw[hx0];exact .list _ _ _
 have hidx:Id0 (wkv x0):=zcF hx0f;have hxv:wkv x0=.agg [wv p w,.list 0 2 [],frV r frN,iv 0]:=by rw[hx0];rfl
 have hxW:x0.W=w:=by rw[hx0]
 have hxp:x0.p=p:=by rw[hx0]
 have hat0:=zfO x0 hx0f leaf (by rw[hxW];exact hin) (by rw[hxW];exact hN);rw[hxp,hxW,hxv]at hat0;rw[hxv]at hidx hdo
 have hlvv:(zd1 ws)[ws.length-1]?=some (iv leaf):=by rw[zAH9,hlf];rfl
 have e1:(ws.length:Int)-1=((ws.length-1:Nat):Int):=by omega
 have e2:ws.length-1<ws.length:=by omega
 refine zG ?_;refine zI ?_;refine zca hA ?_;refine zN ?_;refine zT ?_;refine zBl ?_;show W _ _ _ _ _ _;refine zI ?_;refine zca hW ?_;refine zN ?_;refine zGF (zr3 hlvv e1 e2) ?_;refine zmm 0 (v':=.agg [wv p w,.list 0 2 [],frV r frN,iv 0]) rfl rfl (zl6 p 0 w _) ?_;simp only[zCK9];refine zcI (fun tm=>tm 0=wv p w/\tm 1=iv n/\tm 2=uv key/\tm 3=frV r frN/\tm 14=iv leaf/\tm 15=.ptr 0 0 0 0 4) ⟨zt,zt,zt,zt,zt,by simp[upd,zq]⟩ ?_;rintro tm ⟨h0,h1,h2,h3,h14,h15⟩;refine zIF (zr2 h14 h15) ?_;refine zbz (by first|rfl|(simp only[go_sem]<;>rfl)) (by simp only[go_sem]<;>rfl) hat0 rfl ?_ ?_;(repeat(first|exact trivial|refine And.intro ?_ ?_|exact Id0.int _ _|exact Id0.bool _|exact Id0.list _ _ _|exact Id0.elem _|exact Id0.nilsl|exact Id0.str _|exact zbE _ _ _))
 ·exact hidx
 ·(repeat(first|exact trivial|refine And.intro ?_ ?_|exact Id0.int _ _|exact Id0.bool _|exact Id0.list _ _ _|exact Id0.elem _|exact Id0.nilsl|exact Id0.str _|exact zbE _ _ _))
 refine zAW h2 ?_;refine zca htk ?_;refine zN ?_
 by_cases hok:tk.2=0
 rotate_left
 ·rw[hR1 hok];have g1:¬((tk.2:Nat):Int)=0:=by omega
  refine zSF g1 ?_;refine zO ?_;exact Frz.tupL ⟨.nil _ _,.int _ _,.nil _ _,.int _ _,trivial⟩
 have g1:((tk.2:Nat):Int)=0:=by omega
 obtain⟨hdo,hxf,hxq,hxu⟩:=hdo hok;have hlv:=hlv hok;have hx1v:wkv x1=.agg [wv x1.p x1.W,.list x1.q 2 (x1.L.map zBo),frV r frN,iv x1.used]:=by unfold wkv;rw[hxf]
 rw[hx1v]at hdo
 have w4:IntKind.i64.wrap ((64:Int)*(leaf:Int))=((64*leaf:Nat):Int):=zwi;refine zTF g1 ?_;refine zBl ?_;show W _ _ _ _ _ _;refine zIF (zr3 h14 h15 w4) ?_;refine zbz (by first|rfl|(simp only[go_sem]<;>rfl)) (by simp only[go_sem]<;>rfl) hdo rfl ?_ ?_;(repeat(first|exact trivial|refine And.intro ?_ ?_|exact Id0.int _ _|exact Id0.bool _|exact Id0.list _ _ _|exact Id0.elem _|exact Id0.nilsl|exact Id0.str _|exact zbE _ _ _))
 ·exact hidx
 ·(repeat(first|exact trivial|refine And.intro ?_ ?_|exact Id0.int _ _|exact Id0.bool _|exact Id0.list _ _ _|exact Id0.elem _|exact Id0.nilsl|exact Id0.str _|exact zbE _ _ _))
 refine zNF h15 ?_;have hTv:(T.map fun L=>zby 0 0 L.1 L.2)[T.length-1]?=some (zby 0 0 LL.1 LL.2):=by rw[zAH9,hT];rfl
 have e3:(T.length:Int)-1=((T.length-1:Nat):Int):=by omega
 have e4:T.length-1<T.length:=by omega
 refine zcI (fun tm=>tm 0=wv p w/\tm 1=iv n/\tm 3=frV r frN/\tm 15=.ptr 0 0 0 0 4) ⟨zu h0,zu h1,zu h3,zu h15⟩ ?_;clear h0 h1 h2 h3 h14 h15;rintro tm ⟨h0,h1,h3,h15⟩;refine zIF (zr2 h1 h15) ?_;refine zca hlv ?_;refine zN ?_;refine zIF (zr3 hTv e3 e4) ?_;refine zca hpa ?_;refine zN ?_;refine zcI (fun tm=>tm 0=wv p w/\tm 1=iv n/\tm 3=frV r frN/\tm 15=.ptr 0 0 0 0 4/\tm 18=zbQ T/\tm 20=psv 0 P) ⟨zu h0,zu h1,zu h3,zu h15,zt,by simp[upd]⟩ ?_;clear h0 h1 h3 h15;rintro tm ⟨h0,h1,h3,h15,h18,h20⟩;(repeat refine za ?_);refine zbD (Q:=fun yy s'=>yy=.norm/\s'.tm 0=wv p w/\s'.tm 1=iv n/\s'.tm 3=frV r frN/\s'.tm 15=.ptr 0 0 0 0 4/\s'.tm 20=psv 0 P/\s'.tm 110=.bool (decide (T.length=1\/6*LL.2.length<P.length\/frN.length<zcO P.length\/okP P=false))/\s'.df=[]/\s'.H=[.row 107 4 0 0 [.agg [wv x1.p x1.W,.list x1.q 2 (x1.L.map zBo),frV r frN,iv x1.used]]]) (zAU ?_) ?_
 ·by_cases hT1:T.length=1
  ·have c1:=eq_true (show ((T.length:Nat):Int)=1 by omega);refine zKF (zr3 h18 h20 c1) ?_;exact⟨rfl,h0,h1,h3,h15,h20,by simp[upd,hT1],rfl,rfl⟩
  have c1:¬((T.length:Nat):Int)=1:=by omega
  have w6:IntKind.i64.wrap ((6:Int)*(LL.2.length:Int))=((6*LL.2.length:Nat):Int):=zwi
  by_cases hP6:6*LL.2.length<P.length
  ·have c2:((6*LL.2.length:Nat):Int)<(P.length:Nat):=by omega
   refine zKF (zr8 h18 h20 c1 c2 w6 hTv e3 e4) ?_;exact⟨rfl,h0,h1,h3,h15,h20,by simp[upd,hP6],rfl,rfl⟩
  have c2:¬((6*LL.2.length:Nat):Int)<(P.length:Nat):=by omega
  have hnd:=zmh P.length (by omega);have hris:=zlt 0 P (by omega)
  by_cases hN3:frN.length<zcO P.length
  ·have c3:(frN.length:Int)<(zcO P.length:Nat):=by omega
   refine zAW (zr9 h18 h20 h3 c1 c2 w6 hTv e3 e4) ?_;refine zca hnd ?_;refine zKF (zr2 h3 c3) ?_;exact⟨rfl,h0,h1,h3,h15,h20,by simp[upd,hN3],rfl,rfl⟩
  have c3:¬(frN.length:Int)<(zcO P.length:Nat):=by omega
  refine zAW (zr9 h18 h20 h3 c1 c2 w6 hTv e3 e4) ?_;refine zca hnd ?_;refine zAW (zr3 h3 h20 c3) ?_;refine zca hris ?_;refine zK ?_;exact⟨rfl,h0,h1,h3,h15,h20,by simp[upd,hN3,hP6,hT1],rfl,rfl⟩
 clear h0 h1 h3 h15 h18 h20;rintro yy ⟨tm,df,H⟩ ⟨rfl,h0,h1,h3,h15,h20,h110,rfl,rfl⟩;dsimp only at h0 h1 h3 h15 h20 h110
 by_cases hE:T.length=1\/6*LL.2.length<P.length\/frN.length<zcO P.length\/okP P=false
 ·rw[decide_eq_true hE]at h110;refine zct ?_ (by simp only[go_sem,h110]<;>rfl);refine zOF h15 ?_;rw[hR2 hok hE];exact zq2 _ hxq x1.L 0 0
 rw[decide_eq_false hE]at h110;obtain⟨r1,r2,r3,r4,r5,r6,r7,r8⟩:=hR3 hok hE;refine zcf ?_ (by simp only[go_sem,h110]<;>rfl);refine zBl ?_;show W _ _ _ _ _ _;refine zIF (zr2 h3 h20) ?_;refine zca r3 ?_;refine zN ?_;refine zIF (zr2 h0 h1) ?_;refine zca hbl ?_;refine zN ?_;refine zcI (fun tm=>tm 1=iv n/\tm 15=.ptr 0 0 0 0 4/\tm 22=iv root/\tm 23=.list 0 2 (more.map zBo)/\tm 24=iv used/\tm 26=.list 0 1 (bfl bl)) ⟨zu h1,zu h15,zt,zt,zt,by simp[upd]⟩ ?_;clear h0 h1 h3 h15 h20 h110;rintro tm ⟨h1,h15,h22,h23,h24,h26⟩;have w7:IntKind.u64.wrap (root:Int)=(root:Int):=zwu;have hid1:Id0 (wkv x1):=zcF (by rw[hxf];exact .list _ _ _);have hid2:Id0 (wkv x2):=zcF (by rw[r6];exact .list _ _ _);have hx2v:wkv x2=.agg [wv x2.p x2.W,.list x2.q 2 (x2.L.map zBo),frV r frN,iv x2.used]:=by unfold wkv;rw[r6]
 have hx3v:wkv x3=.agg [wv x3.p x3.W,.list x3.q 2 (x3.L.map zBo),frV r frN,iv x3.used]:=by unfold wkv;rw[r7]
 rw[hx1v]at r4 hid1;rw[hx2v]at r4 r5 hid2;rw[hx3v]at r5;refine zIF (zr2 h15 h23) ?_;refine zbz (by first|rfl|(simp only[go_sem]<;>rfl)) (by simp only[go_sem]<;>rfl) r4 rfl ?_ ?_;(repeat(first|exact trivial|refine And.intro ?_ ?_|exact Id0.int _ _|exact Id0.bool _|exact Id0.list _ _ _|exact Id0.elem _|exact Id0.nilsl|exact Id0.str _|exact zbE _ _ _))
 ·exact hid1
 ·(repeat(first|exact trivial|refine And.intro ?_ ?_|exact Id0.int _ _|exact Id0.bool _|exact Id0.list _ _ _|exact Id0.elem _|exact Id0.nilsl|exact Id0.str _|exact zbE _ _ _))
 refine zAW (zr3 h1 h22 w7) ?_;refine zln 134 1 (w:=.list 0 2 ([(n,root)].map zBo)) rfl (Frz.whole (l:=[zBo (n,root)]) rfl rfl rfl (zAJ9 _) (fun v hv=>by obtain rfl:=zBF9.1 hv;rfl) (zb3 (l:=[(n,root)]))) ?_;simp only[zCI9,zCK9];refine zbz (by first|rfl|(simp only[go_sem]<;>rfl)) (by simp only[go_sem]<;>rfl) r5 rfl ?_ ?_;(repeat(first|exact trivial|refine And.intro ?_ ?_|exact Id0.int _ _|exact Id0.bool _|exact Id0.list _ _ _|exact Id0.elem _|exact Id0.nilsl|exact Id0.str _|exact zbE _ _ _))
 ·exact hid2
 ·(repeat(first|exact trivial|refine And.intro ?_ ?_|exact Id0.int _ _|exact Id0.bool _|exact Id0.list _ _ _|exact Id0.elem _|exact Id0.nilsl|exact Id0.str _|exact zbE _ _ _))
 refine zNF h15 ?_;refine zOF (zr3 h15 h24 h26) ?_;rw[r1];have hq3:x3.q=0:=r8;rw[hq3];exact Frz.tupL ⟨.list _ _ _,.int _ _,.list _ _ _,.int _ _,trivial⟩
end Fv
end Go.Proofs.YtfomlmhnmheenaaGreat
namespace Go.Proofs.YtfomlmhnmheenaaGreat
namespace Fv
open Tw


theorem zkl:∀(l:List Pr) (seen:List Nat),zcn seen l=true->(l.map (·.2)).Nodup/\∀p∈l,p.2 ∉ seen
 | [],_,_=>⟨zGO9,fun p hp=>by cases hp⟩
 | a::l,seen,h=>by
  rw[zcn,zAQ9,zCU9]at h;obtain⟨h1,h2⟩:=zkl l (a.2::seen) h.2;have h3:a.2 ∉ seen:=by simpa using h.1
  refine⟨?_,fun p hp=>?_⟩
  ·rw[zCC9,zEB9];refine⟨fun hm=>?_,h1⟩;obtain⟨p,hp,e⟩:=zAM9.1 hm;exact h2 p hp (by rw[e];exact zAU9 ..)
  ·rcases zAX9.1 hp with rfl|hp
   ·exact h3
   ·exact fun hs=>h2 p hp (zAT9 _ hs)
theorem zul {left:Nat}{l:List Pr}(h:zcn [left] l=true):(left::l.map (·.2)).Nodup:=by
 obtain⟨h1,h2⟩:=zkl l _ h;rw[zEB9];refine⟨fun hm=>?_,h1⟩;obtain⟨p,hp,e⟩:=zAM9.1 hm;exact h2 p hp (by rw[e];exact zBF9.2 rfl)
def ziF:Nat->List Pr->Nat
 | prev,a::l=>ziF a.2 l
 | prev,[]=>prev
theorem zj6 (a:Pr):∀(l:List Pr) (prev:Nat),ziF prev (l++[a])=a.2
 | [],_=>rfl
 | b::l,_=>zj6 a l b.2
theorem znd (rest:List Nat):∀(A:List Pr) (prev:Nat),(prev::A.map (·.2)).Nodup->(∀p∈A,p.2≠0)->zab prev (zbH A++rest)=A++zab (ziF prev A) rest
 | [],_,_,_=>rfl
 | a::A,prev,h,hz=>by
  rw[zCC9]at h;have h2:=zEB9.1 h;have h1:¬a.2=prev:=fun e=>h2.1 (by rw[e];exact zAU9 ..);rw[zdU,zAI9,zAI9,zab,if_neg (hz a (zAU9 ..)),if_neg h1,znd rest A a.2 h2.2 fun p hp=>hz p (zAT9 _ hp)];rfl
theorem znc:∀(l:List Nat) (prev:Nat),(zab prev l).length<=zbr l
 | [],_=>zAS9 _
 | [_],_=>zAS9 _
 | k::p::l,prev=>by
  have h:=znc l p;rw[zab,zbr]
  by_cases h0:p=0
  ·rw[if_pos h0,if_pos h0];exact zAJ9 _
  rw[if_neg h0,if_neg h0]
  by_cases h1:p=prev
  ·rw[if_pos h1];omega
  ·rw[if_neg h1,zAE9];omega
theorem zlv:∀(l:List Nat) (prev:Nat),(zab prev l).length=zbr l->∃rest,l=zbH (zab prev l)++rest/\zbr rest=0/\∀p∈zab prev l,p.2≠0
 | [],_,_=>⟨[],rfl,rfl,fun p hp=>by cases hp⟩
 | [x],_,_=>⟨[x],rfl,rfl,fun p hp=>by cases hp⟩
 | k::p::l,prev,h=>by
  have hl:=znc l p;rw[zab,zbr]at h;rw[zab]
  by_cases h0:p=0
  ·rw[if_pos h0];exact⟨k::p::l,rfl,by rw[zbr,if_pos h0],fun p hp=>by cases hp⟩
  rw[if_neg h0,if_neg h0]at h;rw[if_neg h0]
  by_cases h1:p=prev
  ·rw[if_pos h1]at h;omega
  rw[if_neg h1,zAE9]at h;rw[if_neg h1];obtain⟨rest,e,h2,h3⟩:=zlv l p (by omega);refine⟨rest,?_,h2,fun q hq=>?_⟩
  ·rw[zdU,zAI9,zAI9,<- e]
  ·rcases zAX9.1 hq with rfl|hq
   ·exact h0
   ·exact h3 q hq
theorem zxe {rest:List Nat}(h:zbr rest=0)(hl:2<=rest.length):∃k B,rest=k::0::B:=by
 match rest,hl with
 | k::p::B,_ =>
  rw[zbr]at h
  by_cases h0:p=0
  ·exact⟨k,B,by rw[h0]⟩
  ·rw[if_neg h0]at h;omega
theorem zi1 (X Y:List Nat)(a b:Nat):(X++a::b::Y).getD X.length 0=a/\(X++a::b::Y).getD (X.length+1) 0=b:=by
 constructor
 ·rw[zAL9,zAP9 (zAJ9 _)];simp
 ·rw[zAL9,zAP9 (by omega)];simp
theorem zrC (X Y:List Nat)(a b e n:Nat)(hn:n=X.length+1):(X++a::b::Y).set n e=X++a::e::Y:=by
 subst hn;rw[zCA9 _ _ (by omega)];simp
theorem zhS (A B:List Pr):zbH (A++B)=zbH A++zbH B:=by simp[zbH]
theorem zqq (left:Nat)(A C:List Pr)(x:Pr)(rest w:List Nat)(hw:w=zbH A++x.1::x.2::(zbH C++rest)):∀q,q<=C.length->∃k,zax (zbH A++x.1::ziF left A::(zbH C++rest)) (dnL w A.length q)=zbH (A++C.take q)++k::ziF left (A++C.take q)::(zbH (C.drop q)++rest)
 | 0,_=>⟨x.1,by simp[dnL,zax]⟩
 | q+1,hq=>by
  obtain⟨k,ih⟩:=zqq left A C x rest w hw q (by omega);have hlt:q<C.length:=by omega
  obtain⟨c,hc⟩:∃c,C[q]?=some c:=⟨_,zAB9 hlt⟩
  have hd:C.drop q=c::C.drop (q+1):=by rw[zAW9 hlt];obtain⟨_,e⟩:=zAC9.1 hc;rw[e]
  have ht:C.take (q+1)=C.take q++[c]:=by rw[zBE9,hc];rfl
  have hX:(zbH (A++x::C.take q)).length=2*(A.length+q)+2:=by rw[zdy,zAD9,zAE9,zBA9];omega
  have hw2:w=zbH (A++x::C.take q)++c.1::c.2::(zbH (C.drop (q+1))++rest):=by
   rw[hw,zhS,zdU,zAG9,zAI9,zAI9]
   congr 3
   conv=>lhs;rw[<- zER9 q C,hd,zhS,zdU]
   simp
  obtain⟨g1,g2⟩:=zi1 (zbH (A++x::C.take q)) (zbH (C.drop (q+1))++rest) c.1 c.2;rw[<- hw2,hX]at g1 g2;have hXl:(zbH (A++C.take q)).length=2*(A.length+q):=by rw[zdy,zAD9,zBA9];omega
  refine⟨c.1,?_⟩;rw[zjL,zfk,ih,g1,g2];show ((_:List Nat).set _ _).set _ _=_;rw[ztF _ _ _ _ _ _ _ hXl.symm,ht,<- zAG9,zj6,zjO,hd,zdU];simp
theorem zu6 {left:Nat}{w:List Nat}{key:Nat}(h:zbt left w=0)(hI:sIs (zab left w) key=true):∃A x C,zab left w=A++x::C/\A.length=zb4 (zab left w) key/\zab left (zax w (zbY left w key).1)=A++C:=by
 have hr:=zeK h;have hlt:=zke hI;unfold zbY;rw[if_pos h,if_pos hI];unfold zbt at h;rw[if_pos hr]at h;have hs:zb9 left w=true:=by
  cases hs:zb9 left w with
  | true=>rfl
  | false=>rw[hs]at h;cases h
 unfold zb9 zbv at hs;rw[if_pos hr]at hs;simp only[zAQ9,decide_eq_true_eq]at hs;obtain⟨⟨⟨⟨h1,h2⟩,h3⟩,h4⟩,h5⟩:=hs;obtain⟨rest,e,e1,e2⟩:=zlv w left h3;have hch:=zul h2;generalize zb4 (zab left w) key=i at *
 generalize zab left w=P at *
 have hwl:=congrArg List.length e;rw[zAD9,zdy]at hwl;obtain⟨k0,B,rfl⟩:=zxe e1 (by omega);obtain⟨x,hx⟩:∃x,P[i]?=some x:=⟨_,zAB9 hlt⟩
 have hP:P=P.take i++x::P.drop (i+1):=by
  conv=>lhs;rw[<- zER9 i P,zAW9 hlt]
  obtain⟨_,e⟩:=zAC9.1 hx;rw[e]
 have hAl:(P.take i).length=i:=by rw[zBA9];omega
 generalize P.take i=A at *
 generalize P.drop (i+1)=C at *
 subst hP;refine⟨A,x,C,rfl,hAl,?_⟩;subst hAl;have hw:w=zbH A++x.1::x.2::(zbH C++k0::0::B):=by rw[e,zhS,zdU];simp
 have hah:zbU left w A.length=ziF left A:=by
  unfold zbU
  by_cases h0:A.length=0
  ·rw[if_pos h0,zDR9.1 h0];rfl
  rw[if_neg h0];obtain⟨A',y,rfl⟩:∃A' y,A=A'++[y]:=⟨A.dropLast,A.getLast (fun h=>h0 (by rw[h];rfl)),(zFE9 _).symm⟩
  rw[zj6,hw,zjO,zAG9];have:=(zi1 (zbH A') (x.1::x.2::(zbH C++k0::0::B)) y.1 y.2).2;rw[zdy]at this;rw[zAD9,List.length_singleton,show 2*(A'.length+1-1)+1=2*A'.length+1 by omega];exact this
 have hm:(A++x::C).length=A.length+1+C.length:=by rw[zAD9,zAE9];omega
 rw[hah,hm];unfold zcp;rw[show A.length+1+C.length-1-A.length=C.length by omega];have hset:w.set (2*A.length+1) (ziF left A)=zbH A++x.1::ziF left A::(zbH C++k0::0::B):=by
  conv=>lhs;rw[hw]
  exact zrC _ _ _ _ _ _ (by rw[zdy])
 obtain⟨k,hk⟩:=zqq left A C x (k0::0::B) w hw C.length (zAJ9 _);have e3:zax w ((2*A.length+1,ziF left A)::(dnL w A.length C.length++[(2*(A.length+1+C.length)-1,0)]))=zbH (A++C)++k::0::(k0::0::B):=by
  show zax (w.set (2*A.length+1) (ziF left A)) _=_;rw[hset,zfk,hk,zBG9,zBM9];show (_:List Nat).set _ _=_;rw[zrC _ _ _ _ _ _ (by rw[zdy,zAD9];omega)];rfl
 rw[e3,znd]
 ·rw[zab,if_pos rfl,zDO9]
 ·refine List.Nodup.sublist ?_ hch;rw[zBJ9,zBJ9,zCC9];exact((List.Sublist.refl _).append (List.sublist_cons_self _ _)).cons_cons _
 ·intro p hp;refine e2 p ?_;rcases zBI9.1 hp with hp|hp
  ·exact zEA9 _ hp
  ·exact zDP9 _ (zAT9 _ hp)
end Fv
end Go.Proofs.YtfomlmhnmheenaaGreat
namespace Go.Proofs.YtfomlmhnmheenaaGreat
namespace Fv
open Tw


set_option maxRecDepth 100000
theorem zwO (w:List Nat)(k a:Nat):(w.set (k+8) a).drop 8=(w.drop 8).set k a:=by
 rw[List.drop_set,if_neg (by omega),zEP9]
theorem zlN:∀(S:List Pr) (w:List Nat),(zax w (zbR S)).drop 8=zax (w.drop 8) S
 | [],_=>rfl
 | s::S,w=>by
  have e1:zax w (zbR (s::S))=zax (w.set (s.1+8) s.2) (zbR S):=rfl;have e2:zax (w.drop 8) (s::S)=zax ((w.drop 8).set s.1 s.2) S:=rfl;rw[e1,e2,zlN S,zwO]
theorem zvy (w:List Nat)(v:Nat):(zax w (zdH w v)).drop 8=w.drop 8:=by
 unfold zdH
 split
 ·rfl
 ·show (w.set 4 v).drop 8=_;rw[List.drop_set,if_pos (by decide)]
theorem zsO (w:List Nat)(key:Nat):(headN (zax w (zci w key).1)).pairs.Sublist (headN w).pairs:=by
 unfold zci chg
 split
 rotate_left
 ·exact List.Sublist.refl _
 split
 rotate_left
 ·exact List.Sublist.refl _
 rename_i _ h0;show (zbv _ _).Sublist (zbv _ _);have h3:(zax w (zdH w 2++zbR (zbY (w.getD 3 0) (w.drop 8) key).1)).getD 3 0=w.getD 3 0:=zgU 3 _ w fun s hs e=>by
  rcases zBI9.1 hs with hs|hs
  ·unfold zdH at hs
   split at hs
   ·cases hs
   ·obtain rfl:=zBF9.1 hs;exact absurd e (by decide)
  ·unfold zbR at hs;obtain⟨y,_,rfl⟩:=zAM9.1 hs;dsimp only at e;omega
 rw[h3,zfk,zlN,zvy];generalize w.getD 3 0=left at *
 generalize w.drop 8=l at *
 have hC:zbt left l=0:=by
  unfold zbY at h0
  split at h0
  ·assumption
  ·rename_i h;exact absurd h0 h
 have hI:sIs (zab left l) key=true:=by
  unfold zbY at h0;rw[if_pos hC]at h0
  split at h0
  ·assumption
  ·cases h0
 have hr:=zeK hC;obtain⟨A,x,C,e1,_,e2⟩:=zu6 hC hI;unfold zbv;rw[zcZ,if_pos hr,if_pos hr,e1,e2];exact(List.Sublist.refl _).append (List.sublist_cons_self _ _)
theorem zvx:∀{l m:List Pr},m.Sublist l->zbn l=true->zbn m=true:=by
 have hp:∀l:List Pr,zbn l=true↔l.Pairwise fun a b=>a.1<b.1:=by
  intro l
  induction l with
  | nil=>exact⟨fun _=>.nil,fun _=>rfl⟩
  | cons a l ih =>
   cases l with
   | nil=>exact⟨fun _=>List.pairwise_singleton _ _,fun _=>rfl⟩
   | cons b l =>
    rw[zbn,zAQ9,ih,decide_eq_true_eq]
    constructor
    ·rintro ⟨h1,h2⟩;refine zFO9.2 ⟨fun c hc=>?_,h2⟩;rcases zAX9.1 hc with rfl|hc
     ·exact h1
     ·exact Nat.lt_trans h1 ((zFO9.1 h2).1 c hc)
    ·intro h;obtain⟨h1,h2⟩:=zFO9.1 h;exact⟨h1 b (zAU9 ..),h2⟩
 intro l m hs h;exact(hp _).2 (((hp _).1 h).sublist hs)
def zd5 (ns ms:List zC):Prop:=zh6 ns ms/\∀(i:Nat) (n m:zC),ns[i]?=some n->ms[i]?=some m->m.pairs.Sublist n.pairs
theorem zd5.nil:zd5 [] []:=⟨⟨rfl,fun i n m hn=>by simp at hn⟩,fun i n m hn=>by simp at hn⟩
theorem zd5.snoc {ns ms:List zC}{n m:zC}(h:zd5 ns ms)(k:ziZ n m)(hp:m.pairs.Sublist n.pairs):zd5 (ns++[n]) (ms++[m]):=by
 refine⟨h.1.snoc k,fun i a b ha hb=>?_⟩;have hl:=h.1.1;rcases zCY9 i ns.length with hi|hi
 ·rw[zAV9 hi]at ha;rw[zAV9 (by omega)]at hb;exact h.2 i a b ha hb
 ·rw[zAP9 hi]at ha;rw[zAP9 (by omega)]at hb;obtain rfl:=zBF9.1 (zAO9 ha);obtain rfl:=zBF9.1 (zAO9 hb);exact hp
theorem zd5.levP:∀(ns ms:List zC),zd5 ns ms->(levP ms).Sublist (levP ns)
 | [],[],_=>List.Sublist.refl _
 | [],_::_,h=>by have:=h.1.1;simp at this
 | _::_,[],h=>by have:=h.1.1;simp at this
 | n::ns,m::ms,h=>by
  have ht:zd5 ns ms:=⟨⟨by have:=h.1.1;simpa using this,fun i a b ha hb=>h.1.2 (i+1) a b (by simpa using ha) (by simpa using hb)⟩,fun i a b ha hb=>h.2 (i+1) a b (by simpa using ha) (by simpa using hb)⟩
  have hk:zdv ms.head?=zdv ns.head?:=by
   cases ns with
   | nil =>
    cases ms with
    | nil=>rfl
    | cons b ms=>have:=ht.1.1;simp at this
   | cons a ns =>
    cases ms with
    | nil=>have:=ht.1.1;simp at this
    | cons b ms =>
     have e:=(ht.1.2 0 a b rfl rfl).low
     funext p
     simp only[List.head?_cons,zdv,e]
  rw[Fv.levP,Fv.levP,hk];exact((h.2 0 n m rfl rfl).filter _).append (zd5.levP ns ms ht)
structure zrG (w v:List Nat):Prop where
 same:zim w v
 sub:∀b,headB (zA w b)=true->(headN (zA v b)).pairs.Sublist (headN (zA w b)).pairs
theorem zna {w v:List Nat}(hwv:zrG w v){lv:Int}{s:List Nat}{B:List Nat}{N:List zC}:∀(k:Nat) (seen bs:List Nat) (ns ms:List zC) (b:Nat),zd5 ns ms->zbs w lv k seen bs ns b=some (s,B,N)->∃M,zbs v lv k seen bs ms b=some (s,B,M)/\zd5 N M
 | 0,seen,bs,ns,ms,b,h,hr=>by
  rw[zbs]at hr⊢
  split at hr
  ·rename_i hb;injection hr with hr;injection hr with r1 hr;injection hr with r2 r3;subst r1 r2 r3;exact⟨ms,by rw[if_pos hb],h⟩
  ·cases hr
 | k+1,seen,bs,ns,ms,b,h,hr=>by
  rw[zbs]at hr⊢
  split at hr
  ·rename_i hb;injection hr with hr;injection hr with r1 hr;injection hr with r2 r3;subst r1 r2 r3;exact⟨ms,by rw[if_pos hb],h⟩
  rename_i hb
  split at hr
  ·cases hr
  rename_i hbad
  split at hr
  rotate_left
  ·cases hr
  rename_i hg;rw[zAQ9]at hg;obtain⟨e1,e2⟩:=hwv.same.head b hg.1;rw[if_neg hb,hwv.same.len,if_neg hbad,if_pos (by rw[zAQ9];exact⟨e1,by rw[h.1.goes e2];exact hg.2⟩),e2.sib];exact zna hwv k _ _ _ _ _ (h.snoc e2 (hwv.sub b hg.1)) hr
theorem zlL {w v:List Nat}(hwv:zrG w v):∀(d:Nat) (seen:List Nat) (acc acc':List Lev) (b:Nat) (lv:Int),(zbB w d seen acc b lv).2=true->(zbB v d seen acc' b lv).2=true
 | 0,_,_,_,_,_,h=>by cases h
 | d+1,seen,acc,acc',b,lv,h=>by
  rw[zbB]at h⊢
  cases hr:zbs w lv (w.length/64) seen [] [] b with
  | none=>rw[hr]at h;cases h
  | some r =>
   obtain⟨s',bs,ns⟩:=r;obtain⟨M,hM,hA⟩:=zna hwv _ _ _ _ [] _ zd5.nil hr;rw[hr]at h;rw[hwv.same.len,hM]
   cases ns with
   | nil=>cases h
   | cons n ns =>
    cases M with
    | nil=>have:=hA.1.1;simp at this
    | cons m M =>
     have e:=hA.1.2 0 n m rfl rfl;simp only at h⊢;rw[e.level]
     by_cases hl:n.level=0
     ·rw[if_pos hl]at h⊢;exact zvx (zd5.levP _ _ hA) h
     ·rw[if_neg hl]at h⊢;rw[e.left];exact zlL hwv d _ _ _ _ _ h
theorem zvc {w:List Nat}{n b key:Nat}(hb:64*b+64<=w.length)(hn:(zac w n).2=true)(hne:¬n/64=b):(zac (zax w (zaZ (64*b) (zci (zA w b) key).1)) n).2=true:=by
 have ha:=zhR (key:=key) (zb5 w b hb);have hg:(zax w (zaZ (64*b) (zci (zA w b) key).1)).getD n 0=w.getD n 0:=zgU n _ w fun s hs e=>by
  unfold zaZ at hs;obtain⟨y,hy,rfl⟩:=zAM9.1 hs;have:=ha.2 y hy;dsimp only at e;omega
 unfold zac at hn⊢;rw[hg];refine zlL ⟨zmz hb,fun c _=>?_⟩ _ _ _ _ _ _ hn
 by_cases h:c=b
 ·subst h;rw[zjT c _ w hb ha.2];exact zsO _ _
 ·rw[zig (Ne.symm h) _ _ ha.2];exact List.Sublist.refl _
theorem zmF:∀(l:List Pr) (x:Wk),(x.does l).L=x.L++l
 | [],x=>(zDO9 _).symm
 | c::l,x=>by
  have e:x.does (c::l)=(x.one c).does l:=rfl;rw[e,zmF l];show (x.L++[c])++l=_;rw[zAG9];rfl
theorem zto {n:Nat}(hn:n<=2048):∀(l seen seen':List Int),(∀x∈seen',x∈seen)->frG n seen l=true->okI seen' l=true
 | [],_,_,_,_=>rfl
 | f::l,seen,seen',h,hf=>by
  unfold frG at hf;simp only[zAQ9,decide_eq_true_eq,zCU9,zED9,decide_eq_false_iff_not]at hf;obtain⟨⟨⟨h1,h2⟩,h3⟩,h4⟩:=hf;have h5:=zto hn l (f::seen) (f::seen') (fun x hx=>by
   rcases zAX9.1 hx with rfl|hx
   ·exact zAU9 ..
   ·exact zAT9 _ (h x hx)) h4
  rw[okI,h5];simp only[zAQ9,decide_eq_true_eq,zCU9,zED9,decide_eq_false_iff_not,and_true];exact⟨⟨h1,by omega⟩,fun hs=>h3 (h f hs)⟩
theorem zyk {b:Nat}{ws:List Nat}{s:Pr}(h:s∈ze8 b ws):s.1<64*b+ws.length:=by
 unfold ze8 at h;obtain⟨k,hk,rfl⟩:=zAM9.1 h;have:=zCT9.1 hk;dsimp only;omega
theorem zsD {N:Nat}{T:List Lev}(h:∀b∈T.flatMap Prod.fst,64*b+64<=N):∀s∈zcD T,s.1<N:=fun s hs=>by
 unfold zcD at hs;obtain⟨L,hL,hs⟩:=zBB9.1 hs;unfold ze3 at hs;obtain⟨x,hx,hs⟩:=zBB9.1 hs;have h1:=zyk hs;rw[zdg]at h1;have h2:=h x.1 (zBB9.2 ⟨L,hL,(zES9 hx).1⟩);omega
theorem zs0 (l:List Pr)(fr:List Int)(N:Nat)(hl:l.length<=500)(hI:okI [] fr=true)(hfr:∀f∈fr,64*f+64<=(N:Int)) :
  (∃no:Nat,¬no=0/\(fr.length<zcO l.length\/okP l=false)/\zcK l fr=zjD no)\/(∃(root used:Nat) (more:List Pr),¬(fr.length<zcO l.length\/okP l=false)/\zcK l fr=.ret (.tuple [iv root,.list 0 2 (more.map zBo),iv used,iv 0])/\more.length<=64*fr.length/\root<2048/\∀s∈more,s.1<N):=by
 obtain⟨free,rfl,hF⟩:=zjy hI;have hfree:(free.map fun(b:Nat)=>(b:Int)).map Int.toNat=free:=by rw[zDH9];exact zFU9 free
 unfold zcK;rw[hI,hfree,zFV9,zAA9]
 cases hP:okP l with
 | false=>exact .inl ⟨2,by decide,.inr rfl,rfl⟩
 | true =>
  rw[if_pos rfl];have hn:=ziw (free:=free) hl
  cases hb:zex l free with
  | none=>exact .inl ⟨221,by decide,.inl (hn.1 hb),rfl⟩
  | some T =>
   have hT:=zpy hP hF hl hb;obtain⟨used,hu,e⟩:=hT.blocks;obtain⟨b,n,T',hT1,_⟩:=hT.one;have hlen:(zcD T.reverse).length=64*(free.take used).length:=by
    rw[zhG _ fun M hM=>hT.len M (zEO9.1 hM),e]
   have hbm:b∈free:=zBX9 (i:=used) (by rw[<- e,hT1];simp);have hroot:zhz T=b:=by rw[hT1];rfl
   refine .inr ⟨zhz T,_,_,fun h=>?_,rfl,by rw[hlen,zBA9];omega,by rw[hroot];exact(((zfE free).1 hF).1 b hbm).2,zsD fun c hc=>?_⟩
   ·rcases h with h|h
    ·rw[hn.2 h]at hb;cases hb
    ·cases h
   ·have hcm:c∈free:=zBX9 (i:=used) (by rw[<- e];exact hc);have:=hfr (c:Int) (zAM9.2 ⟨c,hcm,rfl⟩);omega
set_option maxHeartbeats 1000000 in
theorem zxr (w:List Nat)(hw:w.length<=2560)(n:Nat)(hn:n<64)(key:Nat)(fr:List Int)(hfl:fr.length<=100):∃(L:List Pr) (u:Nat) (bl:List Nat) (no:Nat),(∀p r,FN ET 10 [wv p w,iv n,uv key,.list r 1 (fr.map iv)] (.ret (zdq L u bl no)))/\(∀p r,FN ET 12 [wv p w,iv n,uv key,.list r 1 (fr.map iv)] (.ret (zdq L u bl no)))/\L.length<=900000/\bl.length<=900000:=by
 have hsm:za7 w.length:=by unfold za7;omega
 have hA:=fun p r=>zjB p r w n fr hsm (by omega);have h82:=fun p r=>zws p r w n fr hsm (by omega);have h60:=fun p=>zsA p w n hsm
 by_cases h0:zeR w n fr=0
 rotate_left
 ·refine⟨[],0,[],zeR w n fr,fun p r=>?_,fun p r=>zpB p r w n key fr _ h0 (hA p r),zAS9 _,zAS9 _⟩;have h82:=h82 p r;have h60:=h60 p;unfold zqf at h82;unfold zin at h60;unfold zeR ziQ at h0⊢
  by_cases hr:zbO w.length n=true
  rotate_left
  ·rw[if_neg hr]at h82⊢;exact zhb p r w n key fr 2 fun H=>zkx p r w n fr 2 H h82
  rw[if_pos hr]at h82 h60 h0⊢
  by_cases hf:zA6 w (n:Int).toNat fr=true
  rotate_left
  ·rw[if_neg hf]at h82⊢;exact zhb p r w n key fr 2 fun H=>zkx p r w n fr 2 H h82
  rw[if_pos hf]at h82 h0⊢;rw[if_pos hr]at h0⊢
  by_cases ht:(zac w (n:Int).toNat).2=true
  rotate_left
  ·rw[if_neg ht]at h60⊢;exact zhb p r w n key fr 220 fun H=>zku p r w n fr 220 H h82 h60
  rw[if_pos ht]at h60 h0⊢
  by_cases hs:zfe w (zac w (n:Int).toNat).1=true
  rotate_left
  ·rw[if_neg hs]at h60⊢;exact zhb p r w n key fr 220 fun H=>zku p r w n fr 220 H h82 h60
  rw[if_pos hs]at h0;exact absurd rfl h0
 obtain⟨n',frN,ws,hnn,hn2,h64,hN,hfr,ht,hset,hS⟩:=zmg key h0;obtain rfl:n'=n:=by omega
 have hrB:zbO w.length (n':Int)=true:=by
  unfold zeR at h0;split at h0
  ·assumption
  ·cases h0
 have hfB:zA6 w n' fr=true:=by
  unfold zeR at h0;rw[if_pos hrB,zCV9]at h0
  split at h0
  ·assumption
  ·cases h0
 have hI:okI [] fr=true:=zto (n:=w.length/64) (by omega) fr _ [] (fun x hx=>by cases hx) (by rw[zsg];exact hfB);have h82:∀p r,FN ET 82 [wv p w,iv n',.list r 1 (fr.map iv)] (.ret (.tuple [])):=fun p r=>by
  have h:=h82 p r;unfold zqf at h;rw[if_pos hrB,zCV9,if_pos hfB]at h;exact h
 have h60:∀p,FN ET 60 [wv p w,iv n'] (.ret (zbQ (zac w n').1)):=fun p=>by
  have h:=h60 p;unfold zin at h;rw[if_pos hrB,zCV9,if_pos ht,if_pos hset]at h;exact h
 have hbl:zdB w n'=.ret (.tuple [.list 0 1 (bfl (zdD (zac w n').1 (w.length/64))),iv 0]):=by unfold zdB;rw[if_pos hrB,zCV9,if_pos ht]
 have h17:=fun p=>zsJ p w n' hsm;have h19:=fun p=>zqs p w n' hsm;rw[hbl]at h17 h19;have hbll:=zmq (zac w n').1 (w.length/64);have hT0l:=(zcN (w:=w) (T:=(zac w n').1) hN n' (by rw[<- ht])).2.2.2.2;have hbl9:(zdD (zac w n').1 (w.length/64)).length<=900000:=by
  have:w.length/64*(zac w n').1.length<=40*14:=Nat.mul_le_mul (by omega) hT0l;omega
 generalize zdD (zac w n').1 (w.length/64)=bl at *
 generalize (zac w n').1=T0 at *
 rw[h0]at hA;obtain⟨s1,s2,s3,s4,s5,s6,s7,s8,s9⟩:=hS;have hW:=fun p=>zmd p w n' key ws hN hn2 s1;obtain⟨init,leaf,rfl⟩:=ziq s6;have hleaf:leaf∈init++[leaf]:=by simp
 have hin:64*leaf+64<=w.length:=by have:=s3 leaf hleaf;omega
 have hpos:=s9 leaf hleaf;have hbl64:=zb5 w leaf hin;have htk:=zvv 1 key (zA w leaf) hbl64;have htk2:=fun p=>zpw p key (zA w leaf) (by rw[hbl64];decide);have hta:=zhR (key:=key) hbl64;have hbad:¬(zci (zA w leaf) key).2=0->(zci (zA w leaf) key).1=[]:=fun h=>by
  unfold zci chg at h⊢
  split
  ·rename_i h1;rw[if_pos h1]at h
   split
   ·rename_i h2;rw[if_pos h2]at h;exact absurd rfl h
   ·rfl
  ·rfl
 have hVr:=zvc (key:=key) hin ht (by omega:¬n'/64=leaf);have hVl:(zax w (zaZ (64*leaf) (zci (zA w leaf) key).1)).length=w.length:=zcZ _ _;have hLl:(zaZ (64*leaf) (zci (zA w leaf) key).1).length<=71:=by rw[zfw];exact hta.1
 have hd:=fun(x:Wk) (hx:Id0 x.fr) (hxL:x.L=[]) (hxW:x.W=w)=>zdQ x hx (64*leaf) 0 (zci (zA w leaf) key).1 (by rw[hxL];simp;omega) (by rw[hxW];omega) fun c hc=>by have:=hta.2 c hc;rw[hxW];omega
 generalize zci (zA w leaf) key=tk at *
 obtain⟨L1,hL1⟩:∃L1,L1=zaZ (64*leaf) tk.1:=⟨_,rfl⟩
 obtain⟨V,hV⟩:∃V,V=zax w L1:=⟨_,rfl⟩
 rw[<- hL1]at hLl;rw[<- hL1,<- hV]at hVr hVl;have hVlv:=fun p=>zkR p V n' (by unfold za7;omega);have hlvE:zhp V n'=.ret (zbQ (zac V n').1):=by unfold zhp;rw[if_pos (by rw[hVl];exact hrB),zCV9,if_pos hVr]
 rw[hlvE]at hVlv;have hlv50:=fun p=>zfj p V ⟨by omega,by omega⟩ n' (by omega);obtain⟨q1,q2⟩:=zeG V n';rw[q2 hVr,q1,hVr]at hlv50;obtain⟨f1,f2,f3,f4,f5⟩:=zcN (w:=V) (T:=(zac V n').1) (by omega) n' (by rw[<- hVr]);have tf3:∀L∈(zbM V n').1,L.1.length<=V.length/64:=zkf (by omega) 14 [] [] _ _ fun L hL=>by simp at hL
 rw[q2 hVr]at tf3;have hTg:=(zlE f3).1;have hTp:0<(zac V n').1.length:=zBV9.2 f3;generalize (zac V n').1=T at *
 have hLm:zgx T∈T:=zAO9 hTg;generalize zgx T=LL at *
 have hLF:=f1 LL hLm;have hL40:LL.2.length<=40:=by have:=tf3 LL hLm;have:=hLF.lv.len;omega
 have hp28:∀m∈LL.2,m.pairs.length<=28:=fun m hm=>(hLF.lv.node hm).1;have hll:=zhM LL.2 hp28;have h43:=zlK 0 0 LL.1 LL.2 (by omega) hp28 (by omega);have h51:=zjx 0 0 LL.1 LL.2 (by omega) hp28 (by omega);have hlE:zf7 LL.2=.ret (.tuple [psv 0 (levP LL.2),.bool true]):=by unfold zf7;rw[if_pos f4]
 rw[hlE]at h43 h51;generalize levP LL.2=P at *
 have hfv:∀r,PV.list r 1 (fr.map iv)=frV r frN:=fun r=>by rw[hfr,zDH9];rfl
 have hfrl:frN.length=fr.length:=by rw[hfr,zAA9]
 have hf64:∀f∈fr,64*f+64<=(w.length:Int):=fun f hf=>by
  rw[hfr]at hf;obtain⟨g,hg,rfl⟩:=zAM9.1 hf;have:=s7 g hg;omega
 have hA2:∀p r,FN ET 45 [wv p w,iv n',frV r frN] (.ret (iv (0:Nat))):=fun p r=>by rw[<- hfv];exact hA p r
 have hx:∀p r,∃x1:Wk,FP ET 49 [wkv ⟨p,0,w,[],frV r frN,0⟩,iv (64*leaf:Nat),.list 0 2 (tk.1.map zBo)] (.ret (wkv x1))/\x1.L=L1/\x1.W=V/\x1.fr=frV r frN/\x1.q=0/\x1.used=0:=fun p r=>by
  have h:=hd ⟨p,0,w,[],frV r frN,0⟩ (.list _ _ _) rfl rfl;rw[<- hL1]at h;have h2:=zcJ L1 ⟨p,0,w,[],frV r frN,0⟩;exact⟨_,h,by rw[zmF];exact zAK9 _,by rw[zgu,hV],h2.2.2.1,zdS _ _ rfl,h2.2.2.2⟩
 by_cases hok:tk.2=0
 rotate_left
 ·refine⟨[],0,[],tk.2,fun p r=>zgN p r n' key w fr (init++[leaf]) leaf tk T0 T LL P bl 0 0 1 [] (zdq [] 0 [] tk.2) ⟨by omega,hN⟩ hn2 (h82 p r) (h60 p) s1 (by simp) ⟨by simp,by omega⟩ hin htk ⟨by omega,hta.2⟩ (fun h=>⟨hbad h,rfl⟩) (fun h=>absurd h hok) hTg ⟨hTp,f5⟩ (by omega) h43 (by omega) (fun h=>absurd h hok) (fun h=>absurd h hok) (fun h=>absurd h hok) (h17 p) (fun h=>absurd h hok) (zd8 _ _ _ _),fun p r=>?_,zAS9 _,zAS9 _⟩;rw[hfv];obtain⟨x1,_⟩:=hx p r;exact zgf p r n' key w (init++[leaf]) leaf ⟨p,0,w,[],frV r frN,0⟩ x1 x1 x1 frN tk T LL P true true 0 0 [] bl (zdq [] 0 [] tk.2) (zd8 _ _ _ _) hN rfl (hA2 p r) (hW p) (by omega) (by simp) (by simp) hin (htk2 p) (fun _=>rfl) (fun h=>absurd h hok) (fun h=>absurd h hok) hTg ⟨hTp,f5⟩ hL40 h51 (by omega) (by omega) (fun h=>absurd h hok) (fun h=>absurd h hok) (h19 p)
 by_cases hf:T.length=1\/6*LL.2.length<P.length
 ·refine⟨L1,0,[],0,fun p r=>zgN p r n' key w fr (init++[leaf]) leaf tk T0 T LL P bl 0 0 1 [] (zdq L1 0 [] 0) ⟨by omega,hN⟩ hn2 (h82 p r) (h60 p) s1 (by simp) ⟨by simp,by omega⟩ hin htk ⟨by omega,hta.2⟩ (fun h=>absurd hok h) (fun _=>by rw[<- hL1,<- hV];exact hVlv 1) hTg ⟨hTp,f5⟩ (by omega) h43 (by omega) (fun _ _=>by rw[hL1]) (fun _ h=>absurd hf h) (fun _ h=>absurd hf h) (h17 p) (fun _ h=>absurd hf h) (zd8 _ _ _ _),fun p r=>?_,by omega,zAS9 _⟩;rw[hfv];obtain⟨x1,y1,y2,y3,y4,y5,y6⟩:=hx p r;exact zgf p r n' key w (init++[leaf]) leaf ⟨p,0,w,[],frV r frN,0⟩ x1 x1 x1 frN tk T LL P true true 0 0 [] bl (zdq L1 0 [] 0) (zd8 _ _ _ _) hN rfl (hA2 p r) (hW p) (by omega) (by simp) (by simp) hin (htk2 p) (fun h=>absurd hok h) (fun _=>⟨y1,y4,y5,y6⟩) (fun _=>by rw[y3];exact hlv50 _) hTg ⟨hTp,f5⟩ hL40 h51 (by omega) (by omega) (fun _ _=>by rw[y2]) (fun _ h=>absurd (hf.elim .inl fun h=>.inr (.inl h)) h) (h19 p)
 have hP240:P.length<=240:=by omega
 have h26:=fun r=>zya 0 r P fr (by omega) (by omega);have h27:=fun r=>zpP 0 r P fr (by omega) (by omega);rcases zs0 P fr w.length (by omega) hI hf64 with⟨no,hno,hcond,hE⟩|⟨root,used,more,hnc,hE,hml,hrt,hat⟩
 ·rw[hE]at h26;refine⟨L1,0,[],0,fun p r=>zgN p r n' key w fr (init++[leaf]) leaf tk T0 T LL P bl 0 0 no [] (zdq L1 0 [] 0) ⟨by omega,hN⟩ hn2 (h82 p r) (h60 p) s1 (by simp) ⟨by simp,by omega⟩ hin htk ⟨by omega,hta.2⟩ (fun h=>absurd hok h) (fun _=>by rw[<- hL1,<- hV];exact hVlv 1) hTg ⟨hTp,f5⟩ (by omega) h43 (by omega) (fun _ h=>absurd h hf) (fun _ _=>h26 r) (fun _ _ _=>by rw[hL1]) (h17 p) (fun _ _ h=>absurd h hno) (zd8 _ _ _ _),fun p r=>?_,by omega,zAS9 _⟩;rw[hfv];obtain⟨x1,y1,y2,y3,y4,y5,y6⟩:=hx p r;exact zgf p r n' key w (init++[leaf]) leaf ⟨p,0,w,[],frV r frN,0⟩ x1 x1 x1 frN tk T LL P true true 0 0 [] bl (zdq L1 0 [] 0) (zd8 _ _ _ _) hN rfl (hA2 p r) (hW p) (by omega) (by simp) (by simp) hin (htk2 p) (fun h=>absurd hok h) (fun _=>⟨y1,y4,y5,y6⟩) (fun _=>by rw[y3];exact hlv50 _) hTg ⟨hTp,f5⟩ hL40 h51 (by omega) (by omega) (fun _ _=>by rw[y2]) (fun _ h=>absurd (.inr (.inr (by rw[hfrl];exact hcond))) h) (h19 p)
 ·rw[hE]at h26 h27;refine⟨L1++more++[(n',root)],used,bl,0,fun p r=>zgN p r n' key w fr (init++[leaf]) leaf tk T0 T LL P bl root used 0 more (zdq (L1++more++[(n',root)]) used bl 0) ⟨by omega,hN⟩ hn2 (h82 p r) (h60 p) s1 (by simp) ⟨by simp,by omega⟩ hin htk ⟨by omega,hta.2⟩ (fun h=>absurd hok h) (fun _=>by rw[<- hL1,<- hV];exact hVlv 1) hTg ⟨hTp,f5⟩ (by omega) h43 (by omega) (fun _ h=>absurd h hf) (fun _ _=>h26 r) (fun _ _ h=>absurd rfl h) (h17 p) (fun _ _ _=>⟨hat,by omega,by omega,by rw[hL1]⟩) (zd8 _ _ _ _),fun p r=>?_,by simp;omega,hbl9⟩;rw[hfv];obtain⟨x1,y1,y2,y3,y4,y5,y6⟩:=hx p r;have hid1:Id0 x1.fr:=by rw[y4];exact .list _ _ _
  have d2:=zdQ x1 hid1 0 0 more (by rw[y2];omega) (by rw[y3];omega) fun c hc=>by have:=hat c hc;rw[y3];omega
  rw[zir]at d2;have w2:=zcJ more x1;have z2:=zmF more x1;have e2:=zgu more x1;have g2:=zdS more x1 y5;generalize x1.does more=x2 at *
  have hid2:Id0 x2.fr:=by rw[w2.2.2.1];exact hid1
  have d3:=zdQ x2 hid2 0 0 [(n',root)] (by rw[z2,y2];simp;omega) (by rw[w2.1,y3];omega) fun c hc=>by obtain rfl:=zBF9.1 hc;rw[w2.1,y3];dsimp only;omega
  rw[zir]at d3;have w3:=zcJ [(n',root)] x2;have z3:=zmF [(n',root)] x2;have g3:=zdS [(n',root)] x2 g2;generalize x2.does [(n',root)]=x3 at *
  exact zgf p r n' key w (init++[leaf]) leaf ⟨p,0,w,[],frV r frN,0⟩ x1 x2 x3 frN tk T LL P true true root used more bl (zdq (L1++more++[(n',root)]) used bl 0) (zd8 _ _ _ _) hN rfl (hA2 p r) (hW p) (by omega) (by simp) (by simp) hin (htk2 p) (fun h=>absurd hok h) (fun _=>⟨y1,y4,y5,y6⟩) (fun _=>by rw[y3];exact hlv50 _) hTg ⟨hTp,f5⟩ hL40 h51 (by omega) (by omega) (fun _ h=>by
    rcases h with h|h|h|h
    ·exact absurd (.inl h) hf
    ·exact absurd (.inr h) hf
    ·exact absurd (.inl (by rw[<- hfrl];exact h)) hnc
    ·exact absurd (.inr h) hnc) (fun _ _=>⟨by rw[z3,z2,y2],by omega,by rw[<- hfv];exact h27 r,d2,d3,w2.2.2.1.trans y4,w3.2.2.1.trans (w2.2.2.1.trans y4),g3⟩) (h19 p)
theorem f3:ET.funcs.get 3=some T3:=zH Tryz.func3
theorem Frz.more {n:Nat}{w:List Nat}(X:List zn)(hn:n=w.length):Frz (ztW w++X) 1 (zp7 n) (wv 1 w):=by
 subst hn;refine Frz.sl (l:=w.map uv++[uv 77]) (by rfl) (zAS9 _) (zAJ9 _) (by simp) (by omega) (by simp) (fun v hv=>by obtain⟨x,_,rfl⟩:=zAM9.1 hv;rfl) (by simp) fun i x y hx hy=>?_;have e:(List.drop 0 (w.map uv++[uv 77])).take w.length=w.map uv:=by
  rw[zFD9,zEG9 (by simp),zCS9 (by simp)]
 rw[e,hy]at hx;injection hx with hx;subst hx;exact(zhl _ (zAO9 hy)).frz
theorem zA7 (ws:List Nat)(key:Nat)(own:List Int)(ho:own.length=0):LF (ztW ws++[.row 3 1 0 0 []]) 1 [zp7 ws.length,iv 5,uv key,.sl 2 0 0 0 0 1] [wv 1 ws,iv 5,uv key,.list 1 1 (own.map iv)] :=
 ⟨Frz.more [.row 3 1 0 0 []] rfl,.int _ _,.int _ _,zz4 ho rfl,trivial⟩
set_option maxHeartbeats 4000000 in
theorem zyU (q1 q2 q3:Nat)(blocks:Int)(zbC:List Nat)(bent:List (Int×Nat))(key:Nat)(free:List Int)(hbw:∀x∈bent,LtU x.2):FN ET 3 [iv blocks,.list q1 1 (zdw zbC),.list q2 2 (wdV bent),uv key,.list q3 1 (free.map iv)] (.ret (.bool true)):=by
 refine zfn f3 (.bool _) ?_;have hM:=zx1 q1 q2 blocks zbC bent hbw;have done:∀(tm:Nat->PV) (H:List zn),tm 10=.bool true->zdj ET T3 (fun e' H=>za0 H 0 e' (.ret (.bool true))) .ret ⟨tm,[],H⟩:=fun tm H h=>by
  refine zj (vs:=[.bool true]) ?_ (Frz.bool _);simp[T3,xT,zE,okv,h]
 refine zG ?_;refine zI ?_;refine zxZ (caps:=?_) (vs:=?_) ?_ ?_ hM ?_ ?_;rotate_left 2;(first|rfl|(simp only[zV,zZ,go_sem,zAF9]<;>rfl));(simp only[go_sem]<;>rfl);(repeat(first|exact trivial|refine And.intro ?_ ?_|exact .int _ _|exact .bool _|exact .list _ _ _|exact .elem _|exact .nilsl|exact .nil _ _|exact .str _|refine Frz.aggL ?_|refine Frz.fnL ?_|refine Frz.tupL ?_|refine .iface ?_|exact zbF rfl rfl (by assumption)));rintro e ⟨ws,fr,b,rfl,hfine⟩;refine zN ?_;refine zcI (fun tm=>tm 3=uv key/\tm 4=.list q3 1 (free.map iv)/\tm 11=wv 0 ws/\tm 12=.list 0 1 (fr.map iv)/\tm 13=.bool b) ⟨zt,zt,zt,zt,by simp[upd]⟩ ?_;rintro tm ⟨h3,h4,h11,h12,h13⟩;have few:b=true/\free.length<=10\/(b=false\/10<free.length):=by
  cases b
  ·exact .inr (.inl rfl)
  ·by_cases h:free.length<=10
   ·exact .inl ⟨rfl,h⟩
   ·exact .inr (.inr (by omega))
 rcases few with⟨rfl,hk⟩|hbad;rotate_left
 ·(repeat refine za ?_);refine zbD (Q:=fun yy s'=>yy=.norm/\s'.tm 36=.bool true/\s'.df=[]/\s'.H=[]) (zAU ?_) ?_
  ·cases b
   ·refine zKF (zr2 h4 h13) ?_;exact⟨rfl,zt,rfl,rfl⟩
   ·have g:(10:Int)<(free.length:Nat):=by rcases hbad with h|h;cases h;omega
    refine zKF (zr3 h4 h13 g) ?_;exact⟨rfl,zt,rfl,rfl⟩
  clear h3 h4 h11 h12 h13;rintro yy ⟨tm,df,H⟩ ⟨rfl,h36,rfl,rfl⟩;dsimp only at h36;refine zct ?_ (by simp only[go_sem,h36]<;>rfl);refine zI ?_;refine zca f9 ?_;refine zN ?_;refine zy ?_;exact done _ _ (by simp[upd])
 obtain⟨hb1,hb2,hwl,hfl,hwb⟩:=hfine rfl;have g10:¬(10:Int)<(free.length:Nat):=by omega
 refine zTF (zr3 h4 h13 g10) ?_;refine zBl ?_;show W _ _ _ _ _ _;refine zcI (fun tm=>tm 3=uv key/\tm 4=.list q3 1 (free.map iv)/\tm 11=wv 0 ws/\tm 12=.list 0 1 (fr.map iv)) ⟨zu h3,zu h4,zu h11,zu h12⟩ ?_;clear h3 h4 h11 h12 h13;rintro tm ⟨h3,h4,h11,h12⟩;refine zGF h4 ?_;(repeat refine za ?_);refine zbD (Q:=fun yy s'=>yy=.norm/\(∃(q:Nat) (own:List Int),s'.tm 12=.list q 1 (own.map iv)/\own.length<=100)/\s'.tm 3=uv key/\s'.tm 11=wv 0 ws/\s'.df=[]/\s'.H=[]) ?_ ?_
 ·by_cases hf:0<free.length
  ·have g:(0:Int)<(free.length:Nat):=by omega
   refine zct ?_ (by simp only[go_sem,g]<;>rfl);refine zJF h4 ?_;exact⟨rfl,⟨q3,free,zt,by omega⟩,zu h3,zu h11,rfl,rfl⟩
  ·have g:¬(0:Int)<(free.length:Nat):=by omega
   refine zcf ?_ (by simp only[go_sem,g]<;>rfl);refine zBl ?_;exact⟨rfl,⟨0,fr,zu h12,by omega⟩,zu h3,zu h11,rfl,rfl⟩
 clear h3 h4 h11 h12;rintro yy ⟨tm,df,H⟩ ⟨rfl,⟨q,own,h12,hol⟩,h3,h11,rfl,rfl⟩;dsimp only at h3 h11 h12;have hw0:0<ws.length:=by omega
 have hw1:ws.length<=131072:=by omega
 obtain⟨L,u,bl,no,hT,hT2,hLl,hbll⟩:=zxr ws (by omega) 5 (by decide) key own (by omega);have hT:=hT 1 1;have hT2:=hT2 0 q;(repeat refine za ?_);refine zbD (Q:=fun yy s'=>yy=.norm/\s'.tm 3=uv key/\s'.tm 11=wv 0 ws/\s'.tm 12=.list q 1 (own.map iv)/\s'.tm 14=.list 0 2 (L.map zBo)/\s'.tm 15=iv u/\s'.tm 16=.list 0 1 (bfl bl)/\s'.tm 17=iv no/\s'.df=[]) (zAU ?_) ?_
 ·have hbf:own.length*9<=140737488355328:=by omega
  by_cases ho:own.length=0
  ·refine zAW h11 ?_;refine zco (ztP 0 ws hw0 hw1) ?_ (by first|rfl|(simp only[go_sem,h11]<;>rfl)) (by simp only[go_sem,h11]<;>rfl);rintro e H' ⟨rfl,rfl⟩;refine zAW (zr3 h3 h12 ho) ?_;refine zcl hT ?_ ?_;exact zA7 ws key own ho;refine zK ?_;exact⟨rfl,zu h3,zu h11,zu h12,zt,zt,zt,zt,rfl⟩
  ·refine zAW h11 ?_;refine zco (ztP 0 ws hw0 hw1) ?_ (by first|rfl|(simp only[go_sem,h11]<;>rfl)) (by simp only[go_sem,h11]<;>rfl);rintro e H' ⟨rfl,rfl⟩;refine zAW (zr4 h3 h12 ho hbf) ?_;refine zcl hT ?_ ?_;exact⟨Frz.more [_] rfl,.int _ _,.int _ _,Frz.whole rfl rfl (by simp) (by simp) (fun v hv=>by obtain⟨x,_,rfl⟩:=zAM9.1 hv;rfl) zlg,trivial⟩;refine zK ?_;exact⟨rfl,zu h3,zu h11,zu h12,zt,zt,zt,zt,rfl⟩
 clear h3 h11 h12;rintro yy ⟨tm,df,H⟩ ⟨rfl,h3,h11,h12,h14,h15,h16,h17,rfl⟩;dsimp only at h3 h11 h12 h14 h15 h16 h17;have sP:FN ET 13 [.list 0 2 (L.map zBo),.list 0 2 (L.map zBo)] (.ret (.bool true)):=by
  have:=zsV 0 0 L L (by unfold za7;omega) (by unfold za7;omega)
  rwa [decide_eq_true rfl]at this
 have sB:FN ET 14 [.list 0 1 (bfl bl),.list 0 1 (bfl bl)] (.ret (.bool true)):=by
  have:=zsu 0 0 (bl.map fun b:Nat=>(b:Int)) (bl.map fun b:Nat=>(b:Int)) (by unfold za7;rw[zAA9];omega) (by unfold za7;rw[zAA9];omega)
  rwa [decide_eq_true rfl,<- zqQ]at this
 refine zIF (zr3 h3 h11 h12) ?_;refine zca hT2 ?_;refine zN ?_;refine zIF h14 ?_;refine zca sP ?_;refine zAW (zr2 h15 h16) ?_;refine zca sB ?_;refine zAW h17 ?_;refine zca (zAa no) ?_;refine zfx ?_;refine zca f9 ?_;refine zN ?_;refine zy ?_;exact done _ _ (by simp[upd])
end Fv
end Go.Proofs.YtfomlmhnmheenaaGreat
namespace Go.Proofs.YtfomlmhnmheenaaGreat
open Go.RowKit
namespace Tw
variable {ρ ρ':Rho}{Z:Nat}{h h':TH}{w:World}
set_option maxRecDepth 100000
theorem zkj:∀(n:Nat) (l:List TV) (r:List (Int×Nat)) (cs:List Value),l.length<=n->zeU l=some r->VL ρ l cs->cs=LT.all r/\l.length=r.length*2
 | n,[],r,cs,_,h,hv=>by
  simp only[zeU]at h;injection h with h;subst h;exact⟨by rw[hv.of_nil];rfl,rfl⟩
 | 0,_::_,r,cs,hn,h,hv=>by simp at hn
 | n+1,x::l0,r,cs,hn,h,hv=>by
  unfold zeU at h
  split at h
  ·rename_i e;cases e
  ·rename_i a b l e;injection e with e1 e2;subst e1;subst e2
   split at h
   ·rename_i r' hr;injection h with h;subst h;obtain⟨y,c1,rfl,v1,hvA⟩:=hv.of_cons;obtain⟨z,c2,rfl,v2,hvB⟩:=hvA.of_cons
    cases v1;cases v2
    obtain⟨h1,h2⟩:=zkj n l r' c2 (by simp at hn;omega) hr hvB;exact⟨by rw[h1,LT.all_cons];rfl,by simp[h2];omega⟩
   ·cases h
  ·cases h
theorem znE:∀(n:Nat) (l:List TV) (r:List (Int×Nat)),l.length<=n->zeU l=some r->∀x∈l,x.one=true
 | n,[],r,_,h=>by simp
 | 0,_::_,r,hn,h=>by simp at hn
 | n+1,x::l0,r,hn,h=>by
  unfold zeU at h
  split at h
  ·rename_i e;cases e
  ·rename_i a b l e;injection e with e1 e2;subst e1;subst e2
   split at h
   ·rename_i r' hr;intro y hy;rcases zAX9.1 hy with rfl|hy
    ·rfl
    ·rcases zAX9.1 hy with rfl|hy
     ·rfl
     ·exact znE n l r' (by simp at hn;omega) hr y hy
   ·cases h
  ·cases h
theorem ztu (k:WR Tryz.prog Z ρ h w){b g n:Nat}{loc:Loc}(hl:ρ b g=some loc){M len:Nat}{cells:Tr TV}(hro:h.get b=some (.row 83 g M len cells)){news old:List TV}{x:Int×Nat}{l:List (Int×Nat)}(hn:l.length=n)(hv:VL ρ (news++old) (LT.all (x::l)))(h1:∀y∈news++old,y.one=true)
  {v:Value} {w':World} (hO:OL LT w' Z v (x::l)) (hb:Below Z w w') {g' c':Nat} (hvv:v=.slice (some ⟨g',0,none⟩) (l.length+1) c') (hg:g'=loc.r\/w.heap.size<=g') (hfr:∀k,k≠loc.r->k<w.heap.size->w'.heap[k]?=w.heap[k]?) :
  ziC Tryz.prog Z ρ h (h.set b (.row 83 (g+1) (g+1) ((n+1)*2) (Tr.putL .nil 0 (news++old)))) w (.ret (.sl b (g+1) 0 (n+1) (2*(n+1)) 2)) (.returned v) w':=by
 subst hn;obtain⟨ob,hob,hor⟩:=k.obj _ _ _ hl;rw[hro]at hob;injection hob with hob;subst hob;have hZo:∀g loc,ρ b g=some loc->Z<=loc.r:=fun g loc hl=>(k.dom b g loc hl).2.1.resolve_right fun⟨cs,h1⟩=>by rw[hro]at h1;cases h1
 have hnone:ρ b (g+1)=none:=by
  cases hh:ρ b (g+1)with
  | none=>rfl
  | some l2=>have:=hor.2.1 _ _ hh;omega
 rcases hO with⟨hlen,⟨e1,_⟩|⟨g2,cap,cur,e1,hb2,hg2,hn2,hm2,hs2,ht2⟩⟩
 ·rw[hvv]at e1;cases e1
 ·have e2:=hvv.symm.trans e1;injection e2 with e2 e3 e4;injection e2 with e2;injection e2 with e2;subst e2;subst e4;have hm:=Rho.add_more (loc:=⟨g',(l.length+1)*2,c'*2⟩) hnone;have hdm:=k.dom _ _ _ hl;have hcc:l.length+1<=c':=by simpa using hn2
  have hsz:g'<w'.heap.size:=(zCG9.1 hg2).1;have hall:(LT.all (x::l)).length=(l.length+1)*2:=by rw[LT.all_len];simp[LT]
  have hcs:cur.size=c'*2:=hs2;have k2:=k.change (b:=b) (ρ':=ρ.add b (g+1) ⟨g',(l.length+1)*2,c'*2⟩) (x':=.row 83 (g+1) (g+1) ((l.length+1)*2) (Tr.putL .nil 0 (news++old))) hm (fun c hc g0=>Rho.add_ne hc g0) hl (w':=w') hb.size (fun c g0 l0 hc hl0=>hfr _ (fun e=>hc (k.sep _ _ _ _ _ _ hl0 hl e (by rw[e];exact hZo _ _ hl))) (k.dom _ _ _ hl0).2.2)
   ⟨zAJ9 _,fun g0 l0 h0=>by
    rcases Rho.add_inv h0 with⟨_,e,_⟩|h0
    ·omega
    ·have:=hor.2.1 _ _ h0;omega,fun g0 ha hb0=>by
    have:g0=g+1:=by omega
    subst this;refine⟨_,cur,Rho.add_same _ _ _ _,hg2,fun _=>hcs,zAJ9 _,by rw[hcs];dsimp only;omega,fun _=>rfl,fun i hi=>?_⟩;dsimp only at hi;have hi2:i<(news++old).length:=by rw[hv.1,hall];exact hi
    have hx0:(news++old)[i]?=some (news++old)[i]:=zAB9 hi2;obtain⟨y,y1,y2⟩:=hv.at hx0;refine⟨_,y,?_,?_,h1 _ (zBN9 hi2),y2.mono hm⟩
    ·rw[Tr.get_putL,if_pos (by omega)];simp
    ·have e5:cur.toList.take ((l.length+1)*2)=LT.all (x::l):=by simpa[LT]using ht2
     rw[<- e5,zBH9,if_pos hi]at y1;simpa using y1⟩
   (fun g0 l0 h0=>by
    rcases Rho.add_inv h0 with⟨_,_,e⟩|h0
    ·subst e;exact⟨hb2,hsz⟩
    ·have:=k.dom _ _ _ h0;exact⟨hZo _ _ h0,zBK9 this.2.2 hb.size⟩)
   (fun g0 l0 h0 c g1 l1 hc h1' e=>by
    rcases Rho.add_inv h0 with⟨_,_,e6⟩|h0
    ·subst e6;rcases hg with hg|hg
     ·exact hc (k.sep _ _ _ _ _ _ h1' hl (by dsimp only at e;omega) (by have:=hZo _ _ hl;dsimp only at e;omega))
     ·have:=(k.dom _ _ _ h1').2.2;dsimp only at e;omega
    ·exact hc (k.sep _ _ _ _ _ _ h1' h0 e.symm (by have:=hZo _ _ h0;omega)))
  refine⟨_,⟨hm,fun c hc hn g0=>?_⟩,k2,hb,zAJ9 _,_,rfl,?_⟩
  ·have hcb:c≠b:=fun e=>by rw[e,]at hn;rw[hn g]at hl;cases hl
   rw[Rho.add_ne hcb];exact hn g0
  ·rw[hvv];exact .sl (Rho.add_same _ _ _ _) (by omega) (by omega) (by dsimp only;omega) (.inl rfl) (fun _=>by dsimp only;omega) hm2
theorem zqG (k:WR Tryz.prog Z ρ h w)(hZ:Z<=w.heap.size){args:List TV}{args':List Value}(hv:VL ρ args args'){r:TE}(hr:ziD 83 args h=some (r,h')) :
  CallsIn (Fr none) 0 Tryz.prog 127 args'.toArray w (ziC Tryz.prog Z ρ h h' w r):=by
 unfold ziD at hr
 split at hr
 ·rename_i b g n q z bx gx qx zx;unfold zqc at hr
  split at hr
  ·rename_i rx ro news hrx hro hnews;obtain⟨c1,hr1⟩:=zM hr;obtain⟨c2,hr2⟩:=zM hr1;obtain⟨c3,hr3⟩:=zM hr2;obtain⟨c4,hr4⟩:=zM hr3;obtain⟨c5,hr5⟩:=zM hr4;obtain⟨c6,hr6⟩:=zM hr5;have c2:=zAN9 c2;have c3:=zAN9 c3;have c4:=zAN9 c4;have c5:=zBC9 c5;have c6:=zBC9 c6;subst c2;subst c3
   cases hbb:Nat.beq b bx with
   | true=>rw[hbb]at hr6;cases hr6
   | false =>
    have hbne:b≠bx:=fun e=>by rw[e,Nat.beq_refl]at hbb;cases hbb
    rw[hbb]at hr6;simp only[cond_false]at hr6
    cases ro with
    | map=>cases hr6
    | dfr=>cases hr6
    | loop=>cases hr6
    | ro=>cases hr6
    | row e G M len cells =>
     simp only[ztT]at hr6;obtain⟨d1,hr7⟩:=zM hr6;obtain⟨d2,hr8⟩:=zM hr7;obtain⟨d3,hr9⟩:=zM hr8;have d1:=zAN9 d1;have d2:=zAN9 d2;have d3:=zAN9 d3;subst d1;subst d2;subst d3
     cases hold:cells.getL 0 (n*2)with
     | none=>rw[hold]at hr9;cases hr9
     | some old =>
      rw[hold]at hr9;simp only[zup]at hr9
      split at hr9
      ·rename_i pn po hpn hpo;injection hr9 with hr9;injection hr9 with hr9 hr10;subst hr9;subst hr10;obtain⟨s',t1,rfl,v1,hv⟩:=hv.of_cons;obtain⟨i',t2,rfl,v2,hv⟩:=hv.of_cons;obtain⟨x',t3,rfl,v3,hv⟩:=hv.of_cons;obtain rfl:=hv.of_nil
       cases v2
       obtain⟨loc,o',c,rfl,hl,hn,hq,hc,ho,hs,hm⟩:=v1.sl_inv;have ho:o'=0:=by omega
       subst ho;obtain⟨A,mx,cx0,csx,ex,_,vnews,lnews,onews,cnews⟩:=ziu (n:=1) (esz:=2) k v3 (l:=news) (by simp only[zeT,Nat.beq_refl,cond_true];exact hnews) (zAJ9 _);obtain⟨locx,ox',cx,rfl,hlx,hnx,hqx,hcx,hox,hsx,hmx⟩:=v3.sl_inv;have hox:ox'=0:=by omega
       subst hox;injection ex with ex1 ex2 ex3;subst ex1;obtain⟨ob,hob,hor⟩:=k.obj _ _ _ hl;rw[hro]at hob;injection hob with hob;subst hob;obtain⟨loc1,cur,q1,q2,q3,q4,q5,q6,q7⟩:=hor.2.2 g hor.1 (zAJ9 _);rw[hl]at q1;injection q1 with q1;subst q1;have hS:=hs c4;have hL:=q6 rfl;have hcurS:=q3 rfl;obtain⟨lo1,lo2⟩:=Tr.getL_some hold;have htl:(cur.toList.take (n*2)).length=n*2:=by rw[zBA9,zGJ9,hcurS];omega
       have vold:VL ρ old (cur.toList.take (n*2)):=⟨by rw[lo1,htl],fun i x y hx hy=>by
        have hi:i<n*2:=by have:=(zAC9.1 hx).1;omega
        obtain⟨x0,v0,z1,z2,_,z4⟩:=q7 i (by omega);rw[lo2 i hi,zAR9,z1]at hx;rw[zBH9,if_pos hi,zBZ9,z2]at hy;injection hx with hx;injection hy with hy;subst hx;subst hy;exact z4⟩
       obtain⟨po1,po2⟩:=zkj _ _ _ _ (zAJ9 _) hpo vold;obtain⟨pn1,pn2⟩:=zkj _ _ _ _ (zAJ9 _) hpn vnews;have hpol:po.length=n:=by omega
       have hln:news.length=2:=by rw[vnews.1,lnews]
       have hpnl:pn.length=1:=by omega
       obtain⟨p,rfl⟩:∃p,pn=[p]:=zDV9.1 hpnl;obtain⟨a,ea,hcell⟩:=cnews (by omega);injection ea with ea;subst ea;have hdm:=k.dom _ _ _ hl;have hdZ:Z<=loc.r:=hdm.2.1.resolve_right fun⟨cs,h1⟩=>by rw[hro]at h1;cases h1
       have hO:OL LT w Z (.slice (some ⟨loc.r,0,none⟩) po.length c) po:=⟨by rw[LT.all_len],.inr ⟨loc.r,c,cur,rfl,hdZ,q2,by omega,hm,by rw[hcurS,<- hS];simp[LT],by rw[hpol,<- po1];rfl⟩⟩
       have hRL:RL LT (locx.r+1) w (some ⟨locx.r,0,none⟩) [p]:=fun _=>⟨locx.r,0,rfl,.inl (zCE9 _),fun j u hu=>by
        have:=hcell j u (by rw[pn1];exact hu);simpa[zd0]using this⟩
       have hpne:po ≠ []:=fun e=>by subst e;simp at hpol;omega
       have hvall:VL ρ (news++old) (LT.all (p::po)):=by
        have:=vnews.app vold;rw[pn1,po1]at this;rw[LT.all_cons,<- LT.all_one];exact this
       have hone:∀y∈news++old,y.one=true:=fun y hy=>by
        rcases zBI9.1 hy with hy|hy
        ·exact onews y hy
        ·exact znE _ _ _ (zAJ9 _) hpo y hy
       have hargs:([.slice (some ⟨loc.r,0,none⟩) n c,.int .i64 (.ofNat 0),.slice (some ⟨locx.r,0,none⟩) 1 cx]:List Value).toArray=#[.slice (some ⟨loc.r,0,none⟩) po.length c,.int .i64 0,.slice (some ⟨locx.r,0,none⟩) 1 cx]:=by rw[hpol];rfl
       rw[hargs];refine callsIn_wide.2 ?_;have hne:locx.r≠loc.r:=fun e=>hbne (k.sep _ _ _ _ _ _ hlx hl e (by rw[e];exact hdZ)).symm
       by_cases hroom:po.length+1<=c
       ·obtain⟨obx,hobx,horx⟩:=k.obj _ _ _ hlx;rw[hrx]at hobx;injection hobx with hobx;subst hobx
        cases rx with
        | map=>cases c1
        | dfr=>cases c1
        | loop=>cases c1
        | ro=>cases c1
        | row e2 G2 M2 len2 cells2 =>
         have hnews2:=hnews;simp only[zbw,hrx,zft]at hnews2;obtain⟨m1,hnews3⟩:=zM hnews2;obtain⟨m2,_⟩:=zM hnews3;obtain⟨locy,cury,y1,y2,_⟩:=horx.2.2 gx (zBC9 m1) (zBC9 m2);rw[hlx]at y1;injection y1 with y1;subst y1;refine(ztV po p Z loc.r c locx.r cx w hpne (by omega) hroom hO hRL hne e2 cury.size (by simp[World.shape?,y2]) (frozen_of_row w _ _ _ _ y2) (frozen_of_row w _ _ _ _ y2) hZ).mono ?_;rintro e w' ⟨v,rfl,o1,o2,⟨g',c',o3,o4⟩,o5⟩;exact ztu k hl hro hpol hvall hone o1 o2 o3 o4 o5
       ·refine(zvw po p Z loc.r c locx.r cx w hpne (by omega) hroom hO hRL hZ).mono ?_;rintro e w' ⟨v,rfl,o1,o2,⟨g',c',o3,o4⟩,o5⟩;exact ztu k hl hro hpol hvall hone o1 o2 o3 o4 o5
      ·cases hr9
  ·cases hr
 ·cases hr
end Tw
end Go.Proofs.YtfomlmhnmheenaaGreat
namespace Go.Proofs.YtfomlmhnmheenaaGreat
open Go.RowKit
namespace Tw
set_option maxRecDepth 100000
theorem zlF (v:Value)(t:TypeId)(w:World):(Instr.typeAssert (.iface 31 v) t 31 true).run Tryz.prog w=.ok (.tuple #[v,.bool true]) w:=by
 simp[Instr.typeAssert,run_underlying Tryz.underlying31,Result.andThen]
set_option maxHeartbeats 1000000 in
theorem zzJ (n:Int)(eb g:Nat)(cap:Array Value)(w:World)(R:World->Prop)(hent:∀w,(callFunc g cap).run Tryz.prog w=.ok (.enter g cap) w)(hg:Calls Tryz.prog g cap w fun e w'=>e=.returned (.tuple #[])/\R w')(hR:∀w',R w'->(∃v,w'.cell? ⟨eb,0,none⟩=some v)/\w'.frozen? ⟨eb,0,none⟩=false) :
  CallsDIn Fence.wide 0 Tryz.prog 35 #[.pointer (some ⟨eb,0,none⟩),.func (.func g) #[] cap] (.panicking [{ v:=.iface 31 (.int .i64 n),recovered:=false }]) w fun e u' w'=>(∃v,e=.returned v)/\u'=.panicking [{ v:=.iface 31 (.int .i64 n),recovered:=true }]/\∃w1,R w1/\w'=w1.setCell ⟨eb,0,none⟩ (.int .i64 n):=by
 refine callsDIn_of_wpSIn Tryz.func35 rfl trivial fun c₀ cs hu=>?_
 apply wpSIn_seq
 apply wpSIn_region
 generalize hQ:Exit.thenS _ _=QQ;simp[wpOpsSIn,go_sem,recoverD,hu,Tryz.ntmps35,Fence.wide];subst hQ;simp only[Exit.thenS];refine wpSIn_of_wpIn rfl (wpIn_wide.2 ?_);have HN:=Lib.hid hg;have HU:=Lib.hid hu;have HRR:=Lib.hid hR;clear hu hg hR;generalize hR:(fun e a' w'=>bodyPostS Tryz.prog Tryz.f35 c₀ cs _ e a' _ w')=RR;have HR:=Lib.hid hR;clear hR;have hta:=zlF;have hen:=hent;simp only[Array.replicate,List.replicate]
 go_wp2_with (first|((with_reducible refine HN.out.mono ?_);rintro e w1 ⟨rfl,hr1⟩;obtain⟨⟨v1,e1⟩,ef⟩:=HRR.out _ hr1))
 rw[<- HR.out];exact⟨rfl,_,rfl,.tuple #[],by simp[results,Tryz.results35,go_sem],⟨_,rfl⟩,rfl,_,hr1,rfl⟩
set_option maxHeartbeats 1000000 in
theorem zy0 (p' c':Value)(w:World) :
  CallsDIn Fence.wide 0 Tryz.prog 35 #[p',c'] .returning w fun e u' w'=>(∃v,e=.returned v)/\u'=.returning/\w'=w:=by
 refine callsDIn_of_wpSIn Tryz.func35 rfl trivial fun c₀ cs hu=>?_
 apply wpSIn_seq
 apply wpSIn_region
 generalize hQ:Exit.thenS _ _=QQ;simp[wpOpsSIn,go_sem,recoverD,hu,Tryz.ntmps35,Fence.wide];subst hQ;simp only[Exit.thenS];refine wpSIn_of_wpIn rfl (wpIn_wide.2 ?_);generalize hR:(fun e a' w'=>bodyPostS Tryz.prog Tryz.f35 c₀ cs _ e a' _ w')=RR;have HR:=Lib.hid hR;have HU:=Lib.hid hu;clear hR hu;simp only[Array.replicate,List.replicate]
 go_wp2
 rw[<- HR.out]
 cases c₀
 exact⟨rfl,_,by have:=HU.out;subst this;rfl,.tuple #[],by simp[results,Tryz.results35,go_sem],⟨_,rfl⟩,rfl,rfl⟩
theorem zpc:zjl Tryz.prog 31 35:=⟨enters_of Tryz.func35 (by kernel_rfl) rfl,fun p' c' w=>zy0 p' c' w,fun n eb gid cap w R hent hg hR=>zzJ n eb gid cap w R hent (callsIn_wide.1 hg) hR⟩
set_option maxHeartbeats 1000000 in
theorem zzp (n:Int)(eb g:Nat)(cap:Array Value)(w:World)(R:World->Prop)(hent:∀w,(callFunc g cap).run Tryz.prog w=.ok (.enter g cap) w)(hg:Calls Tryz.prog g cap w fun e w'=>e=.returned (.tuple #[])/\R w')(hR:∀w',R w'->(∃v,w'.cell? ⟨eb,0,none⟩=some v)/\w'.frozen? ⟨eb,0,none⟩=false) :
  CallsDIn Fence.wide 0 Tryz.prog 128 #[.pointer (some ⟨eb,0,none⟩),.func (.func g) #[] cap] (.panicking [{ v:=.iface 31 (.int .i64 n),recovered:=false }]) w fun e u' w'=>(∃v,e=.returned v)/\u'=.panicking [{ v:=.iface 31 (.int .i64 n),recovered:=true }]/\∃w1,R w1/\w'=w1.setCell ⟨eb,0,none⟩ (.int .i64 n):=by
 refine callsDIn_of_wpSIn Tryz.func128 rfl trivial fun c₀ cs hu=>?_
 apply wpSIn_seq
 apply wpSIn_region
 generalize hQ:Exit.thenS _ _=QQ;simp[wpOpsSIn,go_sem,recoverD,hu,Tryz.ntmps128,Fence.wide];subst hQ;simp only[Exit.thenS];refine wpSIn_of_wpIn rfl (wpIn_wide.2 ?_);have HN:=Lib.hid hg;have HU:=Lib.hid hu;have HRR:=Lib.hid hR;clear hu hg hR;generalize hR:(fun e a' w'=>bodyPostS Tryz.prog Tryz.f128 c₀ cs _ e a' _ w')=RR;have HR:=Lib.hid hR;clear hR;have hta:=zlF;have hen:=hent;simp only[Array.replicate,List.replicate]
 go_wp2_with (first|((with_reducible refine HN.out.mono ?_);rintro e w1 ⟨rfl,hr1⟩;obtain⟨⟨v1,e1⟩,ef⟩:=HRR.out _ hr1))
 rw[<- HR.out];exact⟨rfl,_,rfl,.tuple #[],by simp[results,Tryz.results128,go_sem],⟨_,rfl⟩,rfl,_,hr1,rfl⟩
set_option maxHeartbeats 1000000 in
theorem zx8 (p' c':Value)(w:World) :
  CallsDIn Fence.wide 0 Tryz.prog 128 #[p',c'] .returning w fun e u' w'=>(∃v,e=.returned v)/\u'=.returning/\w'=w:=by
 refine callsDIn_of_wpSIn Tryz.func128 rfl trivial fun c₀ cs hu=>?_
 apply wpSIn_seq
 apply wpSIn_region
 generalize hQ:Exit.thenS _ _=QQ;simp[wpOpsSIn,go_sem,recoverD,hu,Tryz.ntmps128,Fence.wide];subst hQ;simp only[Exit.thenS];refine wpSIn_of_wpIn rfl (wpIn_wide.2 ?_);generalize hR:(fun e a' w'=>bodyPostS Tryz.prog Tryz.f128 c₀ cs _ e a' _ w')=RR;have HR:=Lib.hid hR;have HU:=Lib.hid hu;clear hR hu;simp only[Array.replicate,List.replicate]
 go_wp2
 rw[<- HR.out]
 cases c₀
 exact⟨rfl,_,by have:=HU.out;subst this;rfl,.tuple #[],by simp[results,Tryz.results128,go_sem],⟨_,rfl⟩,rfl,rfl⟩
theorem znw:zjl Tryz.prog 31 128:=⟨enters_of Tryz.func128 (by kernel_rfl) rfl,fun p' c' w=>zx8 p' c' w,fun n eb gid cap w R hent hg hR=>zzp n eb gid cap w R hent (callsIn_wide.1 hg) hR⟩
theorem zkF:zg1=((Tr.nil:Tr Unit).set 35 (some ())).set 128 (some ()):=by kernel_rfl
theorem zzV:zf9 Tryz.prog E12:=by
 refine⟨by kernel_rfl,fun f F h=>zlS f F (zz1 h),fun f g hg Z ρ w args args' h r h' hr k hZ hv=>?_,fun f hf=>?_⟩
 ·have hg:(bif Nat.beq f 127 then some (ziD 83)else none)=some g:=hg;obtain⟨h1,hg2⟩:=zM hg;have h1:=zAN9 h1;subst h1;injection hg2 with hg2;subst hg2;exact⟨fun w=>enters_of Tryz.func127 (by kernel_rfl) rfl _ w,zqG k hZ hv hr⟩
 ·have hf:zg1.get f=some ():=hf;rw[zkF,Tr.get_set,Tr.get_set]at hf
  split at hf
  ·rename_i e;subst e;exact znw
  ·split at hf
   ·rename_i e;subst e;exact zpc
   ·cases hf
theorem zwe {x:Option (TE×TH)}(h:zru x=true):∃h',x=some (.ret (.bool true),h'):=by
 unfold zru at h
 split at h
 ·exact⟨_,rfl⟩
 ·cases h
end Tw
theorem zv8 (w:World):Calls Tryz.prog 9 #[] w fun e w'=>e=.returned (.bool true)/\Below w.heap.size w w':=by
 obtain⟨h',hr⟩:=Tw.zwe Tw.w12;obtain⟨_,h2⟩:=Tw.zvE Tw.zzV hr w;refine(callsIn_wide.1 h2).mono ?_;rintro e w' ⟨hb,ρ,v',rfl,hv⟩
 cases hv
 exact⟨rfl,hb⟩
end Go.Proofs.YtfomlmhnmheenaaGreat
namespace Go.Proofs.YtfomlmhnmheenaaGreat
open Go.Sort Go.RowKit
namespace Tw
variable {ρ ρ':Rho}{Z:Nat}{h h':TH}{w:World}
set_option maxRecDepth 100000
theorem zvR (k:WR Tryz.prog Z ρ h w)(hZ:Z<=w.heap.size){args:List TV}{args':List Value}(hv:VL ρ args args'){r:TE}(hr:zib 3 args h=some (r,h')) :
  CallsIn (Fr none) 0 Tryz.prog 56 args'.toArray w (ziC Tryz.prog Z ρ h h' w r):=by
 unfold zib at hr
 split at hr
 ·rename_i b g n q
  split at hr
  ·rename_i o ho;unfold zmL at hr
   split at hr
   ·rename_i e G M len cells;obtain⟨c1,hr⟩:=zM hr;obtain⟨c2,hr⟩:=zM hr;obtain⟨c3,hr⟩:=zM hr;obtain⟨c4,hr⟩:=zM hr;obtain⟨c5,hr⟩:=zM hr;have c1:=zAN9 c1;have c2:=zAN9 c2;have c3:=zAN9 c3;have c4:=zBC9 c4;have c5:=zBC9 c5;subst c1;subst c2;subst c3
    split at hr
    ·rename_i l hl
     split at hr
     ·rename_i xs hxs;injection hr with hr;injection hr with hr hr2;subst hr;subst hr2;obtain⟨v,t1,rfl,v1,hv⟩:=hv.of_cons;obtain rfl:=hv.of_nil;have hinv:∃loc c,v=.slice (some ⟨loc.r,0,none⟩) n c/\ρ b g=some loc/\n<=c/\c<=maxLen:=by
       obtain⟨loc,o',c,e,a1,a2,a3,a4,a5,a6,a7⟩:=v1.sl_inv;refine⟨loc,c,?_,a1,by omega,a7⟩;rcases a5 with rfl|⟨_,_,a8⟩
       ·exact e
       ·exact absurd rfl a8
      obtain⟨loc,c,rfl,hρ,hnc,hcm⟩:=hinv;obtain⟨ob,hob,hor⟩:=k.obj _ _ _ hρ;rw[ho]at hob;injection hob with hob;subst hob;obtain⟨loc1,cur,q1,q2,q3,q4,q5,q6,q7⟩:=hor.2.2 g hor.1 (zAJ9 _);rw[hρ]at q1;injection q1 with q1;subst q1;have hL:=q6 rfl;obtain rfl:=zpj hxs;obtain⟨lo1,lo2⟩:=Tr.getL_some hl;have hxl:xs.length=n:=by rw[<- lo1];unfold ivT;simp
      have hget:∀i,i<n->cur[i]?=(xs.map (Value.int .i64))[i]?:=fun i hi=>by
       obtain⟨x,v,z1,z2,_,z4⟩:=q7 i (by omega);have h1:=lo2 i hi;rw[zAR9,z1]at h1;rw[z2,zAH9];unfold ivT at h1;rw[zAH9]at h1
       cases hx:xs[i]? with
       | none=>rw[hx]at h1;cases h1
       | some a=>rw[hx]at h1;injection h1 with h1;subst h1;cases z4;rfl
      have hcn:n<=cur.size:=by omega
      have ht:cur.toList.take xs.length=xs.map (Value.int .i64):=zFC9 fun i=>by
       rw[zBH9,hxl]
       split
       ·rename_i hi;rw[zBZ9];exact hget i hi
       ·rw[zBP9 (by simp;omega)]
      have hZo:=k.own hρ ho (fun cs e=>by cases e);have hlt:=(k.dom _ _ _ hρ).2.2;have hmain:=AnyM.slices_Sort_int zAm loc.r 0 c xs w (holds_of_blockI q2 ht) hlt (by omega);rw[hxl]at hmain;refine callsIn_wide.2 (Calls.mono hmain ?_);rintro e w' ⟨rfl,m,os,rfl⟩;have hts:(srt xs).length=n:=by rw[zgD,hxl]
      have hh:=heap_sortedI (n:=m) (os:=os) (srt xs).toArray q2;have hg:=grownBy_sortedI (w:=w) (g:=loc.r) (n:=m) (os:=os) (srt xs).toArray;have hbel:Below Z w _:=(Below.refl Z w).grown hg hZ fun k e=>by injection e with e;subst e;exact hZo
      change w.grownBy (grow (putRow (Value.int .i64) (Sort.ahead w m) loc.r 0 (xs.mergeSort fun x y=>decide (x<=y)).toArray) os) _ at hg;change (grow (putRow (Value.int .i64) (Sort.ahead w m) loc.r 0 (xs.mergeSort fun x y=>decide (x<=y)).toArray) os).heap[loc.r]?=_ at hh;change Below Z w (grow (putRow (Value.int .i64) (Sort.ahead w m) loc.r 0 (xs.mergeSort fun x y=>decide (x<=y)).toArray) os)at hbel;generalize grow (putRow (Value.int .i64) (Sort.ahead w m) loc.r 0 (xs.mergeSort fun x y=>decide (x<=y)).toArray) os=w' at hg hh hbel⊢;have htk:=take_putCellsI cur (srt xs) (by omega);have hsz:(putCells (Value.int .i64) 0 (srt xs).toArray cur).size=cur.size:=by simp[putCells]
      generalize putCells (Value.int .i64) 0 (srt xs).toArray cur=cur2 at hh htk hsz;have k2:=k.change (b:=b) (ρ':=ρ) (x':=.row 3 g g n (Tr.putL .nil 0 (ivT (srt xs)))) (fun _ _ _ h=>h) (fun _ _ _=>rfl) hρ (w':=w') hbel.size
       (fun c g0 l0 hc hl0=>hg.block _ (k.dom _ _ _ hl0).2.2 fun e=>hc (k.sep _ _ _ _ _ _ hl0 hρ (by injection e with e) (by injection e with e;rw[e];exact hZo)))
       ⟨zAJ9 _,hor.2.1,fun g0 ha hb0=>by
        have:g0=g:=by omega
        subst this;refine⟨loc,cur2,hρ,hh,fun e=>by rw[hsz];exact q3 e,q4,by rw[hsz];exact q5,q6,fun i hi=>?_⟩;have hi2:i<(srt xs).length:=by omega
        have hi3:i<(ivT (srt xs)).length:=by unfold ivT;rw[zAA9];exact hi2
        refine⟨.int .i64 ((srt xs)[i]),.int .i64 ((srt xs)[i]),?_,?_,rfl,.int _ _⟩
        ·rw[Tr.get_putL,if_pos (by omega)];unfold ivT;simp
        ·have:(cur2.toList.take (srt xs).length)[i]?=((srt xs).map (Value.int .i64))[i]?:=by rw[htk]
         rw[zBH9,if_pos hi2,zBZ9]at this;rw[this];simp[hi2]⟩
       (fun g0 l0 h0=>⟨k.own h0 ho (fun cs e=>by cases e),zBK9 (k.dom _ _ _ h0).2.2 hbel.size⟩)
       (fun g0 l0 h0 c g1 l1 hc h1' e=>hc (k.sep _ _ _ _ _ _ h1' h0 e.symm (by rw[<- e];exact k.own h0 ho (fun cs e=>by cases e))))
      exact⟨ρ,Rho.le.refl _ _,k2,hbel,zAJ9 _,_,rfl,VR.tupL (VL.nil ρ)⟩
     ·cases hr
    ·cases hr
   ·cases hr
  ·cases hr
 ·cases hr
end Tw
end Go.Proofs.YtfomlmhnmheenaaGreat
namespace Go.Proofs.YtfomlmhnmheenaaGreat
open Go.RowKit Go.WideShapes Go.ChangeShapes
namespace Fv
open Tw
set_option maxRecDepth 100000
theorem zAq:zf9 Tryz.prog ET:=by
 refine⟨by kernel_rfl,fun f F h=>?_,fun f g hg Z ρ w args args' h r h' hr k hZ hv=>?_,fun f hf=>?_⟩
 ·have h:((zeo.set 9 none).set 56 none).get f=some F:=h;rw[Tr.get_set]at h
  split at h
  ·cases h
  rw[Tr.get_set]at h
  split at h
  ·cases h
  ·exact zlS f F h
 ·have hg:(bif Nat.beq f 127 then some (ziD 83)else bif Nat.beq f 9 then some zmO else bif Nat.beq f 56 then some (zib 3)else none)=some g:=hg
  cases h1:Nat.beq f 127 with
  | true =>
   rw[h1]at hg;have h1:=zAN9 h1;subst h1;injection hg with hg2;subst hg2;exact⟨fun w=>enters_of Tryz.func127 (by kernel_rfl) rfl _ w,zqG k hZ hv hr⟩
  | false =>
   rw[h1]at hg
   cases h2:Nat.beq f 9 with
   | true =>
    rw[h2]at hg;have h2:=zAN9 h2;subst h2;injection hg with hg2;subst hg2;exact zyZ (fun w=>enters_of Tryz.func9 (by kernel_rfl) rfl _ w) (fun w=>callsIn_wide.2 (zv8 w)) Z ρ w args args' h r h' hr k hZ hv
   | false =>
    rw[h2]at hg;obtain⟨h3,hg2⟩:=zM hg;have h3:=zAN9 h3;subst h3;injection hg2 with hg2;subst hg2;exact⟨fun w=>enters_of Tryz.func56 (by kernel_rfl) rfl _ w,zvR k hZ hv hr⟩
 ·have hf:zg1.get f=some ():=hf;rw[zkF,Tr.get_set,Tr.get_set]at hf
  split at hf
  ·rename_i e;subst e;exact znw
  ·split at hf
   ·rename_i e;subst e;exact zpc
   ·cases hf
theorem zij:∀l:List Int,(l.map iv).flatMap PV.cells=l.map iv
 | []=>rfl
 | x::l=>by rw[zCC9,zBS9,zij l];rfl
theorem zkD {P:Program}{w:World}{r:Reach}{base:Nat}{t e:TypeId}{a:Addr}{len cap:Nat}(ht:P.underlying t=some (.slice e))(h:Value.okWide P w r base t (.slice (some a) len cap)):a.block<w.heap.size/\a.spot=none:=by
 simp only[Value.okWide,ht,Cell.okWide,Cell.ok,World.has]at h;obtain⟨_,_,_,h2,row,cells,h3,_⟩:=h;refine⟨?_,h2⟩;unfold World.shape? at h3;rcases zCY9 a.block w.heap.size with hl|hl
 ·exact hl
 ·rw[Array.getElem?_eq_none hl]at h3;cases h3
theorem zy3 {w:World}{p:Nat}{l:List Int}{b o c:Nat}(hb:b<w.heap.size)(hlc:l.length<=c)(hcm:c<=maxLen)(hcell:∀(i:Nat) (x:Int),l[i]?=some x->w.cell? ⟨b,o+i,none⟩=some (.int .i64 x)):CI w (.list p 1 (l.map iv)) (.slice (some ⟨b,o,none⟩) l.length c):=by
 have e:l.length=(l.map iv).length:=(zAA9 ..).symm;rw[e];refine CI.list (cs:=l.map fun n:Int=>Value.int .i64 n) hb (by rw[zAA9];exact hlc) hcm (fun v hv=>by obtain⟨x,_,rfl⟩:=zAM9.1 hv;rfl) (by rw[zij];simp) (fun i x y hx hy=>?_) (fun j v hv=>?_) (fun x hx=>?_)
 ·rw[zij,zAH9]at hx;rw[zAH9]at hy
  cases hn:l[i]? with
  | none=>rw[hn]at hx;cases hx
  | some n=>rw[hn]at hx hy;injection hx with hx;injection hy with hy;subst hx hy;exact .int _ _
 ·rw[zAH9]at hv
  cases hx:l[j]? with
  | none=>rw[hx]at hv;cases hv
  | some x=>rw[hx]at hv;injection hv with hv;subst hv;exact hcell j x hx
 ·rw[zij]at hx;obtain⟨n,_,rfl⟩:=zAM9.1 hx;rfl
end Fv
end Go.Proofs.YtfomlmhnmheenaaGreat
namespace Go.Proofs.YtfomlmhnmheenaaGreat
open Go.ChangeShapes Go.WideShapes Go.ChangeAt Go.RowKit
set_option maxRecDepth 100000
theorem zk9 (b o j:Nat):(⟨b,o,none⟩:Addr).add j=⟨b,o+j,none⟩:=by unfold Addr.add;split<;>simp_all
theorem zAQ:ownKnob Tryz.prog.godebug=none:=by kernel_rfl
theorem zoP:laidOutB Tryz.prog=true:=by kernel_rfl
namespace Fv
theorem zii:∀l:List Nat,(zdw l).flatMap PV.cells=zdw l
 | []=>rfl
 | x::l=>by have:=zii l;unfold zdw at this⊢;rw[zCC9,zBS9,this];rfl
theorem zx2 {w:World}{p:Nat}{l:List Nat}{b o c:Nat}(hb:b<w.heap.size)(hlc:l.length<=c)(hcm:c<=maxLen)(hcell:∀(i:Nat) (x:Nat),l[i]?=some x->w.cell? ⟨b,o+i,none⟩=some (.int .u8 x)):CI w (.list p 1 (zdw l)) (.slice (some ⟨b,o,none⟩) l.length c):=by
 have e:l.length=(zdw l).length:=(zAA9 ..).symm;rw[e];refine CI.list (cs:=l.map fun n:Nat=>Value.int .u8 (n:Int)) hb (by rw[zAA9];exact hlc) hcm (fun v hv=>by obtain⟨x,_,rfl⟩:=zAM9.1 hv;rfl) (by rw[zii];simp) (fun i x y hx hy=>?_) (fun j v hv=>?_) (fun x hx=>?_)
 ·rw[zii,zAH9]at hx;rw[zAH9]at hy
  cases hn:l[i]? with
  | none=>rw[hn]at hx;cases hx
  | some n=>rw[hn]at hx hy;injection hx with hx;injection hy with hy;subst hx hy;exact .int _ _
 ·rw[zAH9]at hv
  cases hx:l[j]? with
  | none=>rw[hx]at hv;cases hv
  | some x=>rw[hx]at hv;injection hv with hv;subst hv;exact hcell j x hx
 ·rw[zii]at hx;obtain⟨n,_,rfl⟩:=zAM9.1 hx;rfl
def zgO (l:List (Int×Nat)):List PV:=l.flatMap fun x=>[iv x.1,uv x.2]
def zey (l:List (Int×Nat)):List Value:=l.flatMap fun x=>[.int .i64 x.1,.int .u64 (x.2:Int)]
theorem zi9:∀l:List (Int×Nat),(wdV l).flatMap PV.cells=zgO l
 | []=>rfl
 | x::l=>by have:=zi9 l;unfold wdV zgO at this⊢;rw[zCC9,zBS9,this];rfl
theorem zpi:∀(l:List (Int×Nat)) (i:Nat) (x:PV) (y:Value),(zgO l)[i]?=some x->(zey l)[i]?=some y->(∃k n,x=.int k n/\y=.int k n)
 | [],i,x,y,hx,_=>by simp[zgO]at hx
 | a::l,0,x,y,hx,hy=>by simp[zgO]at hx;simp[zey]at hy;subst hx hy;exact⟨_,_,rfl,rfl⟩
 | a::l,1,x,y,hx,hy=>by simp[zgO]at hx;simp[zey]at hy;subst hx hy;exact⟨_,_,rfl,rfl⟩
 | a::l,i+2,x,y,hx,hy=>zpi l i x y (by simpa[zgO]using hx) (by simpa[zey]using hy)
theorem zlp {w:World}{b:Nat}:∀(l:List (Int×Nat)) (o:Nat),(∀(i:Nat) (x:Int×Nat),l[i]?=some x->w.cell? ⟨b,o+i*2,none⟩=some (.int .i64 x.1)/\w.cell? ⟨b,o+(i*2+1),none⟩=some (.int .u64 x.2))->∀(j:Nat) (v:Value),(zey l)[j]?=some v->w.cell? ⟨b,o+j,none⟩=some v
 | [],_,_,j,v,hv=>by simp[zey]at hv
 | a::l,o,h,0,v,hv=>by simp[zey]at hv;subst hv;exact(h 0 a rfl).1
 | a::l,o,h,1,v,hv=>by simp[zey]at hv;subst hv;exact(h 0 a rfl).2
 | a::l,o,h,j+2,v,hv=>by
  have:=zlp l (o+2) (fun i x hx=>by
   have:=h (i+1) x (by simpa using hx);rw[show o+2+i*2=o+(i+1)*2 by omega,show o+2+(i*2+1)=o+((i+1)*2+1) by omega];exact this) j v (by simpa[zey]using hv)
  rw[show o+(j+2)=o+2+j by omega];exact this
theorem zxM {w:World}{p:Nat}{l:List (Int×Nat)}{b o c:Nat}(hb:b<w.heap.size)(hlc:l.length<=c)(hcm:c<=maxLen)(hcell:∀(i:Nat) (x:Int×Nat),l[i]?=some x->w.cell? ⟨b,o+i*2,none⟩=some (.int .i64 x.1)/\w.cell? ⟨b,o+(i*2+1),none⟩=some (.int .u64 x.2)):CI w (.list p 2 (wdV l)) (.slice (some ⟨b,o,none⟩) l.length c):=by
 have e:l.length=(wdV l).length:=(zAA9 ..).symm;rw[e];have hlen:∀l:List (Int×Nat),(zgO l).length=(zey l).length:=fun l=>by
  induction l with
  | nil=>rfl
  | cons a l ih=>simp[zgO,zey]at ih⊢
 refine CI.list (cs:=zey l) hb (by rw[zAA9];exact hlc) hcm (fun v hv=>by obtain⟨x,_,rfl⟩:=zAM9.1 hv;rfl) (by rw[zi9];exact hlen l) (fun i x y hx hy=>?_) (zlp l o hcell) (fun x hx=>?_)
 ·rw[zi9]at hx;obtain⟨k,n,rfl,rfl⟩:=zpi l i x y hx hy;exact .int _ _
 ·rw[zi9]at hx;unfold zgO at hx;obtain⟨y,_,hx⟩:=zBB9.1 hx;simp at hx;rcases hx with rfl|rfl<;>rfl
end Fv
section
variable {H:Type}{enc:TypeId×Value->H}{w:World}{base:Nat}{spare:Nat->Bool}{held:Bool}{r:Reach}{b0:Nat}
theorem zwC {fuel:Nat}{v:Value}{x:DataW H×List MemPlace}(hv:Value.okWide Tryz.prog w r b0 22 v)(h:DataW.trod enc Tryz.prog w base spare held fuel 22 [v]=some x):∃(l:List Nat),Fv.CI w (.list 0 1 (Fv.zdw l)) v:=by
 rcases open_ints Tryz.underlying22 Tryz.underlying5 (by kernel_rfl) h with⟨hcs,_⟩|⟨a,len,cap,zs,hcs,_,hl,hm,hz,_,hcell,hwf⟩
 ·injection hcs with hcs;subst hcs;exact⟨[],.nilsl _ _⟩
 ·injection hcs with hcs;subst hcs;have hzl:len<=zs.length:=by
   rw[hz];split
   ·exact hl
   ·exact zAJ9 _
  obtain⟨hblk,hspot⟩:=Fv.zkD Tryz.underlying22 hv;obtain⟨b,off,spot⟩:=a;dsimp only at hblk hspot;subst hspot;have hlen:((zs.take len).map Int.toNat).length=len:=by rw[zAA9,zBA9,zDN9 hzl]
  refine⟨(zs.take len).map Int.toNat,?_⟩;have:=Fv.zx2 (w:=w) (p:=0) (l:=(zs.take len).map Int.toNat) (b:=b) (o:=off) (c:=cap) hblk (by rw[hlen];exact hl) hm (fun i x hi=>by
   have hil:i<len:=by have:=(zAC9.1 hi).1;rwa [hlen]at this
   rw[zAH9,zBH9,if_pos hil]at hi
   cases hz2:zs[i]? with
   | none=>rw[hz2]at hi;cases hi
   | some z =>
    rw[hz2]at hi;injection hi with hi;subst hi;have:=hcell i (by omega);rw[zAL9,hz2,zk9]at this;have q:=bounds_u8 (hwf z (zAO9 hz2));rw[zGK9 q.1];exact this)
  rwa [hlen]at this
theorem zua {fuel:Nat}{v:Value}{x:DataW H×List MemPlace}(hv:Value.okWide Tryz.prog w r b0 23 v)(h:DataW.trod enc Tryz.prog w base spare held fuel 23 [v]=some x):∃(l:List (Int×Nat)),(∀x∈l,Fv.LtU x.2)/\Fv.CI w (.list 0 2 (Fv.wdV l)) v:=by
 rcases Go.Deep.open_slice_pairs Tryz.underlying23 Tryz.underlying81 (by kernel_rfl) rfl rfl (by kernel_rfl) (by kernel_rfl) h with⟨hcs,_⟩|⟨a,len,cap,m,n,V0,V1,D0,D1,P0,P1,hcs,_,hl,hm,hmm,_,hx⟩
 ·injection hcs with hcs;subst hcs;exact⟨[],fun x hx=>by simp at hx,.nilsl _ _⟩
 ·injection hcs with hcs;subst hcs;have hml:len<=m:=by
   rw[hmm];split
   ·exact hl
   ·exact zAJ9 _
  obtain⟨hblk,hspot⟩:=Fv.zkD Tryz.underlying23 hv;obtain⟨b,off,spot⟩:=a;dsimp only at hblk hspot;subst hspot;have hall:∀i,i<len->∃y:Int×Nat,Fv.LtU y.2/\w.cell? ⟨b,off+i*2,none⟩=some (.int .i64 y.1)/\w.cell? ⟨b,off+(i*2+1),none⟩=some (.int .u64 y.2):=fun i hi=>by
   obtain⟨c0,c1,t0,t1⟩:=hx i (by omega);obtain⟨n0,e0,_,w0⟩:=DataW.trod_int Tryz.underlying3 t0;obtain⟨n1,e1,_,w1⟩:=DataW.trod_int Tryz.underlying24 t1;injection e0 with e0;injection e1 with e1;have q1:=bounds_u64 w1;refine⟨(n0,n1.toNat),show n1.toNat<_ by omega,?_,?_⟩
   ·rw[e0]at c0;rwa [zk9]at c0
   ·rw[e1]at c1;show _=some (Value.int .u64 ((n1.toNat:Nat):Int));rw[zGK9 q1.1];rwa [zk9]at c1
  haveI:Inhabited (Int×Nat):=⟨(0,0)⟩
  obtain⟨f,hf⟩:=Go.Deep.choose_lt (p:=fun i (y:Int×Nat)=>Fv.LtU y.2/\w.cell? ⟨b,off+i*2,none⟩=some (.int .i64 y.1)/\w.cell? ⟨b,off+(i*2+1),none⟩=some (.int .u64 y.2)) hall;refine⟨(List.range len).map f,fun x hx=>by
   obtain⟨i,hi,rfl⟩:=zAM9.1 hx;exact(hf i (zCT9.1 hi)).1,?_⟩
  have hlen:((List.range len).map f).length=len:=by simp
  have:=Fv.zxM (w:=w) (p:=0) (l:=(List.range len).map f) (b:=b) (o:=off) (c:=cap) hblk (by rw[hlen];exact hl) hm (fun i x hi=>by
   have hil:i<len:=by have:=(zAC9.1 hi).1;rwa [hlen]at this
   rw[zAH9,zEI9 hil]at hi;injection hi with hi;subst hi;exact(hf i hil).2)
  rwa [hlen]at this
end
section
variable {H:Type}{enc:TypeId×Value->H}{w:World}{base:Nat}{spare:Nat->Bool}{held:Bool}{r:Reach}{b0:Nat}
theorem zvP {fuel:Nat}{v:Value}{x:DataW H×List MemPlace}(hv:Value.okWide Tryz.prog w r b0 25 v)(h:DataW.trod enc Tryz.prog w base spare held fuel 25 [v]=some x):∃(l:List Int),Fv.CI w (.list 0 1 (l.map Fv.iv)) v:=by
 rcases open_ints Tryz.underlying25 Tryz.underlying3 (by kernel_rfl) h with⟨hcs,_⟩|⟨a,len,cap,zs,hcs,_,hl,hm,hz,_,hcell,_⟩
 ·injection hcs with hcs;subst hcs;exact⟨[],.nilsl _ _⟩
 ·injection hcs with hcs;subst hcs;have hzl:len<=zs.length:=by
   rw[hz];split
   ·exact hl
   ·exact zAJ9 _
  obtain⟨hblk,hspot⟩:=Fv.zkD Tryz.underlying25 hv;obtain⟨b,off,spot⟩:=a;dsimp only at hblk hspot;subst hspot;have hlen:(zs.take len).length=len:=by rw[zBA9,zDN9 hzl]
  refine⟨zs.take len,?_⟩;have:=Fv.zy3 (w:=w) (p:=0) (l:=zs.take len) (b:=b) (o:=off) (c:=cap) hblk (by rw[hlen];exact hl) hm (fun i x hi=>by
   have hil:i<len:=by have:=(zAC9.1 hi).1;rwa [hlen]at this
   rw[zBH9,if_pos hil]at hi;have:=hcell i (by omega);rw[zAL9,hi,zk9]at this;exact this)
  rwa [hlen]at this
end
set_option maxHeartbeats 1000000 in
theorem zsj (os:Os)(started:os.Started)(H:Type)(enc:TypeId×Value->H) :
  ReturnsInHanded {} Tryz.checked os 3 .any (Rows.treeTakesSpec.pre6 enc Tryz.prog Tryz.f3 Rows.treeTakesRow.domain false) (Rows.treeTakesSpec.post enc Tryz.prog Tryz.f3 false true false false):=by
 refine returnsInHanded_of_change (C:=Tryz.checked) zAQ started (by kernel_rfl) Tryz.func3
  (ChangeSpec.witness6 (enc:=enc) (C:=Tryz.checked) false ⟨#[],#[.int .i64 0,.slice none 0 0,.slice none 0 0,.int .u64 0,.slice none 0 0],[]⟩ 8 (by kernel_rfl) (by kernel_rfl) (by kernel_rfl) (by kernel_rfl)) ?_
 intro W base args ds gs before hval0 hW hcnd _;have hval:∀(j:Nat) t v,Tryz.f3.params[j]?=some t->args[j]?=some v->Value.okWide Tryz.prog W .any base t v:=hval0;have hW':=hW;obtain⟨p,q,hA0,hV,rfl,hfz,hnd⟩:=hW;have hA:DataW.TrodAll enc Tryz.prog W 0 (fun _=>true) true Tryz.f3.params.toList args.toList ds p:=hA0;rw[Tryz.params3]at hA hval;obtain⟨v0,vs0,d0,ds0,p0,q0,hargs,rfl,rfl,h0,r0⟩:=trodAll_cons hA;obtain⟨v1,vs1,d1,ds1,p1,q1,rfl,rfl,rfl,h1,r1⟩:=trodAll_cons r0;obtain⟨v2,vs2,d2,ds2,p2,q2,rfl,rfl,rfl,h2,r2⟩:=trodAll_cons r1;obtain⟨v3,vs3,d3,ds3,p3,q3,rfl,rfl,rfl,h3,r3⟩:=trodAll_cons r2;obtain⟨v4,vs4,d4,ds4,p4,q4,rfl,rfl,rfl,h4,r4⟩:=trodAll_cons r3;obtain⟨rfl,rfl,rfl⟩:=trodAll_nil r4;obtain rfl:args=#[v0,v1,v2,v3,v4]:=by cases args;simp_all
 obtain⟨rfl,rfl⟩:=trodVars_none hV;have w1:=hval 1 22 v1 rfl rfl;have w2:=hval 2 23 v2 rfl rfl;obtain⟨a1,len1,cap1,rfl⟩:=okWide_slice Tryz.underlying22 w1;have w4:=hval 4 25 v4 rfl rfl;obtain⟨a2,len2,cap2,rfl⟩:=okWide_slice Tryz.underlying23 w2;obtain⟨a4,len4,cap4,rfl⟩:=okWide_slice Tryz.underlying25 w4;have k4:=h4;have lt4:∀x∈p4,x.block<W.heap.size:=by obtain⟨m,hm⟩:=k4;exact DataW.trod_lt m _ _ _ hm
 have k1:=h1;have k2:=h2;have lt1:∀x∈p1,x.block<W.heap.size:=by obtain⟨m,hm⟩:=k1;exact DataW.trod_lt m _ _ _ hm
 have lt2:∀x∈p2,x.block<W.heap.size:=by obtain⟨m,hm⟩:=k2;exact DataW.trod_lt m _ _ _ hm
 obtain⟨n0,rfl,rfl,rfl,g0⟩:=open_int Tryz.underlying3 (hval 0 3 v0 rfl rfl) h0;obtain⟨n3,rfl,rfl,rfl,g3⟩:=open_int Tryz.underlying24 (hval 3 24 v3 rfl rfl) h3;obtain⟨zbC,hc1⟩:∃l:List Nat,Fv.CI W (.list 0 1 (Fv.zdw l)) (.slice a1 len1 cap1):=by
  obtain⟨fuel,hf⟩:=h1;exact zwC w1 (by simpa[Value.cells]using hf)
 obtain⟨bent,hbw,hc2⟩:∃l:List (Int×Nat),(∀x∈l,Fv.LtU x.2)/\Fv.CI W (.list 0 2 (Fv.wdV l)) (.slice a2 len2 cap2):=by
  obtain⟨fuel,hf⟩:=h2;exact zua w2 (by simpa[Value.cells]using hf)
 obtain⟨free,hc4⟩:∃l:List Int,Fv.CI W (.list 0 1 (l.map Fv.iv)) (.slice a4 len4 cap4):=by
  obtain⟨fuel,hf⟩:=h4;exact zvP w4 (by simpa[Value.cells]using hf)
 have b3:=bounds_u64 g3;obtain⟨key,rfl⟩:∃k:Nat,n3=k:=⟨n3.toNat,by omega⟩
 clear hA0 hval0;refine(Fv.FP.calls (w:=W) Fv.zAq (Fv.FN.FP (Fv.zyU 0 0 0 n0 zbC bent key free hbw)) (args':=[.int .i64 n0,.slice a1 len1 cap1,.slice a2 len2 cap2,.int .u64 key,.slice a4 len4 cap4]) rfl (fun i x y hx hy=>?_)).mono fun e W' ⟨he,hx⟩=>?_
 ·match i with
  | 0=>injection hx with hx;injection hy with hy;subst hx hy;exact .int _ _
  | 1=>injection hx with hx;injection hy with hy;subst hx hy;exact hc1
  | 2=>injection hx with hx;injection hy with hy;subst hx hy;exact hc2
  | 3=>injection hx with hx;injection hy with hy;subst hx hy;exact .int _ _
  | 4=>injection hx with hx;injection hy with hy;subst hx hy;exact hc4
  | i+5=>simp at hx
 have bel:Below W.heap.size W W':=hx;subst he;exact⟨_,rfl,_,_,_,[],_,[],hW',trodAll_mk1 (shut_bool Tryz.underlying4 _),(trodAll_cons_mk (shut_int Tryz.underlying3 g0) (trodAll_cons_mk (Below.trod zoP (by kernel_rfl) (of_decide_eq_true (by kernel_rfl)) k1 bel lt1) (trodAll_cons_mk (Below.trod zoP (by kernel_rfl) (of_decide_eq_true (by kernel_rfl)) k2 bel lt2) (trodAll_cons_mk (shut_int Tryz.underlying24 g3) (trodAll_cons_mk (Below.trod zoP (by kernel_rfl) (of_decide_eq_true (by kernel_rfl)) k4 bel lt4) trodAll_mk0))))),rfl,bel.frame _,fun h=>by cases h⟩
theorem zuP:Rows.treeTakesRow.holds Tryz.pinned (OpenSpec.ofChange Rows.treeTakesSpec) :=
 OpenClaim.holds_of_wide 3 Tryz.f3 rfl rfl rfl rfl rfl rfl rfl ⟨rfl,rfl,rfl,rfl,rfl⟩ rfl rfl rfl rfl rfl (by kernel_rfl) Tryz.func3 (by kernel_rfl)
  (of_decide_eq_true (by kernel_rfl)) (by unfold Func.isWrapper;first|(rw[if_pos (by decide +kernel)];kernel_rfl)|(rw[if_neg (by decide +kernel)];exact⟨rfl,rfl⟩))
  (fun os started H enc _=>zsj os started H enc)
theorem tree_takes:Rows.TreeTakesSaid:=zuP
#print axioms tree_takes
end Go.Proofs.YtfomlmhnmheenaaGreat
