/- part 6 of the proof of dir_from. -/
import Derived.Test.YtkeknmgnoceogaaGreatDG5
import Derived.KernelRfl
set_option linter.unusedSimpArgs false
set_option linter.unusedVariables false
set_option maxRecDepth 1000000
namespace Go.Proofs.YtkeknmgnoceogaaGreat
namespace Fv
open Tw
def zuv:List Nat:=[11,200,185,244,352,194,336,172]
noncomputable def zfu:List Nat->Tr zc->Tr zc
 | [],t=>t
 | n::l,t=>(zfu l t).set n none
theorem zlu {n:Nat}{t:Tr zc}:∀{l:List Nat},l.contains n=false->(zfu l t).get n=t.get n
 | [],_=>rfl
 | m::l,h=>by
  rw[List.contains_cons,Bool.or_eq_false_iff]at h;show ((zfu l t).set m none).get n=_;rw[Tr.get_set,if_neg (by simpa using h.1)];exact zlu h.2
theorem zkN {n:Nat}{t:Tr zc}{F:zc}:∀{l:List Nat},(zfu l t).get n=some F->t.get n=some F
 | [],h=>h
 | m::l,h=>by
  have h:((zfu l t).set m none).get n=some F:=h;rw[Tr.get_set]at h
  split at h
  ·cases h
  ·exact zkN h
theorem zkl {n:Nat}{t:Tr zc}:∀{l:List Nat},l.contains n=true->(zfu l t).get n=none
 | m::l,h=>by
  show ((zfu l t).set m none).get n=_;rw[Tr.get_set]
  split
  ·rfl
  ·rename_i hn;rw[List.contains_cons]at h;have hm:(n==m)=false:=by simpa using hn
   rw[hm,zFG9]at h;exact zkl h
noncomputable def zAb (f:Nat):Option (List TV->TH->Option (TE×TH)):=bif Nat.beq f 11 then some zmq else bif Nat.beq f 172 then some (zBm 3)else zi7 f
noncomputable def ET:Env:=⟨zfu zuv zfP,zAb,zkC,zsa,0⟩
theorem zD {n:Nat}{f:Func}{F:zc}(h:Tryz.prog.funcs[n]?=some f)(hF:fnO Tryz.prog f=some F:=by kernel_rfl)(hn:zuv.contains n=false:=by decide):ET.funcs.get n=some F:=by
 show (zfu zuv zfP).get n=some F;rw[zlu hn];exact zzW h hF
theorem ziV {n:Nat}(hn:zuv.contains n=true:=by decide):ET.funcs.get n=none:=zkl hn
end Fv
end Go.Proofs.YtkeknmgnoceogaaGreat
namespace Go.Proofs.YtkeknmgnoceogaaGreat
namespace Fv
abbrev Pr:=Nat×Nat
def zdu (left n:Nat):Bool:=decide (left≠0)&&decide (n%2=0)&&decide (2<=n/2)&&decide (n/2<=28)
def zb1:List Nat->Nat
 | _::p::l=>if p=0 then 0 else zb1 l+1
 | _=>0
def zcO:Nat->List Nat->List Pr
 | prev,k::p::l=>if p=0 then[]else if p=prev then zcO p l else(k,p)::zcO p l
 | _,_=>[]
def zcK (left:Nat)(l:List Nat):List Pr:=if zdu left l.length=true then zcO left l else[]
def zbR:List Pr->Bool
 | a::b::l=>decide (a.1<b.1)&&zbR (b::l)
 | _=>true
def ze8:List Nat->List Pr->Bool
 | seen,p::l=>!seen.contains p.2&&ze8 (p.2::seen) l
 | _,[]=>true
def zp9:List Nat->Bool
 | _::p::l=>decide (p=0)&&zp9 l
 | _=>true
def zqD (left:Nat)(l:List Nat):Bool :=
 zbR (zcK left l)&&ze8 [left] (zcK left l)&&decide ((zcK left l).length=zb1 l)&&decide ((zcK left l).length<l.length/2)&&zp9 (l.drop (2*(zcK left l).length))
def zrQ (left:Nat)(l:List Nat):Nat:=if zdu left l.length=true then if zqD left l=true then 0 else 190 else 2
def zdh (left:Nat)(l:List Nat)(j:Nat):Nat:=if j=0 then left else l.getD (2*(j-1)+1) 0
theorem zp4 (l:List Nat)(j:Nat)(h:2*j+1<l.length):l.drop (2*j)=l[2*j]::l[2*j+1]::l.drop (2*(j+1)):=by
 rw[zAQ9 (i:=2*j) zo,zAQ9 (i:=2*j+1) h];rfl
theorem zoG:∀l:List Nat,2*zb1 l<=l.length
 | []=>by simp[zb1]
 | [_]=>by simp[zb1]
 | _::p::l=>by
  have:=zoG l;rw[zb1]
  grind
theorem zmX {l:List Nat}(h:l.length<2):zb1 l=0:=by
 match l,h with
 | [],_=>rfl
 | [_],_=>rfl
@[reducible] def wv (p:Nat) (l:List Nat):PV:=.list p 1 (l.map uv)
@[reducible] def pv (x:Pr):PV:=.agg [uv x.1,uv x.2]
@[reducible] def psv (p:Nat) (l:List Pr):PV:=.list p 2 (l.map pv)
theorem Lb.uvs {z:Nat}(l:List Nat):Lb (.list 0 z (l.map uv)):=.list fun x hx=>by
 obtain⟨y,hy,hx⟩:=zBE9.1 hx;obtain⟨n,_,rfl⟩:=zAK9.1 hy;simp[PV.cells]at hx;subst hx;exact .int _ _
theorem Lb.ivs {z:Nat}(l:List Int):Lb (.list 0 z (l.map iv)):=.list fun x hx=>by
 obtain⟨y,hy,hx⟩:=zBE9.1 hx;obtain⟨n,_,rfl⟩:=zAK9.1 hy;simp[PV.cells]at hx;subst hx;exact .int _ _
theorem Lb.pvs {z:Nat}(l:List Pr):Lb (.list 0 z (l.map pv)):=.list fun x hx=>by
 obtain⟨y,hy,hx⟩:=zBE9.1 hx;obtain⟨n,_,rfl⟩:=zAK9.1 hy;simp[PV.cells]at hx;rcases hx with rfl|rfl<;>exact .int _ _
structure zH where
 level:Nat
 sib:Nat
 low:Nat
 left:Nat
 way:Nat
 pairs:List Pr
deriving DecidableEq
def zdP (p:Nat):Bool:=decide (1<=p)&&decide (p<2048)
def zc4:Nat->Nat->Nat->Bool
 | 0,_,w=>decide (7522529147838689024<=w)&&decide (w<=7522529147838689024+12)
 | 1,_,w=>decide (w<2048)
 | 2,_,_=>true
 | 3,lv,w=>(decide (lv=0)&&decide (w=9223372036854775808))||(decide (0<lv)&&zdP w)
 | _,_,w=>decide (w<=2)
@[irreducible] def zia (x:Nat):Nat:=x - 7522529147838689024
theorem zlg (x:Nat):zia x=x-7522529147838689024:=by unfold zia;rfl
def headB (l:List Nat):Bool:=decide (l.length=64)&&((l.take 8).drop 5).all (fun x=>decide (x=0))&&(List.range 5).all fun i=>zc4 i (zia (l.getD 0 0)) (l.getD i 0)
def headN (l:List Nat):zH:=⟨zia (l.getD 0 0),l.getD 1 0,l.getD 2 0,l.getD 3 0,l.getD 4 0,zcK (l.getD 3 0) (l.drop 8)⟩
def zmR:zH:=⟨0,0,0,0,0,[]⟩
def zui:Nat->zH->Nat
 | 0,n=>7522529147838689024+n.level
 | 1,n=>n.sib
 | 2,n=>n.low
 | 3,n=>n.left
 | _,n=>n.way
def zk7 (n:zH)(p:Pr):Bool:=if n.level=0 then decide (1<=p.2)&&decide (p.2<=1099511627776)&&decide (n.low<=p.1)else zdP p.2&&decide (n.low<p.1)
def zrL (l:List Nat):Bool:=decide (zrQ (headN l).left (l.drop 8)=0) && !((headN l).pairs.any fun q=>!zk7 (headN l) q)
def zrT (l:List Nat):Nat:=if headB l=true then if zrL l=true then 0 else 190 else 210
def zmV (n:zH):List Nat:=[7522529147838689024+n.level,n.sib,n.low,n.left,n.way,0,0,0]
def zdv (l:List Pr):List Nat:=l.flatMap fun x=>[x.1,x.2]
@[reducible] def zbU (p:Nat) (n:zH):PV:=.agg [iv n.level,iv n.sib,uv n.low,uv n.left,iv n.way,psv p n.pairs]
def zzH:Nat->Nat
 | 0=>261|1=>264|2=>267|3=>270|_=>273
def zzJ:Nat->Nat
 | 0=>262|1=>265|2=>268|3=>271|_=>274
def zAI:Nat->Nat
 | 0=>263|1=>266|2=>269|3=>272|_=>275
@[reducible] def zyd (i:Nat):PV:=.agg [.fn (zzH i) [],.fn (zzJ i) [],.fn (zAI i) []]
def zh3:List PV:=(List.range 5).map zyd
def zbQ:List Nat->Nat
 | []=>0
 | x::l=>x+256*zbQ l
def zcP (b:List Nat):List Nat:=(List.range ((b.length+7)/8)).map fun i=>zbQ ((b.drop (8*i)).take 8)
def zcL (w:Nat):List Nat:=(List.range 8).map fun k=>w/2 ^ (8*k)%256
def zb2 (l:List Nat):List Nat:=l.flatMap zcL
def zbF (b:List Nat):Prop:=∀x∈b,x<256
theorem zjk:∀{b:List Nat},zbF b->zbQ b<256 ^ b.length
 | [],_=>by simp[zbQ]
 | x::l,h=>by
  have h1:=h x (by simp);have h2:=zjk (b:=l) fun y hy=>h y (zAO9 _ hy);rw[zbQ,zAG9,zFO9];omega
theorem zjv:∀(b:List Nat) (x:Nat),zbQ (b++[x])=zbQ b+256 ^ b.length*x
 | [],x=>by simp[zbQ]
 | y::l,x=>by
  rw[zAR9,zbQ,zjv l x,zbQ,zAG9,zFO9,zFV9,<- Nat.mul_assoc,zER9 256 (256 ^ l.length)];omega
theorem zvI (n:Nat):256 ^ n=2 ^ (8*n):=by rw[Nat.pow_mul]
theorem zxA {b:List Nat}(hb:zbF b)(x:Nat):Nat.lor (zbQ b) (x*2 ^ (8*b.length))=zbQ (b++[x]):=by
 have h:=zjk hb;rw[zvI]at h;rw[zjv,zvI];have:=Nat.two_pow_add_eq_or_of_lt h x;show zbQ b ||| x*2 ^ (8*b.length)=_;rw[Nat.or_comm,zER9 x,<- this];omega
theorem zfF {b:List Nat}(hb:zbF b)(hl:b.length<=8):zbQ b<18446744073709551616:=by
 have h:=zjk hb;have h2:256 ^ b.length<=256 ^ 8:=zCO9 zo hl;omega
theorem zbF.sub {b c:List Nat}(h:zbF b)(hs:∀x∈c,x∈b):zbF c:=fun x hx=>h x (hs x hx)
theorem zbF.take {b:List Nat}(h:zbF b)(n:Nat):zbF (b.take n):=h.sub fun _=>zBP9
theorem zbF.drop {b:List Nat}(h:zbF b)(n:Nat):zbF (b.drop n):=h.sub fun _=>zBM9
theorem zc3 (b:List Nat):(zcP b).length=(b.length+7)/8:=by simp[zcP]
theorem zjm {b:List Nat}{i:Nat}(h:8*i<b.length):(zcP b)[i]?=some (zbQ ((b.drop (8*i)).take 8)):=by
 have:i<(b.length+7)/8:=zo;simp[zcP,this]
theorem zwQ {b:List Nat}{x:Nat}(h:b.length%8=0):zcP (b++[x])=zcP b++[x]:=by
 obtain⟨n,hn⟩:∃n,b.length=8*n:=⟨b.length/8,by omega⟩
 unfold zcP;rw[zAB9,zES9,hn,show (8*n+1+7)/8=n+1 by omega,show (8*n+7)/8=n by omega,zDI9,zBD9]
 congr 1
 ·refine zEJ9 fun i hi=>?_;rw[zDF9]at hi;rw[zDT9 zo,zDJ9 (by rw[zBG9];omega)]
 ·simp[<- hn,zbQ]
theorem zuy {b:List Nat}{x:Nat}(hb:zbF b)(h:¬b.length%8=0):zcP (b++[x])=(zcP b).set (b.length/8) (Nat.lor ((zcP b).getD (b.length/8) 0) (x*2 ^ (8*(b.length%8)))):=by
 have hq:(b.length+1+7)/8=(b.length+7)/8:=zo;have hi:8*(b.length/8)<b.length:=zo;have hg:(zcP b).getD (b.length/8) 0=zbQ (b.drop (8*(b.length/8))):=by
  rw[zAP9,zjm hi,Option.getD_some,zBI9 (by rw[zBG9];omega)]
 have hl:(b.drop (8*(b.length/8))).length=b.length%8:=by rw[zBG9];omega
 rw[hg,<- hl,zxA (hb.drop _)];refine zGK9 fun i=>?_;rw[List.getElem?_set,zc3]
 by_cases hin:i<(b.length+7)/8
 ·have h8:8*i<(b++[x]).length:=by rw[zAB9,zES9];omega
  rw[zjm h8]
  by_cases e:b.length/8=i
  ·subst e;rw[if_pos rfl,if_pos hin,zDT9 zo,zBI9 (by rw[zAB9,zBG9,zES9];omega)]
  ·rw[if_neg e,zjm zo,zDT9 zo,zDJ9 (by rw[zBG9];omega)]
 ·rw[zCX9 (by rw[zc3,zAB9,zES9];omega)];rw[if_neg zo,zCX9 (by rw[zc3];omega)]
theorem zjL {b:List Nat}(hb:zbF b):∀w∈zcP b,w<18446744073709551616:=fun w hw=>by
 unfold zcP at hw;rw[zAK9]at hw;obtain⟨i,_,rfl⟩:=hw;exact zfF ((hb.drop _).take _) (by rw[zAN9];omega)
theorem zvM (w:Nat):zbF (zcL w):=fun x hx=>by
 unfold zcL at hx;rw[zAK9]at hx;obtain⟨i,_,rfl⟩:=hx;omega
theorem zih (l:List Nat):zbF (zb2 l):=fun x hx=>by
 obtain⟨w,_,h⟩:=zBE9.1 hx;exact zvM w x h
theorem zew (l:List Nat):(zb2 l).length=8*l.length:=by
 unfold zb2;rw[List.length_flatMap];simp[zcL,List.map_const',List.sum_replicate_nat];omega
theorem zly (l:List Nat)(w:Nat):zb2 (l++[w])=zb2 l++zcL w:=by unfold zb2;rw[zEI9];simp
def bl (b:List Nat):List PV:=b.map fun n:Nat=>.int .u8 n
theorem zcb (b:List Nat):(bl b).length=b.length:=zAX9 ..
theorem zms (b:List Nat)(i:Nat):(bl b)[i]?=b[i]?.map fun n:Nat=>PV.int .u8 n:=zAI9 ..
def zbT (s:List Nat):Nat:=if s=[]\/s=[46]\/s=[46,46]\/0∈s\/47∈s then 140 else if 120<s.length then 141 else 0
def zji (r x:Nat):Nat:=Tw.zrP (Nat.xor r x)
def zfA (w n:Nat):Nat:=Nat.lor (w*2 ^ n%18446744073709551616) (w/2 ^ (64-n))
structure Sip where
 a:Nat
 b:Nat
 c:Nat
 d:Nat
def zc8 (x y:Nat):Nat:=(x+y)%18446744073709551616
def Sip.h1 (v:Sip):Sip:=⟨zfA (zc8 v.a v.b) 32,Nat.xor (zfA v.b 13) (zc8 v.a v.b),v.c,v.d⟩
def Sip.h2 (v:Sip):Sip:=⟨v.a,v.b,zc8 v.c v.d,Nat.xor (zfA v.d 16) (zc8 v.c v.d)⟩
def Sip.h3 (v:Sip):Sip:=⟨zc8 v.a v.d,v.b,v.c,Nat.xor (zfA v.d 21) (zc8 v.a v.d)⟩
def Sip.h4 (v:Sip):Sip:=⟨v.a,Nat.xor (zfA v.b 17) (zc8 v.c v.b),zfA (zc8 v.c v.b) 32,v.d⟩
def Sip.rnd (v:Sip):Sip:=v.h1.h2.h3.h4
def Sip.rnds (v:Sip):Nat->Sip
 | 0=>v
 | n+1=>(v.rnd).rnds n
def Sip.low (v:Sip)(m:Nat):Sip:=⟨Nat.xor v.a m,v.b,v.c,v.d⟩
def Sip.into (v:Sip)(m:Nat):Sip:=(Sip.rnds ⟨v.a,v.b,v.c,Nat.xor v.d m⟩ 2).low m
def Sip.new (k0 k1:Nat):Sip:=⟨Nat.xor k0 8317987319222330741,Nat.xor k1 7237128888997146477,Nat.xor k0 7816392313619706465,Nat.xor k1 8387220255154660723⟩
def Sip.words (v:Sip)(l:List Nat):Sip:=l.foldl Sip.into v
def Sip.fin (v:Sip):Nat :=
 let v:=Sip.rnds ⟨v.a,v.b,Nat.xor v.c 255,v.d⟩ 4
 Nat.xor (Nat.xor (Nat.xor v.a v.b) v.c) v.d
def zcW (b:List Nat):List Nat:=zcP (b.take (8*(b.length/8)))
def zil (b:List Nat):Nat:=zbQ (b.drop (8*(b.length/8)))+b.length%256*2 ^ 56
def zfw (k0 k1:Nat)(b:List Nat):Nat:=(((Sip.new k0 k1).words (zcW b)).into (zil b)).fin
structure Sip.ok (v:Sip):Prop where
 a:v.a<18446744073709551616
 b:v.b<18446744073709551616
 c:v.c<18446744073709551616
 d:v.d<18446744073709551616
theorem zbX {x y:Nat}(hx:x<18446744073709551616)(hy:y<18446744073709551616):Nat.xor x y<18446744073709551616:=zDY9 (n:=64) hx hy
theorem zAi {x y:Nat}(hx:x<18446744073709551616)(hy:y<18446744073709551616):Nat.lor x y<18446744073709551616:=Nat.or_lt_two_pow (n:=64) hx hy
theorem zcy (x y:Nat):zc8 x y<18446744073709551616:=by unfold zc8;omega
theorem zf2 {x:Nat}(n:Nat)(hx:x<18446744073709551616):zfA x n<18446744073709551616:=zAi zo (zGD9 (zFA9 _ _) hx)
section
variable {v:Sip}
theorem Sip.h1_ok (h:v.ok):v.h1.ok:=by
 unfold Sip.h1;exact⟨zf2 32 (zcy _ _),zbX (zf2 13 h.b) (zcy _ _),h.c,h.d⟩
theorem Sip.h2_ok (h:v.ok):v.h2.ok:=by
 unfold Sip.h2;exact⟨h.a,h.b,zcy _ _,zbX (zf2 16 h.d) (zcy _ _)⟩
theorem Sip.h3_ok (h:v.ok):v.h3.ok:=by
 unfold Sip.h3;exact⟨zcy _ _,h.b,h.c,zbX (zf2 21 h.d) (zcy _ _)⟩
theorem Sip.h4_ok (h:v.ok):v.h4.ok:=by
 unfold Sip.h4;exact⟨h.a,zbX (zf2 17 h.b) (zcy _ _),zf2 32 (zcy _ _),h.d⟩
theorem Sip.rnd_ok (h:v.ok):v.rnd.ok:=by
 unfold Sip.rnd;exact Sip.h4_ok (Sip.h3_ok (Sip.h2_ok (Sip.h1_ok h)))
theorem Sip.rnds_ok:∀{n:Nat} {v:Sip},v.ok->(v.rnds n).ok
 | 0,_,h=>h
 | n+1,_,h=>Sip.rnds_ok (n:=n) (Sip.rnd_ok h)
theorem Sip.low_ok (h:v.ok){m:Nat}(hm:m<18446744073709551616):(v.low m).ok:=by
 unfold Sip.low;exact⟨zbX h.a hm,h.b,h.c,h.d⟩
theorem Sip.into_ok (h:v.ok){m:Nat}(hm:m<18446744073709551616):(v.into m).ok:=by
 have h2:Sip.ok ⟨v.a,v.b,v.c,Nat.xor v.d m⟩:=⟨h.a,h.b,h.c,zbX h.d hm⟩
 unfold Sip.into;exact Sip.low_ok (Sip.rnds_ok h2) hm
end
end Fv
end Go.Proofs.YtkeknmgnoceogaaGreat
namespace Go.Proofs.YtkeknmgnoceogaaGreat
namespace Fv
open Tw
@[reducible] def zec (x:Pr):PV:=.agg [iv x.1,uv x.2]
end Fv
end Go.Proofs.YtkeknmgnoceogaaGreat
namespace Go.Proofs.YtkeknmgnoceogaaGreat
namespace Fv
open Tw
attribute [go_sem] daF dnF xT zbm zaI zbf T3 T4 T8 T10 T11 T12 T13 T14 T15 T16 T17 T18 T19 T20 T23 T26 T27 T29 T32 T33 T34 T35 T36 T37 T39 T40 T41 T42 T43 T44 T45 T46 T47 T50 T51 T52 T53 T54 T55 T58 T59 T60 T61 T63 T64 T68 T69 T70 T71 T72 T73 T74 T75 T76 T77 T78 T79 T80 T81 T82 T83 T84 T85 T86 T87 T88 T89 T90 T92 T93 T94 T95 T96 T97 T98 T99 T106 T107 T108 T109 T110 T111 T112 T115 T116 T120 T121 T122 T123 T124 T125 T126 T127 T128 T129 T130 T131 T132 T133 T134 T135 T136 T137 T138 T139 T140 T141 T142 T143 T144 T145 T146 T147 T148 T149 T162 T163 T164 T165 T166 T167 T168 T169 T170 T171 T172 T175 T179 T180 T181 T182 T183 T184 T186 T187 T188 T189 T190 T191 T192 T193 T195 T196 T197 T198 T199 T202 T203 T204 T205 T206 T207 T208 T209 T210 T211 T212 T213 T214 T217 T219 T220 T221 T222 T223 T224 T225 T226 T227 T228 T229 T230 T234 T235 T236 T237 T238 T239 T240 T241 T242 T243 T245 T246 T247 T248 T249 T250 T251 T252 T253 T254 T256 T257 T258 T259 T260 T261 T262 T263 T264 T265 T266 T267 T268 T269 T270 T271 T272 T273 T274 T275 T276 T279 T280 T281 T282 T283 T284 T285 T286 T287 T288 T289 T290 T291 T292 T293 T294 T295 T296 T297 T298 T299 T300 T302 T303 T304 T305 T306 T307 T308 T309 T310 T311 T312 T313 T314 T315 T316 T317 T318 T319 T321 T322 T323 T324 T325 T326 T327 T328 T329 T330 T331 T332 T333 T334 T335 T337 T338 T339 T340 T341 T342 T343 T344 T346 T347 T348 T349 T350 T351 T353 T354 T355 T356 T357 T359 T360 T361

set_option maxRecDepth 100000
theorem f97:ET.funcs.get 97=some T97:=zD Tryz.func97
theorem f123:ET.funcs.get 123=some T123:=zD Tryz.func123
theorem f205:ET.funcs.get 205=some T205:=zD Tryz.func205
theorem f285:ET.funcs.get 285=some T285:=zD Tryz.func285
theorem f259:ET.funcs.get 259=some T259:=zD Tryz.func259
theorem f257:ET.funcs.get 257=some T257:=zD Tryz.func257
theorem f209:ET.funcs.get 209=some T209:=zD Tryz.func209
theorem f282:ET.funcs.get 282=some T282:=zD Tryz.func282
@[reducible] def zeU (n:Int):PV:=.iface 38 (.int .i64 n)
theorem zv7 (e:Int):FN ET 97 [.bool true,.int .i64 e] (.ret (.tuple [])):=by
 refine zfn f97 Lb.unit ?_;refine zar (zgo ?_);refine zfc ?_ ?_
 ·intro h;cases h
 ·intro _;refine zas ?_;exact⟨[],rfl,Frz.tupL trivial⟩
theorem ziY (e:Int):FN ET 97 [.bool false,.int .i64 e] (.panic (zeU e)):=by
 refine zfn f97 (.iface (.int _ _)) ?_;refine zar (zgo ?_);refine zfc ?_ ?_
 ·intro _;refine zau ?_;refine zfx ?_;refine zqO (ty:=38) (v:=.int .i64 e) rfl (by simp[evs,ev,okv,upd,zj]) ?_;exact Frz.iface (.int _ _)
 ·intro h;cases h
theorem zuB (p:Nat)(l:List Int)(n:Int)(hl:l.length<4611686018427387904):FN ET 123 [.list p 1 (l.map iv),.int .i64 n] (.ret (.bool (l.contains n))):=by
 refine zfn f123 (.bool _) ?_;refine zar (zgo ?_);refine zar ?_;refine zar (zgo ?_);refine zF (zbJ (fun m s=>∃i:Nat,m=l.length-i/\i<=l.length/\(l.take i).contains n=false/\s.tm 0=.list p 1 (l.map iv)/\s.tm 1=.int .i64 n/\s.tm 5=.int .i64 i/\s.df=[]/\s.H=[]) (n:=l.length) ?_ ?_)
 ·exact⟨0,by simp[upd,zj]⟩
 ·rintro m ⟨tm,df,H⟩ ⟨i,rfl,hi,hc,h0,h1,h5,rfl,rfl⟩;dsimp only at h0 h1 h5;refine zbC ?_;refine zar (zbH (zr3 h0 h1 h5) ?_);refine zwh ?_ ?_
  ·intro hlt;have hlt:i<l.length:=by have:=of_decide_eq_true hlt;omega
   refine zar (zF ?_);refine zar (zbH (zr4 h0 h1 h5 (zAA9 hlt)) ?_);refine zfc ?_ ?_
   ·intro he;have he:=of_decide_eq_true he;refine zar (zgo ?_);refine zbG (zfr ?_);have:l.contains n=true:=by
     rw[List.contains_iff_mem];rw[<- he];exact zBK9 hlt
    rw[this];exact Frz.bool _
   ·intro he;have he:=of_decide_eq_false he;refine zas ?_;refine zau ?_;refine zKF (zr3 h0 h1 h5) ?_;refine⟨_,?_,i+1,rfl,hlt,?_,?_⟩
    ·omega
    ·rw[List.take_succ_eq_append_getElem hlt];rw[List.contains_append,hc];simp[Ne.symm he]
    ·have:IntKind.i64.wrap ((i:Int)+1)=((i+1:Nat):Int):=by rw[wrap_i64 zo zo];omega
     simp[upd,h0,h1,this]
  ·intro hlt;have hlt:¬i<l.length:=by have:=of_decide_eq_false hlt;omega
   obtain rfl:i=l.length:=zo;refine zar (zgo ?_);refine zbG (zfr ?_);rw[zBS9]at hc;rw[hc];exact Frz.bool _
abbrev zb0 (n:Nat):Prop:=n<4611686018427387904
theorem zn5 (p:Nat)(w:List Nat)(hw:zb0 w.length):FN ET 205 [wv p w] (.ret (.int .i64 (w.length/2:Nat))):=by
 refine zfn f205 (.int _ _) ?_;refine zar (zgo ?_);have e1:IntKind.i64.wrap ((w.length:Int).tdiv 2)=((w.length/2:Nat):Int):=by
  rw[IntWalk.i64_quo _ _ zo];omega
 refine zar (zau ?_);refine zPF e1 ?_;exact Frz.int _ _
theorem zzz (p:Nat)(w:List Nat)(j:Nat)(hw:zb0 w.length)(h:2*j<w.length):FN ET 285 [wv p w,.int .i64 j] (.ret (uv w[2*j])):=by
 refine zfn f285 (.int _ _) ?_;refine zar (zgo ?_);have e1:IntKind.i64.wrap (2*(j:Int))=2*(j:Int):=zwi;have e2:(2*(j:Int)).toNat=2*j:=zo;have e3:(0:Int)<=2*(j:Int):=zo;refine zar (zbH (zr4 e1 e2 e3 (zAA9 h)) ?_);refine zbG (zfr ?_);exact Frz.int _ _
theorem znt (p:Nat)(w:List Nat)(j:Nat)(hw:zb0 w.length)(h:2*j+1<w.length):FN ET 259 [wv p w,.int .i64 j] (.ret (uv w[2*j+1])):=by
 refine zfn f259 (.int _ _) ?_;refine zar (zgo ?_);have e1:IntKind.i64.wrap (2*(j:Int))=2*(j:Int):=zwi;have e4:IntKind.i64.wrap (2*(j:Int)+1)=2*(j:Int)+1:=zwi;have e2:(2*(j:Int)+1).toNat=2*j+1:=zo;have e3:(0:Int)<=2*(j:Int)+1:=zo;refine zar (zbH (zr5 e1 e2 e3 e4 (zAA9 h)) ?_);refine zbG (zfr ?_);exact Frz.int _ _
@[reducible] def zkp (p:Nat) (w:List Nat) (left:Nat):PV:=.agg [wv p w,uv left]
theorem zwc (p:Nat)(w:List Nat)(left:Nat)(hw:zb0 w.length):FN ET 257 [zkp p w left] (.ret (.bool (zdu left w.length))):=by
 refine zfn f257 (.bool _) ?_;refine zar (zgo ?_);refine zar (zau ?_)
 by_cases h1:left=0
 ·subst h1;refine zP ?_;exact Frz.bool _
 ·have g1:¬(left:Int)=0:=zo
  by_cases h2:w.length%2=0
  ·have g2:(w.length:Int).tmod 2=0:=by rw[IntWalk.rem_in _ _ zo];omega
   refine zcz (zr2 g1 g2) ?_;refine zca (zn5 p w hw) ?_
   by_cases h3:2<=w.length/2
   ·have g3:(2:Int)<=((w.length/2:Nat):Int):=zo;refine zcz g3 ?_;refine zca (zn5 p w hw) ?_;refine zP ?_;have:zdu left w.length=decide (((w.length/2:Nat):Int)<=28):=by simp[zdu,h1,h2,h3];omega
    rw[this];exact Frz.bool _
   ·have g3:¬(2:Int)<=((w.length/2:Nat):Int):=zo;refine zPF g3 ?_;have:zdu left w.length=false:=by simp[zdu,h1,h2,h3]
    rw[this];exact Frz.bool _
  ·have g2:¬(w.length:Int).tmod 2=0:=by rw[IntWalk.rem_in _ _ zo];omega
   refine zPF (zr2 g1 g2) ?_;have:zdu left w.length=false:=by simp[zdu,h1,h2]
   rw[this];exact Frz.bool _
theorem zwa (p:Nat)(w:List Nat)(left j:Nat)(hw:zb0 w.length)(h:2*j<w.length+1):FN ET 209 [zkp p w left,.int .i64 j] (.ret (uv (zdh left w j))):=by
 refine zfn f209 (.int _ _) ?_;refine zG ?_;refine zfc ?_ ?_
 ·intro hj;obtain rfl:j=0:=by have:=of_decide_eq_true hj;omega
  refine zO ?_;exact Frz.int _ _
 ·intro hj;have hj:¬j=0:=by have:=of_decide_eq_false hj;omega
  refine zas ?_;show W _ _ _ _ _ _;refine zI ?_;have e1:(j:Int)-1=((j-1:Nat):Int):=zo;rw[e1];refine zca (znt p w (j-1) hw zo) ?_;refine zP ?_;have:zdh left w j=w[2*(j-1)+1]'zo:=by
   unfold zdh;rw[if_neg hj,zAP9,zAA9 zo];rfl
  rw[this];exact Frz.int _ _
theorem zzV (p:Nat)(w:List Nat)(left:Nat)(hw:zb0 w.length):FN ET 282 [zkp p w left] (.ret (.int .i64 (zb1 w:Nat))):=by
 refine zfn f282 (.int _ _) ?_;refine zG ?_;refine zF (zbJ (fun m s=>∃i:Nat,m=w.length-i/\2*i<=w.length/\zb1 w=i+zb1 (w.drop (2*i))/\s.tm 1=.ptr 0 0 0 0 2/\s.tm 2=.int .i64 i/\s.df=[]/\s.H=[.row 299 2 0 0 [zkp p w left]]) (n:=w.length) ?_ ?_)
 ·exact⟨0,by simp[upd,zj]⟩
 ·rintro m ⟨tm,df,H⟩ ⟨i,rfl,hi,hc,h1,h2,rfl,rfl⟩;dsimp only at h1 h2;refine zbC ?_;refine zIF (zr2 h1 h2) ?_;refine zca (zn5 p w hw) ?_;have stop:∀tm',zb1 (w.drop (2*i))=0->tm' 2=.int .i64 i->ze4 (fun m s=>∃i:Nat,m=w.length-i/\2*i<=w.length/\zb1 w=i+zb1 (w.drop (2*i))/\s.tm 1=.ptr 0 0 0 0 2/\s.tm 2=.int .i64 i/\s.df=[]/\s.H=[.row 299 2 0 0 [zkp p w left]]) (w.length-i)
    (zeY 0 (zef (fun s'=>W ET ET.caught none (.seq (.region [⟨some 17,.mov,[.tmp 2],none⟩,⟨some 2,.mov,[.tmp 17],none⟩]) .ret) s' (zdT ET T282 fun e' H=>zbq H 0 e' (.ret (.int .i64 (zb1 w:Nat))))) (zdT ET T282 fun e' H=>zbq H 0 e' (.ret (.int .i64 (zb1 w:Nat)))))) (.exit 0) ⟨tm',[],[.row 299 2 0 0 [zkp p w left]]⟩:=fun tm' h0 ht=>by
   refine zOF ht ?_;rw[hc,h0];exact Frz.int _ _
  by_cases hlt:i<w.length/2
  ·have g1:(i:Int)<((w.length/2:Nat):Int):=zo;refine zcz (zr3 g1 h1 h2) ?_;refine zca (znt p w i hw zo) ?_;refine zN ?_;have hd:=zp4 w i zo;refine zwh ?_ ?_
   ·intro hz;have hz:¬w[2*i+1]'zo=0:=by simpa using hz
    refine zF ?_;refine zJF h2 ?_;refine⟨_,?_,i+1,rfl,?_,?_,?_⟩
    ·omega
    ·omega
    ·rw[hc,hd,zb1,if_neg hz];omega
    ·simp[upd,h1]
   ·intro hz;have hz:w[2*i+1]'zo=0:=by simpa using hz
    refine stop _ ?_ (by simp[upd,h2]);rw[hd,zb1,if_pos hz]
  ·have g1:¬(i:Int)<((w.length/2:Nat):Int):=zo;refine zNF (zr3 g1 h1 h2) ?_;refine zwh ?_ ?_
   ·intro h;cases h
   ·intro _;refine stop _ ?_ (by simp[upd,h2]);exact zmX (by simp;omega)
def zcg:Nat->Nat->List Nat->List (Nat×Pr)
 | i,prev,k::p::l=>if p=0 then[]else if p=prev then zcg (i+1) p l else(i,(k,p))::zcg (i+1) p l
 | _,_,_=>[]
def zd4 (left:Nat)(l:List Nat):List (Nat×Pr):=if zdu left l.length=true then zcg 0 left l else[]
theorem zgg:∀(l:List Nat) (i prev:Nat),(zcg i prev l).map (·.2)=zcO prev l
 | [],_,_=>by simp[zcg,zcO]
 | [_],_,_=>by simp[zcg,zcO]
 | k::p::l,i,prev=>by
  rw[zcg,zcO]
  split
  ·rfl
  ·split
   ·exact zgg l (i+1) p
   ·simp[zgg l (i+1) p]
theorem zlF (left:Nat)(l:List Nat):(zd4 left l).map (·.2)=zcK left l:=by
 unfold zd4 zcK
 split
 ·exact zgg l 0 left
 ·rfl
theorem f324:ET.funcs.get 324=some T324:=zD Tryz.func324
theorem f276:ET.funcs.get 276=some T276:=zD Tryz.func276
theorem f214:ET.funcs.get 214=some T214:=zD Tryz.func214
theorem zxp (id p:Nat)(w:List Nat)(left:Nat)(hw:zb0 w.length)(P:Nat->List zd)(hlen:∀k,(P k).length=(P 0).length)(hnr:∀(k i:Nat) (o:zd),(P k)[i]?=some o->NRO (P 0).length o)
  (hy:∀(k j:Nat) (x:Pr) (G:List zd),(zd4 left w)[k]?=some (j,x)->FY ET id [.int .i64 j,pv x] (P k++G) fun r H'=>r=true/\H'=P (k+1)++G) :
  FO ET 324 [.yield id,.elem [wv p w],.elem [uv left]] (P 0) false fun e H'=>e=.ret (.tuple [])/\H'=P (zd4 left w).length:=by
 refine FO.gc (zro f324 ?_);have hb:∀k (x:zd),(P k++[x])[(P 0).length]?=some x:=fun k x=>by rw[<- hlen k];exact zb _ _
 have hs:∀k (x y:zd),(P k++[x]).set (P 0).length y=P k++[y]:=fun k x y=>by rw[<- hlen k];exact za _ _ _
 have fin:∀(tm:Nat->PV) (k:Nat),k=(zd4 left w).length->zdT ET T324 (fun e H'=>∃H'' G,zh2 (P 0) H' H'' G/\NRE (P 0).length e/\e=.ret (.tuple [])/\H''=P (zd4 left w).length) .ret ⟨tm,[],P k++[.row 299 2 0 0 [zkp p w left]]⟩:=fun tm k hk=>by
  subst hk;refine zep (vs:=[]) rfl ⟨P (zd4 left w).length,_,⟨rfl,hlen _,fun i o ho=>.inr (hnr _ i o ho)⟩,.tuple (fun x h=>by cases h),rfl,rfl⟩
 refine zk8 ?_;refine zB ?_;refine zbH (zr2 (hb 0) (hs 0)) ?_;refine zIF (hb 0) ?_;refine zca (zwc p w left hw) ?_;refine zN ?_
 by_cases hr:zdu left w.length=true
 ·have hev:w.length%2=0:=by simp[zdu]at hr;omega
  have hit:zd4 left w=zcg 0 left w:=by unfold zd4;rw[if_pos hr]
  refine zfc ?_ ?_
  ·rw[hr];intro h;cases h
  ·intro _;refine zas ?_;show W _ _ _ _ _ _;refine zar (zas ?_);refine zIF (hb 0) ?_;refine zca (zzV p w left hw) ?_;refine zN ?_;refine zF (zbJ (fun m s=>∃j k:Nat,m=w.length-j/\j<=zb1 w/\zb1 w=j+zb1 (w.drop (2*j))/\k<=(zd4 left w).length/\(zd4 left w).drop k=zcg j (zdh left w j) (w.drop (2*j))/\s.tm 0=.yield id/\s.tm 4=.ptr (P 0).length 0 0 0 2/\s.tm 13=.int .i64 (zb1 w:Nat)/\s.tm 14=.int .i64 j/\s.df=[]/\s.H=P k++[.row 299 2 0 0 [zkp p w left]]) (n:=w.length) ?_ ?_)
   ·exact⟨0,0,by simp,by omega,by simp,by omega,by simp[hit,zdh],zt,zt,zt,zt,rfl,rfl⟩
   ·rintro m ⟨tm,df,H⟩ ⟨j,k,rfl,hj,hraw,hk,hdk,h0,h4,h13,h14,rfl,rfl⟩;dsimp only at h0 h4 h13 h14;have hrl:=zoG w;(try refine zbC ?_);refine zar (zbH (zr4 h0 h4 h13 h14) ?_);refine zwh ?_ ?_
    ·intro hlt;have hlt:j<zb1 w:=by have:=of_decide_eq_true hlt;omega
     have hd:=zp4 w j zo;have hpz:¬w[2*j+1]'zo=0:=by
      intro e;rw[hd,zb1,if_pos e]at hraw;omega
     rw[hd,zcg,if_neg hpz]at hdk;rw[hd,zb1,if_neg hpz]at hraw;have hah:zdh left w (j+1)=w[2*j+1]'zo:=by
      unfold zdh;rw[if_neg zo,zAP9];simp only[zGE9];rw[zAA9 zo];rfl
     refine zar (zF ?_);refine zB ?_;refine zbH h14 ?_;refine zar ?_;refine zbc ?_;refine zdc (zr4 h0 h4 h14 (hb k)) (znt p w j hw zo) ?_;refine zdc (zr4 h0 h4 h14 (hb k)) (zwa p w left j hw zo) ?_
     by_cases heq:w[2*j+1]'zo=zdh left w j
     ·have g1:((w[2*j+1]'zo:Nat):Int)=((zdh left w j:Nat):Int):=by rw[heq]
      rw[if_pos heq]at hdk;refine zgB (by first|exact trivial|simp only[go_sem,g1,h0,h4,h14,hb k]) (by simp(disch:=omega)only[go_sem,g1,h0,h4,h14,hb k]<;>rfl) rfl (by simp only[go_sem,g1,h0,h4,h14,hb k]<;>rfl) (by simp only[go_sem]<;>rfl) ?_;refine zgB (by first|exact trivial|simp only[go_sem,g1,h0,h4,h14,hb k]) (by simp(disch:=omega)only[go_sem,g1,h0,h4,h14,hb k]<;>rfl) rfl (by simp only[go_sem,g1,h0,h4,h14,hb k]<;>rfl) (by simp only[go_sem]<;>rfl) ?_;refine zgB (by first|exact trivial|simp only[go_sem,g1,h0,h4,h14,hb k]) (by simp(disch:=omega)only[go_sem,g1,h0,h4,h14,hb k]<;>rfl) rfl (by simp only[go_sem,g1,h0,h4,h14,hb k]<;>rfl) (by simp only[go_sem]<;>rfl) ?_;refine zQF (zr5 g1 h0 h4 h14 (hb k)) ?_;refine zfc ?_ ?_
      ·intro h;cases h
      ·intro _;refine zas ?_;refine zJF h14 ?_;refine⟨_,?_,j+1,k,rfl,by omega,by omega,hk,?_,?_⟩
       ·omega
       ·rw[hdk,hah]
       ·simp[upd,h0,h4,h13]
     ·have g1:¬((w[2*j+1]'zo:Nat):Int)=((zdh left w j:Nat):Int):=zo;rw[if_neg heq]at hdk;have hk1:(zd4 left w)[k]?=some (j,(w[2*j]'zo,w[2*j+1]'zo)):=by
       have:=congrArg List.head? hdk;rw[List.head?_drop]at this;simpa using this
      have hk2:k<(zd4 left w).length:=(zAC9.1 hk1).1;have hdk2:(zd4 left w).drop (k+1)=zcg (j+1) (w[2*j+1]'zo) (w.drop (2*(j+1))):=by
       rw[<- zDN9,hdk];rfl
      refine zdc (zr5 g1 h0 h4 h14 (hb k)) (zzz p w j hw zo) ?_;refine zdc (zr5 g1 h0 h4 h14 (hb k)) (znt p w j hw zo) ?_;refine zqS (s1:=?_) (id:=?_) (vs:=?_) ?_ ?_ rfl rfl ?_ ?_ ?_;rotate_left 3;(first|exact trivial|(simp only[go_sem,g1,h0,h4,h14,hb k]));(simp(disch:=omega)only[go_sem,g1,h0,h4,h14,hb k]<;>rfl);(first|rfl|(simp only[go_sem,g1,h0,h4,h14,hb k]<;>rfl));(simp only[go_sem,g1,h0,h4,h14,hb k]<;>rfl);refine FY.mono (hy k j _ _ hk1) fun r H' hh=>?_;obtain⟨rfl,rfl⟩:=hh;refine⟨_,by simp only[go_sem]<;>rfl,?_⟩;generalize zay _ _=K0;refine zQF g1 ?_;refine zfc ?_ ?_
      ·intro h;cases h
      ·intro _;refine zas ?_;refine zJF h14 ?_;refine⟨_,?_,j+1,k+1,rfl,by omega,by omega,hk2,?_,?_⟩
       ·omega
       ·rw[hdk2,hah]
       ·simp[upd,h0,h4,h13]
    ·intro hlt;have hlt:¬j<zb1 w:=by have:=of_decide_eq_false hlt;omega
     obtain rfl:j=zb1 w:=zo;have hz:zcg (zb1 w) (zdh left w (zb1 w)) (w.drop (2*zb1 w))=[]:=by
      have hr0:zb1 (w.drop (2*zb1 w))=0:=zo
      revert hr0
      generalize w.drop (2*zb1 w)=l
      match l with
      | []=>intro _;simp[zcg]
      | [_]=>intro _;simp[zcg]
      | a::b::l =>
       intro hr0;rw[zb1]at hr0
       split at hr0
       ·rename_i hb;rw[zcg,if_pos hb]
       ·omega
     rw[hz]at hdk;have hk3:k=(zd4 left w).length:=by
      have:=congrArg List.length hdk;simp at this;omega
     exact fin _ _ hk3
 ·have hr:zdu left w.length=false:=by simpa using hr
  refine zfc ?_ ?_
  ·intro _;refine zbG ?_;exact fin _ 0 (by simp[zd4,hr])
  ·rw[hr];intro h;cases h
theorem zzt (p:Nat)(w:List Nat)(left:Nat):FP ET 276 [uv left,wv p w] (.ret (.fn 324 [.elem [wv p w],.elem [uv left]])):=by
 refine zfp f276 ?_;refine zO ?_;refine Frz.fnL ⟨.ptr (w:=wv p w) rfl (zAE9 _) rfl fun j x y hx hy=>?_,.ptr (w:=uv left) rfl (zAE9 _) rfl fun j x y hx hy=>?_,trivial⟩
 ·cases j with
  | zero=>simp[PV.cells]at hx hy;subst hx;subst hy;exact Frz.list _ _ _
  | succ j=>simp at hy
 ·cases j with
  | zero=>simp[PV.cells]at hx hy;subst hx;subst hy;exact Frz.int _ _
  | succ j=>simp at hy
def zum:zbI:=.region [⟨some 6,.alloc 92 [.int .u64 (.ofNat 0),.int .u64 (.ofNat 0)],[],none⟩,⟨none,.store 2,[.tmp 6,.tmp 11],none⟩]
def zts:zbI:=.block 1 (.region [⟨some 12,.load false 1,[.tmp 4],none⟩,⟨some 13,.load true 2,[.tmp 6],none⟩,⟨some 14,.bslice 92 2 1 [.int .u64 (.ofNat 0),.int .u64 (.ofNat 0)] [(0,2)],[.tmp 13],none⟩,⟨some 15,.append 92 2 16,[.tmp 12,.tmp 14],none⟩,⟨none,.store 1,[.tmp 4,.tmp 15],none⟩])
def zfJ (tm:Nat->PV)(L:List Pr)(k:Nat):List zd:=[.row 87 1 0 0 [.sl 1 k 0 k (2*k) 2],.row 92 2 k 0 ((L.take k).map pv),.dfr false,.loop .ready .norm tm [10,11] zum zts 2]
theorem zf0 {l:List Pr}:∀v∈(l.map pv).flatMap PV.cells,Id0 v:=fun v hv=>by
 obtain⟨x,hx,hv⟩:=zBE9.1 hv;obtain⟨n,_,rfl⟩:=zAK9.1 hx;simp[PV.cells]at hv;rcases hv with rfl|rfl<;>exact .int _ _
theorem zqz {tm:Nat->PV}{L:List Pr}(hnr:∀i,tm i=.bad\/NR 4 (tm i))(k i:Nat)(o:zd)(ho:(zfJ tm L k)[i]?=some o):NRO 4 o:=by
 match i with
 | 0=>injection ho with ho;subst ho;intro x hx;simp[PV.cells]at hx;subst hx;exact .sl _ _ _ _ _ zo
 | 1=>injection ho with ho;subst ho;exact zy5 zf0
 | 2=>injection ho with ho;subst ho;trivial
 | 3=>injection ho with ho;subst ho;exact⟨by omega,hnr,trivial⟩
 | i+4=>simp[zfJ]at ho
theorem ztY {tm:Nat->PV}{L:List Pr}(hnr:∀i,tm i=.bad\/NR 4 (tm i))(k:Nat)(G G':List zd):zh2 (zfJ tm L k++G) (zfJ tm L (k+1)++G++G') (zfJ tm L (k+1)++G) G' :=
 zh2.front rfl fun id o ho=>zqz hnr (k+1) id o ho
theorem zpR (left:Nat)(w:List Nat):(zcK left w).length<=28:=by
 unfold zcK
 split
 ·rename_i h;have h1:∀(prev:Nat) (l:List Nat),2*(zcO prev l).length<=l.length:=by
   intro prev l
   induction prev,l using zcO.induct<;>rw[zcO]<;>simp_all<;>omega
  have h2:=h1 left w;simp[zdu]at h;omega
 ·simp
theorem zvP (tm:Nat->PV)(h4:tm 4=.ptr 0 0 0 0 1)(hnr:∀i,tm i=.bad\/NR 4 (tm i))(L:List Pr)(k j:Nat)(x:Pr)(hx:L[k]?=some x)(hL:L.length<1000000)(G:List zd) :
  FY ET 3 [.int .i64 j,pv x] (zfJ tm L k++G) fun r H'=>r=true/\H'=zfJ tm L (k+1)++G:=by
 have hk:k<L.length:=(zAC9.1 hx).1;have hxk:L[k]=x:=(zAC9.1 hx).2;have hlt:(L.take k).length=k:=by simp;omega
 refine FY.gc (zjC (tm:=tm) (ps:=[10,11]) (aS:=zum) (bo:=zts) rfl rfl ?_);refine zau ?_;refine zfx ?_ (by simp(disch:=omega)only[go_sem,h4,zfJ]<;>rfl);refine zdp ?_;refine⟨rfl,_,_,_,_,_,_,rfl,?_⟩;refine zF (zau ?_);have hb:(k+1)*17<=140737488355328:=zo;refine zKF (zr3 h4 hlt hb) ?_;have htk:(L.take k).map pv++[PV.agg [uv x.1,uv x.2]]=(L.take (k+1)).map pv:=by
  rw[zBQ9,hx];simp
 rw[htk,zAD9];exact⟨rfl,.busy,.norm,tm,[10,11],zum,zts,2,rfl,zfJ tm L (k+1)++G,[zd.row 92 2 0 0 [pv x]]++[zd.row 92 2 0 0 [PV.agg [uv x.1,uv x.2]]],ztY hnr k G _,rfl,rfl⟩
theorem zyI (p:Nat)(w:List Nat)(left:Nat)(hw:zb0 w.length):FN ET 214 [uv left,wv p w] (.ret (psv 0 (zcK left w))):=by
 refine zfn f214 (Lb.pvs _) ?_;refine zG ?_;refine zI ?_;refine zcp (zzt p w left) ?_;refine zN ?_;refine zF ?_;refine zpc 92 2 (id:=0) rfl ?_;simp only[lzy,zAG9,zAH9,zDB9,zAR9,zBB9];refine zjB (g:=324) (cap:=[.elem [wv p w],.elem [uv left]]) (b:=false) (by simp only[go_sem]) ?_;have hL:(zd4 left w).length=(zcK left w).length:=by rw[<- zlF];simp
 have h28:=zpR left w;have hnr:∀i,(upd (upd (upd (upd (zj [uv left,wv p w]) 4 (PV.ptr 0 0 0 0 1)) 7 (uv left)) 8 (wv p w)) 9 (PV.fn 324 [PV.elem [wv p w],PV.elem [uv left]])) i=.bad\/NR 4 ((upd (upd (upd (upd (zj [uv left,wv p w]) 4 (PV.ptr 0 0 0 0 1)) 7 (uv left)) 8 (wv p w)) 9 (PV.fn 324 [PV.elem [wv p w],PV.elem [uv left]])) i) :=
  zhL (zhL (zhL (zhL (zzj fun v hv=>by simp at hv;rcases hv with rfl|rfl<;>constructor) (.ptr _ _ _ _ zo)) (.int _ _)) (.list _ _ _)) (.fn fun x hx=>by simp at hx;rcases hx with rfl|rfl<;>constructor)
 have hP:=zxp 3 p w left hw (zfJ _ (zcK left w)) (fun _=>rfl) (fun k i o ho=>zqz hnr k i o ho) fun k j x G hk =>
  zvP _ rfl hnr (zcK left w) k j x (by rw[<- zlF];simp[hk]) zo G
 refine FO.mono (fun e H' he=>?_) hP;obtain⟨rfl,rfl⟩:=he;refine⟨⟨_,rfl⟩,.ready,.norm,_,_,_,_,_,by simp,rfl,?_⟩;rw[hL];refine zar (zau ?_);refine zfx ?_ (by simp(disch:=omega)only[go_sem,zfJ]<;>rfl);refine zbY ?_;refine zbG ?_;refine zme (vs:=[.sl 1 (zcK left w).length 0 (zcK left w).length (2*(zcK left w).length) 2]) rfl rfl ?_;refine Frz.whole (e:=92) (z':=2) (G:=(zcK left w).length) (l:=(zcK left w).map pv) ?_ rfl (by simp) (by simp) (fun v hv=>?_) zf0
 ·simp[zfJ]
 ·obtain⟨x,_,rfl⟩:=zAK9.1 hv;rfl
theorem zcY {H:List zd}{e:FE}{n:Int}(h:e=.panic (zeU n)):zbq H 0 (.panic (zeU n)) e:=by subst h;exact Frz.iface (.int _ _)
theorem zbq.int {H:List zd}{k:IntKind}{n:Int}{e:FE}(h:e=.ret (.int k n)):zbq H 0 (.ret (.int k n)) e:=by subst h;exact Frz.int _ _
theorem f252:ET.funcs.get 252=some T252:=zD Tryz.func252
theorem f261:ET.funcs.get 261=some T261:=zD Tryz.func261
theorem f262:ET.funcs.get 262=some T262:=zD Tryz.func262
theorem f264:ET.funcs.get 264=some T264:=zD Tryz.func264
theorem f265:ET.funcs.get 265=some T265:=zD Tryz.func265
theorem f266:ET.funcs.get 266=some T266:=zD Tryz.func266
theorem f267:ET.funcs.get 267=some T267:=zD Tryz.func267
theorem f268:ET.funcs.get 268=some T268:=zD Tryz.func268
theorem f270:ET.funcs.get 270=some T270:=zD Tryz.func270
theorem f271:ET.funcs.get 271=some T271:=zD Tryz.func271
theorem f273:ET.funcs.get 273=some T273:=zD Tryz.func273
theorem f274:ET.funcs.get 274=some T274:=zD Tryz.func274
theorem f213:ET.funcs.get 213=some T213:=zD Tryz.func213
theorem zbq.bool {H:List zd}{b b':Bool}(h:b=b'):zbq H 0 (.ret (.bool b)) (.ret (.bool b')):=by subst h;exact Frz.bool _
theorem zbq.uv {H:List zd}{k:IntKind}{b b':Int}(h:b=b'):zbq H 0 (.ret (.int k b)) (.ret (.int k b')):=by subst h;exact Frz.int _ _
theorem zxb (x:Nat):FN ET 252 [uv x] (.ret (.bool (zdP x))):=by
 refine zfn f252 (.bool _) ?_;refine zG ?_;refine zau ?_
 by_cases h:1<=x
 ·have g:(1:Int)<=x:=zo;refine zPF g ?_;exact zbq.bool (by simp[zdP,h];omega)
 ·have g:¬(1:Int)<=x:=zo;refine zPF g ?_;exact zbq.bool (by simp[zdP,h])
@[reducible] def zdL (a b c d e:Nat):List PV:=[iv a,iv b,uv c,uv d,iv e,.nilsl]
theorem zAF (cs:List PV)(x:Nat):FN ET 261 [.elem cs,uv x] (.ret (.bool (decide (7522529147838689024<=x)&&decide (x<=7522529147838689024+12)))):=by
 refine zfn f261 (.bool _) ?_;refine zG ?_;refine zau ?_
 by_cases h:7522529147838689024<=x
 ·have g:(7522529147838689024:Int)<=x:=zo;refine zPF g ?_;exact zbq.bool (by simp[h];omega)
 ·have g:¬(7522529147838689024:Int)<=x:=zo;refine zPF g ?_;exact zbq.bool (by simp[h])
theorem zAH (cs:List PV)(x:Nat):FN ET 264 [.elem cs,uv x] (.ret (.bool (decide (x<2048)))):=by
 refine zfn f264 (.bool _) ?_;refine zO ?_;exact zbq.bool (by simp;omega)
theorem zAz (cs:List PV)(x:Nat):FN ET 267 [.elem cs,uv x] (.ret (.bool true)):=by
 refine zfn f267 (.bool _) ?_;refine zO ?_;exact zbq.bool rfl
theorem zAE (cs:List PV)(x:Nat):FN ET 273 [.elem cs,uv x] (.ret (.bool (decide (x<=2)))):=by
 refine zfn f273 (.bool _) ?_;refine zO ?_;exact zbq.bool (by simp;omega)
theorem zAQ (a b c d e x:Nat):FN ET 270 [.elem (zdL a b c d e),uv x] (.ret (.bool (zc4 3 a x))):=by
 refine zfn f270 (.bool _) ?_;refine zG ?_;refine zau ?_
 by_cases h:a=0
 ·have g0:(a:Int)=0:=zo
  by_cases h2:x=9223372036854775808
  ·have g:(x:Int)=9223372036854775808:=zo;refine zPF (zr2 g0 g) ?_;exact zbq.bool (by simp[zc4,h,h2])
  ·have g:¬(x:Int)=9223372036854775808:=zo;refine zPF (zr2 g0 g) ?_;exact zbq.bool (by simp[zc4,h,h2])
 ·have g:¬(a:Int)=0:=zo;have g2:(0:Int)<a:=zo;have h2:0<a:=zo;refine zcz (zr2 g g2) ?_;refine zca (zxb x) ?_;refine zP ?_;exact zbq.bool (by simp[zc4,h,h2])
theorem zxM:FN ET 213 [] (.ret (.list 0 3 zh3)):=by
 refine zfn f213 ?_ ?_
 ·refine .list fun x hx=>?_;simp[zh3,List.range,List.range.loop,PV.cells]at hx;rcases hx with h|h|h|h|h|h|h|h|h|h|h|h|h|h|h<;>subst h<;>exact .fn fun _ h=>by cases h
 refine zO ?_;refine Frz.whole rfl rfl rfl (by decide) ?_ ?_
 ·intro v hv;simp[zh3,List.range,List.range.loop]at hv;rcases hv with h|h|h|h|h<;>subst h<;>rfl
 ·intro v hv;simp[zh3,List.range,List.range.loop,PV.cells]at hv;rcases hv with h|h|h|h|h|h|h|h|h|h|h|h|h|h|h<;>subst h<;>exact .fn fun _ h=>by cases h
@[reducible] def zex (cs:List PV):zd:=.row 143 6 0 0 [.agg cs]
theorem ze1 {F:zc}{R:FE->List zd->Prop}{tm:Nat->PV}{H:List zd}(h:F.res=[])(k:R (.ret (.tuple [])) H):zdT ET F R .norm ⟨tm,[],H⟩:=ze2 (vs:=[]) (by rw[h];rfl) k
section
variable (a b c d e x:Nat)(G:List zd)
theorem zAo (k:Nat)(h2:k<=12)(e1:IntKind.u64.wrap ((x:Int)-7522529147838689024)=(k:Int)):FO ET 262 [.ptr 0 0 0 0 6,uv x] (zex (zdL a b c d e)::G) false fun e' H'=>e'=.ret (.tuple [])/\H'=zex (zdL k b c d e)::G:=by
 refine zro f262 ?_;refine zau ?_;refine zcz e1 ?_;refine zhg (ze1 rfl ⟨rfl,rfl⟩)
theorem zx5 (h1:7522529147838689024<=x)(h2:x<=7522529147838689024+12)(k:Nat)(hk:k=x-7522529147838689024):k<=12/\IntKind.u64.wrap ((x:Int)-7522529147838689024)=(k:Int):=by rw[wrap_u64 zo zo];omega
theorem set0 (h1:7522529147838689024<=x)(h2:x<=7522529147838689024+12)(k:Nat)(hk:k=x-7522529147838689024):FO ET 262 [.ptr 0 0 0 0 6,uv x] (zex (zdL a b c d e)::G) false fun e' H'=>e'=.ret (.tuple [])/\H'=zex (zdL k b c d e)::G :=
 zAo a b c d e x G k (zx5 x h1 h2 k hk).1 (zx5 x h1 h2 k hk).2
theorem zAC (h1:x<2048):FO ET 265 [.ptr 0 0 0 0 6,uv x] (zex (zdL a b c d e)::G) false fun e' H'=>e'=.ret (.tuple [])/\H'=zex (zdL a x c d e)::G:=by
 refine zro f265 ?_;refine zau ?_;refine zfx ?_;refine zhg (ze1 rfl ⟨rfl,rfl⟩)
theorem zAy:FO ET 268 [.ptr 0 0 0 0 6,uv x] (zex (zdL a b c d e)::G) false fun e' H'=>e'=.ret (.tuple [])/\H'=zex (zdL a b x d e)::G:=by
 refine zro f268 ?_;refine zau ?_;refine zfx ?_;refine zhg (ze1 rfl ⟨rfl,rfl⟩)
theorem zAD:FO ET 271 [.ptr 0 0 0 0 6,uv x] (zex (zdL a b c d e)::G) false fun e' H'=>e'=.ret (.tuple [])/\H'=zex (zdL a b c x e)::G:=by
 refine zro f271 ?_;refine zau ?_;refine zfx ?_;refine zhg (ze1 rfl ⟨rfl,rfl⟩)
theorem zAA (h1:x<=2):FO ET 274 [.ptr 0 0 0 0 6,uv x] (zex (zdL a b c d e)::G) false fun e' H'=>e'=.ret (.tuple [])/\H'=zex (zdL a b c d x)::G:=by
 refine zro f274 ?_;refine zau ?_;refine zfx ?_;refine zhg (ze1 rfl ⟨rfl,rfl⟩)
end
section
variable (p:Nat)(n:zH)
end
def hAt (lv:Nat)(w:List Nat)(i:Nat):List PV :=
 zdL (if 0<i then lv else 0) (if 1<i then w.getD 1 0 else 0) (if 2<i then w.getD 2 0 else 0) (if 3<i then w.getD 3 0 else 0) (if 4<i then w.getD 4 0 else 0)
theorem zzN (lv:Nat)(w:List Nat)(i x:Nat)(hi:i<5):FN ET (zzH i) [.elem (hAt lv w i),uv x] (.ret (.bool (zc4 i lv x))):=by
 match i,hi with
 | 0,_=>exact zAF _ x
 | 1,_=>exact zAH _ x
 | 2,_=>exact zAz _ x
 | 3,_=>exact zAQ _ _ _ _ _ x
 | 4,_=>exact zAE _ x
theorem zzI (lv:Nat)(w:List Nat)(hlv:lv=w.getD 0 0-7522529147838689024)(i:Nat)(hi:i<5)(hm:zc4 i lv (w.getD i 0)=true)(G:List zd):FO ET (zzJ i) [.ptr 0 0 0 0 6,uv (w.getD i 0)] (zex (hAt lv w i)::G) false fun e H'=>e=.ret (.tuple [])/\H'=zex (hAt lv w (i+1))::G:=by
 match i,hi with
 | 0,_=>rw[zc4,zAW9,decide_eq_true_eq,decide_eq_true_eq]at hm;exact set0 _ _ _ _ _ _ _ hm.1 hm.2 lv hlv
 | 1,_=>rw[zc4,decide_eq_true_eq]at hm;exact zAC _ _ _ _ _ _ _ hm
 | 2,_=>exact zAy _ _ _ _ _ _ _
 | 3,_=>exact zAD _ _ _ _ _ _ _
 | 4,_=>rw[zc4,decide_eq_true_eq]at hm<;>first|exact zAA _ _ _ _ _ _ _ hm|simp
theorem zvT (i:Nat)(hi:i<5):zh3[i]?=some (zyd i):=by
 match i,hi with
 | 0,_=>rfl
 | 1,_=>rfl
 | 2,_=>rfl
 | 3,_=>rfl
 | 4,_=>rfl
theorem zu4:zh3.length=5:=rfl
def zqJ {α:Type}(pr:α->Bool)(l:List α):Int:=match l.findIdx? pr with|some i=>(i:Int)|none=>-1
theorem zsH {α:Type}(pr:α->Bool)(l:List α):decide (0<=zqJ pr l)=l.any pr:=by
 unfold zqJ
 grind
theorem zyh {H:List zd}{lab:Nat}:∀l:List PV,(∀v∈l,Id0 v)->LF H lab l l
 | [],_=>trivial
 | x::l,h=>⟨(h x zAV9).frz,zyh l fun v hv=>h v (zAO9 _ hv)⟩
theorem f260:ET.funcs.get 260=some T260:=zD Tryz.func260
theorem f211:ET.funcs.get 211=some T211:=zD Tryz.func211
theorem zsm (p:Nat)(l:List Nat)(hl:zb0 l.length)(g:Nat)(caps:List PV)(hc:∀v∈caps,Id0 v)(pr:Nat->Bool)(hg:∀x∈l,FN ET g (uv x::caps) (.ret (.bool (pr x)))):FN ET 260 [wv p l,.fn g caps] (.ret (iv (zqJ pr l))):=by
 refine zfn f260 (.int _ _) ?_;refine zG ?_;refine zF (zbJ (fun m s=>∃i:Nat,m=l.length-i/\i<=l.length/\l.findIdx? pr=((l.drop i).findIdx? pr).map (· + i)/\s.tm 0=wv p l/\s.tm 1=.fn g caps/\s.tm 7=iv l.length/\s.tm 8=iv i/\s.df=[]/\s.H=[]) (n:=l.length) ?_ ?_)
 ·exact⟨0,by simp[upd,zj]⟩
 ·rintro m ⟨tm,df,H⟩ ⟨i,rfl,hi,hf,h0,h1,h7,h8,rfl,rfl⟩;dsimp only at h0 h1 h7 h8;(try refine zbC ?_);refine zar (zbH (zr4 h0 h1 h7 h8) ?_);refine zwh ?_ ?_
  ·intro hlt;have hlt:i<l.length:=by have:=of_decide_eq_true hlt;omega
   refine zar (zF ?_);refine zGF h8 ?_;refine zIF (zr3 h0 h1 (zAA9 hlt)) ?_;refine zhK (caps:=caps) (vs:=[uv l[i]]) rfl ?_ (hg _ (zBK9 hlt)) (zyh _ (fun v hv=>?_)) ?_
   ·simp only[go_sem,h1]
   ·rcases zBA9.1 hv with rfl|hv
    ·exact .int _ _
    ·exact hc v hv
   refine zN ?_;rw[zAQ9 hlt,zFY9]at hf;refine zfc ?_ ?_
   ·intro hb;have hb:pr l[i]=true:=hb;refine zO ?_;rw[if_pos hb]at hf;exact zbq.uv (by simp[zqJ,hf])
   ·intro hb;have hb:pr l[i]=false:=hb;refine zas ?_;refine zJF h8 ?_;refine⟨_,?_,i+1,rfl,hlt,?_,zu h0,zu h1,zu h7,zt,zt,zt⟩
    ·omega
    ·rw[hf,hb]
     cases (l.drop (i+1)).findIdx? pr with
     | none=>rfl
     | some j=>simp;omega
  ·intro hlt;have hlt:¬i<l.length:=by have:=of_decide_eq_false hlt;omega
   obtain rfl:i=l.length:=zo;refine zO ?_;rw[zCC9]at hf;exact zbq.uv (by simp[zqJ,hf])
theorem zoD (p:Nat)(l:List Nat)(hl:zb0 l.length)(g:Nat)(caps:List PV)(hc:∀v∈caps,Id0 v)(pr:Nat->Bool)(hg:∀x∈l,FN ET g (uv x::caps) (.ret (.bool (pr x)))):FN ET 211 [wv p l,.fn g caps] (.ret (.bool (l.any pr))):=by
 refine zfn f211 (.bool _) ?_;refine zG ?_;refine zI ?_;refine zhK (caps:=[]) (vs:=[wv p l,.fn g caps]) rfl ?_ (zsm p l hl g caps hc pr hg) ?_ ?_
 ·simp only[go_sem]
 ·refine⟨.list _ _ _,⟨Id0.frz (.fn hc),trivial⟩⟩
 refine zP ?_;exact zbq.bool (zsH _ _)
theorem f148:ET.funcs.get 148=some T148:=zD Tryz.func148
theorem f212:ET.funcs.get 212=some T212:=zD Tryz.func212
theorem zz0 (x:Nat):FN ET 212 [uv x] (.ret (.bool (decide (x≠0)))):=by
 refine zfn f212 (.bool _) ?_;refine zO ?_;exact zbq.bool (by by_cases h:x=0<;>simp[h];try omega)
theorem Lb.node (n:zH):Lb (zbU 0 n):=.agg fun v hv=>by
 simp at hv;rcases hv with h|h|h|h|h|h<;>subst h
 ·exact .int _ _
 ·exact .int _ _
 ·exact .int _ _
 ·exact .int _ _
 ·exact .int _ _
 ·exact Lb.pvs _
theorem Lb.two {a b:PV}(ha:Lb a)(hb:Lb b):Lb (.tuple [a,b]):=.tuple fun v hv=>by grind
def zeS (w:List Nat):FE:=if headB w=true then .ret (.tuple [zbU 0 (headN w),iv 0])else .ret (.tuple [zbU 0 zmR,iv 210])
theorem zz1 (lv:Nat)(w:List Nat)(i:Nat):∀v∈hAt lv w i,Id0 v:=fun v hv=>by
 simp[hAt]at hv;rcases hv with h|h|h|h|h|h<;>subst h<;>constructor
@[reducible] def zf5:PV:=.agg [iv 0,iv 0,uv 0,uv 0,iv 0,.nilsl]
theorem znV {H:List zd}:Frz H 0 (.tuple [zf5,iv 210]) (.tuple [zbU 0 zmR,iv 210]):=by
 refine Frz.tupL ⟨Frz.aggL ⟨.int _ _,.int _ _,.int _ _,.int _ _,.int _ _,.nil _ _,trivial⟩,.int _ _,trivial⟩
theorem zqo {H:List zd}{w:List Nat}(h:headB w=false):zbq H 0 (.ret (zjY [zf5,iv 210])) (zeS w):=by
 unfold zeS;rw[if_neg (by rw[h];decide)];exact znV
theorem zqL (w:List Nat)(hl:w.length=64)(lv:Nat)(hlv:lv=zia (w.getD 0 0)):headB w=(!(((w.take 8).drop 5).any fun x=>decide (x≠0))&&(List.range 5).all fun i=>zc4 i lv (w.getD i 0)):=by
 subst hlv;unfold headB
 grind
theorem zrX (w:List Nat)(lv:Nat)(hlv:lv=zia (w.getD 0 0)):headN w=⟨lv,w.getD 1 0,w.getD 2 0,w.getD 3 0,w.getD 4 0,zcK (w.getD 3 0) (w.drop 8)⟩:=by
 subst hlv;unfold headN;rfl
theorem ztO (w:List Nat):∃lv,lv=zia (w.getD 0 0):=⟨_,rfl⟩
theorem zAk (p:Nat)(w:List Nat)(hw:zb0 w.length):FN ET 148 [wv p w] (zeS w):=by
 refine zfn f148 ?_ ?_
 ·unfold zeS;split
  ·exact Lb.two (Lb.node _) (.int _ _)
  ·exact Lb.two (Lb.node _) (.int _ _)
 refine zar (zau ?_);refine zN ?_;refine zk8 ?_;refine zB ?_;refine zau ?_;have h2:(1:Nat)=1:=rfl
 by_cases hl:w.length=64
 rotate_left
 ·have g:¬(w.length:Int)=64:=zo;refine zNF g ?_;refine zfc ?_ ?_
  ·intro _;refine zje ⟨rfl,?_⟩;refine zar (zas ?_);simp only[zef,ze4,zeY,zeq,zbm,zfB,if_true,reduceIte];refine zIF h2 ?_;refine zbY ?_;refine zbG ⟨(fun l h=>FX.noConfusion h),?_⟩;refine zep (vs:=[zf5,iv 210]) ?_ ?_
   ·simp only[T148,zbf,go_sem];rfl
   ·exact zqo (by simp[headB,hl])
  ·intro h;cases h
 have g:(w.length:Int)=64:=zo;have hm1:List.drop 5 (List.take 8 (List.map uv w))=((w.take 8).drop 5).map uv:=by simp[zCN9,zCU9]
 refine zfx ?_ (by simp(disch:=omega)only[go_sem,g,hl,hm1]<;>rfl);refine zca (zoD p ((w.take 8).drop 5) (by simp;omega) 212 [] (fun _ h=>by cases h) (fun x=>decide (x≠0)) fun x _=>zz0 x) ?_;refine zN ?_;obtain⟨lv,hlv⟩:=ztO w;have hsp:=zqL w hl lv hlv;refine zfc ?_ ?_
 ·intro hb;have hb:(((w.take 8).drop 5).any fun x=>decide (x≠0))=true:=hb;refine zje ⟨rfl,?_⟩;refine zar (zas ?_);simp only[zef,ze4,zeY,zeq,zbm,zfB,if_true,reduceIte];refine zIF h2 ?_;refine zbY ?_;refine zbG ⟨(fun l h=>FX.noConfusion h),?_⟩;refine zep (vs:=[zf5,iv 210]) ?_ ?_
  ·simp only[T148,zbf,go_sem];rfl
  ·exact zqo (by rw[hsp,hb];rfl)
 intro hb;have hb:(((w.take 8).drop 5).any fun x=>decide (x≠0))=false:=hb;rw[hb]at hsp;refine zas ?_;show W _ _ _ _ _ _;refine zI ?_;refine zca zxM ?_;refine zfx ?_ (by simp(disch:=omega)only[go_sem,zu4]<;>rfl);refine zbY ?_;have hsp:headB w=(List.range 5).all fun i=>zc4 i lv (w.getD i 0):=by simpa using hsp
 clear hm1 h2;refine zF (zbJ (fun m s=>∃(i:Nat) (G:List zd),m=5-i/\i<=5/\(∀j,j<i->zc4 j lv (w.getD j 0)=true)/\s.tm 0=wv p w/\s.tm 2=.ptr 0 0 0 0 6/\s.tm 14=.list 0 3 zh3/\s.tm 15=iv 5/\s.tm 16=iv i/\s.df=[]/\s.H=zex (hAt lv w i)::G) (n:=5) ?_ ?_)
 ·exact⟨0,[],rfl,by omega,(fun j hj=>by omega),zt,zt,zt,zt,zt,rfl,rfl⟩
 ·rintro m ⟨tm,df,H⟩ ⟨i,G,rfl,hi,hmay,h0,h2,h14,h15,h16,rfl,rfl⟩;dsimp only at h0 h2 h14 h15 h16;(try refine zbC ?_);refine zar (zbH (zr5 h0 h2 h14 h15 h16) ?_);refine zwh ?_ ?_
  ·intro hlt;have hlt:i<5:=by have:=of_decide_eq_true hlt;omega
   have hwi:w[i]?=some (w.getD i 0):=by rw[zAP9,zAA9 zo];rfl
   have hid:=zz1 lv w i;refine zB ?_;refine zF ?_;refine zGF (zr5 h0 h2 h14 h16 (zvT i hlt)) ?_;refine zB ?_;refine zbc ?_;refine zdc (zr3 h0 h2 hwi) (zzN lv w i (w.getD i 0) hlt) ?_;refine zQF h0 ?_
   by_cases hm:zc4 i lv (w.getD i 0)=true
   rotate_left
   ·have hm:zc4 i lv (w.getD i 0)=false:=by simpa using hm
    refine zfc ?_ ?_
    ·intro _;refine zje ⟨rfl,?_⟩;refine zar (zas ?_);simp only[zef,ze4,zeY,zeq,zbm,zfB,if_true,reduceIte];refine zIF h2 ?_;refine zbY ?_;refine zbG ⟨(fun l h=>FX.noConfusion h),?_⟩;refine zep (vs:=[zf5,iv 210]) ?_ ?_
     ·simp only[T148,zbf,go_sem,h2];rfl
     ·exact zqo (by rw[hsp,List.all_eq_false];exact⟨i,zDF9.2 hlt,by rw[hm];decide⟩)
    ·rw[hm];intro h;cases h
   refine zfc ?_ ?_
   ·rw[hm];intro h;cases h
   intro _;refine zas ?_;show W _ _ _ _ _ _;refine zbc ?_;refine zpl (s1:=?_) (caps:=?_) (vs:=?_) ?_ ?_ rfl rfl ?_ ?_ (zzI lv w (by rw[hlv,zlg]) i hlt hm ?_) ?_ ?_ ?_;rotate_left 3;(first|exact trivial|(simp only[go_sem,h0,h2,hwi]));(simp(disch:=omega)only[go_sem,h0,h2,hwi]<;>rfl);(first|rfl|(simp only[go_sem,h0,h2,hwi]<;>rfl));(simp only[go_sem,h0,h2,hwi]<;>rfl);rotate_left 1;rfl;rfl;rintro e H' he;obtain⟨rfl,rfl⟩:=he;refine⟨_,by simp only[go_sem]<;>rfl,?_⟩;refine zQF h0 ?_;refine zJF h16 ?_;refine⟨_,?_,i+1,_,rfl,hlt,?_,zu h0,zu h2,zu h14,zu h15,zu h16,rfl,rfl⟩
   ·omega
   ·intro j hj
    by_cases hj2:j=i
    ·rw[hj2];exact hm
    ·exact hmay j zo
  ·intro hlt;have hlt:¬i<5:=by have:=of_decide_eq_false hlt;omega
   obtain rfl:i=5:=zo;have hok:headB w=true:=by rw[hsp,zCB9];intro j hj;exact hmay j (zDF9.1 hj)
   have h5:hAt lv w 5=zdL lv (w.getD 1 0) (w.getD 2 0) (w.getD 3 0) (w.getD 4 0):=rfl;have hm2:List.drop 8 (List.map uv w)=(w.drop 8).map uv:=by simp[zCN9]
   rw[h5];refine zar (zbc ?_);refine zdn (zyI p (w.drop 8) (w.getD 3 0) (by simp;omega)) ?_ (by simp(disch:=omega)only[go_sem,h0,h2,hl,hm2]<;>rfl);refine zcI (zr2 h0 h2) ?_;refine zQF h0 ?_;refine zGF h2 ?_;refine zbG (zfr ?_ (by simp only[go_sem,h2]<;>rfl));unfold zeS;rw[if_pos hok];rw[zrX w lv hlv];exact Frz.tupL ⟨Frz.aggL ⟨.int _ _,.int _ _,.int _ _,.int _ _,.int _ _,.list _ _ _,trivial⟩,.int _ _,trivial⟩
@[reducible] def zAx (p:Nat) (n:zH):List PV:=[iv n.level,iv n.sib,uv n.low,uv n.left,iv n.way,psv p n.pairs]
theorem zxR (p:Nat)(n:zH):∀v∈zAx p n,Id0 v:=fun v hv=>by
 simp at hv;rcases hv with h|h|h|h|h|h<;>subst h<;>constructor
theorem zq9 (w:List Nat)(hh:headB w=true):zeS w=.ret (.tuple [zbU 0 (headN w),iv 0]):=by unfold zeS;rw[if_pos hh]
def zcn (n:zH):Nat->List Nat
 | 0=>List.replicate 64 0
 | i+1=>(zcn n i).set i (zui i n)
theorem zj7 (n:zH):∀i,(zcn n i).length=64
 | 0=>by simp[zcn]
 | i+1=>by simp[zcn,zj7 n i]
def zds (n:zH):Nat->List Nat
 | 0=>zcn n 5
 | j+1=>((zds n j).set (8+2*j) (n.pairs.getD j (0,0)).1).set (8+2*j+1) (n.pairs.getD j (0,0)).2
theorem zfS (n:zH):∀j,(zds n j).length=64
 | 0=>zj7 n 5
 | j+1=>by simp[zds,zfS n j]

def zc1 (n:zH):List Nat:=zds n n.pairs.length
def zue (n:zH):Bool:=decide (n.level<=12)&&decide (n.sib<2048)&&decide (n.way<=2)&&decide (n.pairs.length<=27)
def zx3 (n:zH):Bool:=zue n&&(decide (zrT (zc1 n)=0)&&decide ((headN (zc1 n)).pairs=n.pairs))
theorem zuR (n:zH):zue n=true↔(n.level<=12/\n.sib<2048/\n.way<=2/\n.pairs.length<=27):=by
 unfold zue;simp only[zAW9,decide_eq_true_eq,and_assoc]
def zi2 (k:Nat)(l:List Pr):List (List Pr):=(List.range ((l.length+(k-1))/k)).map fun i=>(l.drop (k*i)).take k
theorem zgt (k:Nat)(l:List Pr):(zi2 k l).length=(l.length+(k-1))/k:=by simp[zi2]
theorem zAv (f:Nat)(a b:List PV):Id0 (.fn f [.elem a,.elem b]):=.fn fun x hx=>by simp at hx;rcases hx with rfl|rfl<;>exact .elem _


def zd3 (l:List Pr)(i:Nat):zH:=⟨0,0,if 0<i then(l.getD (18*i) (0,0)).1 else 0,9223372036854775808,0,(l.drop (18*i)).take 18⟩
def zck (l:List Pr):List zH:=if l=[]then[⟨0,0,0,9223372036854775808,0,[]⟩]else(List.range (zi2 18 l).length).map (zd3 l)
theorem zhc {p:Nat}{L:List zH}:∀v∈(L.map (zbU p)).flatMap PV.cells,Id0 v:=fun v hv=>by
 obtain⟨x,hx,hv⟩:=zBE9.1 hv;obtain⟨n,_,rfl⟩:=zAK9.1 hx;exact zxR p n v hv
theorem f96:ET.funcs.get 96=some T96:=zD Tryz.func96
theorem f165:ET.funcs.get 165=some T165:=zD Tryz.func165
theorem f225:ET.funcs.get 225=some T225:=zD Tryz.func225
def zb7 (w:List Nat)(b:Nat):List Nat:=(w.take (64*b+64)).drop (64*b)
theorem znI (p:Nat)(w:List Nat)(b:Nat)(hw:zb0 w.length)(hb:64*b+64<=w.length):FP ET 96 [wv p w,iv b] (.ret (wv p (zb7 w b))):=by
 refine zfp f96 ?_;refine zG ?_;have e1:(64:Int)*(b:Int)=((64*b:Nat):Int):=zo;have e2:((64*b:Nat):Int)+64=((64*b+64:Nat):Int):=zo;have e3:64*b<=64*b+64:=zo;have e4:0<w.length:=zo;have e5:List.drop (64*b) (List.take (64*b+64) (List.map uv w))=(zb7 w b).map uv:=by simp[zb7,zCN9,zCU9]
 refine zOF (zr6 e1 e2 e3 e4 hb e5) ?_;exact Frz.list _ _ _
def zcJ (n:Nat)(a:Int):Bool:=decide (64<=n)&&decide (n%64=0)&&decide (n<=131072)&&decide (0<=a)&&decide (a<n)
theorem zrK (p:Nat)(w:List Nat)(a:Int)(hw:zb0 w.length):FN ET 165 [wv p w,iv a] (if zcJ w.length a=true then .ret (.tuple [])else .panic (zeU 2)):=by
 refine zfn f165 ?_ ?_
 ·split
  ·exact Lb.unit
  ·exact .iface (.int _ _)
 refine zau ?_
 by_cases h1:64<=w.length
 rotate_left
 ·have g1:¬(64:Int)<=w.length:=zo;refine zcz g1 ?_;refine zcx (ziY 2) ?_;exact zcY (by simp[zcJ,h1])
 have g1:(64:Int)<=w.length:=zo
 by_cases h2:w.length%64=0
 rotate_left
 ·have g2:¬(w.length:Int).tmod 64=0:=by rw[IntWalk.rem_in _ _ zo];omega
  refine zcz (zr2 g1 g2) ?_;refine zcx (ziY 2) ?_;exact zcY (by simp[zcJ,h1,h2])
 have g2:(w.length:Int).tmod 64=0:=by rw[IntWalk.rem_in _ _ zo];omega
 by_cases h3:w.length<=131072
 rotate_left
 ·have g3:¬(w.length:Int)<=131072:=zo;refine zcz (zr3 g1 g2 g3) ?_;refine zcx (ziY 2) ?_;exact zcY (by simp[zcJ,h1,h2,h3])
 have g3:(w.length:Int)<=131072:=zo
 by_cases h4:(0:Int)<=a
 rotate_left
 ·refine zcz (zr4 g1 g2 g3 h4) ?_;refine zcx (ziY 2) ?_;exact zcY (by simp[zcJ,h1,h2,h3,h4])
 by_cases h5:a<(w.length:Int)
 rotate_left
 ·refine zcz (zr5 g1 g2 g3 h4 h5) ?_;refine zcx (ziY 2) ?_;exact zcY (by simp[zcJ,h1,h2,h3,h4,h5])
 refine zcz (zr5 g1 g2 g3 h4 h5) ?_;refine zca (zv7 2) ?_;refine zfx ?_;have:zcJ w.length a=true:=by simp[zcJ,h1,h2,h3,h4,h5]
 rw[if_pos this];exact zhg (ze1 rfl (Frz.tupL trivial))
section
variable {α:Type}(G l m n:List α)(x y z:α)
theorem gm0:(G++x::l)[G.length]?=some x:=by simp
theorem gm1:(G++x::l++m)[G.length]?=some x:=by simp
theorem gm2:(G++x::l++m++n)[G.length]?=some x:=by simp
theorem hm0:(G++x::y::l)[G.length+1]?=some y:=by simp[zAU9]
theorem hm1:(G++x::y::l++m)[G.length+1]?=some y:=by rw[zAD9];exact hm0 G _ x y
theorem hm2:(G++x::y::l++m++n)[G.length+1]?=some y:=by rw[zAD9,zAD9];exact hm0 G _ x y
theorem sm0:(G++x::l).set G.length z=G++z::l:=by rw[zCG9 _ _ (zAE9 _)];simp
theorem tm0:(G++x::y::l).set (G.length+1) z=G++x::z::l:=by rw[zCG9 _ _ zo];simp
theorem tm1:(G++x::y::l++m).set (G.length+1) z=G++x::z::l++m:=by rw[zAD9,zAD9];exact tm0 G _ x y z
theorem tm2:(G++x::y::l++m++n).set (G.length+1) z=G++x::z::l++m++n:=by rw[zAD9,zAD9,zAD9,zAD9];exact tm0 G _ x y z
end
def zd0 (lv:Nat)(ks:List Pr)(i:Nat):zH:=⟨lv,0,(ks.getD (19*i) (0,0)).1,(ks.getD (19*i) (0,0)).2,0,((ks.drop (19*i)).take 19).drop 1⟩
def zcS (lv:Nat)(ks:List Pr):List zH:=(List.range (zi2 19 ks).length).map (zd0 lv ks)
theorem LF.append {H:List zd}{lab:Nat}:∀{a b c d:List PV},LF H lab a b->LF H lab c d->LF H lab (a++c) (b++d)
 | [],[],_,_,_,h=>h
 | _::_,_::_,_,_,h,k=>⟨h.1,LF.append h.2 k⟩
theorem LF.get {H:List zd}{lab:Nat}:∀{a b:List PV} {i:Nat} {x y:PV},LF H lab a b->a[i]?=some x->b[i]?=some y->Frz H lab x y
 | [],_,_,_,_,_,hx,_=>by simp at hx
 | _::_,[],_,_,_,h,_,_=>h.elim
 | _::_,_::_,0,_,_,h,hx,hy=>by injection hx with hx;injection hy with hy;subst hx hy;exact h.1
 | _::_,_::_,i+1,_,_,h,hx,hy=>LF.get h.2 hx hy
theorem zx0 {H:List zd}{lab:Nat}:∀{a b:List PV},LF H lab a b->a.length=b.length
 | [],[],_=>rfl
 | _::_,_::_,h=>by simp[zx0 h.2]
theorem LF.flat {H:List zd}{lab:Nat}{α:Type}{f:α->PV}:∀{vs:List PV} {L:List α},vs.length=L.length->(∀(q:Nat) (n:α),L[q]?=some n->∃v,vs[q]?=some v/\LF H lab v.cells (f n).cells)->LF H lab (vs.flatMap PV.cells) ((L.map f).flatMap PV.cells)
 | [],[],_,_=>trivial
 | v::vs,n::L,hl,h=>by
  have h0:=h 0 n rfl;obtain⟨v',e1,e2⟩:=h0;injection e1 with e1;subst e1;exact LF.append e2 (LF.flat (by simpa using hl) fun q m hm=>h (q+1) m hm)
 | [],_::_,hl,_=>by simp at hl
 | _::_,[],hl,_=>by simp at hl
def zb6 (L:List zH)(n:zH)(lv:Int):Bool:=match L.getLast? with
 | none=>decide (n.low=0)&&(decide (lv<0)||decide ((n.level:Int)=lv))
 | some z=>decide (z.low<n.low)&&decide (n.level=z.level)
@[reducible] def zdd (p q:Nat) (bs:List Nat) (L:List zH):PV:=.agg [.list p 1 (bs.map fun (b:Nat)=>iv (b:Int)),.list p 6 (L.map (zbU q))]
theorem zyC (p q q':Nat)(bs:List Nat)(L:List zH)(n:zH)(lv:Int)(hl:zb0 L.length):FN ET 225 [zdd p q bs L,zbU q' n,iv lv] (.ret (.bool (zb6 L n lv))):=by
 obtain⟨nl,ns,nlo,nle,nw,np⟩:=n;refine zfn f225 (.bool _) ?_;refine zar (zau ?_);refine zN ?_;refine zG ?_
 by_cases h0:L.length=0
 ·have g0:(L.length:Int)=0:=zo;obtain rfl:L=[]:=zBY9 h0;refine zfc ?_ ?_
  ·intro _;refine zar (zau ?_)
   by_cases h1:nlo=0
   ·have g1:(nlo:Int)=0:=zo
    by_cases h2:lv<0
    ·refine zPF (zr2 g1 h2) ?_;exact zbq.bool (by simp[zb6,h1,h2])
    ·refine zPF (zr2 g1 h2) ?_;exact zbq.bool (by simp[zb6,h1,h2])
   ·have g1:¬(nlo:Int)=0:=zo;refine zPF g1 ?_;exact zbq.bool (by simp[zb6,h1])
  ·intro h;cases h
 ·have g0:¬(L.length:Int)=0:=zo;refine zfc ?_ ?_
  ·intro h;exact absurd (of_decide_eq_true h) g0
  ·intro _;refine zas ?_;show W _ _ _ _ _ _;obtain⟨z,hz⟩:∃z,L.getLast?=some z:=by
    cases hh:L.getLast? with
    | none=>rw[zCT9]at hh;subst hh;simp at h0
    | some z=>exact⟨z,rfl⟩
   have hz2:L[L.length-1]?=some z:=by rw[<- zDO9];exact hz
   have e1:(L.length:Int)-1=((L.length-1:Nat):Int):=zo;have hg:zb6 L ⟨nl,ns,nlo,nle,nw,np⟩ lv=(decide (z.low<nlo)&&decide (nl=z.level)):=by unfold zb6;rw[hz]
   rw[hg];obtain⟨zl,zs,zlo,zle,zw,zp⟩:=z;refine zGF (zr2 e1 hz2) ?_;refine zau ?_
   by_cases h1:zlo<nlo
   ·have g1:(zlo:Int)<nlo:=zo;refine zPF g1 ?_;exact zbq.bool (by simp[h1];try omega)
   ·have g1:¬(zlo:Int)<nlo:=zo;refine zPF g1 ?_;exact zbq.bool (by simp[h1])
theorem f109:ET.funcs.get 109=some T109:=zD Tryz.func109
def zeh (z:Option zH)(x:Pr):Bool:=match z with
 | some z=>!decide (z.low<=x.1)
 | none=>true
def zb4:List zH->List Pr
 | []=>[]
 | n::M=>n.pairs.filter (zeh M.head?)++zb4 M
theorem zpx (L:List zH)(i:Nat)(h:i<L.length):zb4 (L.drop i)=L[i].pairs.filter (zeh L[i+1]?)++zb4 (L.drop (i+1)):=by
 rw[zAQ9 h,zb4,List.head?_drop]
theorem zjU:∀(a:List Pr) (x:Pr),zbR (a++[x])=(zbR a&&(match a.getLast? with|some y=>decide (y.1<x.1)|none=>true))
 | [],_=>rfl
 | [a],x=>by simp[zbR]
 | a::b::l,x=>by
  have:=zjU (b::l) x;rw[zAR9,zAR9,zbR,<- zAR9,this,zbR,List.getLast?_cons_cons,Bool.and_assoc]
theorem zjt:∀(a b:List Pr),zbR (a++b)=true->zbR a=true
 | [],_,_=>rfl
 | [_],_,_=>rfl
 | a::c::l,b,h=>by
  rw[zAR9,zAR9,zbR,<- zAR9,zAW9]at h;rw[zbR,h.1,zDM9];exact zjt (c::l) b h.2
def zhn (L:List zH):FE:=if zbR (zb4 L)=true then .ret (.tuple [psv 0 (zb4 L),.bool true])else .ret (.tuple [psv 0 [],.bool false])
theorem zyk {H:List zd}{L:List zH}{acc:List Pr}{x:Pr}{r:List Pr}(hall:zb4 L=acc++x::r)(hx:∃y,acc.getLast?=some y/\¬y.1<x.1):zbq H 0 (.ret (.tuple [.nilsl,.bool false])) (zhn L):=by
 have:zbR (zb4 L)=false:=by
  cases h:zbR (zb4 L)with
  | false=>rfl
  | true =>
   rw[hall,<- List.singleton_append,<- zAD9]at h;have h2:=zjt _ _ h;obtain⟨y,e1,e2⟩:=hx;rw[zjU,e1]at h2;simp[e2]at h2
 unfold zhn;rw[this];exact Frz.tupL ⟨.nil _ _,.bool _,trivial⟩
def zdZ (acc:List Pr)(x:Pr):Bool:=match acc.getLast? with
 | some y=>decide (x.1<=y.1)
 | none=>false
theorem zmz {acc:List Pr}{x:Pr}(h:zdZ acc x=true):∃y,acc.getLast?=some y/\¬y.1<x.1:=by
 unfold zdZ at h
 grind
theorem zrH {acc:List Pr}{x:Pr}(h:zbR acc=true)(hb:zdZ acc x=false):zbR (acc++[x])=true:=by
 rw[zjU,h,zDM9];unfold zdZ at hb
 grind
theorem zlJ (p q:Nat)(bs:List Nat)(L:List zH)(hl:L.length<1000000)(hp:∀n∈L,n.pairs.length<=28)(hall:(zb4 L).length<1000000):FN ET 109 [zdd p q bs L] (zhn L):=by
 refine zfn f109 ?_ ?_
 ·unfold zhn;split
  ·exact Lb.two (Lb.pvs _) (.bool _)
  ·exact Lb.two (Lb.pvs _) (.bool _)
 refine zar (zau ?_);refine zN ?_;refine zG ?_;refine zdg 92 2 (i:=2) rfl ?_;simp only[lzy,zAG9,zAH9,zAR9,zBB9];refine zF (zbJ (fun m s=>∃(i:Nat) (acc:List Pr) (G:List zd),m=L.length-i/\i<=L.length/\zb4 L=acc++zb4 (L.drop i)/\zbR acc=true/\s.tm 1=.ptr 0 0 0 0 2/\s.tm 2=.sl 1 acc.length 0 acc.length (2*acc.length) 2/\s.tm 10=.list p 6 (L.map (zbU q))/\s.tm 11=iv L.length/\s.tm 12=iv i/\s.df=[]/\s.H=.row 195 2 0 0 [zdd p q bs L]::.row 92 2 acc.length 0 (acc.map pv)::G) (n:=L.length) ?_ ?_)
 ·exact⟨0,[],[],rfl,by omega,rfl,rfl,zt,zt,zt,zt,zt,rfl,rfl⟩
 ·rintro m ⟨tm,df,H⟩ ⟨i,acc,G,rfl,hi,hac,hri,h1,h2,h10,h11,h12,rfl,rfl⟩;dsimp only at h1 h2 h10 h11 h12;(try refine zbC ?_);refine zar (zbH (zr5 h1 h2 h10 h11 h12) ?_);refine zwh ?_ ?_
  ·intro hlt;have hlt:i<L.length:=by have:=of_decide_eq_true hlt;omega
   have hLi:=zAA9 hlt;rw[zpx L i hlt]at hac;have hn28:=hp _ (zBK9 hlt);generalize L[i]=n at *
   refine zB ?_;refine zF ?_;refine zGF (zr3 h10 h12 hLi) ?_;generalize hR:zb4 (List.drop (i+1) L)=R at hac;refine zF (zbJ (fun m s=>∃(j:Nat) (acc:List Pr) (G:List zd),m=n.pairs.length-j/\j<=n.pairs.length/\zb4 L=acc++((n.pairs.drop j).filter (zeh L[i+1]?)++R)/\zbR acc=true/\s.tm 1=.ptr 0 0 0 0 2/\s.tm 2=.sl 1 acc.length 0 acc.length (2*acc.length) 2/\s.tm 4=iv i/\s.tm 10=.list p 6 (L.map (zbU q))/\s.tm 11=iv L.length/\s.tm 12=iv i/\s.tm 18=psv q n.pairs/\s.tm 19=iv n.pairs.length/\s.tm 20=iv j/\s.df=[]/\s.H=.row 195 2 0 0 [zdd p q bs L]::.row 92 2 acc.length 0 (acc.map pv)::G) (n:=n.pairs.length) ?_ ?_)
   ·exact⟨0,acc,_,rfl,by omega,hac,hri,zu h1,zu h2,zt,zu h10,zu h11,zu h12,zt,zt,zt,rfl,rfl⟩
   ·clear h1 h2 h10 h11 h12 hac hri;rintro m ⟨tm,df,H⟩ ⟨j,acc,G,rfl,hj,hac,hri,h1,h2,h4,h10,h11,h12,h18,h19,h20,rfl,rfl⟩;dsimp only at h1 h2 h4 h10 h11 h12 h18 h19 h20;(try refine zbC ?_);refine zar (zbH (zr3 h18 h19 h20) ?_);refine zwh ?_ ?_
    ·intro hltj;have hltj:j<n.pairs.length:=by have:=of_decide_eq_true hltj;omega
     have hxj:=zAA9 hltj;rw[zAQ9 hltj,List.filter_cons]at hac;generalize n.pairs[j]=x at *
     refine zB ?_;refine zF ?_;refine zGF (zr3 h18 h20 hxj) ?_;refine zB ?_;refine zcV (Q:=fun y s'=>y=.norm/\s'.tm 1=.ptr 0 0 0 0 2/\s'.tm 2=.sl 1 acc.length 0 acc.length (2*acc.length) 2/\s'.tm 4=iv i/\s'.tm 10=.list p 6 (L.map (zbU q))/\s'.tm 11=iv L.length/\s'.tm 12=iv i/\s'.tm 18=psv q n.pairs/\s'.tm 19=iv n.pairs.length/\s'.tm 20=iv j/\s'.tm 41=.bool (!zeh L[i+1]? x)/\s'.tm 7=.ptr (G.length+1+1) 0 0 0 2/\s'.df=[]/\s'.H=.row 195 2 0 0 [zdd p q bs L]::.row 92 2 acc.length 0 (acc.map pv)::(G++[.row 92 2 0 0 [pv x]])) (zbc ?_) ?_
     ·have e1:((i:Int)+1)=((i+1:Nat):Int):=zo
      by_cases hi1:i+1<L.length
      ·have g1:((i+1:Nat):Int)<(L.length:Nat):=zo;have hz:=zAA9 hi1;rw[hz];generalize L[i+1]=z at *
       refine zQF (zr5 h1 h4 e1 g1 hz) ?_;exact⟨h1,h2,h4,h10,h11,h12,h18,h19,h20,by simp[zeh]⟩
      ·have g1:¬((i+1:Nat):Int)<(L.length:Nat):=zo;have hz:L[i+1]?=none:=zCX9 zo;rw[hz];refine zQF (zr5 h1 h4 e1 g1 hz) ?_;exact⟨h1,h2,h4,h10,h11,h12,h18,h19,h20,by simp[zeh]⟩
     ·clear h1 h2 h4 h10 h11 h12 h18 h19 h20;rintro y ⟨tm,df,H⟩ ⟨rfl,h1,h2,h4,h10,h11,h12,h18,h19,h20,h41,h7,rfl,rfl⟩;dsimp only at h1 h2 h4 h10 h11 h12 h18 h19 h20 h41 h7
      by_cases hk:zeh L[i+1]? x=true
      rotate_left
      ·rw[if_neg hk]at hac;have hk:zeh L[i+1]? x=false:=by simpa using hk
       refine zfc ?_ ?_ (by simp only[go_sem,h41]<;>rfl)
       ·intro _;refine zjb ?_;refine zJF h20 ?_;refine⟨_,?m1,j+1,acc,_,rfl,hltj,hac,hri,zu h1,zu h2,zu h4,zu h10,zu h11,zu h12,zu h18,zu h19,zu h20,rfl,rfl⟩
        case m1=>omega
       ·rw[hk];intro h;cases h
      rw[if_pos hk]at hac;refine zfc ?_ ?_ (by simp only[go_sem,h41]<;>rfl)
      ·rw[hk];intro h;cases h
      intro _;refine zas ?_;show W _ _ _ _ _ _;refine zGF h2 ?_;have hal:acc.length<1000000:=by have:=congrArg List.length hac;simp only[zAB9]at this;omega
      have hH:∀G2:List zd,True:=fun _=>trivial;refine zcV (Q:=fun y s'=>y=.norm/\s'.tm 1=.ptr 0 0 0 0 2/\s'.tm 2=.sl 1 acc.length 0 acc.length (2*acc.length) 2/\s'.tm 4=iv i/\s'.tm 10=.list p 6 (L.map (zbU q))/\s'.tm 11=iv L.length/\s'.tm 12=iv i/\s'.tm 18=psv q n.pairs/\s'.tm 19=iv n.pairs.length/\s'.tm 20=iv j/\s'.tm 56=.bool (zdZ acc x)/\s'.tm 7=.ptr (G.length+1+1) 0 0 0 2/\s'.df=[]/\s'.H=.row 195 2 0 0 [zdd p q bs L]::.row 92 2 acc.length 0 (acc.map pv)::(G++[.row 92 2 0 0 [pv x]])) (zbc ?_) ?_
      ·by_cases ha0:acc.length=0
       ·have g1:¬(0:Int)<(acc.length:Nat):=zo;refine zQF (zr2 h2 g1) ?_;obtain rfl:acc=[]:=zBY9 ha0;exact⟨h1,h2,h4,h10,h11,h12,h18,h19,h20,rfl,h7⟩
       ·have g1:(0:Int)<(acc.length:Nat):=zo;have e1:(acc.length:Int)-1=((acc.length-1:Nat):Int):=zo;have e2:acc.length-1<acc.length:=zo;obtain⟨y,hy⟩:∃y,acc.getLast?=some y:=by
         cases hh:acc.getLast? with
         | none=>rw[zCT9]at hh;subst hh;simp at ha0
         | some y=>exact⟨y,rfl⟩
        have hy2:acc[acc.length-1]?=some y:=by rw[<- zDO9];exact hy
        refine zQF (zr6 h2 h7 g1 e1 e2 hy2) ?_;exact⟨h1,h2,h4,h10,h11,h12,h18,h19,h20,by simp[zdZ,hy],h7⟩
      ·clear h1 h2 h4 h10 h11 h12 h18 h19 h20 h41 h7;rintro y ⟨tm,df,H⟩ ⟨rfl,h1,h2,h4,h10,h11,h12,h18,h19,h20,h56,h7,rfl,rfl⟩;dsimp only at h1 h2 h4 h10 h11 h12 h18 h19 h20 h56 h7
       by_cases hk2:zdZ acc x=true
       ·refine zfc ?_ ?_ (by simp only[go_sem,h56]<;>rfl)
        ·intro _;refine zO ?_;exact zyk hac (zmz hk2)
        ·rw[hk2];intro h;cases h
       have hk2:zdZ acc x=false:=by simpa using hk2
       refine zfc ?_ ?_ (by simp only[go_sem,h56]<;>rfl)
       ·rw[hk2];intro h;cases h
       intro _;refine zas ?_;have hbb:(acc.length+1)*17<=140737488355328:=zo;refine zJF (zr3 h2 h7 hbb) ?_;refine zJF h20 ?_;refine⟨_,?m3,j+1,acc++[x],?G3,rfl,hltj,by rw[hac];simp,zrH hri hk2,zu h1,zt,zu h4,zu h10,zu h11,zu h12,zu h18,zu h19,zu h20,zt,?H3⟩
       case m3=>omega
       case H3=>(try dsimp only);rw[zBD9,zAB9];rfl
    ·intro hltj;have hltj:¬j<n.pairs.length:=by have:=of_decide_eq_false hltj;omega
     obtain rfl:j=n.pairs.length:=zo;refine zJF h12 ?_;rw[zCC9,List.filter_nil,zBB9,<- hR]at hac;refine⟨_,?m9,i+1,acc,G,rfl,hlt,hac,hri,zu h1,zu h2,zu h10,zu h11,zu h12,rfl,rfl⟩
     case m9=>omega
  ·intro hlt;have hlt:¬i<L.length:=by have:=of_decide_eq_false hlt;omega
   obtain rfl:i=L.length:=zo;refine zOF h2 ?_;rw[zCC9,zb4,zDG9]at hac;unfold zhn;rw[hac,if_pos hri];refine Frz.tupL ⟨?_,.bool _,trivial⟩;exact Frz.whole (l:=acc.map pv) rfl rfl (by simp) (by simp) (fun v hv=>by obtain⟨x,_,rfl⟩:=zAK9.1 hv;rfl) zf0
end Fv
end Go.Proofs.YtkeknmgnoceogaaGreat
namespace Go.Proofs.YtkeknmgnoceogaaGreat
namespace Fv
def zdO:Nat->List Nat->Nat
 | 0,_=>0
 | n+1,s=>zdO n s+if s.contains n=true then 0 else 1
theorem zpK:∀(n b:Nat) (s:List Nat),zdO n (b::s)<=zdO n s
 | 0,_,_=>zAE9 _
 | n+1,b,s=>by
  have:=zpK n b s;rw[zdO,zdO]
  grind
theorem zkP:∀(n b:Nat) (s:List Nat),b<n->¬s.contains b=true->zdO n (b::s)<zdO n s
 | 0,_,_,h,_=>by omega
 | n+1,b,s,h,hs=>by
  rw[zdO,zdO]
  by_cases hb:b=n
  ·subst hb;have:=zpK b b s
   grind
  ·have:=zkP n b s zo hs
   grind
theorem ziL:∀(n b:Nat) (s:List Nat),zdO n s=0->b<n->s.contains b=true
 | 0,_,_,_,h=>by omega
 | n+1,b,s,h,hb=>by
  rw[zdO]at h
  by_cases h3:s.contains n=true
  ·by_cases hbn:b=n
   ·grind
   ·exact ziL n b s zo zo
  grind
theorem zjI:∀(n:Nat) (s:List Nat),zdO n s<=n
 | 0,_=>zAE9 _
 | n+1,s=>by have:=zjI n s;rw[zdO];split<;>omega
abbrev Lev:=List Nat×List zH
def zch (w:List Nat)(lv:Int):Nat->List Nat->List Nat->List zH->Nat->Option (List Nat×List Nat×List zH)
 | 0,seen,bs,ns,b=>if b=0 then some (seen,bs,ns)else none
 | k+1,seen,bs,ns,b=>if b=0 then some (seen,bs,ns)else
  if decide (w.length/64<=b)||seen.contains b then none else
  if headB (zb7 w b)&&zb6 ns (headN (zb7 w b)) lv then zch w lv k (b::seen) (bs++[b]) (ns++[headN (zb7 w b)]) (headN (zb7 w b)).sib else none
def zb8 (w:List Nat):Nat->List Nat->List Lev->Nat->Int->List Lev×Bool
 | 0,_,acc,_,_=>(acc,false)
 | d+1,seen,acc,b,lv=>match zch w lv (w.length/64) seen [] [] b with
  | none=>(acc,false)
  | some (_,_,[])=>(acc,false)
  | some (seen',bs,n::ns)=>if n.level=0 then(acc++[(bs,n::ns)],zbR (zb4 (n::ns)))else zb8 w d seen' (acc++[(bs,n::ns)]) n.left ((n.level:Int)-1)
def zbP (w:List Nat)(a:Nat):List Lev×Bool:=zb8 w 14 [] [] (w.getD a 0) (-1)
end Fv
end Go.Proofs.YtkeknmgnoceogaaGreat
namespace Go.Proofs.YtkeknmgnoceogaaGreat
namespace Fv
open Tw
structure zde (n:zH):Prop where
 level:n.level<=12
 sib:n.sib<2048
 way:n.way<=2
 few:n.pairs.length<=27
 rise:zbR n.pairs=true
 ptrs:ze8 [n.left] n.pairs=true
 may:∀p∈n.pairs,zk7 n p=true
 left:(n.level=0/\n.left=9223372036854775808)\/(0<n.level/\zdP n.left=true)
theorem zgf (p:Nat):zdP p=true↔(1<=p/\p<2048):=by unfold zdP;simp
theorem zqI {n:zH}{p:Pr}(h:zk7 n p=true):p.2≠0:=by
 unfold zk7 at h
 split at h
 ·grind
 ·rw[zAW9,zgf]at h;omega
theorem zii:∀l:List Pr,(zdv l).length=2*l.length
 | []=>rfl
 | a::l=>by have:=zii l;simp only[zdv,zBR9,zAB9,zAG9,zAH9]at this⊢;omega
theorem zmG (a:Pr)(l:List Pr):zdv (a::l)=a.1::a.2::zdv l:=by simp[zdv]
theorem ztG (a:Pr)(l:List Pr):zdv (l++[a])=zdv l++[a.1,a.2]:=by simp[zdv]
theorem zse:∀(m prev:Nat),zcO prev (List.replicate m 0)=[]
 | 0,_=>rfl
 | 1,_=>rfl
 | m+2,prev=>by rw[zCM9,zCM9,zcO,if_pos rfl]
theorem zlA (m:Nat):∀(ps:List Pr) (seen:List Nat) (prev:Nat),ze8 seen ps=true->prev∈seen->(∀p∈ps,p.2≠0)->zcO prev (zdv ps++List.replicate m 0)=ps
 | [],_,prev,_,_,_=>by rw[show zdv []=[]from rfl,zBB9];exact zse m prev
 | a::ps,seen,prev,h,hm,hz=>by
  rw[ze8,zAW9,zFE9]at h;have h1:¬a.2=prev:=by grind
  rw[zmG,zAR9,zAR9,zcO,if_neg (hz a (zAV9 ..)),if_neg h1];rw[zlA m ps (a.2::seen) a.2 h.2 (zAV9 ..) fun p hp=>hz p (zAO9 _ hp)]
theorem zpv (m:Nat):∀ps:List Pr,(∀p∈ps,p.2≠0)->zb1 (zdv ps++List.replicate m 0)=ps.length
 | [],_=>by
  rw[show zdv []=[]from rfl,zBB9]
  match m with
  | 0=>rfl
  | 1=>rfl
  | m+2=>rw[zCM9,zCM9,zb1,if_pos rfl];rfl
 | a::ps,hz=>by
  rw[zmG,zAR9,zAR9,zb1,if_neg (hz a (zAV9 ..)),zpv m ps fun p hp=>hz p (zAO9 _ hp)];rfl
theorem zpP:∀m,zp9 (List.replicate m 0)=true
 | 0=>rfl
 | 1=>rfl
 | m+2=>by rw[zCM9,zCM9,zp9,zpP m];rfl
theorem zyn (A B:List Nat)(k x y a b:Nat)(hk:k=A.length):((A++x::y::B).set k a).set (k+1) b=A++a::b::B:=by simp_all
theorem zwR (n:zH):zcn n 5=zmV n++List.replicate 56 0:=rfl
theorem zre (n:zH)(h:n.pairs.length<=28):∀j,j<=n.pairs.length->zds n j=zmV n++zdv (n.pairs.take j)++List.replicate (56-2*j) 0
 | 0,_=>by rw[zds,zwR];rfl
 | j+1,hj=>by
  have hr:List.replicate (56-2*j) 0=0::0::List.replicate (56-2*(j+1)) 0:=by
   rw[show 56-2*j=(56-2*(j+1))+1+1 by omega,zCM9,zCM9]
  have hl:(zmV n++zdv (n.pairs.take j)).length=8+2*j:=by
   rw[zAB9,zii,zAN9];simp[zmV];omega
  rw[zds,zre n h j zo,hr,zyn _ _ _ _ _ _ _ hl.symm];have ht:n.pairs.take (j+1)=n.pairs.take j++[n.pairs.getD j (0,0)]:=by
   rw[zBQ9,zAP9,zAA9 zo];rfl
  rw[ht,ztG]
  grind
theorem zml (n:zH)(h:n.pairs.length<=28):zc1 n=zmV n++(zdv n.pairs++List.replicate (56-2*n.pairs.length) 0):=by
 unfold zc1;rw[zre n h _ (zAE9 _),zBS9,zAD9]
theorem zkJ (n:zH):(zc1 n).length=64:=zfS n _
section
variable {n:zH}(h:zde n)
include h
theorem zde.rowL:(zdv n.pairs++List.replicate (56-2*n.pairs.length) 0).length=56:=by
 have:=h.few;rw[zAB9,zii,zCF9];omega
theorem zde.left0:n.left≠0:=by
 rcases h.left with⟨_,e⟩|⟨_,e⟩
 ·omega
 ·rw[zgf]at e;omega
theorem zde.row:zdu n.left (zdv n.pairs++List.replicate (56-2*n.pairs.length) 0).length=true:=by
 rw[h.rowL];unfold zdu;simp[h.left0]
theorem zde.read:zcK n.left (zdv n.pairs++List.replicate (56-2*n.pairs.length) 0)=n.pairs:=by
 unfold zcK;rw[if_pos h.row];exact zlA _ _ [n.left] _ h.ptrs (zAV9 ..) fun p hp=>zqI (h.may p hp)
theorem zde.drop8:(zc1 n).drop 8=zdv n.pairs++List.replicate (56-2*n.pairs.length) 0:=by
 rw[zml n (by have:=h.few;omega)];rfl
theorem zde.parts:(zc1 n).getD 0 0=7522529147838689024+n.level/\(zc1 n).getD 1 0=n.sib/\(zc1 n).getD 2 0=n.low/\(zc1 n).getD 3 0=n.left/\(zc1 n).getD 4 0=n.way:=by
 rw[zml n (by have:=h.few;omega)];exact⟨rfl,rfl,rfl,rfl,rfl⟩
omit h in
theorem zpf (k:Nat):zia (7522529147838689024+k)=k:=by rw[zlg,zDV9]
omit h in
theorem zxW {w:List Nat}{a b c d e:Nat}{ps:List Pr}(h0:zia (w.getD 0 0)=a)(h1:w.getD 1 0=b)(h2:w.getD 2 0=c)(h3:w.getD 3 0=d)(h4:w.getD 4 0=e)(h5:zcK d (w.drop 8)=ps):headN w=⟨a,b,c,d,e,ps⟩:=by
 unfold headN;rw[h0,h1,h2,h3,h4,h5]
theorem zde.headN:headN (zc1 n)=n:=by
 obtain⟨p0,p1,p2,p3,p4⟩:=h.parts;exact zxW (by rw[p0];exact zpf n.level) p1 p2 p3 p4 (by rw[h.drop8];exact h.read)
theorem zde.headB:headB (zc1 n)=true:=by
 obtain⟨p0,p1,p2,p3,p4⟩:=h.parts;unfold Fv.headB;rw[zAW9,zAW9,p0,zpf];refine⟨⟨by rw[zkJ];rfl,by rw[zml n (by have:=h.few;omega)];rfl⟩,?_⟩;rw[zCB9];intro i hi;have hi:i<5:=zDF9.1 hi
 match i,hi with
 | 0,_=>rw[p0,zc4,zAW9,decide_eq_true_eq,decide_eq_true_eq];exact⟨zGB9 _ _,Nat.add_le_add_left h.level _⟩
 | 1,_=>rw[p1,zc4,decide_eq_true_eq];exact h.sib
 | 2,_=>rfl
 | 3,_ =>
  rw[p3,zc4];rcases h.left with⟨e1,e2⟩|⟨e1,e2⟩
  ·rw[e1,e2];rfl
  ·rw[e2,decide_eq_true e1,Bool.and_true,zFC9]
 | 4,_=>rw[p4];show decide (n.way<=2)=true;rw[decide_eq_true_eq];exact h.way
theorem zde.slots:zrQ n.left ((zc1 n).drop 8)=0:=by
 have hne:∀p∈n.pairs,p.2≠0:=fun p hp=>zqI (h.may p hp);unfold zrQ;rw[h.drop8,if_pos h.row,if_pos];unfold zqD;rw[h.read,h.rise,h.ptrs,zpv _ _ hne,h.rowL];have hd:(zdv n.pairs++List.replicate (56-2*n.pairs.length) 0).drop (2*n.pairs.length)=List.replicate (56-2*n.pairs.length) 0:=by
  rw[<- zii,List.drop_left]
 rw[hd,zpP];have:=h.few;simp;omega
theorem zde.check:zrT (zc1 n)=0:=by
 unfold zrT zrL;rw[if_pos h.headB,if_pos];rw[h.headN,h.slots];simp only[decide_true,zDM9,zFE9,List.any_eq_false,Bool.not_eq_true];intro p hp;rw[h.may p hp];simp
theorem zde.make:zx3 n=true:=by
 unfold zx3;rw[h.check,h.headN,(zuR n).2 ⟨h.level,h.sib,h.way,h.few⟩];simp
end
structure zxx (lv:Nat)(ns:List zH):Prop where
 ne:ns ≠ []
 each:∀n∈ns,zde n/\n.level=lv/\n.sib=0
 low0:∀n,ns[0]?=some n->n.low=0
 rise:∀i n m,ns[i]?=some n->ns[i+1]?=some m->n.low<m.low
 below:∀i n m,ns[i]?=some n->ns[i+1]?=some m->∀p∈n.pairs,p.1<m.low
def zbO:List Nat->List zH->List zH
 | _::bs,n::ns=>{ n with sib:=bs.headD 0 }::zbO bs ns
 | _,_=>[]
theorem zey:∀(bs:List Nat) (ns:List zH),bs.length=ns.length->(zbO bs ns).length=ns.length
 | [],[],_=>rfl
 | _::bs,n::ns,h=>by rw[zbO,zAG9,zAG9,zey bs ns (by simpa using h)]
 | [],_::_,h=>by simp at h
 | _::_,[],h=>by simp at h
theorem zff:∀(bs:List Nat) (ns:List zH) (i:Nat) (n:zH),bs.length=ns.length->ns[i]?=some n->(zbO bs ns)[i]?=some { n with sib:=bs.getD (i+1) 0 }
 | [],[],i,n,_,h=>by simp at h
 | [],_::_,_,_,h,_=>by simp at h
 | _::_,[],_,_,h,_=>by simp at h
 | b::bs,n::ns,i,m,hl,h=>by
  rw[zbO]
  match i with
  | 0 =>
   rw[zGC9]at h⊢;injection h with h;subst h
   cases bs<;>rfl
  | i+1 =>
   rw[zBL9]at h⊢;rw[zff bs ns i m (by simpa using hl) h];rfl
theorem zvy {bs:List Nat}{ns:List zH}(hl:bs.length=ns.length)(h:ns ≠ []):zbO bs ns ≠ []:=by
 intro e;have:=zey bs ns hl
 grind
def after:Option Nat->Nat->Prop
 | none,n=>n=0
 | some l,n=>l<n
def zln (lv:Nat):Option Nat->List Nat->List zH->Prop
 | _,[],[]=>True
 | pl,b::bs,n::ns=>1<=b/\b<2048/\zde n/\n.level=lv/\n.sib=bs.headD 0/\after pl n.low/\(∀m,ns.head?=some m->∀p∈n.pairs,p.1<m.low)/\zln lv (some n.low) bs ns
 | _,[],_::_=>False
 | _,_::_,[]=>False
theorem zde.setSib {n:zH}(h:zde n){s:Nat}(hs:s<2048):zde { n with sib:=s }:=⟨h.level,hs,h.way,h.few,h.rise,h.ptrs,h.may,h.left⟩
theorem zqZ (lv:Nat):∀(bs:List Nat) (ns:List zH) (pl:Option Nat),bs.length=ns.length->(∀b∈bs,1<=b/\b<2048)->(∀n∈ns,zde n/\n.level=lv)->(∀n,ns[0]?=some n->after pl n.low)->(∀i n m,ns[i]?=some n->ns[i+1]?=some m->n.low<m.low)->(∀i n m,ns[i]?=some n->ns[i+1]?=some m->∀p∈n.pairs,p.1<m.low)->zln lv pl bs (zbO bs ns)
 | [],[],_,_,_,_,_,_,_=>trivial
 | [],_::_,_,h,_,_,_,_,_=>by simp at h
 | _::_,[],_,h,_,_,_,_,_=>by simp at h
 | b::bs,n::ns,pl,hl,hb,hn,h0,hr,hw=>by
  have hs:bs.headD 0<2048:=by
   cases bs with
   | nil=>decide
   | cons c bs=>exact(hb c (by simp)).2
  have hl':bs.length=ns.length:=by simpa using hl
  have hg:=hn n (zAV9 ..);refine⟨(hb b (zAV9 ..)).1,(hb b (zAV9 ..)).2,hg.1.setSib hs,hg.2,rfl,h0 n rfl,?_,?_⟩
  ·intro m hm p hp
   cases ns with
   | nil=>cases bs<;>simp[zbO]at hm
   | cons c ns =>
    cases bs with
    | nil=>simp at hl'
    | cons d bs =>
     simp[zbO]at hm;subst hm;exact hw 0 n c rfl rfl p hp
  ·refine zqZ lv bs ns (some n.low) hl' (fun c hc=>hb c (zAO9 _ hc)) (fun c hc=>hn c (zAO9 _ hc)) ?_ (fun i a c ha hc=>hr (i+1) a c ha hc) (fun i a c ha hc=>hw (i+1) a c ha hc);intro m hm;exact hr 0 n m rfl hm
def zdy (w:List Nat)(bs:List Nat)(ns:List zH):Prop:=∀(i b:Nat) (n:zH),bs[i]?=some b->ns[i]?=some n->b<w.length/64/\zb7 w b=zc1 n
theorem zdy.tail {w:List Nat}{b:Nat}{bs:List Nat}{n:zH}{ns:List zH}(h:zdy w (b::bs) (n::ns)):zdy w bs ns:=fun i c m hc hm=>h (i+1) c m hc hm
def zmb (n:zH):List Pr:=(n.low,n.left)::n.pairs
def zt8 (L:Lev):List Pr:=(L.2.map zH.low).zip L.1
def zp6:List Lev->Prop
 | []=>False
 | [L]=>zln 0 none L.1 L.2/\L.2 ≠ []
 | L::M::T=>zln (T.length+1) none L.1 L.2/\L.2 ≠ []/\L.2.flatMap zmb=zt8 M/\zp6 (M::T)
def zjp (b:Nat)(ws:List Nat):List Pr:=(List.range ws.length).map fun k=>(64*b+k,ws.getD k 0)
def zcG (w:List Nat)(l:List Pr):List Nat:=l.foldl (fun w x=>w.set x.1 x.2) w
theorem zp1 (w:List Nat)(a b:List Pr):zcG w (a++b)=zcG (zcG w a) b:=zFF9
theorem zfm:∀(l:List Pr) (w:List Nat),(zcG w l).length=w.length
 | [],_=>rfl
 | x::l,w=>by show (zcG (w.set x.1 x.2) l).length=_;rw[zfm l,zBU9]
def ziX (bs:List Nat)(ns:List zH):List Pr:=(bs.zip ns).flatMap fun x=>zjp x.1 (zc1 x.2)
def zea (T:List Lev):List Pr:=T.flatMap fun L=>ziX L.1 L.2
theorem zfd:∀l:List Pr,zbR l=true↔∀(i:Nat) (x y:Pr),l[i]?=some x->l[i+1]?=some y->x.1<y.1
 | []=>⟨fun _ i x y h=>by simp at h,fun _=>rfl⟩
 | [a]=>⟨fun _ i x y _ h=>by simp at h,fun _=>rfl⟩
 | a::b::l=>by
  rw[zbR,zAW9,decide_eq_true_eq,zfd (b::l)];refine⟨fun h i x y hx hy=>?_,fun h=>⟨h 0 a b rfl rfl,fun i x y hx hy=>h (i+1) x y hx hy⟩⟩
  match i with
  | 0=>injection hx with hx;injection hy with hy;subst hx hy;exact h.1
  | i+1=>exact h.2 i x y hx hy
theorem zfQ {l:List Pr}(h:zbR l=true):∀(k i:Nat) (x y:Pr),l[i]?=some x->l[i+k+1]?=some y->x.1<y.1
 | 0,i,x,y,hx,hy=>(zfd l).1 h i x y hx hy
 | k+1,i,x,y,hx,hy=>by
  have hlen:=(zAC9.1 hy).1;have hz:l[i+k+1]?=some l[i+k+1]:=zAA9 zo;exact Nat.lt_trans (zfQ h k i x _ hx hz) ((zfd l).1 h _ _ _ hz hy)
theorem zjy {l:List Pr}(h:zbR l=true)(k:Nat):zbR (l.drop k)=true:=by
 rw[zfd]at h⊢
 grind
theorem znP {l:List Pr}(h:zbR l=true)(k:Nat):zbR (l.take k)=true:=by
 have:zbR (l.take k++l.drop k)=true:=by rw[zEP9];exact h
 exact zjt _ _ this
theorem zf3:∀(l:List Pr) (seen:List Nat),ze8 seen l=true↔(l.map Prod.snd).Nodup/\∀p∈l,¬p.2∈seen
 | [],seen=>by simp[ze8]
 | a::l,seen=>by
  rw[ze8,zAW9,zFE9,zf3 l (a.2::seen),zBZ9,zFP9]
  grind
theorem ziS (k:Nat)(l:List Pr):∀m,((List.range m).map fun i=>(l.drop (k*i)).take k).flatten=l.take (k*m)
 | 0=>by simp
 | m+1=>by
  rw[zDI9,zBD9,List.flatten_append,ziS k l m,Nat.mul_succ,List.take_add];simp
theorem ziy:∀L:List zH,(∀(i:Nat) (n m:zH),L[i]?=some n->L[i+1]?=some m->∀p∈n.pairs,p.1<m.low)->zb4 L=L.flatMap zH.pairs
 | [],_=>rfl
 | n::L,h=>by
  rw[zb4,zBR9,ziy L fun i a b ha hb=>h (i+1) a b ha hb]
  congr 1
  rw[List.filter_eq_self];intro p hp;unfold zeh
  cases hh:L.head? with
  | none=>rfl
  | some m =>
   have:=h 0 n m rfl (by rw[List.head?_eq_getElem?]at hh;exact hh) p hp;simp;omega
theorem ze6:∀(bs:List Nat) (ns:List zH),bs.length=ns.length->(zbO bs ns).flatMap zH.pairs=ns.flatMap zH.pairs/\(zbO bs ns).map zH.low=ns.map zH.low/\(zbO bs ns).flatMap zmb=ns.flatMap zmb
 | [],[],_=>⟨rfl,rfl,rfl⟩
 | [],_::_,h=>by simp at h
 | _::_,[],h=>by simp at h
 | b::bs,n::ns,h=>by
  obtain⟨h1,h2,h3⟩:=ze6 bs ns (by simpa using h);simp[zbO,h1,h2,h3,zmb]
def okP (l:List Pr):Bool:=zbR l&&ze8 [] l&&l.all fun p=>decide (1<=p.2)&&decide (p.2<=1099511627776)
theorem zof (l:List Pr):okP l=true↔zbR l=true/\(l.map Prod.snd).Nodup/\∀p∈l,1<=p.2/\p.2<=1099511627776:=by
 unfold okP;rw[zAW9,zAW9,zf3,zCB9]
 grind
theorem zkA {l:List Pr}{a k:Nat}{p:Pr}(h:p∈(l.drop a).take k):∃j,j<k/\l[a+j]?=some p:=by
 obtain⟨j,hj,e⟩:=zBH9.1 h;have:=zAA9 hj
 grind
theorem zlD {l:List Pr}(h:(l.map Prod.snd).Nodup)(a k:Nat):(((l.drop a).take k).map Prod.snd).Nodup :=
 h.sublist (((List.take_sublist k _).trans (List.drop_sublist a l)).map _)
theorem getD_some {l:List Pr}{i:Nat}{x:Pr}(h:l[i]?=some x):l.getD i (0,0)=x:=by rw[zAP9,h];rfl
theorem get_lt (l:List Pr){i:Nat}(h:i<l.length):l[i]?=some (l.getD i (0,0)):=by rw[zAP9,zAA9 h];rfl
theorem zu6 {l:List Pr}(h:okP l=true)(i:Nat)(hi:18*i<l.length\/i=0):zde (zd3 l i):=by
 rw[zof]at h;obtain⟨h1,h2,h3⟩:=h;have hm:∀p∈(zd3 l i).pairs,∃j,j<18/\l[18*i+j]?=some p:=fun p hp=>zkA hp;refine⟨zAL9 _,show 0<2048 by decide,zAL9 _,?_,?_,?_,fun p hp=>?_,.inl ⟨rfl,rfl⟩⟩
 ·show ((l.drop (18*i)).take 18).length<=27
  grind
 ·exact znP (zjy h1 _) _
 ·rw[zf3];refine⟨zlD h2 _ _,fun p hp hq=>?_⟩;obtain⟨j,_,hj⟩:=hm p hp;have:=h3 p (zAJ9 hj);have hq:p.2=9223372036854775808:=zBO9.1 hq;omega
 ·obtain⟨j,hjk,hj⟩:=hm p hp;have:=h3 p (zAJ9 hj);have hl:(zd3 l i).low<=p.1:=by
   show (if 0<i then(l.getD (18*i) (0,0)).1 else 0)<=p.1
   split
   ·have hlen:=(zAC9.1 hj).1
    match j with
    | 0=>rw[zDD9]at hj;rw[getD_some hj];exact zAE9 _
    | j+1=>exact Nat.le_of_lt (zfQ h1 j _ _ _ (get_lt l zo) hj)
   omega
  unfold zk7;rw[if_pos (show (zd3 l i).level=0 from rfl)]
  grind
theorem zhr (l:List Pr):zck l=(List.range (max 1 ((l.length+17)/18))).map (zd3 l):=by
 unfold zck
 split
 ·rename_i h;subst h;rfl
 ·rename_i h;have:0<l.length:=zCI9.2 h;rw[zgt,Nat.max_eq_right zo]
theorem zeN (l:List Pr):(zck l).length=max 1 ((l.length+17)/18):=by rw[zhr];simp
theorem zeP {n:Nat}{f:Nat->zH}{i:Nat}{x:zH}(h:((List.range n).map f)[i]?=some x):i<n/\x=f i:=by grind
theorem ztJ {l:List Pr}(h:okP l=true):zxx 0 (zck l)/\zb4 (zck l)=l:=by
 have h':=(zof l).1 h;obtain⟨h1,h2,h3⟩:=h';rw[zhr];have hsm:∀i,i<max 1 ((l.length+17)/18)->18*i<l.length\/i=0:=fun i hi=>by omega
 have hbelow:∀(i:Nat) (n m:zH),((List.range (max 1 ((l.length+17)/18))).map (zd3 l))[i]?=some n->((List.range (max 1 ((l.length+17)/18))).map (zd3 l))[i+1]?=some m->∀p∈n.pairs,p.1<m.low:=by
  intro i n m hn hm p hp;obtain⟨hi,rfl⟩:=zeP hn;obtain⟨hj,rfl⟩:=zeP hm;obtain⟨j,hjk,hj⟩:=zkA hp;show p.1<(if 0<i+1 then(l.getD (18*(i+1)) (0,0)).1 else 0);rw[if_pos (zCP9 _)];exact zfQ h1 (17-j) _ _ _ hj (by rw[show 18*i+j+(17-j)+1=18*(i+1) by omega];exact get_lt l zo)
 refine⟨⟨?_,?_,?_,?_,hbelow⟩,?_⟩
 ·simp_all
 ·intro n hn;obtain⟨i,hi,rfl⟩:=zAK9.1 hn;exact⟨zu6 h i (hsm i (zDF9.1 hi)),rfl,rfl⟩
 ·intro n hn;obtain⟨_,rfl⟩:=zeP hn;rfl
 ·intro i n m hn hm;obtain⟨hi,rfl⟩:=zeP hn;obtain⟨hj,rfl⟩:=zeP hm;show (if 0<i then(l.getD (18*i) (0,0)).1 else 0)<(if 0<i+1 then(l.getD (18*(i+1)) (0,0)).1 else 0);rw[if_pos (zCP9 _)];have hlt:18*(i+1)<l.length:=zo
  split
  ·exact zfQ h1 17 _ _ _ (get_lt l zo) (get_lt l hlt)
  ·exact zGD9 (zAL9 _) ((zfd l).1 h1 (18*(i+1)-1) _ _ (get_lt l zo) (by rw[show 18*(i+1)-1+1=18*(i+1) by omega];exact get_lt l hlt))
 ·rw[ziy _ hbelow,List.flatMap_map];have:=ziS 18 l (max 1 ((l.length+17)/18));rw[zBI9 zo]at this;refine Eq.trans ?_ this;rw[List.flatMap_def];rfl
theorem zlB (ks:List Pr)(i:Nat)(hi:19*i<ks.length):(ks.drop (19*i)).take 19=ks.getD (19*i) (0,0)::((ks.drop (19*i)).take 19).drop 1:=by
 have hd:ks.drop (19*i)=ks[19*i]::ks.drop (19*i+1):=zAQ9 hi
 grind
theorem zuh {lv:Nat}{ks:List Pr}{i:Nat}(hi:19*i<ks.length):zmb (zd0 lv ks i)=(ks.drop (19*i)).take 19:=by
 rw[zlB ks i hi];rfl
theorem zt2 {lv:Nat}{ks:List Pr}(h1:1<=lv/\lv<=12)(hr:zbR ks=true)(hn:(ks.map Prod.snd).Nodup)(hb:∀x∈ks,1<=x.2/\x.2<2048)(i:Nat)(hi:19*i<ks.length):zde (zd0 lv ks i):=by
 have hc:=zlB ks i hi;have hrc:zbR ((ks.drop (19*i)).take 19)=true:=znP (zjy hr _) _;have hnc:=zlD hn (19*i) 19;rw[hc]at hnc;rw[zBZ9,zFP9]at hnc;have hm:∀p∈(zd0 lv ks i).pairs,p∈(ks.drop (19*i)).take 19:=fun p hp=>zBM9 hp;have hbk:∀p∈(ks.drop (19*i)).take 19,1<=p.2/\p.2<2048:=fun p hp=>hb p (zBM9 (zBP9 hp));refine⟨h1.2,show 0<2048 by decide,zAL9 _,?_,?_,?_,fun p hp=>?_,.inr ⟨h1.1,?_⟩⟩
 ·show (((ks.drop (19*i)).take 19).drop 1).length<=27
  grind
 ·exact zjy hrc 1
 ·rw[zf3];refine⟨hnc.2,fun p hp hq=>?_⟩;have hq:p.2=(ks.getD (19*i) (0,0)).2:=zBO9.1 hq;exact hnc.1 (zAK9.2 ⟨p,hp,hq⟩)
 ·unfold zk7;rw[if_neg (show ¬(zd0 lv ks i).level=0 from by show ¬lv=0;omega),zAW9,zgf,decide_eq_true_eq];refine⟨hbk p (hm p hp),?_⟩;obtain⟨j,hj⟩:=zFJ9.1 hp;have hj:(((ks.drop (19*i)).take 19).drop 1)[j]?=some p:=hj;rw[zFB9]at hj;exact zfQ hrc j 0 _ p (by rw[hc];rfl) (by rw[<- hj,show 0+j+1=1+j by omega])
 ·rw[zgf];exact hb _ (zAJ9 (get_lt ks hi))
theorem zeu (lv:Nat)(ks:List Pr):(zcS lv ks).length=(ks.length+18)/19:=by unfold zcS;rw[zAX9,List.length_range,zgt]
theorem zpb {lv:Nat}{ks:List Pr}(h1:1<=lv/\lv<=12)(hne:ks ≠ [])(hr:zbR ks=true)(h0:(ks.getD 0 (0,0)).1=0)(hn:(ks.map Prod.snd).Nodup)(hb:∀x∈ks,1<=x.2/\x.2<2048):zxx lv (zcS lv ks)/\(zcS lv ks).flatMap zmb=ks:=by
 have hpos:0<ks.length:=zCI9.2 hne;unfold zcS;rw[zgt];have hlt:∀i,i<(ks.length+(19-1))/19->19*i<ks.length:=fun i hi=>by omega
 refine⟨⟨?_,?_,?_,?_,?_⟩,?_⟩
 ·simp;omega
 ·intro n hn';obtain⟨i,hi,rfl⟩:=zAK9.1 hn';exact⟨zt2 h1 hr hn hb i (hlt i (zDF9.1 hi)),rfl,rfl⟩
 ·intro n hn';obtain⟨_,rfl⟩:=zeP hn';exact h0
 ·intro i n m hn' hm;obtain⟨hi,rfl⟩:=zeP hn';obtain⟨hj,rfl⟩:=zeP hm;exact zfQ hr 18 _ _ _ (get_lt ks (hlt i hi)) (get_lt ks (hlt _ hj))
 ·intro i n m hn' hm p hp;obtain⟨hi,rfl⟩:=zeP hn';obtain⟨hj,rfl⟩:=zeP hm;obtain⟨j,hjk,hpj⟩:=zkA (zBM9 (i:=1) hp);show p.1<(ks.getD (19*(i+1)) (0,0)).1;exact zfQ hr (18-j) _ _ _ hpj (by rw[show 19*i+j+(18-j)+1=19*(i+1) by omega];exact get_lt ks (hlt _ hj))
 ·have:=ziS 19 ks ((ks.length+(19-1))/19);rw[zBI9 zo]at this;rw[List.flatMap_map,List.flatMap_def];rw[<- this]
  congr 1
  ·rw[this];refine zEJ9 fun i hi=>?_;exact zuh (hlt i (zDF9.1 hi))
def ziK (free:List Nat):Nat->List zH->Nat->List Lev->Option (List Lev)
 | 0,_,_,_=>none
 | k+1,l,used,T=>if free.length<used+l.length then none else
  if l.length=1 then some (((free.drop used).take l.length,zbO ((free.drop used).take l.length) l)::T)else
  ziK free k (zcS (T.length+1) ((l.map zH.low).zip ((free.drop used).take l.length))) (used+l.length) (((free.drop used).take l.length,zbO ((free.drop used).take l.length) l)::T)
def bndL:Nat->Nat
 | 0=>28
 | 1=>2
 | _=>1
def zoH (free:List Nat):Bool:=free.all (fun b=>decide (1<=b)&&decide (b<2048))&&decide free.Nodup
theorem zhM (free:List Nat):zoH free=true↔(∀b∈free,1<=b/\b<2048)/\free.Nodup:=by
 unfold zoH
 grind
structure zkz (p:List Pr)(free:List Nat)(l:List zH)(used:Nat)(T:List Lev):Prop where
 ok:zxx T.length l
 st:match T with | []=>zb4 l=p|M::T'=>l.flatMap zmb=zt8 M/\zp6 (M::T')
 last:∀M,T.getLast?=some M->zb4 M.2=p
 len:∀M∈T,M.1.length=M.2.length
 blocks:T.reverse.flatMap Prod.fst=free.take used
 used:used<=free.length
 bndL:l.length<=bndL T.length
 lvl:T.length<=2
structure zyl (p:List Pr)(free:List Nat)(T:List Lev):Prop where
 st:zp6 T
 one:∃b n T',T=([b],[n])::T'/\n.sib=0
 last:∀M,T.getLast?=some M->zb4 M.2=p
 len:∀M∈T,M.1.length=M.2.length
 blocks:∃used,used<=free.length/\T.reverse.flatMap Prod.fst=free.take used
 few:T.length<=3
section
variable {p:List Pr}{free:List Nat}(hf:zoH free=true)
include hf
theorem zkz.level {l:List zH}{used:Nat}{T:List Lev}(h:zkz p free l used T)(hu:¬free.length<used+l.length) :
  ((free.drop used).take l.length).length=l.length/\zln T.length none ((free.drop used).take l.length) (zbO ((free.drop used).take l.length) l)/\zbO ((free.drop used).take l.length) l ≠ []/\(∀b∈(free.drop used).take l.length,1<=b/\b<2048)/\((free.drop used).take l.length).Nodup /\
  (((free.drop used).take l.length,zbO ((free.drop used).take l.length) l)::T).reverse.flatMap Prod.fst=free.take (used+l.length)/\zp6 (((free.drop used).take l.length,zbO ((free.drop used).take l.length) l)::T) /\
  (∀M,(((free.drop used).take l.length,zbO ((free.drop used).take l.length) l)::T).getLast?=some M->zb4 M.2=p):=by
 rw[zhM]at hf;have hbl:((free.drop used).take l.length).length=l.length:=by rw[zAN9,zBG9];omega
 have hbb:∀b∈(free.drop used).take l.length,1<=b/\b<2048:=fun b hb=>hf.1 b (zBM9 (zBP9 hb));have hnd:((free.drop used).take l.length).Nodup:=hf.2.sublist ((List.take_sublist _ _).trans (List.drop_sublist _ _));have hch:zln T.length none ((free.drop used).take l.length) (zbO ((free.drop used).take l.length) l) :=
  zqZ _ _ _ _ hbl hbb (fun n hn=>⟨(h.ok.each n hn).1,(h.ok.each n hn).2.1⟩) (fun n hn=>h.ok.low0 n hn) h.ok.rise h.ok.below
 have hne:=zvy hbl h.ok.ne;obtain⟨k1,k2,k3⟩:=ze6 _ _ hbl;refine⟨hbl,hch,hne,hbb,hnd,?_,?_,?_⟩
 ·rw[zGH9,zEI9,h.blocks,List.take_add];simp
 ·have hst:=h.st
  cases T with
  | nil=>exact⟨hch,hne⟩
  | cons M T=>exact⟨hch,hne,by rw[k3];exact hst.1,hst.2⟩
 ·intro M hM;have hst:=h.st
  cases hT:T with
  | nil =>
   subst hT;injection hM with hM;subst hM;have hr:∀(i:Nat) (n m:zH),(zbO ((free.drop used).take l.length) l)[i]?=some n->(zbO ((free.drop used).take l.length) l)[i+1]?=some m->∀q∈n.pairs,q.1<m.low:=by
    intro i n m hn hm;have hi:i+1<l.length:=by have:=(zAC9.1 hm).1;rw[zey _ _ hbl]at this;exact this
    have e1:=zff _ _ i _ hbl (zAA9 (show i<l.length by omega));have e2:=zff _ _ (i+1) _ hbl (zAA9 hi);rw[hn]at e1;rw[hm]at e2;injection e1 with e1;injection e2 with e2;subst e1 e2;exact h.ok.below i (l[i]'zo) (l[i+1]'hi) (zAA9 (show i<l.length by omega)) (zAA9 hi)
   have e1:=ziy _ hr;have e2:=ziy _ h.ok.below;show zb4 (zbO _ l)=p;rw[e1,k1,<- e2];exact hst
  | cons K T' =>
   refine h.last M ?_;rw[hT]at hM⊢;rw[List.getLast?_cons_cons]at hM;exact hM
theorem znG:∀(k:Nat) (l:List zH) (used:Nat) (T T':List Lev),zkz p free l used T->ziK free k l used T=some T'->zyl p free T'
 | 0,l,used,T,T',_,h=>by cases h
 | k+1,l,used,T,T',hi,h=>by
  rw[ziK]at h
  by_cases hu:free.length<used+l.length
  ·grind
  rw[if_neg hu]at h;obtain⟨h1,h2,h3,h4,h5,h6,h7,h8⟩:=hi.level hf hu;have hbd:=hi.bndL;have hlvl:=hi.lvl
  by_cases ho:l.length=1
  ·rw[if_pos ho]at h;injection h with h;subst h;refine⟨h7,?_,h8,?_,⟨used+l.length,by omega,h6⟩,?_⟩
   ·obtain⟨n,hn⟩:=zEO9.1 ho;obtain⟨b,hb⟩:=zEO9.1 (h1.trans ho);rw[hb,hn];exact⟨b,{ n with sib:=0 },T,rfl,rfl⟩
   ·intro M hM;rcases zBA9.1 hM with rfl|hM
    ·exact h1.trans (zey _ _ h1).symm
    ·exact hi.len M hM
   grind
  ·rw[if_neg ho]at h;refine znG k _ _ _ _ ?_ h;have hne0:0<l.length:=zCI9.2 hi.ok.ne;have hT1:T.length<=1:=by
    rcases zDP9 T.length 2 with h|h
    ·omega
    ·have e:T.length=2:=zo;rw[e]at hbd;simp[bndL]at hbd;omega
   obtain⟨k1,k2,k3⟩:=ze6 _ _ h1;generalize hbs:(free.drop used).take l.length=bs at *
   have hzl:((l.map zH.low).zip bs).length=l.length:=by simp[h1]
   have hms:((l.map zH.low).zip bs).map Prod.snd=bs:=List.map_snd_zip (by simp[h1]);have hg:∀(i:Nat) (x:Pr),((l.map zH.low).zip bs)[i]?=some x->∃n,l[i]?=some n/\x.1=n.low:=by
    intro i x hx;rw[zEB9]at hx
    grind
   have hz0:(((l.map zH.low).zip bs).getD 0 (0,0)).1=0:=by
    obtain⟨n,hn,e⟩:=hg 0 _ (get_lt _ zo);rw[e];exact hi.ok.low0 n hn
   have hrz:zbR ((l.map zH.low).zip bs)=true:=by
    rw[zfd];intro i x y hx hy;obtain⟨n,hn,e⟩:=hg i x hx;obtain⟨m,hm,e2⟩:=hg _ y hy;rw[e,e2];exact hi.ok.rise i n m hn hm
   have hab:=zpb (lv:=T.length+1) (ks:=(l.map zH.low).zip bs) ⟨by omega,by omega⟩ (by intro e;rw[e]at hzl;simp at hzl;omega) hrz hz0 (by rw[hms];exact h5) (fun x hx=>h4 x.2 (zFQ9 hx).2);refine⟨hab.1,⟨?_,h7⟩,h8,?_,h6,by omega,?_,by simp;omega⟩
   ·rw[hab.2];unfold zt8;rw[k2]
   ·intro M hM;rcases zBA9.1 hM with rfl|hM
    ·grind
    ·exact hi.len M hM
   ·rw[zeu,hzl];show _<=bndL (T.length+1)
    match hT:T.length,hT1 with
    | 0,_=>rw[hT]at hbd;simp[bndL]at hbd⊢;omega
    | 1,_=>rw[hT]at hbd;simp[bndL]at hbd⊢;omega
end
theorem znC {p:List Pr}(free:List Nat)(hp:okP p=true)(hl:p.length<=500):zkz p free (zck p) 0 []:=by
 have h:=ztJ hp;refine⟨h.1,h.2,fun M hM=>by simp at hM,fun M hM=>by simp at hM,rfl,zAL9 _,?_,zAL9 _⟩;rw[zeN];simp[bndL];omega
def zfK:Nat->Nat->Nat
 | 0,n=>n
 | k+1,n=>n+if n=1 then 0 else zfK k ((n+18)/19)
def zhh (n:Nat):Nat:=zfK 4 (max 1 ((n+17)/18))
theorem zpp (free:List Nat):∀(k:Nat) (l:List zH) (used:Nat) (T:List Lev),3<=k+T.length->1<=k->1<=l.length->l.length<=bndL T.length->(ziK free k l used T=none↔free.length<used+zfK k l.length)
 | 0,_,_,_,_,h,_,_=>by omega
 | k+1,l,used,T,h1,_,h3,h4=>by
  rw[ziK,zfK]
  by_cases hu:free.length<used+l.length
  ·grind
  rw[if_neg hu]
  by_cases ho:l.length=1
  ·grind
  rw[if_neg ho,if_neg ho];have hT1:T.length<=1:=by
   rcases zDP9 T.length 2 with h|h
   ·omega
   ·obtain⟨m,e⟩:∃m,T.length=m+2:=⟨T.length-2,by omega⟩
    rw[e]at h4;simp[bndL]at h4;omega
  have hzl:((l.map zH.low).zip ((free.drop used).take l.length)).length=l.length:=by simp;omega
  rw[zpp free k _ _ _ (by simp;omega) zo (by rw[zeu,hzl];omega) ?_,zeu,hzl]
  ·omega
  ·rw[zeu,hzl];show _<=bndL (T.length+1)
   match hT:T.length,hT1 with
   | 0,_=>rw[hT]at h4;simp[bndL]at h4⊢;omega
   | 1,_=>rw[hT]at h4;simp[bndL]at h4⊢;omega
def zfD (p:List Pr)(free:List Nat):Option (List Lev):=ziK free 4 (zck p) 0 []
theorem zlI {p:List Pr}{free:List Nat}(hl:p.length<=500):zfD p free=none↔free.length<zhh p.length:=by
 unfold zfD zhh;rw[zpp free 4 _ _ _ (by decide) (by decide) (by rw[zeN];omega) (by rw[zeN];simp[bndL];omega),zeN,zBN9]
theorem zuI {p:List Pr}{free:List Nat}{T:List Lev}(hp:okP p=true)(hf:zoH free=true)(hl:p.length<=500)(h:zfD p free=some T):zyl p free T:=znG hf 4 _ _ _ _ (znC free hp hl) h
def zmD (T:List Lev):Nat:=match T with
 | L::_=>L.1.headD 0
 | []=>0
theorem ziQ {l:List Nat}(h:headB l=true):(headN l).level<=12/\(headN l).sib<2048/\(headN l).way<=2:=by
 unfold headB at h;rw[zAW9,zCB9]at h;have h0:=h.2 0 (by decide);have h1:=h.2 1 (by decide);have h4:=h.2 4 (by decide);rw[zc4,zAW9,decide_eq_true_eq,decide_eq_true_eq]at h0;rw[zc4,decide_eq_true_eq]at h1;have h4:decide (l.getD 4 0<=2)=true:=h4;rw[decide_eq_true_eq]at h4;refine⟨?_,h1,h4⟩;have:(headN l).level=zia (l.getD 0 0):=by unfold headN;rfl
 rw[this,zlg];omega
theorem zsb {ns ms:List zH}(h:ns ≠ []):(ns++ms).head?=ns.head?:=by
 cases ns with
 | nil=>exact absurd rfl h
 | cons a l=>rfl
theorem ztF (l:List Nat):(headN l).pairs.length<=28:=by unfold headN;exact zpR _ _
structure LvF (w:List Nat)(bs:List Nat)(ns:List zH):Prop where
 is:ns=bs.map fun b=>headN (zb7 w b)
 each:∀b∈bs,b<w.length/64/\headB (zb7 w b)=true
 same:∀n∈ns,∀z,ns.head?=some z->n.level=z.level
theorem LvF.len {w:List Nat}{bs:List Nat}{ns:List zH}(h:LvF w bs ns):bs.length=ns.length:=by rw[h.is,zAX9]
theorem LvF.node {w:List Nat}{bs:List Nat}{ns:List zH}(h:LvF w bs ns){n:zH}(hn:n∈ns):n.pairs.length<=28/\n.level<=12/\n.sib<2048:=by
 rw[h.is]at hn;obtain⟨b,hb,rfl⟩:=zAK9.1 hn;have:=ziQ (h.each b hb).2;exact⟨ztF _,this.1,this.2.1⟩
theorem LvF.nil (w:List Nat):LvF w [] []:=⟨rfl,fun b hb=>by simp at hb,fun n hn=>by simp at hn⟩
theorem zhx {w:List Nat}{lv:Int}{N:Nat}:∀(k:Nat) (seen bs:List Nat) (ns:List zH) (b:Nat) (r:List Nat×List Nat×List zH),zch w lv k seen bs ns b=some r->LvF w bs ns->(∀n,ns.head?=some n->lv<0\/(n.level:Int)=lv)->bs.length+k<=N->LvF w r.2.1 r.2.2/\(∀n,r.2.2.head?=some n->lv<0\/(n.level:Int)=lv)/\r.2.1.length<=N
 | 0,seen,bs,ns,b,r,h,hF,hh,hN=>by
  rw[zch]at h
  grind
 | k+1,seen,bs,ns,b,r,h,hF,hh,hN=>by
  rw[zch]at h
  split at h
  ·grind
  ·split at h
   ·cases h
   ·rename_i hb
    split at h
    ·rename_i hg;rw[zAW9]at hg;have hbl:b<w.length/64:=by grind
     refine zhx k _ _ _ _ r h ⟨by rw[hF.is];simp,fun c hc=>?_,fun n hn z hz=>?_⟩ (fun n hn=>?_) (by simp;omega)
     ·rcases zBF9.1 hc with hc|hc
      ·exact hF.each c hc
      grind
     ·have hgo:=hg.2;unfold zb6 at hgo
      cases hl:ns.getLast? with
      | none =>
       rw[zCT9]at hl;subst hl;simp at hn hz;rw[hn,<- hz]
      | some y =>
       rw[hl]at hgo;simp only[zAW9,decide_eq_true_eq]at hgo;have hne:ns ≠ []:=by intro e;rw[e]at hl;simp at hl
       rw[zsb hne]at hz;rcases zBF9.1 hn with hn|hn
       ·exact hF.same n hn z hz
       ·simp at hn;rw[hn,hgo.2];exact hF.same y (zFR9 hl) z hz
     ·have hgo:=hg.2;unfold zb6 at hgo
      cases hl:ns.getLast? with
      | none =>
       rw[hl]at hgo;rw[zCT9]at hl;subst hl;simp only[zAW9,Bool.or_eq_true,decide_eq_true_eq]at hgo;simp at hn;rw[<- hn];exact hgo.2
      | some y =>
       have hne:ns ≠ []:=by intro e;rw[e]at hl;simp at hl
       rw[zsb hne]at hn;exact hh n hn
    ·cases h
structure zrk (w:List Nat)(L:Lev):Prop where
 lv:LvF w L.1 L.2
 ne:L.2 ≠ []
 few:L.2.length<=2048
def znD (L:Lev):Prop:=∀n∈L.2,0<n.level
theorem zj0 {w:List Nat}(hw:w.length<=131072):∀(d:Nat) (seen:List Nat) (acc:List Lev) (b:Nat) (lv:Int),(∀L∈acc,zrk w L/\znD L) ->
  (∀L∈(zb8 w d seen acc b lv).1,zrk w L)/\(∀L∈(zb8 w d seen acc b lv).1.dropLast,znD L)/\((zb8 w d seen acc b lv).2=true->(zb8 w d seen acc b lv).1 ≠ []/\∀M,(zb8 w d seen acc b lv).1.getLast?=some M->zbR (zb4 M.2)=true)
 | 0,seen,acc,b,lv,h=>⟨fun L hL=>(h L hL).1,fun L hL=>(h L (zFS9 _ hL)).2,fun e=>by cases e⟩
 | d+1,seen,acc,b,lv,h=>by
  rw[zb8]
  cases hr:zch w lv (w.length/64) seen [] [] b with
  | none=>exact⟨fun L hL=>(h L hL).1,fun L hL=>(h L (zFS9 _ hL)).2,fun e=>by cases e⟩
  | some r =>
   obtain⟨s',bs,ns⟩:=r;obtain⟨k1,k2,k3⟩:=zhx (N:=2048) _ _ _ _ _ _ hr (LvF.nil w) (fun n hn=>by simp at hn) (by simp;omega)
   cases ns with
   | nil=>exact⟨fun L hL=>(h L hL).1,fun L hL=>(h L (zFS9 _ hL)).2,fun e=>by cases e⟩
   | cons n ns =>
    have hF:zrk w (bs,n::ns):=⟨k1,by simp,by rw[<- k1.len];exact k3⟩
    simp only
    split
    ·refine⟨fun L hL=>?_,fun L hL=>?_,fun e=>⟨by simp,fun M hM=>?_⟩⟩
     ·rcases zBF9.1 hL with hL|hL
      ·exact(h L hL).1
      ·simp at hL;subst hL;exact hF
     ·rw[zDQ9]at hL;exact(h L hL).2
     ·simp at hM;subst hM;exact e
    ·rename_i hlv;refine zj0 hw d _ _ _ _ fun L hL=>?_;rcases zBF9.1 hL with hL|hL
     ·exact h L hL
     ·simp at hL;subst hL;exact⟨hF,fun m hm=>by have:=k1.same m hm n rfl;omega⟩
theorem zgW:∀(L:List zH),(∀n∈L,n.pairs.length<=28)->(zb4 L).length<=28*L.length
 | [],_=>zAL9 _
 | n::L,h=>by
  have h1:=zgW L fun m hm=>h m (zAO9 _ hm);have h2:=h n (zAV9 ..);have h3:=List.length_filter_le (zeh L.head?) n.pairs;rw[zb4,zAB9,zAG9];omega
theorem zkz.next {p:List Pr}{free:List Nat}(hf:zoH free=true){l:List zH}{used:Nat}{T:List Lev}(hi:zkz p free l used T)(hu:¬free.length<used+l.length)(ho:¬l.length=1) :
  zkz p free (zcS (T.length+1) ((l.map zH.low).zip ((free.drop used).take l.length))) (used+l.length) (((free.drop used).take l.length,zbO ((free.drop used).take l.length) l)::T):=by
 obtain⟨h1,h2,h3,h4,h5,h6,h7,h8⟩:=hi.level hf hu;have hbd:=hi.bndL;have hlvl:=hi.lvl;have hne0:0<l.length:=zCI9.2 hi.ok.ne;have hT1:T.length<=1:=by
  rcases zDP9 T.length 2 with h|h
  ·omega
  ·have e:T.length=2:=zo;rw[e]at hbd;simp[Fv.bndL]at hbd;omega
 obtain⟨k1,k2,k3⟩:=ze6 _ _ h1;generalize hbs:(free.drop used).take l.length=bs at *
 have hzl:((l.map zH.low).zip bs).length=l.length:=by simp[h1]
 have hms:((l.map zH.low).zip bs).map Prod.snd=bs:=List.map_snd_zip (by simp[h1]);have hg:∀(i:Nat) (x:Pr),((l.map zH.low).zip bs)[i]?=some x->∃n,l[i]?=some n/\x.1=n.low:=by
  intro i x hx;rw[zEB9]at hx
  grind
 have hz0:(((l.map zH.low).zip bs).getD 0 (0,0)).1=0:=by
  obtain⟨n,hn,e⟩:=hg 0 _ (get_lt _ zo);rw[e];exact hi.ok.low0 n hn
 have hrz:zbR ((l.map zH.low).zip bs)=true:=by
  rw[zfd];intro i x y hx hy;obtain⟨n,hn,e⟩:=hg i x hx;obtain⟨m,hm,e2⟩:=hg _ y hy;rw[e,e2];exact hi.ok.rise i n m hn hm
 have hab:=zpb (lv:=T.length+1) (ks:=(l.map zH.low).zip bs) ⟨by omega,by omega⟩ (by intro e;rw[e]at hzl;simp at hzl;omega) hrz hz0 (by rw[hms];exact h5) (fun x hx=>h4 x.2 (zFQ9 hx).2);refine⟨hab.1,⟨?_,h7⟩,h8,?_,h6,by omega,?_,by simp;omega⟩
 ·rw[hab.2];unfold zt8;rw[k2]
 ·intro M hM;rcases zBA9.1 hM with rfl|hM
  ·grind
  ·exact hi.len M hM
 ·rw[zeu,hzl];show _<=Fv.bndL (T.length+1)
  match hT:T.length,hT1 with
  | 0,_=>rw[hT]at hbd;simp[Fv.bndL]at hbd⊢;omega
  | 1,_=>rw[hT]at hbd;simp[Fv.bndL]at hbd⊢;omega
end Fv
end Go.Proofs.YtkeknmgnoceogaaGreat
namespace Go.Proofs.YtkeknmgnoceogaaGreat
namespace Fv
def zgN (r:Nat)(b:List Nat):Nat:=b.foldl zji r
def zgA (l:List Nat):Nat:=18446744073709551615-zgN 18446744073709551615 (zb2 l)
def zcC (b d:Nat):List PV:=[iv 48,iv 8,iv 64,iv b,uv 3,uv 5,iv 9,iv 11,iv 27,iv d]
@[reducible] def zbN (b d:Nat):PV:=.agg (zcC b d)
structure zeb where
 ino:Nat
 name:List Nat
@[reducible] def zeZ (r:zeb):PV:=.agg [iv r.ino,.str r.name]
def zdX (r:zeb):Bool:=decide (1<=r.ino)&&decide (r.ino<=256)&&decide (zbT r.name=0)
def zdJ (r:zeb):List Nat:=(r.ino+65536*r.name.length)::zcP r.name++List.replicate (15-(r.name.length+7)/8) 0
def zgv (w:List Nat):Option zeb :=
 let r:zeb:=⟨w.getD 0 0%65536,(zb2 (w.drop 1)).take (w.getD 0 0/65536%256)⟩
 if w.getD 0 0/65536%256<=120/\zdX r=true/\zdJ r=w then some r else none
def zdW (b:Nat)(name:List Nat):Nat:=zfw 3 5 name/2 ^ (64-b)%2 ^ b
structure zdz where
 key:Nat
 num:Nat
 ino:Nat
 name:List Nat
 deriving DecidableEq
@[reducible] def zez (x:zdz):PV:=.agg [uv x.key,iv x.num,iv x.ino,.str x.name]
@[reducible] def esv (p:Nat) (l:List zdz):PV:=.list p 4 (l.map zez)
def zdI (w:List Nat)(n:Nat):List Nat:=(w.drop (704+16*(n-1))).take 16
def zd7 (w:List Nat)(b:Nat)(p:Pr):Option zdz :=
 if 1<=p.2/\p.2<=64 then match zgv (zdI w p.2)with
  | some r=>if zdW b r.name=p.1/65536 then some ⟨p.1,p.2,r.ino,r.name⟩else none
  | none=>none
 else none
def ziu (acc:List zdz)(x:zdz):Bool:=acc.any fun y=>decide (y.name=x.name)||decide (y.num=x.num)
def zcT (w:List Nat)(b:Nat):List zdz->List Pr->Option (List zdz)
 | acc,[]=>some acc
 | acc,p::l=>match zd7 w b p with
  | some x=>if ziu acc x=true then none else zcT w b (acc++[x]) l
  | none=>none
end Fv
end Go.Proofs.YtkeknmgnoceogaaGreat
namespace Go.Proofs.YtkeknmgnoceogaaGreat
namespace Fv
open Tw


set_option maxRecDepth 100000
theorem f224:ET.funcs.get 224=some T224:=zD Tryz.func224
theorem f166:ET.funcs.get 166=some T166:=zD Tryz.func166
def rdH (p:Nat)(w:List Nat)(mo:zd)(vs:List PV)(G:List zd):List zd :=
 .row 26 1 0 0 [wv p w]::.row 192 1 0 0 [.sl 5 vs.length 0 vs.length (2*vs.length) 2]::mo::.row 209 1 0 0 [.map 2]::.row 323 1 0 0 [.fn 224 [.ptr 0 0 0 0 1,.ptr 3 0 0 0 1,.ptr 1 0 0 0 1,.ptr 4 0 0 0 1]]::.row 195 2 vs.length 0 vs::G
def znn (mo:zd)(seen:List Nat):Prop:=(mo=.map0/\seen=[])\/∃mm:Int->Option PV,mo=.mapI .u64 mm/\∀q:Nat,mm q=if seen.contains q=true then some (iv 1)else none
theorem zAh {α:Type}(G l:List α)(x y z:α):(G++x::y::z::l)[G.length+2]?=some z:=by simp[zAU9]
def zqc (H:List zd)(v:PV)(l:Lev):Prop:=∃i j:Nat,v=.agg [.sl (i+6) l.1.length 0 l.1.length (2*l.1.length) 1,.sl (j+6) l.2.length 0 l.2.length (2*l.2.length) 6] /\
 H[i]?=some (.row 3 1 l.1.length 0 (l.1.map fun(b:Nat)=>iv (b:Int)))/\H[j]?=some (.row 143 6 l.2.length 0 (l.2.map (zbU 0)))
def zfb (H:List zd)(vs:List PV)(ls:List Lev):Prop:=vs.length=ls.length/\∀(k:Nat) (v:PV) (l:Lev),vs[k]?=some v->ls[k]?=some l->zqc H v l
def zvc (b:Nat)(lv:Int):List PV:=[uv b,iv lv,.ptr 0 0 0 0 1,.ptr 3 0 0 0 1,.ptr 1 0 0 0 1,.ptr 4 0 0 0 1]
def zjS (p:Nat)(w:List Nat)(mo2:zd)(vs:List PV)(G:List zd)(bs:List Nat)(ns:List zH)(G2:List zd):List zd :=
 .row 26 1 0 0 [wv p w]::.row 192 1 0 0 [.sl 5 vs.length 0 vs.length (2*vs.length) 2]::mo2::.row 209 1 0 0 [.map 2]::.row 323 1 0 0 [.fn 224 [.ptr 0 0 0 0 1,.ptr 3 0 0 0 1,.ptr 1 0 0 0 1,.ptr 4 0 0 0 1]]::.row 195 2 vs.length 0 vs ::
   (G++.row 195 2 0 0 [.agg [.sl (G.length+7) bs.length 0 bs.length (2*bs.length) 1,.sl (G.length+8) ns.length 0 ns.length (2*ns.length) 6]]::.row 3 1 bs.length 0 (bs.map fun(b:Nat)=>iv (b:Int))::.row 143 6 ns.length 0 (ns.map (zbU 0))::G2)
theorem zqc.mono {G G':List zd}{v:PV}{l:Lev}(h:zqc G v l):zqc (G++G') v l:=by
 obtain⟨i,j,h1,h2,h3⟩:=h;exact⟨i,j,h1,by rw[zAS9 (zAC9.1 h2).1];exact h2,by rw[zAS9 (zAC9.1 h3).1];exact h3⟩
theorem zfb.mono {G G':List zd}{vs:List PV}{ls:List Lev}(h:zfb G vs ls):zfb (G++G') vs ls:=⟨h.1,fun k v l hv hl=>(h.2 k v l hv hl).mono⟩
theorem zfb.snoc {G:List zd}{vs:List PV}{ls:List Lev}(h:zfb G vs ls)(r:zd)(bs:List Nat)(ns:List zH)(X:List zd)(k:Nat)(hk:k=ns.length):zfb (G++r::.row 3 1 bs.length 0 (bs.map fun(b:Nat)=>iv (b:Int))::.row 143 6 k 0 (ns.map (zbU 0))::X) (vs++[.agg [.sl (G.length+7) bs.length 0 bs.length (2*bs.length) 1,.sl (G.length+8) k 0 k (2*k) 6]]) (ls++[(bs,ns)]):=by
 subst hk;refine⟨by simp[h.1],fun q v l hv hl=>?_⟩;rcases zDP9 q vs.length with hq|hq
 ·rw[zAS9 hq]at hv;rw[zAS9 (by rw[<- h.1];exact hq)]at hl;exact(h.2 q v l hv hl).mono
 ·rw[zAU9 hq]at hv;rw[zAU9 (by rw[<- h.1];exact hq)]at hl;obtain rfl:=zBO9.1 (zAJ9 hv);obtain rfl:=zBO9.1 (zAJ9 hl);exact⟨G.length+1,G.length+2,rfl,hm0 G _ _ _,zAh G _ _ _ _⟩
def zlm (p:Nat)(w:List Nat)(r:List Lev×Bool)(e:FE)(H':List zd):Prop:=e=.ret (.bool r.2)/\∃mo' vs' G',H'=rdH p w mo' vs' G'/\zfb G' vs' r.1
theorem zkV {w:List Nat}{d:Nat}{seen:List Nat}{acc:List Lev}{b:Nat}{lv:Int}(hd:(0<=lv/\lv+1<=d)\/14<=d)(h:zch w lv (w.length/64) seen [] [] b=none):zb8 w d seen acc b lv=(acc,false):=by
 match d,hd with
 | 0,hd=>omega
 | d+1,_=>rw[zb8,h]
theorem zyQ {p:Nat}{w:List Nat}{d:Nat}{seen:List Nat}{acc:List Lev}{b:Nat}{lv:Int}{mo2:zd}{vs:List PV}{G:List zd}{bs:List Nat}{ns:List zH}{G2:List zd}(hd:(0<=lv/\lv+1<=d)\/14<=d)(h:zch w lv (w.length/64) seen [] [] b=none)(hv:zfb G vs acc):zlm p w (zb8 w d seen acc b lv) (.ret (.bool false)) (zjS p w mo2 vs G bs ns G2):=by
 rw[zkV hd h];exact⟨rfl,mo2,vs,_,rfl,hv.mono⟩
theorem zqw {p:Nat}{w:List Nat}{d:Nat}{seen:List Nat}{acc:List Lev}{b:Nat}{lv:Int}{mo2:zd}{vs:List PV}{G:List zd}(hd:(0<=lv/\lv+1<=d)\/14<=d)(h:zch w lv (w.length/64) seen [] [] b=none)(hv:zfb G vs acc):zlm p w (zb8 w d seen acc b lv) (.ret (.bool false)) (rdH p w mo2 vs G):=by
 rw[zkV hd h];exact⟨rfl,mo2,vs,_,rfl,hv⟩
theorem zdS (n:Nat):(n==n+1)=false:=by simp
theorem zdY (n:Nat):(n+1==n)=false:=by simp
theorem zdV (n:Nat):(n==n+1+1)=false:=by rw[beq_eq_false_iff_ne];omega
theorem zdU (n:Nat):(n+1+1==n)=false:=by rw[beq_eq_false_iff_ne];omega
theorem zot (n:Nat):(n+6==n+7)=false:=by simp
theorem zoy (n:Nat):(n+7==n+6)=false:=by simp
theorem zod (n:Nat):(n+6==n+8)=false:=by simp
theorem zoz (n:Nat):(n+8==n+6)=false:=by simp
theorem znU (n:Nat):(n+7==n+8)=false:=by simp
theorem zoI (n:Nat):(n+8==n+7)=false:=by simp
theorem znX {α:Type}(G G2:List α)(a b c:α):((G++a::b::c::G2).length==G.length)=false:=by rw[beq_eq_false_iff_ne];simp only[zAB9,zAG9,zAH9];omega
theorem zoY {α:Type}(G G2:List α)(a b c:α):(G.length==(G++a::b::c::G2).length)=false:=by rw[beq_eq_false_iff_ne];simp only[zAB9,zAG9,zAH9];omega
theorem znW {α:Type}(G G2:List α)(a b c x0:α):((G++a::b::c::G2++[x0]).length==G.length)=false:=by rw[beq_eq_false_iff_ne];simp only[zAB9,zAG9,zAH9];omega
theorem znQ {α:Type}(G G2:List α)(a b c x0:α):(G.length==(G++a::b::c::G2++[x0]).length)=false:=by rw[beq_eq_false_iff_ne];simp only[zAB9,zAG9,zAH9];omega
theorem zoX {α:Type}(G G2:List α)(a b c x0 x1:α):((G++a::b::c::G2++[x0]++[x1]).length==G.length)=false:=by rw[beq_eq_false_iff_ne];simp only[zAB9,zAG9,zAH9];omega
theorem zov {α:Type}(G G2:List α)(a b c x0 x1:α):(G.length==(G++a::b::c::G2++[x0]++[x1]).length)=false:=by rw[beq_eq_false_iff_ne];simp only[zAB9,zAG9,zAH9];omega
theorem zn9 {α:Type}(G G2:List α)(a b c x0 x1 x2:α):((G++a::b::c::G2++[x0]++[x1]++[x2]).length==G.length)=false:=by rw[beq_eq_false_iff_ne];simp only[zAB9,zAG9,zAH9];omega
theorem zoO {α:Type}(G G2:List α)(a b c x0 x1 x2:α):(G.length==(G++a::b::c::G2++[x0]++[x1]++[x2]).length)=false:=by rw[beq_eq_false_iff_ne];simp only[zAB9,zAG9,zAH9];omega
theorem zoh {α:Type}(G G2:List α)(a b c:α):((G++a::b::c::G2).length==G.length+1)=false:=by rw[beq_eq_false_iff_ne];simp only[zAB9,zAG9,zAH9];omega
theorem zoK {α:Type}(G G2:List α)(a b c:α):(G.length+1==(G++a::b::c::G2).length)=false:=by rw[beq_eq_false_iff_ne];simp only[zAB9,zAG9,zAH9];omega
theorem zon {α:Type}(G G2:List α)(a b c x0:α):((G++a::b::c::G2++[x0]).length==G.length+1)=false:=by rw[beq_eq_false_iff_ne];simp only[zAB9,zAG9,zAH9];omega
theorem zog {α:Type}(G G2:List α)(a b c x0:α):(G.length+1==(G++a::b::c::G2++[x0]).length)=false:=by rw[beq_eq_false_iff_ne];simp only[zAB9,zAG9,zAH9];omega
theorem zn7 {α:Type}(G G2:List α)(a b c x0 x1:α):((G++a::b::c::G2++[x0]++[x1]).length==G.length+1)=false:=by rw[beq_eq_false_iff_ne];simp only[zAB9,zAG9,zAH9];omega
theorem zoq {α:Type}(G G2:List α)(a b c x0 x1:α):(G.length+1==(G++a::b::c::G2++[x0]++[x1]).length)=false:=by rw[beq_eq_false_iff_ne];simp only[zAB9,zAG9,zAH9];omega
theorem zoM {α:Type}(G G2:List α)(a b c x0 x1 x2:α):((G++a::b::c::G2++[x0]++[x1]++[x2]).length==G.length+1)=false:=by rw[beq_eq_false_iff_ne];simp only[zAB9,zAG9,zAH9];omega
theorem zoe {α:Type}(G G2:List α)(a b c x0 x1 x2:α):(G.length+1==(G++a::b::c::G2++[x0]++[x1]++[x2]).length)=false:=by rw[beq_eq_false_iff_ne];simp only[zAB9,zAG9,zAH9];omega
theorem zn2 {α:Type}(G G2:List α)(a b c:α):((G++a::b::c::G2).length==G.length+2)=false:=by rw[beq_eq_false_iff_ne];simp only[zAB9,zAG9,zAH9];omega
theorem zox {α:Type}(G G2:List α)(a b c:α):(G.length+2==(G++a::b::c::G2).length)=false:=by rw[beq_eq_false_iff_ne];simp only[zAB9,zAG9,zAH9];omega
theorem zoJ {α:Type}(G G2:List α)(a b c x0:α):((G++a::b::c::G2++[x0]).length==G.length+2)=false:=by rw[beq_eq_false_iff_ne];simp only[zAB9,zAG9,zAH9];omega
theorem zor {α:Type}(G G2:List α)(a b c x0:α):(G.length+2==(G++a::b::c::G2++[x0]).length)=false:=by rw[beq_eq_false_iff_ne];simp only[zAB9,zAG9,zAH9];omega
theorem zoC {α:Type}(G G2:List α)(a b c x0 x1:α):((G++a::b::c::G2++[x0]++[x1]).length==G.length+2)=false:=by rw[beq_eq_false_iff_ne];simp only[zAB9,zAG9,zAH9];omega
theorem znZ {α:Type}(G G2:List α)(a b c x0 x1:α):(G.length+2==(G++a::b::c::G2++[x0]++[x1]).length)=false:=by rw[beq_eq_false_iff_ne];simp only[zAB9,zAG9,zAH9];omega
theorem zoc {α:Type}(G G2:List α)(a b c x0 x1 x2:α):((G++a::b::c::G2++[x0]++[x1]++[x2]).length==G.length+2)=false:=by rw[beq_eq_false_iff_ne];simp only[zAB9,zAG9,zAH9];omega
theorem zoV {α:Type}(G G2:List α)(a b c x0 x1 x2:α):(G.length+2==(G++a::b::c::G2++[x0]++[x1]++[x2]).length)=false:=by rw[beq_eq_false_iff_ne];simp only[zAB9,zAG9,zAH9];omega
theorem gl2 {α:Type}(G G2:List α)(a b b' c p q z:α):(G++a::b'::c::G2++[p]++[q]++[z])[(G++a::b::c::G2++[p]++[q]).length]?=some z:=by simp_all
theorem zoF (n:Nat):(n+1==n+2)=false:=by simp
theorem zn1 (n:Nat):(n+2==n+1)=false:=by simp
theorem zoR (n:Nat):(n==n+2)=false:=by simp
theorem zn0 (n:Nat):(n+2==n)=false:=by simp
section
variable {α:Type}(G l m n o:List α)(x y z u:α)
theorem gm3:(G++x::l++m++n++o)[G.length]?=some x:=by rw[zAD9,zAD9,zAD9];exact gm0 G _ x
theorem hm3:(G++x::y::l++m++n++o)[G.length+1]?=some y:=by rw[zAD9,zAD9,zAD9];exact hm0 G _ x y
theorem zAK:(G++x::y::z::l)[G.length+2]?=some z:=by simp[zAU9]
theorem km3:(G++x::y::z::l++m++n++o)[G.length+2]?=some z:=by rw[zAD9,zAD9,zAD9];exact zAK G _ x y z
theorem sm3:(G++x::l++m++n++o).set G.length u=G++u::l++m++n++o:=by simp[zCG9]
theorem tm3:(G++x::y::l++m++n++o).set (G.length+1) u=G++x::u::l++m++n++o:=by simp[zCG9]
theorem um3:(G++x::y::z::l++m++n++o).set (G.length+2) u=G++x::y::u::l++m++n++o:=by simp[zCG9]
theorem km0:(G++x::y::z::l)[G.length+2]?=some z:=by simp[zAU9]
theorem km1:(G++x::y::z::l++m)[G.length+2]?=some z:=by rw[zAD9];exact km0 G _ x y z
theorem km2:(G++x::y::z::l++m++n)[G.length+2]?=some z:=by rw[zAD9,zAD9];exact km0 G _ x y z
end
theorem zgG {l:List Nat}:∀v∈(l.map fun(b:Nat)=>iv (b:Int)).flatMap PV.cells,Id0 v:=fun v hv=>by
 obtain⟨x,hx,hv⟩:=zBE9.1 hv;obtain⟨n,_,rfl⟩:=zAK9.1 hx;simp[PV.cells]at hv;subst hv;exact .int _ _
theorem zwv (p:Nat)(w:List Nat)(hw:64<=w.length/\w.length<=131072/\w.length%64=0):∀(d:Nat) (seen:List Nat) (acc:List Lev) (b:Nat) (lv:Int) (mo:zd) (vs:List PV) (G:List zd) (hd:(0<=lv/\lv+1<=d)\/14<=d) (hs:znn mo seen) (hv:zfb G vs acc) (hva:acc.length+d<=100),
  FO ET 224 (zvc b lv) (rdH p w mo vs G) false (zlm p w (zb8 w d seen acc b lv)):=by
 intro d
 induction d with
 | zero=>intro seen acc b lv mo vs G hd;omega
 | succ d ih =>
 intro seen acc b lv mo vs G hd hs hv hva;refine zro f224 ?_;unfold zvc rdH;refine zG ?_;refine zf1 3 1 (id:=G.length+6) (v:=.agg [.nilsl,.nilsl]) (v':=.agg [.sl (G.length+7) 0 0 0 0 1,.nilsl]) (e0:=195) (z0:=2) (G:=0) (M:=0) (by simp only[zBL9,zb]<;>rfl) rfl (fun k x y hx hy=>?_) ?_
 ·match k with
  | 0=>injection hx with hx;injection hy with hy;subst hx hy;exact .inr ⟨rfl,by simp[lzy]⟩
  | 1=>injection hx with hx;injection hy with hy;subst hx hy;exact .inl rfl
  | k+2=>simp[PV.cells]at hx
 simp only[zDC9,za,zAR9,zAD9,zBB9];refine zf1 143 6 (id:=G.length+6) (v:=.agg [.sl (G.length+7) 0 0 0 0 1,.nilsl]) (v':=.agg [.sl (G.length+7) 0 0 0 0 1,.sl (G.length+8) 0 0 0 0 6]) (e0:=195) (z0:=2) (G:=0) (M:=0) (by simp only[zBL9,gm0]<;>rfl) rfl (fun k x y hx hy=>?_) ?_
 ·match k with
  | 0=>injection hx with hx;injection hy with hy;subst hx hy;exact .inl rfl
  | 1=>injection hx with hx;injection hy with hy;subst hx hy;exact .inr ⟨rfl,by simp[lzy]⟩
  | k+2=>simp[PV.cells]at hx
 simp only[zDC9,sm0,zAR9,zAD9,zBB9];have hnb:w.length/64<=2048:=zo;refine zF (zbJ (fun m s=>∃(k:Nat) (seen2:List Nat) (bs:List Nat) (ns:List zH) (b2:Nat) (mo2:zd) (G2:List zd),m=k/\zdO (w.length/64) seen2<=k/\zch w lv (w.length/64) seen [] [] b=zch w lv k seen2 bs ns b2/\bs.length=ns.length/\bs.length+k<=2048/\znn mo2 seen2/\s.tm 0=uv b2/\s.tm 1=iv lv/\s.tm 2=.ptr 0 0 0 0 1/\s.tm 3=.ptr 3 0 0 0 1/\s.tm 4=.ptr 1 0 0 0 1/\s.tm 5=.ptr 4 0 0 0 1/\s.tm 9=.ptr (G.length+6) 0 0 0 2/\s.df=[] /\
  s.H=zjS p w mo2 vs G bs ns G2) (n:=w.length/64) ?_ ?_)
 ·exact⟨_,seen,[],[],b,mo,[],rfl,zjI _ _,rfl,rfl,by simpa using hnb,hs,zt,zt,zt,zt,zt,zt,zt,rfl,rfl⟩
 ·rintro m ⟨tm,df,H⟩ ⟨k,seen2,bs,ns,b2,mo2,G2,rfl,hun,hrd,hbn,hbk,hs2,h0,h1,h2,h3,h4,h5,h9,rfl,rfl⟩;dsimp only at h0 h1 h2 h3 h4 h5 h9;unfold zjS;(try refine zbC ?_);refine zar (zbH h0 ?_);refine zwh ?_ ?_
  ·intro hb0;have hb0:¬b2=0:=by simpa using hb0
   have q1:IntKind.i64.wrap ((w.length:Int).tdiv 64)=((w.length/64:Nat):Int):=by rw[IntWalk.i64_quo _ _ zo];omega
   refine zB ?_;refine zF ?_;refine zB ?_;refine zcV (Q:=fun y s'=>y=.norm/\s'.tm 0=uv b2/\s'.tm 1=iv lv/\s'.tm 2=.ptr 0 0 0 0 1/\s'.tm 3=.ptr 3 0 0 0 1/\s'.tm 4=.ptr 1 0 0 0 1/\s'.tm 5=.ptr 4 0 0 0 1/\s'.tm 9=.ptr (G.length+6) 0 0 0 2/\s'.tm 38=.bool (decide (w.length/64<=b2)||seen2.contains b2)/\s'.df=[]/\s'.H=zjS p w mo2 vs G bs ns G2) (zau ?_) ?_
   ·by_cases hge:w.length/64<=b2
    ·have g1:((w.length/64:Nat):Int)<=b2:=zo;refine zKF (zr5 h0 h2 h3 q1 g1) ?_;exact⟨zt,h0,h1,h2,h3,h4,h5,h9,by simp[upd,hge],rfl,rfl⟩
    ·have g1:¬((w.length/64:Nat):Int)<=b2:=zo;rcases hs2 with⟨rfl,rfl⟩|⟨mm,rfl,hmm⟩
     ·refine zKF (zr5 h0 h2 h3 q1 g1) ?_;exact⟨zt,h0,h1,h2,h3,h4,h5,h9,by simp[upd,hge],rfl,rfl⟩
     ·have hq:=hmm b2
      by_cases hc:seen2.contains b2=true
      ·rw[if_pos hc]at hq;refine zKF (zr6 h0 h2 h3 q1 g1 hq) ?_;exact⟨zt,h0,h1,h2,h3,h4,h5,h9,by rw[hc];simp[upd],rfl,rfl⟩
      ·rw[if_neg hc]at hq;refine zKF (zr6 h0 h2 h3 q1 g1 hq) ?_;have hc:seen2.contains b2=false:=by simpa using hc
       exact⟨zt,h0,h1,h2,h3,h4,h5,h9,by rw[hc];simp[upd,hge],rfl,rfl⟩
   ·clear h0 h1 h2 h3 h4 h5 h9;rintro y ⟨tm,df,H⟩ ⟨rfl,h0,h1,h2,h3,h4,h5,h9,h38,rfl,rfl⟩;dsimp only at h0 h1 h2 h3 h4 h5 h9 h38
    by_cases hbad:(decide (w.length/64<=b2)||seen2.contains b2)=true
    ·refine zfc ?_ ?_ (by simp only[go_sem,h38]<;>rfl)
     ·intro _;refine zO ?_;refine zyQ hd ?_ hv;rw[hrd]
      cases m with
      | zero=>rw[zch,if_neg hb0]
      | succ m=>rw[zch,if_neg hb0,if_pos hbad]
     ·rw[hbad];intro h;cases h
    have hbad:(decide (w.length/64<=b2)||seen2.contains b2)=false:=by simpa using hbad
    refine zfc ?_ ?_ (by simp only[go_sem,h38]<;>rfl)
    ·rw[hbad];intro h;cases h
    intro _;refine zas ?_;show W _ _ _ _ _ _;have hbl:b2<w.length/64:=by
     cases h:decide (w.length/64<=b2)with
     | true=>rw[h]at hbad;cases hbad
     | false=>have:=of_decide_eq_false h;omega
    have hbs:¬seen2.contains b2=true:=by intro h;rw[h,zFC9]at hbad;cases hbad
    refine zar (zcV (Q:=fun y s'=>y=.norm/\s'.tm 0=uv b2/\s'.tm 1=iv lv/\s'.tm 2=.ptr 0 0 0 0 1/\s'.tm 3=.ptr 3 0 0 0 1/\s'.tm 4=.ptr 1 0 0 0 1/\s'.tm 5=.ptr 4 0 0 0 1/\s'.tm 9=.ptr (G.length+6) 0 0 0 2/\s'.df=[]/\∃mo3,znn mo3 (b2::seen2)/\s'.H=zjS p w mo3 vs G bs ns G2) (zau ?_) ?_)
    ·unfold zjS;rcases hs2 with⟨rfl,rfl⟩|⟨mm,rfl,hmm⟩
     ·refine zKF (zr2 h0 h3) ?_;refine⟨zt,h0,h1,h2,h3,h4,h5,h9,zt,_,.inr ⟨_,rfl,fun q=>?_⟩,rfl⟩
      by_cases hq:q=b2
      ·subst hq;simp
      ·have:¬(q:Int)=b2:=zo;simp[hq,this]
     ·refine zKF (zr2 h0 h3) ?_;refine⟨zt,h0,h1,h2,h3,h4,h5,h9,zt,_,.inr ⟨_,rfl,fun q=>?_⟩,rfl⟩
      by_cases hq:q=b2
      ·subst hq;simp
      ·have:¬(q:Int)=b2:=zo;rw[if_neg this,hmm q];simp[hq]
    ·clear h0 h1 h2 h3 h4 h5 h9 h38 hs2;rintro y ⟨tm,df,H⟩ ⟨rfl,h0,h1,h2,h3,h4,h5,h9,rfl,mo3,hs3,rfl⟩;dsimp only at h0 h1 h2 h3 h4 h5 h9;unfold zjS;have hm1:∃m',m=m'+1:=by
      cases m with
      | zero=>exact absurd (ziL _ b2 seen2 zo hbl) hbs
      | succ m=>exact⟨m,rfl⟩
     obtain⟨m',rfl⟩:=hm1;rw[zch,if_neg hb0,if_neg (by rw[hbad];decide)]at hrd;have hof:=znI p w b2 zo zo;have hOf:=zAk p (zb7 w b2) (by unfold zb7;simp;omega);refine zB ?_;refine zau ?_;refine zcz (zr2 h0 h2) ?_;refine zcp hof ?_
     by_cases hh:headB (zb7 w b2)=true
     rotate_left
     ·have hh:headB (zb7 w b2)=false:=by simpa using hh
      have he:zeS (zb7 w b2)=.ret (.tuple [zbU 0 zmR,iv 210]):=by unfold zeS;rw[if_neg (by rw[hh];decide)]
      rw[he]at hOf;rw[hh,Bool.false_and,if_neg (by decide)]at hrd;refine zfx ?_;refine zca hOf ?_;refine zN ?_;refine zG ?_;refine zfc ?_ ?_
      ·intro _;refine zO ?_;refine zqw (G:=_) hd hrd ?_;exact hv.mono.mono
      ·intro h;cases h
     obtain⟨b12,b2048,bw⟩:=ziQ hh;rw[zq9 _ hh]at hOf;rw[hh,zDM9]at hrd;generalize headN (zb7 w b2)=nd at hOf hrd b12 b2048 bw;refine zfx ?_;refine zca hOf ?_;refine zN ?_;refine zB ?_;refine zau ?_;refine zfx ?_ (by simp(disch:=omega)only[go_sem,h1,h9,gm0,gm1,gm2]<;>rfl);refine zcl (zyC 1 0 0 bs ns nd lv zo) ?_ ?_;(repeat(first|exact trivial|refine And.intro ?_ ?_|exact .int _ _|exact .bool _|exact .list _ _ _|exact .elem _|exact .nilsl|exact .nil _ _|exact .str _|refine Frz.aggL ?_|refine Frz.fnL ?_|refine Frz.tupL ?_|refine .iface ?_|exact zcN rfl rfl (by assumption)))
     ·exact Frz.whole (e:=3) (z':=1) (G:=bs.length) (l:=bs.map fun(b:Nat)=>iv (b:Int)) (by simp only[zBL9,hm1]<;>rfl) rfl (by simp) (by simp) (fun v hv=>by obtain⟨x,_,rfl⟩:=zAK9.1 hv;rfl) zgG
     ·refine⟨Frz.whole (e:=143) (z':=6) (G:=ns.length) (l:=ns.map (zbU 0)) (by simp only[zBL9,km1]<;>rfl) rfl (by simp) (by simp) (fun v hv=>by obtain⟨x,_,rfl⟩:=zAK9.1 hv;rfl) zhc,trivial⟩
     ·(repeat(first|exact trivial|refine And.intro ?_ ?_|exact .int _ _|exact .bool _|exact .list _ _ _|exact .elem _|exact .nilsl|exact .nil _ _|exact .str _|refine Frz.aggL ?_|refine Frz.fnL ?_|refine Frz.tupL ?_|refine .iface ?_|exact zcN rfl rfl (by assumption)))
     by_cases hg:zb6 ns nd lv=true
     rotate_left
     ·have hg:zb6 ns nd lv=false:=by simpa using hg
      rw[hg]at hrd⊢;rw[if_neg (by decide)]at hrd;refine zN ?_;refine zfc ?_ ?_
      ·intro _;refine zO ?_;refine zqw (G:=_) hd hrd ?_;exact hv.mono.mono
      ·intro h;cases h
     rw[hg]at hrd⊢;rw[if_pos rfl]at hrd;refine zN ?_;refine zcf ?_;refine zas ?_;show W _ _ _ _ _ _;have hba:(bs.length+1)*9<=140737488355328:=zo;have hbb:(ns.length+1)*65<=140737488355328:=zo;refine zB ?_;refine zbc ?_;refine zda ?_ (by simp(disch:=omega)only[go_sem,h0,h9,gm0,gm1,gm2,hm0,hm1,hm2,km0,km1,km2,gm3,hm3,km3,sm3,tm3,um3,hba,hbb]<;>rfl);refine zda ?_ (by simp(disch:=omega)only[go_sem,h9,znX,zoY,znW,znQ,zoX,zov,zn9,zoO,zoh,zoK,zon,zog,zn7,zoq,zoM,zoe,zn2,zox,zoJ,zor,zoC,znZ,zoc,zoV,zdS,zdY,zdV,zdU,zoF,zn1,zoR,zn0,zot,zoy,zod,zoz,znU,zoI,gm0,gm1,gm2,hm0,hm1,hm2,km0,km1,km2,gm3,hm3,km3,sm3,tm3,um3,hba,hbb,gl2]<;>rfl) (by first|exact trivial|simp only[go_sem,h9,znX,zoY,znW,znQ,zoX,zov,zn9,zoO,zoh,zoK,zon,zog,zn7,zoq,zoM,zoe,zn2,zox,zoJ,zor,zoC,znZ,zoc,zoV,zdS,zdY,zdV,zdU,zoF,zn1,zoR,zn0,zot,zoy,zod,zoz,znU,zoI,gm0,gm1,gm2,hm0,hm1,hm2,km0,km1,km2,gm3,hm3,km3,sm3,tm3,um3,hba,hbb,gl2]);refine zda ?_ (by simp(disch:=omega)only[go_sem,h9,znX,zoY,znW,znQ,zoX,zov,zn9,zoO,zoh,zoK,zon,zog,zn7,zoq,zoM,zoe,zn2,zox,zoJ,zor,zoC,znZ,zoc,zoV,zdS,zdY,zdV,zdU,zoF,zn1,zoR,zn0,zot,zoy,zod,zoz,znU,zoI,gm0,gm1,gm2,hm0,hm1,hm2,km0,km1,km2,gm3,hm3,km3,sm3,tm3,um3,hba,hbb,gl2]<;>rfl) (by first|exact trivial|simp only[go_sem,h9,znX,zoY,znW,znQ,zoX,zov,zn9,zoO,zoh,zoK,zon,zog,zn7,zoq,zoM,zoe,zn2,zox,zoJ,zor,zoC,znZ,zoc,zoV,zdS,zdY,zdV,zdU,zoF,zn1,zoR,zn0,zot,zoy,zod,zoz,znU,zoI,gm0,gm1,gm2,hm0,hm1,hm2,km0,km1,km2,gm3,hm3,km3,sm3,tm3,um3,hba,hbb,gl2]);refine zda ?_ (by simp(disch:=omega)only[go_sem,h9,znX,zoY,znW,znQ,zoX,zov,zn9,zoO,zoh,zoK,zon,zog,zn7,zoq,zoM,zoe,zn2,zox,zoJ,zor,zoC,znZ,zoc,zoV,zdS,zdY,zdV,zdU,zoF,zn1,zoR,zn0,zot,zoy,zod,zoz,znU,zoI,gm0,gm1,gm2,hm0,hm1,hm2,km0,km1,km2,gm3,hm3,km3,sm3,tm3,um3,hba,hbb,gl2]<;>rfl) (by first|exact trivial|simp only[go_sem,h9,znX,zoY,znW,znQ,zoX,zov,zn9,zoO,zoh,zoK,zon,zog,zn7,zoq,zoM,zoe,zn2,zox,zoJ,zor,zoC,znZ,zoc,zoV,zdS,zdY,zdV,zdU,zoF,zn1,zoR,zn0,zot,zoy,zod,zoz,znU,zoI,gm0,gm1,gm2,hm0,hm1,hm2,km0,km1,km2,gm3,hm3,km3,sm3,tm3,um3,hba,hbb,gl2]);refine zQF h9 ?_;have hlb:(bs++[b2]).length=bs.length+1:=by simp
     have hln:(ns++[nd]).length=ns.length+1:=by simp
     have hgl:(List.map (zbU 0) ns++[zbU 0 nd])[ns.length]?=some (zbU 0 nd):=by simp
     have hgs:IntKind.i64.wrap ((ns.length+1:Nat)-1)=ns.length:=by rw[show ((ns.length+1:Nat):Int)-1=(ns.length:Nat) by omega];exact wrap_i64 zo zo
     have hil:ns.length<ns.length+1:=zCE9 _;refine zB ?_;refine zau ?_;refine zfx ?_ (by simp(disch:=omega)only[go_sem,h9,gm0,gm1,gm2,hm0,hm1,hm2,km0,km1,km2,gm3,hm3,km3,hgl,hgs,hil]<;>rfl);refine zdp ?_;refine⟨m',zCE9 _,m',b2::seen2,bs++[b2],ns++[nd],nd.sib,mo3,?G,rfl,?hu,hrd,by rw[hlb,hln,hbn],by rw[hlb];omega,hs3,?h0,zu h1,zu h2,zu h3,zu h4,zu h5,zu h9,zt,?H⟩
     case hu=>have:=zkP _ _ _ hbl hbs;omega
     case h0=>simp[upd]
     case H =>
      (try dsimp only);rw[hlb,hln,zBD9,zBD9];simp only[zAD9,zAR9,zBB9];rfl
  ·intro hb0;have hb0:b2=0:=by simpa using hb0
   subst hb0;have hrd2:zch w lv (w.length/64) seen [] [] b=some (seen2,bs,ns):=by rw[hrd];cases m<;>simp[zch]
   clear hrd;obtain⟨hF,hfst,_⟩:=zhx (N:=2048) _ _ _ _ _ _ hrd2 (LvF.nil w) (fun n hn=>by simp at hn) (by simp;omega);dsimp only at hF hfst
   cases ns with
   | nil =>
    (repeat(first|refine zar ?_|refine zgo ?_ (by simp(disch:=omega)only[go_sem,h9,gm0,hm0,km0,gm1,hm1,km1]<;>rfl)));refine zfc ?_ ?_
    ·intro _;refine zO ?_;have:zb8 w (d+1) seen acc b lv=(acc,false):=by rw[zb8,hrd2]
     rw[this];exact⟨rfl,mo2,vs,_,rfl,hv.mono⟩
    ·intro h;cases h
   | cons nd ns =>
    have g0:¬((ns.length+1:Nat):Int)=0:=zo;(repeat(first|refine zar ?_|refine zgo ?_ (by simp(disch:=omega)only[go_sem,h9,gm0,hm0,km0,gm1,hm1,km1,g0]<;>rfl)));refine zcf ?_;refine zas ?_;show W _ _ _ _ _ _;have hvl:=hv.1;have hbv:(vs.length+1)*49<=140737488355328:=zo;refine zB ?_;refine zgo ?_ (by simp(disch:=omega)only[go_sem,h4,h9,hbv,gm0,gm1,gm2,gm3]<;>rfl);have hg0:(List.map (zbU 0) (nd::ns))[0]?=some (zbU 0 nd):=rfl;have hi0:0<ns.length+1:=zCP9 _;obtain⟨hpp,b12,b2048⟩:=hF.node (zAV9 ..);refine zB ?_;refine zgo ?_ (by simp(disch:=omega)only[go_sem,h9,hg0,hi0,gm0,gm1,gm2,hm0,hm1,hm2,km0,km1,km2,gm3,hm3,km3]<;>rfl);have hX:=fun X=>hv.snoc (.row 195 2 0 0 [.agg [.sl (G.length+7) bs.length 0 bs.length (2*bs.length) 1,.sl (G.length+8) (ns.length+1) 0 (ns.length+1) (2*(ns.length+1)) 6]]) bs (nd::ns) X (ns.length+1) rfl
    by_cases hlv:nd.level=0
    ·have g1:(nd.level:Int)=0:=zo;refine zB ?_;refine zgo ?_ (by simp(disch:=omega)only[go_sem,g1,gm0,gm1,gm2]<;>rfl);refine zfc ?_ ?_
     ·intro _;have hnl:(nd::ns).length<=2048:=by rw[<- hF.len];omega
      have hll:=zgW (nd::ns) fun n hn=>(hF.node hn).1;have hra:zb8 w (d+1) seen acc b lv=(acc++[(bs,nd::ns)],zbR (zb4 (nd::ns))):=by rw[zb8,hrd2];simp only;rw[if_pos hlv]
      have hlp:=zlJ 1 0 bs (nd::ns) zo (fun n hn=>(hF.node hn).1) zo;unfold zhn at hlp
      by_cases hri:zbR (zb4 (nd::ns))=true
      ·rw[if_pos hri]at hlp;refine zB ?_;refine zau ?_;refine zfx ?_ (by simp(disch:=omega)only[go_sem,h9,gm0,gm1,gm2,gm3]<;>rfl);refine zcl hlp ?_ ?_;(repeat(first|exact trivial|refine And.intro ?_ ?_|exact .int _ _|exact .bool _|exact .list _ _ _|exact .elem _|exact .nilsl|exact .nil _ _|exact .str _|refine Frz.aggL ?_|refine Frz.fnL ?_|refine Frz.tupL ?_|refine .iface ?_|exact zcN rfl rfl (by assumption)))
       ·exact Frz.whole (e:=3) (z':=1) (G:=bs.length) (l:=bs.map fun(b:Nat)=>iv (b:Int)) (by simp only[zBL9,hm2]<;>rfl) rfl (by simp) (by simp) (fun v hv=>by obtain⟨x,_,rfl⟩:=zAK9.1 hv;rfl) zgG
       ·exact⟨Frz.whole (e:=143) (z':=6) (G:=ns.length+1) (l:=(nd::ns).map (zbU 0)) (by simp only[zBL9,km2]<;>rfl) rfl (by simp) (by simp) (fun v hv=>by obtain⟨x,_,rfl⟩:=zAK9.1 hv;rfl) zhc,trivial⟩
       ·(repeat(first|exact trivial|refine And.intro ?_ ?_|exact .int _ _|exact .bool _|exact .list _ _ _|exact .elem _|exact .nilsl|exact .nil _ _|exact .str _|refine Frz.aggL ?_|refine Frz.fnL ?_|refine Frz.tupL ?_|refine .iface ?_|exact zcN rfl rfl (by assumption)))
       refine zN ?_;refine zO ?_;rw[hra,hri];refine⟨rfl,mo2,_,_,?e1,hX ?X1⟩
       case e1 =>
        unfold rdH;simp only[zAB9,zAG9,zAH9,zBN9,zAD9,zAR9];rfl
      ·rw[if_neg hri]at hlp;have hri:zbR (zb4 (nd::ns))=false:=by simpa using hri
       refine zB ?_;refine zau ?_;refine zfx ?_ (by simp(disch:=omega)only[go_sem,h9,gm0,gm1,gm2,gm3]<;>rfl);refine zcl hlp ?_ ?_;(repeat(first|exact trivial|refine And.intro ?_ ?_|exact .int _ _|exact .bool _|exact .list _ _ _|exact .elem _|exact .nilsl|exact .nil _ _|exact .str _|refine Frz.aggL ?_|refine Frz.fnL ?_|refine Frz.tupL ?_|refine .iface ?_|exact zcN rfl rfl (by assumption)))
       ·exact Frz.whole (e:=3) (z':=1) (G:=bs.length) (l:=bs.map fun(b:Nat)=>iv (b:Int)) (by simp only[zBL9,hm2]<;>rfl) rfl (by simp) (by simp) (fun v hv=>by obtain⟨x,_,rfl⟩:=zAK9.1 hv;rfl) zgG
       ·exact⟨Frz.whole (e:=143) (z':=6) (G:=ns.length+1) (l:=(nd::ns).map (zbU 0)) (by simp only[zBL9,km2]<;>rfl) rfl (by simp) (by simp) (fun v hv=>by obtain⟨x,_,rfl⟩:=zAK9.1 hv;rfl) zhc,trivial⟩
       ·(repeat(first|exact trivial|refine And.intro ?_ ?_|exact .int _ _|exact .bool _|exact .list _ _ _|exact .elem _|exact .nilsl|exact .nil _ _|exact .str _|refine Frz.aggL ?_|refine Frz.fnL ?_|refine Frz.tupL ?_|refine .iface ?_|exact zcN rfl rfl (by assumption)))
       refine zN ?_;refine zO ?_;rw[hra,hri];refine⟨rfl,mo2,_,_,?e2,hX ?X2⟩
       case e2 =>
        unfold rdH;simp only[zAB9,zAG9,zAH9,zBN9,zAD9,zAR9];rfl
     ·intro h;cases h
    ·have g1:¬(nd.level:Int)=0:=zo;refine zB ?_;refine zgo ?_ (by simp(disch:=omega)only[go_sem,g1,gm0,gm1,gm2]<;>rfl);refine zcf ?_;refine zas ?_;show W _ _ _ _ _ _;have hra:zb8 w (d+1) seen acc b lv=zb8 w d seen2 (acc++[(bs,nd::ns)]) nd.left ((nd.level:Int)-1):=by rw[zb8,hrd2];simp only;rw[if_neg hlv]
     have hfl:=hfst nd rfl;have ihc:=fun X=>ih seen2 (acc++[(bs,nd::ns)]) nd.left ((nd.level:Int)-1) mo2 _ _ zo hs2 (hX X) (by simp;omega);unfold rdH at ihc;simp only[show ∀v:PV,(vs++[v]).length=vs.length+1 from fun v=>by simp]at ihc;rw[<- hra]at ihc;refine zB ?_;refine zau ?_;refine zfx ?_ (by simp(disch:=omega)only[go_sem,h5,gm0,gm1,gm2,gm3]<;>rfl);simp only[zAD9,zAR9,zBB9];refine zkQ (caps:=?caps) (vs:=?vs) ?g1 ?g2 (ihc ?X3) ?g3 ?g4 ?g5
     case g1=>first|rfl|(simp only[zat,zaA,go_sem]<;>rfl)
     case g2=>simp only[go_sem,h5]<;>rfl
     case g3=>rfl
     case g4=>rfl
     rintro e H' ⟨rfl,mo',vs',G',rfl,hv'⟩;refine zP ?_;exact⟨rfl,mo',vs',G',rfl,hv'⟩
theorem f108:ET.funcs.get 108=some T108:=zD Tryz.func108
@[reducible] def zk3 (T:List Lev):PV:=.list 0 2 (T.map fun L=>zdd 0 0 L.1 L.2)
theorem Lb.ivn {z:Nat}(l:List Nat):Lb (.list 0 z (l.map fun(b:Nat)=>iv (b:Int))):=.list fun x hx=>by
 obtain⟨y,hy,hx⟩:=zBE9.1 hx;obtain⟨n,_,rfl⟩:=zAK9.1 hy;simp[PV.cells]at hx;subst hx;exact .int _ _
theorem Lb.nodes {z:Nat}(l:List zH):Lb (.list 0 z (l.map (zbU 0))):=.list fun x hx=>by
 obtain⟨y,hy,hx⟩:=zBE9.1 hx;obtain⟨n,_,rfl⟩:=zAK9.1 hy;have:=Lb.node n
 cases this with
 | agg h=>exact h x hx
theorem zoZ (T:List Lev):Lb (zk3 T):=.list fun x hx=>by
 obtain⟨y,hy,hx⟩:=zBE9.1 hx;obtain⟨L,_,rfl⟩:=zAK9.1 hy;simp[PV.cells]at hx;rcases hx with rfl|rfl
 ·exact Lb.ivn _
 ·exact Lb.nodes _
theorem zwJ {p:Nat}{w:List Nat}{mo:zd}{vs:List PV}{G:List zd}{T:List Lev}(h:zfb G vs T):Frz (rdH p w mo vs G) 0 (.sl 5 vs.length 0 vs.length (2*vs.length) 2) (zk3 T):=by
 have hf:LF (rdH p w mo vs G) 0 (vs.flatMap PV.cells) ((T.map fun L=>zdd 0 0 L.1 L.2).flatMap PV.cells):=LF.flat h.1 fun q L hL=>by
  have hq:q<vs.length:=by rw[h.1];exact(zAC9.1 hL).1
  obtain⟨i,j,e1,e2,e3⟩:=h.2 q _ L (zAA9 hq) hL;refine⟨_,(zAA9 hq).trans (congrArg some e1),?_,?_,trivial⟩
  ·exact Frz.whole (e:=3) (z':=1) (G:=L.1.length) (l:=L.1.map fun(b:Nat)=>iv (b:Int)) e2 rfl (by simp) (by simp) (fun v hv=>by obtain⟨x,_,rfl⟩:=zAK9.1 hv;rfl) zgG
  ·exact Frz.whole (e:=143) (z':=6) (G:=L.2.length) (l:=L.2.map (zbU 0)) e3 rfl (by simp) (by simp) (fun v hv=>by obtain⟨x,_,rfl⟩:=zAK9.1 hv;rfl) zhc
 have ht:(vs.drop 0).take vs.length=vs:=by rw[zED9,zBS9]
 have hl:=h.1;refine .sl (e:=195) (M:=0) (G:=vs.length) (l:=vs) rfl (zAL9 _) (zAE9 _) zo (zAE9 _) (by simp[hl]) (fun v hv=>by obtain⟨x,_,rfl⟩:=zAK9.1 hv;rfl) ?_ ?_
 ·rw[ht];exact zx0 hf
 ·rw[ht];exact fun i x y hx hy=>hf.get hx hy
theorem zyU (p:Nat)(w:List Nat)(hw:64<=w.length/\w.length<=131072/\w.length%64=0)(a:Nat)(ha:a<w.length):FN ET 166 [wv p w,iv a] (.ret (.tuple [zk3 (zbP w a).1,.bool (zbP w a).2])):=by
 refine zfn f166 (Lb.two (zoZ _) (.bool _)) ?_;have hwa:(w.map uv)[a]?=some (uv (w.getD a 0)):=by rw[zAI9,zAA9 ha,zAP9,zAA9 ha];rfl
 refine zG ?_;refine zpc 195 2 (id:=1) rfl ?_;simp only[lzy,zAG9,zAH9,zDC9,zDB9,zAR9,zBB9];have hc:=zwv p w hw 14 [] [] (w.getD a 0) (-1) .map0 [] [] (.inr (zAE9 _)) (.inl ⟨rfl,rfl⟩) ⟨rfl,fun k v l hv _=>by simp at hv⟩ (by decide);change FO ET 224 _ _ _ (zlm p w (zbP w a))at hc;generalize zbP w a=r at hc;refine zB ?_;refine zbc ?_;refine zAM (zr2 hwa ha) hc ?_;rintro e H' ⟨rfl,mo',vs',G',rfl,hv'⟩;refine⟨_,by simp only[go_sem]<;>rfl,?_⟩;refine zQF hwa ?_;unfold rdH;refine zOF hwa ?_;exact Frz.tupL ⟨zwJ hv',.bool _,trivial⟩
def zok (w:List Nat)(a:Int):FE:=if zcJ w.length a=true then if(zbP w a.toNat).2=true then .ret (zk3 (zbP w a.toNat).1)else .panic (zeU 220)else .panic (zeU 2)
theorem zjG (n:Nat)(a:Int):zcJ n a=true↔(64<=n/\n%64=0/\n<=131072/\0<=a/\a<n):=by unfold zcJ;simp[and_assoc]
theorem zu1 (p:Nat)(w:List Nat)(a:Int)(hs:zb0 w.length):FN ET 108 [wv p w,iv a] (zok w a):=by
 have hr:=zrK p w a hs;unfold zok
 by_cases h:zcJ w.length a=true
 rotate_left
 ·rw[if_neg h]at hr⊢;refine zfn f108 (.iface (.int _ _)) ?_;refine zG ?_;refine zI ?_;refine zcx hr ?_;(try(refine .iface ?_;exact .int _ _))
 rw[if_pos h]at hr⊢;have hb:=(zjG _ _).1 h;obtain⟨n,rfl⟩:∃n:Nat,a=n:=⟨a.toNat,by omega⟩
 have hrd:=zyU p w ⟨hb.1,hb.2.2.1,hb.2.1⟩ n zo;rw[zDL9];generalize zbP w n=r at hrd;obtain⟨T,b⟩:=r
 cases b with
 | true =>
  rw[if_pos rfl];refine zfn f108 (zoZ _) ?_;refine zG ?_;refine zI ?_;refine zca hr ?_;refine zN ?_;refine zI ?_;refine zca hrd ?_;refine zN ?_;refine zI ?_;refine zca (zv7 220) ?_;refine zN ?_;refine zO ?_;exact Frz.list _ _ _
 | false =>
  rw[if_neg (show ¬(T,false).2=true from zEN9)];refine zfn f108 (.iface (.int _ _)) ?_;refine zG ?_;refine zI ?_;refine zca hr ?_;refine zN ?_;refine zI ?_;refine zca hrd ?_;refine zN ?_;refine zI ?_;refine zcx (ziY 220) ?_;(try(refine .iface ?_;exact .int _ _))
theorem f79:ET.funcs.get 79=some T79:=zD Tryz.func79
theorem f127:ET.funcs.get 127=some T127:=zD Tryz.func127
theorem c35:ET.caught.get 91=some ():=by kernel_rfl
def zcE (T:List Lev):Lev:=T.getLastD ([],[])
theorem zfE {T:List Lev}(h:T ≠ []):T[T.length-1]?=some (zcE T)/\T.getLast?=some (zcE T):=by
 have:T.getLast?=some (zcE T):=by unfold zcE;rw[List.getLastD_eq_getLast?];cases T with
  | nil=>exact absurd rfl h
  | cons a l=>rw[List.getLast?_eq_some_getLast (by simp)];rfl
 grind
theorem zlQ (w:List Nat):∀(d:Nat) (seen:List Nat) (acc:List Lev) (b:Nat) (lv:Int),(zb8 w d seen acc b lv).1.length<=acc.length+d
 | 0,_,acc,_,_=>zAE9 _
 | d+1,seen,acc,b,lv=>by
  rw[zb8]
  split
  ·simp
  ·simp
  ·split
   ·simp
   ·refine zBJ9 (zlQ w d _ _ _ _) ?_;simp;omega
theorem zfq {w:List Nat}(hw:w.length<=131072)(a:Nat){T:List Lev}(h:zbP w a=(T,true)):(∀L∈T,zrk w L)/\(∀L∈T.dropLast,znD L)/\T ≠ []/\zbR (zb4 (zcE T).2)=true/\T.length<=14:=by
 have hle:=zlQ w 14 [] [] (w.getD a 0) (-1);change (zbP w a).1.length<=0+14 at hle;have hf:=zj0 hw 14 [] [] (w.getD a 0) (-1) (fun L hL=>by simp at hL);change (∀L∈(zbP w a).1,zrk w L)/\(∀L∈(zbP w a).1.dropLast,znD L)/\((zbP w a).2=true->(zbP w a).1 ≠ []/\∀M,(zbP w a).1.getLast?=some M->zbR (zb4 M.2)=true)at hf;rw[h]at hf hle;obtain⟨h1,h2,h3⟩:=hf;obtain⟨h3,h4⟩:=h3 rfl;exact⟨h1,h2,h3,h4 _ (zfE h3).2,by simpa using hle⟩
def zf7 (w:List Nat)(a:Int):FE:=if zcJ w.length a=true then if(zbP w a.toNat).2=true then .ret (.tuple [psv 0 (zb4 (zcE (zbP w a.toNat).1).2),iv 0])else .ret (.tuple [psv 0 [],iv 220])else .ret (.tuple [psv 0 [],iv 2])
theorem zyr:FO ET 127 [.ptr 0 0 0 0 1] [.row 87 1 0 0 [.nilsl],.row 38 1 0 0 [iv 0]] false fun e H'=>e=.ret (.tuple [])/\H'=[.row 87 1 0 0 [.nilsl],.row 38 1 0 0 [iv 0]]:=by
 refine zro f127 ?_;refine zJ ?_;exact⟨[],rfl,rfl,rfl⟩
theorem zz2 (p:Nat)(w:List Nat)(a:Int)(hs:zb0 w.length):FN ET 79 [wv p w,iv a] (zf7 w a):=by
 have hl:=zu1 p w a hs;have hlb:LbE (zf7 w a):=by
  unfold zf7
  split
  ·split
   ·exact Lb.two (Lb.pvs _) (.int _ _)
   ·exact Lb.two (Lb.pvs _) (.int _ _)
  ·exact Lb.two (Lb.pvs _) (.int _ _)
 refine zfn f79 hlb ?_;refine zG ?_;refine zI ?_;refine zrl (f:=91) (p:=.ptr 1 0 0 0 1) (cl:=.fn 127 [.ptr 0 0 0 0 1]) ?_ ?_ c35 ?_
 ·rfl
 ·simp only[go_sem]<;>rfl
 refine zN ?_;refine zI ?_;have bad:∀(tm:Nat->PV) (n:Nat),zf7 w a=.ret (.tuple [psv 0 [],iv n])->tm 4=.ptr 0 0 0 0 1->tm 5=.ptr 1 0 0 0 1->zdT ET T79 (fun e' H=>zbq H 0 e' (zf7 w a)) (.panic (zeU n)) ⟨tm,[.caught (.ptr 1 0 0 0 1) (.fn 127 [.ptr 0 0 0 0 1])],[.row 87 1 0 0 [.nilsl],.row 38 1 0 0 [iv 0]]⟩:=fun tm n hn h4 h5=>by
  refine⟨n,127,[.ptr 0 0 0 0 1],false,1,0,1,rfl,rfl,rfl,zyr.mono fun e H he=>?_⟩;obtain⟨rfl,rfl⟩:=he;refine⟨rfl,_,rfl,[.nilsl,iv n],?_,?_⟩
  ·simp[T79,xT,zbf,okv,h4,h5,zaz,zbl,zbr,zaw];rfl
  ·rw[hn];exact Frz.tupL ⟨.nil _ _,.int _ _,trivial⟩
 unfold zok at hl
 by_cases hr:zcJ w.length a=true
 rotate_left
 ·rw[if_neg hr]at hl;refine zcx hl ?_;exact bad _ 2 (by unfold zf7;rw[if_neg hr];rfl) rfl rfl
 rw[if_pos hr]at hl;have hb:=(zjG _ _).1 hr
 by_cases ht:(zbP w a.toNat).2=true
 rotate_left
 ·rw[if_neg ht]at hl;refine zcx hl ?_;exact bad _ 220 (by unfold zf7;rw[if_pos hr,if_neg ht];rfl) rfl rfl
 rw[if_pos ht]at hl;have hall:zf7 w a=.ret (.tuple [psv 0 (zb4 (zcE (zbP w a.toNat).1).2),iv 0]):=by unfold zf7;rw[if_pos hr,if_pos ht]
 obtain⟨f1,f2,f3,f4,f5⟩:=zfq (w:=w) (T:=(zbP w a.toNat).1) zo a.toNat (by rw[<- ht]);rw[hall];clear bad;generalize (zbP w a.toNat).1=T at hl f1 f2 f3 f4 f5;obtain⟨g1,g2⟩:=zfE f3;have hlen:T.length≠0:=fun h=>f3 (zBY9 h);have hLF:=f1 _ (zAJ9 g1);have hget:(T.map fun L=>zdd 0 0 L.1 L.2)[T.length-1]?=some (zdd 0 0 (zcE T).1 (zcE T).2):=by rw[zAI9,g1];rfl
 have hll:=zgW (zcE T).2 fun n hn=>(hLF.lv.node hn).1;have hfew:=hLF.few;have hlp:=zlJ 0 0 (zcE T).1 (zcE T).2 zo (fun n hn=>(hLF.lv.node hn).1) zo;unfold zhn at hlp;rw[if_pos f4]at hlp;refine zca hl ?_;refine zN ?_;have hq:IntKind.i64.wrap ((T.length:Int)-1)=((T.length-1:Nat):Int):=zwi;have hi:T.length-1<T.length:=zo;refine zIF (zr3 hq hget hi) ?_;refine zca hlp ?_;refine zN ?_;refine zG ?_;refine zbG ?_;exact⟨[psv 0 (zb4 (zcE T).2),iv 0],rfl,Frz.tupL ⟨.list _ _ _,.int _ _,trivial⟩⟩
section
variable {α:Type}(G l m n o:List α)(x y z u:α)
end



def ze7:Option Nat->Nat->Bool
 | none,_=>true
 | some k,n=>decide (k<n)
def zel (seen:List Nat)(pk:Option Nat)(x:Pr):Bool:=decide (1<=x.2)&&decide (x.2<=1099511627776) && !seen.contains x.2&&ze7 pk x.1
def ziZ:List Nat->Option Nat->List Pr->Bool
 | _,_,[]=>true
 | seen,pk,x::l=>zel seen pk x&&ziZ (x.2::seen) (some x.1) l
theorem zmL:∀(l:List Pr) (seen:List Nat) (pk:Option Nat),ziZ seen pk l=true↔(ze8 seen l=true/\(∀p∈l,1<=p.2/\p.2<=1099511627776)/\zbR l=true/\(∀x,l.head?=some x->ze7 pk x.1=true))
 | [],_,_=>⟨fun _=>⟨rfl,by simp,rfl,by simp⟩,fun _=>rfl⟩
 | x::l,seen,pk=>by
  rw[ziZ,zAW9,zmL l,ze8,zAW9];unfold zel;have hr:zbR (x::l)=true↔zbR l=true/\∀y,l.head?=some y->ze7 (some x.1) y.1=true:=by
   cases l with
   | nil=>simp[zbR]
   | cons y l=>rw[zbR,zAW9];simp[ze7,and_comm]
  grind
theorem zug (l:List Pr):ziZ [] none l=okP l:=by
 rw[Bool.eq_iff_iff,zmL,zof,zf3]
 constructor
 ·grind
 ·rintro ⟨c,a,b⟩;exact⟨⟨a,by simp⟩,b,c,fun _ _=>rfl⟩
def zgl (l:List Pr)(i:Nat):Option Nat:=if i=0 then none else some (l.getD (i-1) (0,0)).1
def okI:List Int->List Int->Bool
 | _,[]=>true
 | seen,b::l=>decide (1<=b)&&decide (b<2048) && !seen.contains b&&okI (b::seen) l
theorem zsJ:∀(l seen:List Int),okI seen l=true↔(∀b∈l,1<=b/\b<2048)/\l.Nodup/\∀b∈l,¬b∈seen
 | [],seen=>by simp[okI]
 | b::l,seen=>by
  rw[okI,zAW9,zAW9,zAW9,zsJ l,decide_eq_true_eq,decide_eq_true_eq,zFE9,zFP9]
  grind
theorem zrI {l:List Int}(h:okI [] l=true):∃fr:List Nat,l=fr.map (fun(b:Nat)=>(b:Int))/\zoH fr=true:=by
 rw[zsJ]at h;obtain⟨h1,h2,_⟩:=h;have he:l=(l.map Int.toNat).map (fun(b:Nat)=>(b:Int)):=by
  rw[zEG9]
  conv=>lhs;rw[<- List.map_id l]
  refine zEJ9 fun b hb=>?_
  grind
 refine⟨l.map Int.toNat,he,?_⟩;rw[zhM];refine⟨fun b hb=>?_,?_⟩
 ·obtain⟨c,hc,rfl⟩:=zAK9.1 hb
  grind
 ·rw[he,List.nodup_iff_pairwise_ne,List.pairwise_map]at h2;exact h2.imp fun h e=>h (by rw[e])
@[reducible] def bfl (free:List Nat):List PV:=free.map fun (b:Nat)=>iv (b:Int)
theorem zmm (xs:List (Nat×zH)):(xs.flatMap fun x=>zjp x.1 (zc1 x.2)).length=64*xs.length:=by
 induction xs with
 | nil=>rfl
 | cons a xs ih=>rw[zBR9,zAB9,ih,zAG9];simp[zjp,zkJ];omega
theorem zwn {bs:List Nat}{L:List zH}{i b:Nat}{x:zH}(hb:bs[i]?=some b)(hx:L[i]?=some x):(bs.zip L).take (i+1)=(bs.zip L).take i++[(b,x)]:=by
 have:(bs.zip L)[i]?=some (b,x):=by rw[zEB9];exact⟨hb,hx⟩
 rw[zBQ9,this];rfl
@[reducible] def zrA (n:Nat):FE:=.ret (.tuple [iv 0,.list 0 2 (([]:List Pr).map zec),iv 0,iv n])
@[reducible] def bOk (T:List Lev):FE:=.ret (.tuple [iv (zmD T),.list 0 2 ((zea T.reverse).map zec),iv (T.reverse.flatMap Prod.fst).length,iv 0])
def ze9 (l:List Pr)(fr:List Int):FE:=if okP l&&okI [] fr then match zfD l (fr.map Int.toNat)with
 | none=>zrA 221
 | some T=>bOk T else zrA 2
theorem zlr (l:List Pr):Lb (.list 0 2 (l.map zec)):=.list fun x hx=>by
 obtain⟨y,hy,hx⟩:=zBE9.1 hx;obtain⟨n,_,rfl⟩:=zAK9.1 hy;simp[PV.cells]at hx;rcases hx with rfl|rfl<;>exact .int _ _
theorem Lb.four {a b c d:PV}(ha:Lb a)(hb:Lb b)(hc:Lb c)(hd:Lb d):Lb (.tuple [a,b,c,d]):=.tuple fun v hv=>by grind
theorem zwU (l:List Pr)(fr:List Int):LbE (ze9 l fr):=by
 unfold ze9
 split
 ·split
  ·exact Lb.four (.int _ _) (zlr _) (.int _ _) (.int _ _)
  ·exact Lb.four (.int _ _) (zlr _) (.int _ _) (.int _ _)
 ·exact Lb.four (.int _ _) (zlr _) (.int _ _) (.int _ _)
theorem f122:ET.funcs.get 122=some T122:=zD Tryz.func122
theorem zd5 (x:Nat):FN ET 122 [iv 0,uv x] (.ret (.bool (decide (1<=x)&&decide (x<=1099511627776)))):=by
 refine zfn f122 (.bool _) ?_;refine zG ?_;refine zB ?_;refine zct ?_
 by_cases b1:1<=x
 ·have a1:(1:Int)<=x:=zo
  by_cases b2:x<=1099511627776
  ·have a2:(x:Int)<=1099511627776:=zo;refine zOF (zr2 a1 a2) ?_;exact zbq.bool (by simp[b1,b2])
  ·have a2:¬(x:Int)<=1099511627776:=zo;refine zOF (zr2 a1 a2) ?_;exact zbq.bool (by simp[b1,b2])
 ·have a1:¬(1:Int)<=x:=zo;refine zOF a1 ?_;exact zbq.bool (by simp[b1])
theorem f74:ET.funcs.get 74=some T74:=zD Tryz.func74
theorem zwB (n:Nat)(hn:n<=500):FN ET 74 [iv n] (.ret (iv (zhh n:Nat))):=by
 refine zfn f74 (.int _ _) ?_;have q1:IntKind.i64.wrap (((n:Int)+17).tdiv 18)=(((n+17)/18:Nat):Int):=by rw[show (n:Int)+17=((n+17:Nat):Int) by omega,IntWalk.i64_quo _ _ zo];omega
 have hm:max (1:Int) (((n+17)/18:Nat):Int)=((max 1 ((n+17)/18):Nat):Int):=zo;refine zGF (zr2 q1 hm) ?_;refine zF (zbJ (fun m s=>∃(t m' c:Nat),m=m'/\t<=2/\1<=m'/\m'<=bndL t/\c<=10000*(t+1)/\zhh n+m'=c+zfK (4-t) m'/\s.tm 3=iv m'/\s.tm 4=iv c/\s.df=[]/\s.H=[]) (n:=max 1 ((n+17)/18)) ?_ ?_)
 ·exact⟨0,_,_,rfl,by decide,by omega,by simp[bndL];omega,by omega,zDE9 _ _,zt,zt,rfl,rfl⟩
 ·rintro m ⟨tm,df,H⟩ ⟨t,m',c,rfl,ht,h1,hb,hc,hn,h3,h4,rfl,rfl⟩;dsimp only at h3 h4;(try refine zbC ?_);refine zar (zbH (zr2 h3 h4) ?_);refine zwh ?_ ?_
  ·intro hlt;have hlt:1<m:=by have:=of_decide_eq_true hlt;omega
   have q2:IntKind.i64.wrap (((m:Int)+18).tdiv 19)=(((m+18)/19:Nat):Int):=by
    have:m<=28:=zBJ9 hb (by match t with|0=>decide|1=>decide|t+2=>exact(show 1<=28 by decide));rw[show (m:Int)+18=((m+18:Nat):Int) by omega,IntWalk.i64_quo _ _ zo];omega
   have hm28:m<=28:=zBJ9 hb (by match t with|0=>decide|1=>decide|t+2=>exact(show 1<=28 by decide));have q3:IntKind.i64.wrap ((c:Int)+(((m+18)/19:Nat):Int))=((c+(m+18)/19:Nat):Int):=zwi;refine zB ?_;refine zF ?_;refine zB ?_;refine zB ?_;refine zbH (zr2 h3 q2) ?_;refine zJF (zr3 h3 h4 q3) ?_;refine⟨(m+18)/19,by omega,t+1,(m+18)/19,c+(m+18)/19,rfl,?_,by omega,?_,by omega,?_,zt,zt,zt,zt⟩
   ·match t,ht,hb with
    | 0,_,_=>decide
    | 1,_,_=>decide
    | 2,_,hb=>simp[bndL]at hb;omega
   ·match t,ht,hb with
    | 0,_,hb=>simp[bndL]at hb⊢;omega
    | 1,_,hb=>simp[bndL]at hb⊢;omega
    | 2,_,hb=>simp[bndL]at hb;omega
   ·have e:4-t=(4-(t+1))+1:=zo;rw[e,zfK,if_neg zo]at hn;omega
  ·intro hlt;have hlt:¬1<m:=by have:=of_decide_eq_false hlt;omega
   obtain rfl:m=1:=zo;refine zOF h4 ?_;have e:4-t=(3-t)+1:=zo;rw[e,zfK,if_pos rfl]at hn;have:zhh n=c:=zo;rw[this];exact Frz.int _ _
theorem f73:ET.funcs.get 73=some T73:=zD Tryz.func73
theorem zpM:∀(l s t:List Int),(∀b,b∈s↔b∈t)->okI s l=okI t l
 | [],_,_,_=>rfl
 | b::l,s,t,h=>by
  rw[okI,okI,zpM l (b::s) (b::t) fun c=>by simp[h c]]
  grind
theorem zsE (p:Nat)(l:List Int)(hl:l.length<1000000):FN ET 73 [.list p 1 (l.map iv)] (.ret (.bool (okI [] l))):=by
 refine zfn f73 (.bool _) ?_;refine zG ?_;refine zF (zbJ (fun m s=>∃i:Nat,m=l.length-i/\i<=l.length/\okI [] l=okI (l.take i) (l.drop i)/\s.tm 0=.list p 1 (l.map iv)/\s.tm 3=iv i/\s.df=[]/\s.H=[]) (n:=l.length) ?_ ?_)
 ·exact⟨0,by simp[upd,zj]⟩
 ·rintro m ⟨tm,df,H⟩ ⟨i,rfl,hi,hd,h0,h3,rfl,rfl⟩;dsimp only at h0 h3;(try refine zbC ?_);refine zar (zbH (zr2 h0 h3) ?_);refine zwh ?_ ?_;rotate_left
  ·intro hlt;have hlt:¬i<l.length:=by have:=of_decide_eq_false hlt;omega
   obtain rfl:i=l.length:=zo;refine zO ?_;refine zbq.bool ?_;rw[hd,zCC9];rfl
  intro hlt;have hlt:i<l.length:=by have:=of_decide_eq_true hlt;omega
  obtain⟨x,hx⟩:∃x,l[i]?=some x:=⟨_,zAA9 hlt⟩
  have hxv:(l.map iv)[i]?=some (iv x):=by rw[zAI9,hx];rfl
  have hdx:l.drop i=x::l.drop (i+1):=by rw[zAQ9 hlt];obtain⟨_,e⟩:=zAC9.1 hx;rw[e]
  rw[hdx,okI]at hd;have hle:i<=l.length:=hi;have htk:(l.map iv).take i=(l.take i).map iv:=by rw[zCU9]
  have hhas:=zuB p (l.take i) x (by rw[zAN9];omega);refine zB ?_;refine zF ?_;refine zB ?_;refine zbc ?_
  by_cases b1:x<1
  ·refine zgB (by first|exact trivial|simp only[go_sem,h0,h3,hxv,hlt,b1]) (by simp(disch:=omega)only[go_sem,h0,h3,hxv,hlt,b1]<;>rfl) rfl (by simp only[go_sem,h0,h3,hxv,hlt,b1]<;>rfl) (by simp only[go_sem]<;>rfl) ?_;refine zQF h0 ?_;refine zfc ?_ ?_
   ·intro _;refine zO ?_;refine zbq.bool ?_;rw[hd];simp;omega
   ·intro h;cases h
  by_cases b2:2047<x
  ·refine zgB (by first|exact trivial|simp only[go_sem,h0,h3,hxv,hlt,b1,b2]) (by simp(disch:=omega)only[go_sem,h0,h3,hxv,hlt,b1,b2]<;>rfl) rfl (by simp only[go_sem,h0,h3,hxv,hlt,b1,b2]<;>rfl) (by simp only[go_sem]<;>rfl) ?_;refine zQF h0 ?_;refine zfc ?_ ?_
   ·intro _;refine zO ?_;refine zbq.bool ?_;rw[hd];simp;omega
   ·intro h;cases h
  refine zdc (zr8 h0 h3 hxv hlt hle b1 b2 htk) hhas ?_;refine zQF h0 ?_
  by_cases hc:(l.take i).contains x=true
  ·refine zfc ?_ ?_ (by simp only[go_sem,hc]<;>rfl)
   ·intro _;refine zO ?_;refine zbq.bool ?_;rw[hd,hc];simp
   ·intro h;cases h
  have hc:(l.take i).contains x=false:=by simpa using hc
  refine zcf ?_ (by simp only[go_sem,hc]<;>rfl);refine zas ?_;refine zJF h3 ?_;refine⟨_,?m,i+1,rfl,hlt,?_,zu h0,zu h3,zt,zt⟩
  case m=>omega
  rw[hd,hc];have:l.take (i+1)=l.take i++[x]:=by rw[zBQ9,hx];rfl
  rw[this,zpM _ (x::l.take i) (l.take i++[x]) fun b=>by simp[or_comm]];have e1:decide (1<=x)=true:=by simp;omega
  have e2:decide (x<2048)=true:=by simp;omega
  rw[e1,e2];simp
theorem f72:ET.funcs.get 72=some T72:=zD Tryz.func72
set_option maxHeartbeats 4000000 in
theorem zsf (p:Nat)(l:List Pr)(hl:l.length<1000000):FN ET 72 [psv p l] (.ret (.bool (okP l))):=by
 refine zfn f72 (.bool _) ?_;refine zG ?_;refine zF (zbJ (fun m s=>∃(i:Nat) (seen:List Nat) (mo:zd),m=l.length-i/\i<=l.length/\znn mo seen/\okP l=ziZ seen (zgl l i) (l.drop i)/\s.tm 0=psv p l/\s.tm 3=.map 0/\s.tm 4=iv i/\s.df=[]/\s.H=[mo]) (n:=l.length) ?_ ?_)
 ·exact⟨0,[],.map0,rfl,zAL9 _,.inl ⟨rfl,rfl⟩,(zug l).symm,zt,zt,zt,rfl,rfl⟩
 ·rintro m ⟨tm,df,H⟩ ⟨i,seen,mo,rfl,hi,hs,hd,h0,h3,h4,rfl,rfl⟩;dsimp only at h0 h3 h4;(try refine zbC ?_);refine zar (zbH (zr2 h0 h4) ?_);refine zwh ?_ ?_;rotate_left
  ·intro hlt;have hlt:¬i<l.length:=by have:=of_decide_eq_false hlt;omega
   obtain rfl:i=l.length:=zo;refine zO ?_;refine zbq.bool ?_;rw[hd,zCC9];rfl
  intro hlt;have hlt:i<l.length:=by have:=of_decide_eq_true hlt;omega
  obtain⟨x,hx⟩:∃x,l[i]?=some x:=⟨_,zAA9 hlt⟩
  have hxv:(l.map pv)[i]?=some (pv x):=by rw[zAI9,hx];rfl
  have hdx:l.drop i=x::l.drop (i+1):=by rw[zAQ9 hlt];obtain⟨_,e⟩:=zAC9.1 hx;rw[e]
  rw[hdx,ziZ]at hd;have hpk:some x.1=zgl l (i+1):=by unfold zgl;rw[if_neg zo,zGE9,zAP9,hx];rfl
  rw[hpk]at hd;refine zB ?_;refine zF ?_;refine zB ?_;refine zcV (Q:=fun y s'=>y=.norm/\s'.tm 46=.bool (!zel seen (zgl l i) x)/\s'.tm 0=psv p l/\s'.tm 3=.map 0/\s'.tm 4=iv i/\s'.df=[]/\s'.H=[mo]) (zbc ?_) ?_
  ·by_cases b0:(decide (1<=x.2)&&decide (x.2<=1099511627776))=true
   rotate_left
   ·have b0:(decide (1<=x.2)&&decide (x.2<=1099511627776))=false:=by simpa using b0
    refine zdc (zr6 h0 h3 h4 hxv hlt b0) (zd5 x.2) ?_;refine zQF (zr6 h0 h3 h4 hxv hlt b0) ?_;exact⟨by simp[zel,b0],h0,h3,h4⟩
   have b1:1<=x.2:=by simp at b0;exact b0.1
   have b2:x.2<=1099511627776:=by simp at b0;exact b0.2
   by_cases b3:i=0
   ·subst b3;rcases hs with⟨rfl,rfl⟩|⟨mm,rfl,hmm⟩
    ·skip
     refine zdc (zr6 h0 h3 h4 hxv hlt b0) (zd5 x.2) ?_;refine zQF (zr6 h0 h3 h4 hxv hlt b0) ?_;exact⟨by simp[zel,b1,b2,zgl,ze7],h0,h3,h4⟩
    ·have hq:=hmm x.2
     by_cases hc:seen.contains x.2=true
     ·rw[if_pos hc]at hq;have hc2:x.2∈seen:=by simpa using hc
      refine zdc (zr7 h0 h3 h4 hxv hlt b0 hq) (zd5 x.2) ?_;refine zQF (zr7 h0 h3 h4 hxv hlt b0 hq) ?_;exact⟨by simp[zel,b1,b2,zgl,ze7,hc2],h0,h3,h4⟩
     ·rw[if_neg hc]at hq;have hc2:¬x.2∈seen:=by simpa using hc
      refine zdc (zr7 h0 h3 h4 hxv hlt b0 hq) (zd5 x.2) ?_;refine zQF (zr7 h0 h3 h4 hxv hlt b0 hq) ?_;exact⟨by simp[zel,b1,b2,zgl,ze7,hc2],h0,h3,h4⟩
   have hi0:(0:Int)<(i:Int):=zo;have hi1:IntKind.i64.wrap ((i:Int)-1)=((i-1:Nat):Int):=zwi;have hil:i-1<l.length:=zo;have hpv:(l.map pv)[i-1]?=some (pv (l.getD (i-1) (0,0))):=by rw[zAI9,get_lt l hil];rfl
   have hpk2:zgl l i=some (l.getD (i-1) (0,0)).1:=by unfold zgl;rw[if_neg b3]
   generalize l.getD (i-1) (0,0)=pr at hpv hpk2
   by_cases b4:pr.1<x.1
   ·have hkey:¬((x.1:Nat):Int)<=(pr.1:Nat):=zo;rcases hs with⟨rfl,rfl⟩|⟨mm,rfl,hmm⟩
    ·skip
     refine zdc (ziC h0 h3 h4 hxv hlt b0 hi0 hi1 hil hpv hkey) (zd5 x.2) ?_;refine zQF (ziC h0 h3 h4 hxv hlt b0 hi0 hi1 hil hpv hkey) ?_;exact⟨by simp[zel,b1,b2,hpk2,ze7,b4],h0,h3,h4⟩
    ·have hq:=hmm x.2
     by_cases hc:seen.contains x.2=true
     ·rw[if_pos hc]at hq;have hc2:x.2∈seen:=by simpa using hc
      refine zdc (zfa h0 h3 h4 hxv hlt b0 hi0 hi1 hil hpv hkey hq) (zd5 x.2) ?_;refine zQF (zfa h0 h3 h4 hxv hlt b0 hi0 hi1 hil hpv hkey hq) ?_;exact⟨by simp[zel,b1,b2,hpk2,ze7,b4,hc2],h0,h3,h4⟩
     ·rw[if_neg hc]at hq;have hc2:¬x.2∈seen:=by simpa using hc
      refine zdc (zfa h0 h3 h4 hxv hlt b0 hi0 hi1 hil hpv hkey hq) (zd5 x.2) ?_;refine zQF (zfa h0 h3 h4 hxv hlt b0 hi0 hi1 hil hpv hkey hq) ?_;exact⟨by simp[zel,b1,b2,hpk2,ze7,b4,hc2],h0,h3,h4⟩
   ·have hkey:((x.1:Nat):Int)<=(pr.1:Nat):=zo;refine zdc (ziC h0 h3 h4 hxv hlt b0 hi0 hi1 hil hpv hkey) (zd5 x.2) ?_;refine zQF (ziC h0 h3 h4 hxv hlt b0 hi0 hi1 hil hpv hkey) ?_;exact⟨by simp[zel,b1,b2,hpk2,ze7,b4],h0,h3,h4⟩
  clear h0 h3 h4;rintro y ⟨tm,df,H⟩ ⟨rfl,h46,h0,h3,h4,rfl,rfl⟩;dsimp only at h46 h0 h3 h4
  by_cases hst:zel seen (zgl l i) x=true
  rotate_left
  ·have hst:zel seen (zgl l i) x=false:=by simpa using hst
   refine zfc ?_ ?_ (by simp only[go_sem,h46]<;>rfl)
   ·intro _;refine zO ?_;refine zbq.bool ?_;rw[hd,hst];rfl
   ·rw[hst];intro h;cases h
  rw[hst,zDM9]at hd;refine zfc ?_ ?_ (by simp only[go_sem,h46]<;>rfl)
  ·rw[hst];intro h;cases h
  intro _;refine zas ?_;show W _ _ _ _ _ _;rcases hs with⟨rfl,rfl⟩|⟨mm,rfl,hmm⟩
  ·refine zJF (zr5 h0 h3 h4 hxv hlt) ?_;refine zJF h4 ?_;refine⟨_,?m1,i+1,[x.2],_,rfl,hlt,.inr ⟨_,rfl,fun q=>?_⟩,hd,zu h0,zu h3,zu h4,rfl,rfl⟩
   case m1=>omega
   by_cases hq:q=x.2
   ·subst hq;simp
   ·have:¬(q:Int)=x.2:=zo;simp[hq,this]
  ·refine zJF (zr5 h0 h3 h4 hxv hlt) ?_;refine zJF h4 ?_;refine⟨_,?m2,i+1,x.2::seen,_,rfl,hlt,.inr ⟨_,rfl,fun q=>?_⟩,hd,zu h0,zu h3,zu h4,rfl,rfl⟩
   case m2=>omega
   by_cases hq:q=x.2
   ·subst hq;simp
   ·have:¬(q:Int)=x.2:=zo;rw[if_neg this,hmm q];simp[hq]
theorem f75:ET.funcs.get 75=some T75:=zD Tryz.func75
theorem zuu (p:Nat)(n:zH)(h1:n.level<=12)(h2:n.sib<2048)(h3:n.way<=2)(hp:n.pairs.length<=27):FN ET 75 [zbU p n] (.ret (wv 0 (zc1 n))):=by
 refine zfn f75 (Lb.uvs _) ?_;have e0:(7522529147838689024:Int)+(n.level:Int)=((7522529147838689024+n.level:Nat):Int):=zo;have g:∀k,k<64->∃v,((zcn n k).map uv)[k]?=some v:=fun k hk=>⟨_,zAA9 (by rw[zAX9,zj7];exact hk)⟩
 have s:∀k,(zcn n (k+1)).map uv=((zcn n k).map uv).set k (uv (zui k n)):=fun k=>by rw[show zcn n (k+1)=(zcn n k).set k (zui k n)from rfl,zEH9]
 obtain⟨v0,g0⟩:=g 0 (by decide);obtain⟨v1,g1⟩:=g 1 (by decide);obtain⟨v2,g2⟩:=g 2 (by decide);obtain⟨v3,g3⟩:=g 3 (by decide);obtain⟨v4,g4⟩:=g 4 (by decide);have s0:((zcn n 0).map uv).set 0 (.int .u64 ((7522529147838689024+n.level:Nat):Int))=(zcn n 1).map uv:=(s 0).symm;have s1:((zcn n 1).map uv).set 1 (.int .u64 (n.sib:Int))=(zcn n 2).map uv:=(s 1).symm;have s2:((zcn n 2).map uv).set 2 (.int .u64 (n.low:Int))=(zcn n 3).map uv:=(s 2).symm;have s3:((zcn n 3).map uv).set 3 (.int .u64 (n.left:Int))=(zcn n 4).map uv:=(s 3).symm;have s4:((zcn n 4).map uv).set 4 (.int .u64 (n.way:Int))=(zcn n 5).map uv:=(s 4).symm;refine zB ?_;refine zI ?_;refine zbY ?_;refine zB ?_;refine zI ?_;refine zbY ?_;have h00:List.replicate 64 (PV.int .u64 0)=(zcn n 0).map uv:=by rw[show zcn n 0=List.replicate 64 0 from rfl,zDZ9];rfl
 rw[h00];generalize hL0:(zcn n 0).map uv=L0 at *
 generalize hL1:(zcn n 1).map uv=L1 at *
 generalize hL2:(zcn n 2).map uv=L2 at *
 generalize hL3:(zcn n 3).map uv=L3 at *
 generalize hL4:(zcn n 4).map uv=L4 at *
 generalize hL5:(zcn n 5).map uv=L5 at *
 refine zB ?_;refine zbc ?_;refine zcI (zr3 e0 g0 s0) ?_;refine zcI (zr2 g1 s1) ?_;refine zcI (zr2 g2 s2) ?_;refine zcI (zr2 g3 s3) ?_;refine zcI (zr2 g4 s4) ?_;refine zQF e0 ?_;refine zG ?_;subst hL5;refine zF (zbJ (fun m s=>∃(j:Nat) (G:List zd),m=n.pairs.length-j/\j<=n.pairs.length/\s.tm 1=.ptr 0 0 0 0 6/\s.tm 3=.sl 1 0 0 64 128 1/\s.tm 4=iv j/\s.df=[]/\s.H=.row 143 6 0 0 [zbU p n]::.row 29 1 0 0 ((zds n j).map uv)::G) (n:=n.pairs.length) ?_ ?_)
 ·exact⟨0,_,rfl,zAL9 _,zt,zt,zt,rfl,rfl⟩
 ·rintro m ⟨tm,df,H⟩ ⟨j,G,rfl,hj,t1,t3,t4,rfl,rfl⟩;dsimp only at t1 t3 t4;(try refine zbC ?_);refine zar (zgo ?_ (by simp(disch:=omega)only[go_sem,t1,t3,t4]<;>rfl));refine zwh ?_ ?_
  ·intro hlt;have hlt:j<n.pairs.length:=by have:=of_decide_eq_true hlt;omega
   have hpj:(n.pairs.map pv)[j]?=some (pv (n.pairs.getD j (0,0))):=by rw[zAI9,get_lt _ hlt];rfl
   obtain⟨o1,ho1⟩:∃old,(zds n j)[8+2*j]?=some old:=⟨_,zAA9 (by rw[zfS];omega)⟩
   obtain⟨o2,ho2⟩:∃old,((zds n j).set (8+2*j) (n.pairs.getD j (0,0)).1)[8+2*j+1]?=some old:=⟨_,zAA9 (by rw[zBU9,zfS];omega)⟩
   have w1:IntKind.i64.wrap (2*(j:Int))=((2*j:Nat):Int):=zwi;have w2:IntKind.i64.wrap (8+((2*j:Nat):Int))=((8+2*j:Nat):Int):=zwi;have w3:IntKind.i64.wrap (9+((2*j:Nat):Int))=((8+2*j+1:Nat):Int):=zwi;have c1:8+2*j<64:=zo;have c2:8+2*j+1<64:=zo;have z1:((zds n j).map uv)[8+2*j]?=some (uv o1):=by rw[zAI9,ho1];rfl
   have z2:(((zds n j).set (8+2*j) (n.pairs.getD j (0,0)).1).map uv)[8+2*j+1]?=some (uv o2):=by rw[zAI9,ho2];rfl
   have y1:((zds n j).map uv).set (8+2*j) (.int .u64 ((n.pairs.getD j (0,0)).1:Int))=((zds n j).set (8+2*j) (n.pairs.getD j (0,0)).1).map uv:=zEH9.symm;have y2:(((zds n j).set (8+2*j) (n.pairs.getD j (0,0)).1).map uv).set (8+2*j+1) (.int .u64 ((n.pairs.getD j (0,0)).2:Int))=(zds n (j+1)).map uv:=zEH9.symm;generalize n.pairs.getD j (0,0)=q at *
   generalize (zds n j).map uv=K0 at *
   generalize ((zds n j).set (8+2*j) q.1).map uv=K1 at *
   refine zB ?_;refine zF ?_;refine zB ?_;refine zbc ?_;refine zda ?_ (by simp(disch:=omega)only[go_sem,t1,t3,t4,hpj,hlt,w1,w2,w3,c1,c2,z1,y1]<;>rfl);refine zda ?_ (by simp(disch:=omega)only[go_sem,t1,t3,t4,hpj,hlt,w1,w2,w3,c1,c2,z2,y2]<;>rfl);refine zdl ?_ (by simp(disch:=omega)only[go_sem,t3]<;>rfl);refine zb3 ?_;simp only[go_sem];refine zB ?_;refine zrg ?_ (by simp(disch:=omega)only[go_sem,t4]<;>rfl);refine zdp ?_;refine⟨_,?m2,j+1,G,rfl,hlt,by simp[upd,t1],by simp[upd,t3],by simp[upd,t4],rfl,rfl⟩
   case m2=>omega
  ·intro hlt;have hlt:¬j<n.pairs.length:=by have:=of_decide_eq_false hlt;omega
   obtain rfl:j=n.pairs.length:=zo;(repeat(first|refine zar ?_|refine zgo ?_ (by simp(disch:=omega)only[go_sem,t3]<;>rfl)));refine zbG (zfr ?_);refine Frz.whole (l:=(zds n n.pairs.length).map uv) rfl rfl (by simp[zfS]) (by simp[zfS]) (fun v hv=>?_) zsI;obtain⟨x,_,rfl⟩:=zAK9.1 hv;rfl
theorem f27:ET.funcs.get 27=some T27:=zD Tryz.func27
theorem Frz.wholeM {H:List zd}{lab id e z z' G M o n q:Nat}{l:List PV}(hH:H[id]?=some (.row e z' G M l))(hM:M<=G)(ho:o=0)(hl:n=l.length)(hq:2*l.length<=q)(hz:∀v∈l,v.cells.length=z)(hs:∀v∈l.flatMap PV.cells,Id0 v) :
  Frz H lab (.sl id G o n q z) (.list lab z l):=by
 subst ho hl;refine .sl hH hM (zAE9 _) zo hq rfl hz (by simp) fun i x y hx hy=>?_;have:x=y:=by grind
 subst this;exact(hs _ (zAJ9 hy)).frz
@[reducible] def zcB (n:zH) (pvl:PV):PV:=.agg [iv n.level,iv n.sib,uv n.low,uv n.left,iv n.way,pvl]
def zgD (H:List zd)(pvl:PV)(ps:List Pr):Prop:=(pvl=.nilsl/\ps=[])\/∃id g,pvl=.sl id g 0 ps.length (2*ps.length) 2/\H[id]?=some (.row 92 2 g 0 (ps.map pv))
def zeC:PV->Option Nat
 | .sl id _ _ _ _ _=>some id
 | _=>none
structure Lvl (H:List zd)(vs:List PV)(ps:List PV)(nodes:List zH):Prop where
 lenV:vs.length=nodes.length
 lenP:ps.length=nodes.length
 val:∀(q:Nat) (n:zH) (p:PV),nodes[q]?=some n->ps[q]?=some p->vs[q]?=some (zcB n p)/\zgD H p n.pairs
 dist:∀(q r:Nat) (x y:PV) (a:Nat),ps[q]?=some x->ps[r]?=some y->zeC x=some a->zeC y=some a->q=r
def isP:zd->Prop
 | .row e _ _ _ _=>e=92
 | _=>False
theorem zgD.keep {H H':List zd}{p:PV}{ps:List Pr}(h:zgD H p ps)(k:∀(id:Nat) (o:zd),zeC p=some id->isP o->H[id]?=some o->H'[id]?=some o):zgD H' p ps:=by
 rcases h with h|⟨id,g,rfl,h2⟩
 ·exact .inl h
 ·exact .inr ⟨id,g,rfl,k id _ rfl rfl h2⟩
theorem Lvl.keep {H H':List zd}{vs ps:List PV}{nodes:List zH}(h:Lvl H vs ps nodes)(k:∀(id:Nat) (o:zd),isP o->H[id]?=some o->H'[id]?=some o):Lvl H' vs ps nodes :=
 ⟨h.lenV,h.lenP,fun q n p hn hp=>⟨(h.val q n p hn hp).1,(h.val q n p hn hp).2.keep fun id o _ ho hi=>k id o ho hi⟩,h.dist⟩
theorem Lvl.nil (H:List zd):Lvl H [] [] []:=⟨rfl,rfl,fun q n p h=>by simp at h,fun q r x y a h=>by simp at h⟩
theorem Lvl.snoc {H:List zd}{vs ps:List PV}{nodes:List zH}(h:Lvl H vs ps nodes)(n:zH)(hn:n.pairs=[]):Lvl H (vs++[zcB n .nilsl]) (ps++[.nilsl]) (nodes++[n]):=by
 refine⟨by simp[h.lenV],by simp[h.lenP],fun q m p hm hp=>?_,fun q r x y a hx hy ha hb=>?_⟩
 ·rcases zDP9 q nodes.length with hq|hq
  ·rw[zAS9 hq]at hm;rw[zAS9 (by rw[h.lenP];exact hq)]at hp;rw[zAS9 (by rw[h.lenV];exact hq)];exact h.val q m p hm hp
  ·rw[zAU9 hq]at hm;rw[zAU9 (by rw[h.lenP];exact hq)]at hp;rw[zAU9 (by rw[h.lenV];exact hq)];rw[h.lenP]at hp;rw[h.lenV];obtain rfl:=zBO9.1 (zAJ9 hm);obtain rfl:=zBO9.1 (zAJ9 hp);have h0:q-nodes.length=0:=by have:=(zAC9.1 hm).1;simp at this;omega
   rw[h0];exact⟨rfl,.inl ⟨rfl,hn⟩⟩
 ·have hl:∀(s:Nat) (z:PV),(ps++[PV.nilsl])[s]?=some z->zeC z=some a->ps[s]?=some z:=fun s z hz he=>by
   rcases zDP9 s ps.length with hs|hs
   ·grind
   ·rw[zAU9 hs]at hz;obtain rfl:=zBO9.1 (zAJ9 hz);simp[zeC]at he
  exact h.dist q r x y a (hl q x hx ha) (hl r y hy hb) ha hb
theorem Lvl.last {H H':List zd}{vf pf:List PV}{front:List zH}{v p p':PV}{nd nd':zH}(h:Lvl H (vf++[v]) (pf++[p]) (front++[nd]))(hlv:vf.length=front.length)(hlp:pf.length=front.length)
  (hp':zgD H' p' nd'.pairs) (hd:∀a,zeC p'=some a->zeC p=some a\/H.length<=a) (k:∀(id:Nat) (o:zd),isP o->H[id]?=some o->H'[id]?=some o\/zeC p=some id):Lvl H' (vf++[zcB nd' p']) (pf++[p']) (front++[nd']):=by
 have hlast:(pf++[p])[front.length]?=some p:=by rw[<- hlp];simp
 have hpq:∀(q:Nat) (x:PV),q<front.length->pf[q]?=some x->(pf++[p])[q]?=some x:=fun q x hq hx=>by rw[zAS9 zo];exact hx
 have hbound:∀(q:Nat) (x:PV) (a:Nat),q<front.length->pf[q]?=some x->zeC x=some a->a<H.length:=fun q x a hq hx ha=>by
  obtain⟨n,hn⟩:∃n,front[q]?=some n:=⟨_,zAA9 hq⟩
  have:=(h.val q n x (by rw[zAS9 hq];exact hn) (hpq q x hq hx)).2;rcases this with⟨rfl,_⟩|⟨id,g,rfl,h2⟩
  ·simp[zeC]at ha
  ·simp[zeC]at ha;subst ha;exact(zAC9.1 h2).1
 refine⟨by simp[hlv],by simp[hlp],fun q m x hm hx=>?_,fun q r x y a hx hy ha hb=>?_⟩
 ·rcases zDP9 q front.length with hq|hq
  ·rw[zAS9 hq]at hm;rw[zAS9 zo]at hx;rw[zAS9 zo];have hv:=h.val q m x (by rw[zAS9 hq];exact hm) (hpq q x hq hx);rw[zAS9 zo]at hv;refine⟨hv.1,hv.2.keep fun id o he ho hi=>?_⟩;rcases k id o ho hi with h1|h1
   ·exact h1
   ·exact absurd (h.dist q front.length x p id (hpq q x hq hx) hlast he h1) zo
  ·rw[zAU9 hq]at hm;rw[zAU9 zo]at hx;rw[zAU9 zo]
   grind
 ·have hcase:∀(s:Nat) (z:PV),(pf++[p'])[s]?=some z->(s<front.length/\pf[s]?=some z)\/(s=front.length/\z=p'):=fun s z hz=>by
   rcases zDP9 s front.length with hs|hs
   ·grind
   ·rw[zAU9 zo]at hz;have h0:s-pf.length=0:=by have:=(zAC9.1 hz).1;simp at this;omega
    grind
  have key:∀(s:Nat) (z:PV),s<front.length->pf[s]?=some z->zeC z=some a->zeC p'=some a->False:=fun s z hs hz he hp=>by
   rcases hd a hp with h1|h1
   ·exact absurd (h.dist s front.length z p a (hpq s z hs hz) hlast he h1) zo
   grind
  rcases hcase q x hx with⟨h1,h2⟩|⟨h1,h2⟩
  ·rcases hcase r y hy with⟨h3,h4⟩|⟨h3,h4⟩
   ·exact h.dist q r x y a (hpq q x h1 h2) (hpq r y h3 h4) ha hb
   grind
  grind
theorem zkt (ks:List Pr)(m j:Nat)(h:j<m)(hm:m<=ks.length):(ks.take m).getD j (0,0)=ks.getD j (0,0):=by grind
theorem znm (k:Nat)(ks:List Pr)(m j:Nat)(h:k*j+k<=m):((ks.take m).drop (k*j)).take k=(ks.drop (k*j)).take k:=by
 rw[zDK9,zEE9,zDH9 zo]
theorem zmN (k:Nat)(ks:List Pr)(m j:Nat)(h:m<=k*j+k):((ks.take m).drop (k*j)).take k=(ks.drop (k*j)).take (m-k*j):=by
 rw[zDK9,zEE9,Nat.min_eq_right zo]
def zdr (n:zH)(l:List Pr):zH:={ n with pairs:=l }
def zmW (lv i:Nat)(x:Pr)(L:List zH):List zH:=if i%19=0 then L++[⟨lv,0,x.1,x.2,0,[]⟩]else
 match L.getLast? with
 | some n=>L.dropLast++[zdr n (n.pairs++[x])]
 | none=>L
theorem zpu (lv:Nat)(ks:List Pr)(m c:Nat)(hm:m<=ks.length)(hc:19*c<=m):(List.range c).map (zd0 lv (ks.take m))=(List.range c).map (zd0 lv ks):=by
 refine zEJ9 fun j hj=>?_;have hj:j<c:=zDF9.1 hj;unfold zd0;rw[zkt ks m _ zo hm,znm 19 ks m j zo]
theorem zuw (lv:Nat)(ks:List Pr)(m c:Nat)(hm:m<=ks.length)(h1:19*c<m)(h2:m<=19*c+19):zd0 lv (ks.take m) c=⟨lv,0,(ks.getD (19*c) (0,0)).1,(ks.getD (19*c) (0,0)).2,0,((ks.drop (19*c)).take (m-19*c)).drop 1⟩:=by
 unfold zd0;rw[zkt ks m _ h1 hm,zmN 19 ks m c h2]
theorem ziJ (lv:Nat)(ks:List Pr)(m c:Nat)(hm:m<=ks.length)(h1:19*c<m)(h2:m<=19*c+19):zcS lv (ks.take m)=(List.range c).map (zd0 lv ks)++[⟨lv,0,(ks.getD (19*c) (0,0)).1,(ks.getD (19*c) (0,0)).2,0,((ks.drop (19*c)).take (m-19*c)).drop 1⟩]:=by
 unfold zcS;have:(zi2 19 (ks.take m)).length=c+1:=by rw[zgt,zAN9,zDH9 hm];omega
 rw[this,zDI9,zBD9,zpu lv ks m c hm zo];simp only[zBZ9,zAZ9];rw[zuw lv ks m c hm h1 h2]
theorem ztX (lv:Nat)(ks:List Pr)(i:Nat)(hi:i<ks.length):zcS lv (ks.take (i+1))=zmW lv i (ks.getD i (0,0)) (zcS lv (ks.take i)):=by
 unfold zmW
 by_cases h:i%19=0
 ·rw[if_pos h];obtain⟨c,rfl⟩:∃c,i=19*c:=⟨i/19,by omega⟩
  rw[ziJ lv ks (19*c+1) c zo zo zo];have e:zcS lv (ks.take (19*c))=(List.range c).map (zd0 lv ks):=by
   unfold zcS;have:(zi2 19 (ks.take (19*c))).length=c:=by rw[zgt,zAN9,zDH9 zo];omega
   rw[this,zpu lv ks (19*c) c zo zo]
  simp_all
 ·rw[if_neg h];have hc1:19*(i/19)<i:=zo;rw[ziJ lv ks i (i/19) zo hc1 zo,ziJ lv ks (i+1) (i/19) zo zo zo];simp only[zEC9,zDQ9,zdr]
  congr 3
  have e:i+1-19*(i/19)=(i-19*(i/19))+1:=zo;rw[e,zBQ9,zDT9 (by rw[zAN9,zBG9];omega)]
  grind
def zf4 (i:Nat)(x:Pr)(L:List zH):List zH:=if 0<i/\i%18=0 then L++[⟨0,0,x.1,9223372036854775808,0,[]⟩]else L
def zqb (x:Pr)(L:List zH):List zH:=match L.getLast? with
 | some n=>L.dropLast++[zdr n (n.pairs++[x])]
 | none=>L
theorem zwX (ks:List Pr)(m c:Nat)(hm:m<=ks.length)(hc:18*c<=m):(List.range c).map (zd3 (ks.take m))=(List.range c).map (zd3 ks):=by
 refine zEJ9 fun j hj=>?_;have hj:j<c:=zDF9.1 hj;unfold zd3;rw[zkt ks m _ zo hm,znm 18 ks m j zo]
theorem zhs (ks:List Pr)(m c:Nat)(hm:m<=ks.length)(h1:18*c<m\/(m=0/\c=0))(h2:m<=18*c+18):zck (ks.take m)=(List.range c).map (zd3 ks)++[⟨0,0,if 0<c then(ks.getD (18*c) (0,0)).1 else 0,9223372036854775808,0,(ks.drop (18*c)).take (m-18*c)⟩]:=by
 rw[zhr,zAN9,zDH9 hm];have:max 1 ((m+17)/18)=c+1:=zo;rw[this,zDI9,zBD9,zwX ks m c hm zo];simp only[zBZ9,zAZ9]
 congr 2
 unfold zd3;rw[zmN 18 ks m c h2]
 grind
theorem zv4 (ks:List Pr)(i:Nat)(hi:i<ks.length):zck (ks.take (i+1))=zqb (ks.getD i (0,0)) (zf4 i (ks.getD i (0,0)) (zck (ks.take i))):=by
 unfold zf4
 by_cases h:0<i/\i%18=0
 ·rw[if_pos h];obtain⟨c,rfl⟩:∃c,i=18*(c+1):=⟨i/18-1,by omega⟩
  rw[zhs ks (18*(c+1)+1) (c+1) zo zo zo,zhs ks (18*(c+1)) c zo zo zo];unfold zqb;simp only[zEC9,zDQ9,zdr];rw[zDI9,zBD9];simp only[zBZ9,zAZ9,zBB9]
  congr 2
  ·congr 2
   unfold zd3
   grind
  ·rw[if_pos (zCP9 _)]
   congr 1
   rw[show 18*(c+1)+1-18*(c+1)=1 by omega];rw[zAQ9 hi,zFU9,List.take_zero,zAP9,zAA9 hi];rfl
 ·rw[if_neg h];have hc1:18*(i/18)<i\/(i=0/\i/18=0):=zo;rw[zhs ks i (i/18) zo hc1 zo,zhs ks (i+1) (i/18) zo zo zo];unfold zqb;simp only[zEC9,zDQ9,zdr]
  congr 3
  have e:i+1-18*(i/18)=(i-18*(i/18))+1:=zo;rw[e,zBQ9]
  grind
theorem f76:ET.funcs.get 76=some T76:=zD Tryz.func76
def zfs (H H':List zd):Prop:=∀(id:Nat) (o:zd),H[id]?=some o->H'[id]?=some o
theorem zfs.refl (H:List zd):zfs H H:=fun _ _ h=>h
theorem zfs.app {H Hc:List zd}(h:zfs H Hc)(X:List zd):zfs H (Hc++X):=fun id o ho=>by
 have:=h id o ho
 grind
theorem zfs.set {H Hc:List zd}(h:zfs H Hc){a:Nat}(ha:H.length<=a)(o':zd):zfs H (Hc.set a o'):=fun id o ho=>by
 have hlt:=(zAC9.1 ho).1;rw[zAT9 zo];exact h id o ho
theorem zbM {α:Type}{l X:List α}{i:Nat}{x:α}(h:l[i]?=some x):(l++X)[i]?=some x:=by grind
theorem Lvl.other {H:List zd}{vs ps:List PV}{nodes:List zH}(h:Lvl H vs ps nodes){a:Nat}{o o':zd}(ha:H[a]?=some o)(ho:¬isP o)(X:List zd):Lvl ((H++X).set a o') vs ps nodes :=
 h.keep fun id q hq hi=>by grind
theorem zjs {α:Type}{l:List α}(h:l ≠ []):∃f x,l=f++[x]:=⟨l.dropLast,l.getLast h,(List.dropLast_concat_getLast h).symm⟩
theorem zic {α:Type}{l:List α}{n:Nat}(h:l.length=n+1):∃f x,l=f++[x]/\f.length=n:=by
 obtain⟨f,x,rfl⟩:=zjs (l:=l) (by intro e;rw[e]at h;simp at h)
 grind
theorem zuJ {lv:Nat}{ks:List Pr}{n:zH}(h:n∈zcS lv ks):n.pairs.length<=18:=by
 unfold zcS at h;obtain⟨i,_,rfl⟩:=zAK9.1 h;show (((ks.drop (19*i)).take 19).drop 1).length<=18
 grind
set_option maxHeartbeats 4000000 in
theorem zt5 (H:List zd)(i8 g8 M8 i13 g13:Nat)(vs8 ps8:List PV)(l:List zH)(bs:List Nat)(lv:Nat)(hr8:H[i8]?=some (.row 143 6 g8 M8 vs8))(hM8:M8<=g8)(hlv:Lvl H vs8 ps8 l)(hr13:H[i13]?=some (.row 3 1 g13 0 (bfl bs)))(hlen:bs.length=l.length)(hl:l.length<=1000)(hl0:∀n∈l,n.level=lv)(hlv12:lv<=12)(hb:∀b∈bs,b<2048) :
  FO ET 76 [.sl i8 g8 0 l.length (2*l.length) 6,.sl i13 g13 0 l.length (2*l.length) 1] H false (fun e H'=>zfs H H'/\∃idL g M vs ps,e=.ret (.sl idL g 0 vs.length (2*vs.length) 6)/\M<=g/\H.length<=idL/\H'[idL]?=some (.row 143 6 g M vs)/\Lvl H' vs ps (zcS (lv+1) ((l.map zH.low).zip bs))/\∀p∈ps,∀a,zeC p=some a->H.length<=a):=by
 refine zro f76 ?_;have hkl:((l.map zH.low).zip bs).length=l.length:=by simp[hlen]
 generalize hks:(l.map zH.low).zip bs=ks at *
 refine zG ?_;refine zdg 143 6 (i:=5) rfl ?_;simp only[lzy];refine zF (zbJ (fun m s=>∃(i:Nat) (Hc:List zd) (idL g M:Nat) (vs ps:List PV),m=l.length-i/\i<=l.length/\zfs H Hc/\M<=g/\Hc[idL]?=some (.row 143 6 g M vs)/\H.length<=idL/\Lvl Hc vs ps (zcS (lv+1) (ks.take i))/\(∀p∈ps,∀a,zeC p=some a->H.length<=a)/\s.tm 0=.sl i8 g8 0 l.length (2*l.length) 6/\s.tm 1=.sl i13 g13 0 l.length (2*l.length) 1/\s.tm 5=.sl idL g 0 vs.length (2*vs.length) 6/\s.tm 6=iv i/\s.df=[]/\s.H=Hc) (n:=l.length) ?_ ?_)
 ·exact⟨0,_,H.length,0,0,[],[],rfl,zAL9 _,(zfs.refl H).app _,zAE9 _,by simp,zAE9 _,(by rw[List.take_zero];exact Lvl.nil _),fun p hp=>by simp at hp,zt,zt,zt,zt,rfl,rfl⟩
 ·rintro m ⟨tm,df,Hc⟩ ⟨i,Hc',idL,g,M,vs,ps,rfl,hi,hst,hM,hL,hidL,hlvl,hids,h0,h1,h5,h6,rfl,rfl⟩;dsimp only at h0 h1 h5 h6;(try refine zbC ?_);refine zar (zbH (zr2 h0 h6) ?_);refine zwh ?_ ?_;rotate_left
  ·intro hlt;have hlt:¬i<l.length:=by have:=of_decide_eq_false hlt;omega
   obtain rfl:i=l.length:=zo;refine zOF h5 ?_;rw[<- hkl,zBS9]at hlvl;exact⟨hst,idL,g,M,vs,ps,rfl,hM,hidL,hL,hlvl,hids⟩
  intro hlt;have hlt:i<l.length:=by have:=of_decide_eq_true hlt;omega
  obtain⟨x,hx⟩:∃x,l[i]?=some x:=⟨_,zAA9 hlt⟩
  obtain⟨b,hbb⟩:∃b,bs[i]?=some b:=⟨_,zAA9 zo⟩
  obtain⟨px,hpx⟩:∃px,ps8[i]?=some px:=⟨_,zAA9 (by rw[hlv.lenP];exact hlt)⟩
  have hv8:=(hlv.val i x px hx hpx).1;have hbv:(bfl bs)[i]?=some (iv b):=by rw[zAI9,hbb];rfl
  have hbm:=hb b (zAJ9 hbb);have hxl:=hl0 x (zAJ9 hx);have hkx:ks.getD i (0,0)=(x.low,b):=by
   have:ks[i]?=some (x.low,b):=by rw[<- hks,zEB9];exact⟨by rw[zAI9,hx];rfl,hbb⟩
   exact getD_some this
  have hstep:=ztX (lv+1) ks i zo;rw[hkx]at hstep;have h8:=hst i8 _ hr8;have h13:=hst i13 _ hr13;have hblen:(bfl bs).length=l.length:=by rw[zAX9,hlen]
  have r1:(i:Int).tmod 19=((i%19:Nat):Int):=rfl;have hal:(zcS (lv+1) (ks.take i)).length<=1000:=by rw[zeu,zAN9];omega
  have hvl:=hlvl.lenV;refine zB ?_;refine zF ?_
  by_cases hm:i%19=0
  ·have g1:((i%19:Nat):Int)=0:=zo;have hl1:IntKind.i64.wrap ((x.level:Int)+1)=((lv+1:Nat):Int):=zwi;have hbb2:(vs.length+1)*65<=140737488355328:=zo;have hLX:∀X,(Hc++X)[idL]?=some (.row 143 6 g M vs):=fun X=>zbM hL;unfold zmW at hstep;rw[if_pos hm]at hstep;refine zB ?_;refine zB ?_;refine zbH (zr3 h6 r1 g1) ?_;refine zct ?_;refine zB ?_;refine zbc ?_;refine zcI (zfa h0 h1 h5 h6 h8 h13 hL hLX hv8 hbv hlt (zr3 hM8 hl1 hbb2)) ?_;refine zQF h0 ?_;refine zjb ?_;refine zJF h6 ?_;refine⟨_,?m,i+1,_,idL,g+1,M,vs++[zcB ⟨lv+1,0,x.low,b,0,[]⟩ .nilsl],ps++[.nilsl],rfl,hlt,(hst.app _).set hidL _,by omega,zAY9 (by rw[zAB9];have:=(zAC9.1 hL).1;omega),hidL,?L,?I,zu h0,zu h1,zt,zu h6,rfl,rfl⟩
   case m=>omega
   case L=>rw[hstep];exact(hlvl.snoc _ rfl).other hL (fun h=>absurd (show (143:Nat)=92 from h) (by decide)) _
   case I =>
    intro p hp a ha;rcases zBF9.1 hp with hp|hp
    ·exact hids p hp a ha
    ·obtain rfl:=zBO9.1 hp;cases ha
  ·have g1:¬((i%19:Nat):Int)=0:=zo;have hne:(zcS (lv+1) (ks.take i)).length≠0:=by rw[zeu,zAN9];omega
   obtain⟨front,nd,hfr⟩:=zjs (l:=zcS (lv+1) (ks.take i)) (fun e=>hne (by rw[e];rfl));rw[hfr]at hlvl hstep hal;have hvl:=hlvl.lenV;have hpl:=hlvl.lenP;rw[zAB9]at hvl hpl;obtain⟨vf,v,rfl,hvf⟩:=zic hvl;obtain⟨pf,p,rfl,hpf⟩:=zic hpl;have hat:=hlvl.val front.length nd p (by simp) (by rw[<- hpf];simp);have hv:v=zcB nd p:=by
    have h:=hat.1;rw[<- hvf,zAU9 (zAE9 _),Nat.sub_self]at h;injection h
   subst hv;have hpa:=hat.2;have hpid:=hids p (zEQ9 _ (zBO9.2 rfl));unfold zmW at hstep;rw[if_neg hm]at hstep;simp only[zEC9,zDQ9]at hstep;have hvfl:vf.length<=1000:=by rw[zAB9]at hal;omega
   have hsub:IntKind.i64.wrap (((vf.length+1:Nat):Int)-1)=(vf.length:Int):=zwi;have hvv:(vf++[zcB nd p]).length=vf.length+1:=by simp
   have hvi:vf.length<vf.length+1:=zCE9 _;have hvg:(vf++[zcB nd p])[vf.length]?=some (zcB nd p):=by simp
   have hvs:∀y,(vf++[zcB nd p]).set vf.length y=vf++[y]:=fun y=>by simp
   have hLX:∀X,(Hc++X)[idL]?=some (.row 143 6 g M (vf++[zcB nd p])):=fun X=>zbM hL;rw[hvv]at h5;refine zB ?_;refine zB ?_;refine zbH (zr3 h6 r1 g1) ?_;refine zcf ?_;refine zas ?_;show W _ _ _ _ _ _;refine zB ?_;refine zB ?_;refine zbH (zr2 h5 hsub) ?_;refine zB ?_;refine zbc ?_;rcases hpa with⟨rfl,hnp⟩|⟨idp,gp,rfl,hrp⟩
   ·have hbb2:1*17<=140737488355328:=zo;have hLXY:∀X Y,(Hc++X++Y)[idL]?=some (.row 143 6 g M (vf++[zcB nd .nilsl])):=fun X Y=>zbM (zbM hL);refine zcI (zfa h0 h1 h5 h6 h8 h13 hL hLX hM hv8 hbv (zr4 hlt hM8 hvg hvi)) ?_;refine zcI (ziC h0 h1 h5 h6 hL hLX hLXY hM hvg hvi hvs) ?_;refine zQF h0 ?_;refine zJF h6 ?_;have hlc:idL<Hc.length:=(zAC9.1 hL).1;refine⟨_,?m,i+1,_,idL,g,g,vf++[zcB (zdr nd (nd.pairs++[(x.low,b)])) (.sl (Hc.length+1) 0 0 1 2 2)],pf++[.sl (Hc.length+1) 0 0 1 2 2],rfl,hlt,((hst.app _).app _).set hidL _,zAE9 _,?G,hidL,?L,?I,zu h0,zu h1,zu h5,zu h6,rfl,rfl⟩
    case m=>omega
    case G =>
     rw[zAY9 (by simp only[zAB9,zAG9,zAH9];omega)];simp[zdr]
    case L =>
     rw[hstep];refine hlvl.last hvf hpf ?_ (fun a ha=>?_) (fun id o ho hi=>?_)
     ·refine .inr ⟨Hc.length+1,0,by simp[zdr,hnp],?_⟩;rw[zAT9 zo];simp[zdr,hnp]
     ·right
      have:Hc.length+1=a:=by simpa[zeC]using ha
      show Hc.length<=a;omega
     ·left
      have hne:idL≠id:=fun e=>by subst e;rw[hL]at hi;injection hi with hi;subst hi;exact absurd (show (143:Nat)=92 from ho) (by decide)
      rw[zAT9 hne];exact zbM (zbM hi)
    case I =>
     intro p hp a ha;rcases zBF9.1 hp with hp|hp
     ·exact hids p (zFN9 _ hp) a ha
     ·obtain rfl:=zBO9.1 hp;have:Hc.length+1=a:=by simpa[zeC]using ha
      have:=zAC9.1 hL;omega
   ·have hkl2:nd.pairs.length<=18:=zuJ (n:=nd) (by rw[hfr];exact zEQ9 _ (zBO9.2 rfl));have hbb2:(nd.pairs.length+1)*17<=140737488355328:=zo;have hrX:∀X,(Hc++X)[idp]?=some (.row 92 2 gp 0 (nd.pairs.map pv)):=fun X=>zbM hrp;have hipl:idp<Hc.length:=(zAC9.1 hrp).1;have hidp:H.length<=idp:=hpid idp rfl;have d1:idL≠idp:=fun e=>by subst e;rw[hL]at hrp;injection hrp with hrp;injection hrp with hrp;cases hrp
    have d2:i8≠idp:=by have:=(zAC9.1 hr8).1;omega
    have d3:i13≠idp:=by have:=(zAC9.1 hr13).1;omega
    have d4:Hc.length≠idp:=zo;have b1:(idL==idp)=false:=by simpa using d1
    have b2:(i8==idp)=false:=by simpa using d2
    have b3:(i13==idp)=false:=by simpa using d3
    have b4:(Hc.length==idp)=false:=by simpa using d4
    have b1':(idp==idL)=false:=by simpa using d1.symm
    have b2':(idp==i8)=false:=by simpa using d2.symm
    have b3':(idp==i13)=false:=by simpa using d3.symm
    have b4':(idp==Hc.length)=false:=by simpa using d4.symm
    have hLS:∀X y,((Hc++X).set idp y)[idL]?=some (.row 143 6 g M (vf++[zcB nd (.sl idp gp 0 nd.pairs.length (2*nd.pairs.length) 2)])):=fun X y=>by rw[zAT9 (fun e=>d1 e.symm)];exact zbM hL
    refine zcI (zfa h0 h1 h5 h6 h8 h13 hL hLX hM hv8 hbv (zr6 hlt hM8 hvg hvi hrX hbb2)) ?_;refine zda ?_ (by simp(disch:=omega)only[go_sem,h0,h1,h5,h6,hL,hLX,hLS,hM,hvg,hvi,hvs,b1,b2,b3,b4,b1',b2',b3',b4']<;>rfl) (by first|exact trivial|simp only[go_sem,h0,h1,h5,h6,hL,hLX,hLS,hM,hvg,hvi,hvs,b1,b2,b3,b4,b1',b2',b3',b4']);refine zQF h0 ?_;refine zJF h6 ?_;have hlc:idL<Hc.length:=(zAC9.1 hL).1;refine⟨_,?m,i+1,_,idL,g,g,vf++[zcB (zdr nd (nd.pairs++[(x.low,b)])) (.sl idp (gp+1) 0 (nd.pairs.length+1) (2*(nd.pairs.length+1)) 2)],pf++[.sl idp (gp+1) 0 (nd.pairs.length+1) (2*(nd.pairs.length+1)) 2],rfl,hlt,((hst.app _).set hidp _).set hidL _,zAE9 _,?G,hidL,?L,?I,zu h0,zu h1,zu h5,zu h6,rfl,rfl⟩
    case m=>omega
    case G =>
     rw[zAY9 (by simp only[zBU9,zAB9,zAG9,zAH9];omega)];simp[zdr]
    case L =>
     rw[hstep];refine hlvl.last hvf hpf ?_ (fun a ha=>?_) (fun id o ho hi=>?_)
     ·refine .inr ⟨idp,gp+1,by simp[zdr],?_⟩;rw[zAT9 d1,zAY9 (by simp only[zAB9,zAG9,zAH9];omega)];simp[zdr]
     ·left
      exact ha
     ·by_cases he:idp=id
      ·right;rw[<- he];rfl
      ·left
       have hne:idL≠id:=fun e=>by subst e;rw[hL]at hi;injection hi with hi;subst hi;exact absurd (show (143:Nat)=92 from ho) (by decide)
       rw[zAT9 hne,zAT9 he];exact zbM hi
    case I =>
     intro p hp a ha;rcases zBF9.1 hp with hp|hp
     ·exact hids p (zFN9 _ hp) a ha
     ·obtain rfl:=zBO9.1 hp;have:idp=a:=by simpa[zeC]using ha
      omega
def zcA (a:Nat)(H H':List zd):Prop:=∀(id:Nat) (o:zd),id≠a->H[id]?=some o->H'[id]?=some o
theorem zcA.refl (a:Nat)(H:List zd):zcA a H H:=fun _ _ _ h=>h
theorem zcA.app {a:Nat}{H Hc:List zd}(h:zcA a H Hc)(X:List zd):zcA a H (Hc++X):=fun id o hi ho=>zbM (h id o hi ho)
theorem zcA.set {a:Nat}{H Hc:List zd}(h:zcA a H Hc)(o':zd):zcA a H (Hc.set a o'):=fun id o hi ho=>by
 rw[zAT9 (fun e=>hi e.symm)];exact h id o hi ho
theorem zcA.trans {a:Nat}{H H' H'':List zd}(h:zcA a H H')(k:zcA a H' H''):zcA a H H'':=fun id o hi ho=>k id o hi (h id o hi ho)
theorem zl1 {H X:List zd}{a:Nat}{o o':zd}(h:H[a]?=some o):((H++X).set a o')[a]?=some o':=by grind
theorem zxU (q:Nat)(free:List Nat)(used n:Nat)(hfl:free.length<1000000)(hul:used+n<=free.length)(tm:Nat->PV)(H:List zd)(idL g:Nat)(z8:Nat)(idA:Nat)(hA:H[idA]?=some (.row 3 1 0 0 []))(h1:tm 1=.list q 1 (bfl free))(h8:tm 8=.sl idL g 0 n z8 6)(h12:tm 12=iv used)(h13:tm 13=.sl idA 0 0 0 0 1)(h14:tm 14=iv 0){Q:FX->FSt->Prop}
  (hQ:∀(tm':Nat->PV) (H':List zd),zcA idA H H'->H'[idA]?=some (.row 3 1 n 0 (bfl ((free.drop used).take n)))->(∀k,k≠13->k≠14->(k<74\/88<k)->tm' k=tm k)->tm' 13=.sl idA n 0 n (2*n) 1->Q .norm ⟨tm',[],H'⟩) :
  W ET ET.caught none c36_4 ⟨tm,[],H⟩ Q:=by
 unfold c36_4 xC;have hbg:∀i,i<n->((free.drop used).take n)[i]?=some (free.getD (used+i) 0):=fun i hi=>by
  rw[zCY9,if_pos hi,zFB9,zAP9,zAA9 (show used+i<free.length by omega)];rfl
 have hbl:((free.drop used).take n).length=n:=by rw[zAN9,zBG9];omega
 generalize hbs:(free.drop used).take n=bs at *
 refine zF (zbJ (fun m s=>∃(i:Nat) (Hc:List zd),m=n-i/\i<=n/\zcA idA H Hc/\Hc[idA]?=some (.row 3 1 i 0 (bfl (bs.take i)))/\(∀k,k≠13->k≠14->(k<74\/88<k)->s.tm k=tm k)/\s.tm 13=.sl idA i 0 i (2*i) 1/\s.tm 14=iv i/\s.df=[]/\s.H=Hc) (n:=n) ?_ ?_)
 ·exact⟨0,H,rfl,zAL9 _,.refl _ _,hA,fun k _ _ _=>rfl,h13,h14,rfl,rfl⟩
 ·rintro m ⟨tn,df,Hc⟩ ⟨i,Hc',rfl,hi,hst,hr,hf,h13',h14',rfl,rfl⟩;dsimp only at hf h13' h14';have h1':=(hf 1 (by decide) (by decide) (by decide)).trans h1;have h8':=(hf 8 (by decide) (by decide) (by decide)).trans h8;have h12':=(hf 12 (by decide) (by decide) (by decide)).trans h12;(try refine zbC ?_);refine zar (zbH (zr2 h8' h14') ?_);refine zwh ?_ ?_
  ·intro hlt;have hlt:i<n:=by have:=of_decide_eq_true hlt;omega
   have hfi:used+i<free.length:=zo;have hfv:(bfl free)[used+i]?=some (iv (free.getD (used+i) 0:Nat)):=by rw[zAI9,zAA9 hfi,zAP9,zAA9 hfi];rfl
   have e1:((used:Int)+(i:Int))=((used+i:Nat):Int):=zo;have hb2:(i+1)*9<=140737488355328:=zo;have hlen:(bfl (bs.take i)).length=i:=by rw[zAX9,zAN9];omega
   have hX:∀X,(Hc++X)[idA]?=some (.row 3 1 i 0 (bfl (bs.take i))):=fun X=>zbM hr;have hstep:bfl (bs.take (i+1))=bfl (bs.take i)++[iv (free.getD (used+i) 0:Nat)]:=by
    rw[zBQ9,hbg i hlt];simp
   generalize free.getD (used+i) 0=b at *
   refine zB ?_;refine zF ?_;refine zB ?_;refine zJF (zhk h1' h12' h13' h14' e1 hfi hfv hb2 hlen hX) ?_;refine zJF h14' ?_;refine⟨_,?m,i+1,_,rfl,hlt,(hst.app _).set _,?G,fun k k1 k2 k3=>?_,zt,zu h14',rfl,rfl⟩
   case m=>omega
   case G=>rw[zl1 hr,hstep]
   ·simp(disch:=omega)only[zdK];exact hf k k1 k2 k3
  ·intro hlt;have hlt:¬i<n:=by have:=of_decide_eq_false hlt;omega
   obtain rfl:i=n:=zo;refine hQ _ Hc hst (by rw[hr,<- hbl,zBS9]) (fun k k1 k2 k3=>?_) (by simp[upd,h13']);simp(disch:=omega)only[zdK];exact hf k k1 k2 k3
theorem zw0 (bs ws:List Nat)(i b:Nat)(hb:bs[i]?=some b)(hbm:b<2048)(hws:ws.length=64)(hbs:bs.length<1000000)(tm:Nat->PV)(H:List zd)(idO:Nat)(V0:List PV)(hV0:V0.length<1000000)(idA gA:Nat)(hne:idA≠idO)(hO:H[idO]?=some (.row 120 2 V0.length 0 V0))(hA:H[idA]?=some (.row 3 1 gA 0 (bfl bs)))(h11:tm 11=.sl idO V0.length 0 V0.length (2*V0.length) 2)(h13:tm 13=.sl idA gA 0 bs.length (2*bs.length) 1)(h15:tm 15=iv i)(h16:tm 16=wv 0 ws)(h17:tm 17=iv 0){Q:FX->FSt->Prop}
  (hQ:∀(tm':Nat->PV) (H':List zd) (V:List PV),V=V0++(zjp b ws).map zec->zcA idO H H'->H'[idO]?=some (.row 120 2 V.length 0 V)->(∀k,k≠11->k≠17->(k<114\/132<k)->tm' k=tm k)->tm' 11=.sl idO V.length 0 V.length (2*V.length) 2->Q .norm ⟨tm',[],H'⟩) :
  W ET ET.caught none c36_8 ⟨tm,[],H⟩ Q:=by
 unfold c36_8 xC;refine zF (zbJ (fun m s=>∃(j:Nat) (V:List PV) (Hc:List zd),m=64-j/\j<=64/\V=V0++((List.range j).map fun k=>(64*b+k,ws.getD k 0)).map zec/\zcA idO H Hc/\Hc[idO]?=some (.row 120 2 V.length 0 V)/\(∀k,k≠11->k≠17->(k<114\/132<k)->s.tm k=tm k)/\s.tm 11=.sl idO V.length 0 V.length (2*V.length) 2/\s.tm 17=iv j/\s.df=[]/\s.H=Hc) (n:=64) ?_ ?_)
 ·exact⟨0,V0,H,rfl,zAL9 _,by simp,.refl _ _,hO,fun k _ _ _=>rfl,h11,h17,rfl,rfl⟩
 ·rintro m ⟨tn,df,Hc⟩ ⟨j,V,Hc',rfl,hj,hV,hst,hr,hf,h11',h17',rfl,rfl⟩;dsimp only at hf h11' h17';have h13':=(hf 13 (by decide) (by decide) (by decide)).trans h13;have h15':=(hf 15 (by decide) (by decide) (by decide)).trans h15;have h16':=(hf 16 (by decide) (by decide) (by decide)).trans h16;have hVl:V.length=V0.length+j:=by rw[hV];simp
  (try refine zbC ?_);refine zar (zbH h17' ?_);refine zwh ?_ ?_
  ·intro hlt;have hlt:j<64:=by have:=of_decide_eq_true hlt;omega
   have hA':=hst idA _ hne hA;have hbv:(bfl bs)[i]?=some (iv b):=by rw[zAI9,hb];rfl
   have hib:i<bs.length:=(zAC9.1 hb).1;have hlt2:j<ws.length:=zo;have hqv:(ws.map uv)[j]?=some (uv (ws.getD j 0)):=by rw[zAI9,zAA9 hlt2,zAP9,zAA9 hlt2];rfl
   have hb2:(V.length+1)*17<=140737488355328:=zo;have hV2:V++[zec (64*b+j,ws.getD j 0)]=V0++((List.range (j+1)).map fun k=>(64*b+k,ws.getD k 0)).map zec:=by rw[zDI9,hV];simp
   have e1:IntKind.i64.wrap (64*(b:Int))=((64*b:Nat):Int):=zwi;have e2:IntKind.i64.wrap (((64*b:Nat):Int)+(j:Int))=((64*b+j:Nat):Int):=zwi;have hX:∀X,(Hc++X)[idO]?=some (.row 120 2 V.length 0 V):=fun X=>zbM hr;refine zB ?_;refine zF ?_;refine zB ?_;refine zbc ?_;refine zcI (zfa h11' h13' h15' h16' h17' hA' hbv hib hlt2 hqv e1 (zr3 e2 hb2 hX)) ?_;refine zQF h15' ?_;refine zJF h17' ?_;refine⟨_,?m,j+1,V++[zec (64*b+j,ws.getD j 0)],_,rfl,hlt,hV2,(hst.app _).set _,?G,fun k k1 k2 k3=>?_,zt,zu h17',rfl,rfl⟩
   case m=>omega
   case G=>rw[zl1 hr,zAB9];rfl
   ·simp(disch:=omega)only[zdK];exact hf k k1 k2 k3
  ·intro hlt;have hlt:¬j<64:=by have:=of_decide_eq_false hlt;omega
   obtain rfl:j=64:=zo;refine hQ _ Hc V (by rw[hV,zjp,hws]) hst hr (fun k k1 k2 k3=>?_) (by simp[upd,h11']);simp(disch:=omega)only[zdK];exact hf k k1 k2 k3
theorem zrs {l:List Pr}{n:zH}(h:n∈zck l):n.pairs.length<=18:=by
 rw[zhr]at h;obtain⟨i,_,rfl⟩:=zAK9.1 h;show ((l.drop (18*i)).take 18).length<=18
 grind
set_option maxHeartbeats 4000000 in
theorem zwI (p:Nat)(l:List Pr)(hl:l.length<=500)(tm:Nat->PV)(H:List zd)(idL g0 M0:Nat)(vs0 ps0:List PV)(hM0:M0<=g0)(hL0:H[idL]?=some (.row 143 6 g0 M0 vs0))(hlv0:Lvl H vs0 ps0 (zck []))(h0:tm 0=psv p l)(h8:tm 8=.sl idL g0 0 vs0.length (2*vs0.length) 6)(h9:tm 9=iv 0){Q:FX->FSt->Prop}
  (hQ:∀(tm':Nat->PV) (H':List zd) (g M:Nat) (vs ps:List PV),M<=g->H'[idL]?=some (.row 143 6 g M vs)->Lvl H' vs ps (zck l)->(∀k,k≠8->k≠9->k≠10->(k<34\/73<k)->tm' k=tm k)->tm' 8=.sl idL g 0 vs.length (2*vs.length) 6->Q .norm ⟨tm',[],H'⟩) :
  W ET ET.caught none c36_0 ⟨tm,[],H⟩ Q:=by
 unfold c36_0 xC;refine zF (zbJ (fun m s=>∃(i:Nat) (Hc:List zd) (g M:Nat) (vs ps:List PV),m=l.length-i/\i<=l.length/\M<=g/\Hc[idL]?=some (.row 143 6 g M vs)/\Lvl Hc vs ps (zck (l.take i))/\(∀k,k≠8->k≠9->k≠10->(k<34\/73<k)->s.tm k=tm k)/\s.tm 8=.sl idL g 0 vs.length (2*vs.length) 6/\s.tm 9=iv i/\s.df=[]/\s.H=Hc) (n:=l.length) ?_ ?_)
 ·exact⟨0,H,g0,M0,vs0,ps0,rfl,zAL9 _,hM0,hL0,by rw[List.take_zero];exact hlv0,fun k _ _ _ _=>rfl,h8,h9,rfl,rfl⟩
 ·rintro m ⟨tn,df,Hc⟩ ⟨i,Hc',g,M,vs,ps,rfl,hi,hM,hL,hlvl,hf,h8',h9',rfl,rfl⟩;dsimp only at hf h8' h9';have h0':=(hf 0 (by decide) (by decide) (by decide) (by decide)).trans h0;(try refine zbC ?_);refine zar (zbH (zr2 h0' h9') ?_);refine zwh ?_ ?_;rotate_left
  ·intro hlt;have hlt:¬i<l.length:=by have:=of_decide_eq_false hlt;omega
   obtain rfl:i=l.length:=zo;rw[zBS9]at hlvl;refine hQ _ Hc g M vs ps hM hL hlvl (fun k k1 k2 k3 k4=>?_) (by simp[upd,h8']);simp(disch:=omega)only[zdK];exact hf k k1 k2 k3 k4
  intro hlt;have hlt:i<l.length:=by have:=of_decide_eq_true hlt;omega
  obtain⟨x,hx⟩:∃x,l[i]?=some x:=⟨_,zAA9 hlt⟩
  have hxv:(l.map pv)[i]?=some (pv x):=by rw[zAI9,hx];rfl
  have hstep:=zv4 l i hlt;rw[getD_some hx]at hstep;have r1:(i:Int).tmod 18=((i%18:Nat):Int):=rfl;have hnl:(zck (l.take i)).length<=28:=by rw[zeN,zAN9];omega
  have hvl:=hlvl.lenV;have hfew:∀n∈zf4 i x (zck (l.take i)),n.pairs.length<=18:=by
   intro n hn;unfold zf4 at hn
   split at hn
   ·rcases zBF9.1 hn with hn|hn
    ·exact zrs hn
    ·obtain rfl:=zBO9.1 hn;exact zAL9 _
   ·exact zrs hn
  have hnz:zf4 i x (zck (l.take i)) ≠ []:=by
   unfold zf4
   split
   ·simp
   ·intro e;have:=congrArg List.length e;rw[zeN]at this;simp at this
  have hnw:(zf4 i x (zck (l.take i))).length<=29:=by
   unfold zf4
   split
   ·rw[zAB9];simp;omega
   ·omega
  generalize hnodes:zf4 i x (zck (l.take i))=nodes at hstep hfew hnz hnw;refine zB ?_;refine zF ?_;refine zar (zcV (Q:=fun y s'=>y=.norm/\∃(g M:Nat) (vs ps:List PV),M<=g/\s'.H[idL]?=some (.row 143 6 g M vs)/\Lvl s'.H vs ps nodes/\(∀k,k≠8->k≠9->k≠10->(k<34\/73<k)->s'.tm k=tn k)/\s'.tm 8=.sl idL g 0 vs.length (2*vs.length) 6/\s'.tm 9=iv i/\s'.df=[]) ?_ ?_)
  ·by_cases hm:0<i/\i%18=0
   ·have g1:((i%18:Nat):Int)=0:=zo;have g0:(0:Int)<(i:Int):=zo;have hbb2:(vs.length+1)*65<=140737488355328:=zo;have hLX:∀X,(Hc++X)[idL]?=some (.row 143 6 g M vs):=fun X=>zbM hL;unfold zf4 at hnodes;rw[if_pos hm]at hnodes;refine zB ?_;refine zB ?_;refine zbH (zr4 h9' r1 g1 g0) ?_;refine zct ?_;refine zau ?_;refine zKF (zr7 h0' h8' h9' hxv hlt hbb2 hLX) ?_;refine⟨rfl,g+1,M,vs++[zcB ⟨0,0,x.1,9223372036854775808,0,[]⟩ .nilsl],ps++[.nilsl],by omega,zl1 hL,?_,fun k k1 k2 k3 k4=>?_,zt,zu h9',rfl⟩
    ·rw[<- hnodes];exact(hlvl.snoc _ rfl).other hL (fun h=>absurd (show (143:Nat)=92 from h) (by decide)) _
    ·simp(disch:=omega)only[zdK]
   ·unfold zf4 at hnodes;rw[if_neg hm]at hnodes
    by_cases g0:0<i
    ·have g0':(0:Int)<(i:Int):=zo;have g1:¬((i%18:Nat):Int)=0:=zo;refine zB ?_;refine zB ?_;refine zbH (zr4 h9' r1 g1 g0') ?_;refine zcf ?_;refine zas ⟨rfl,g,M,vs,ps,hM,hL,by rw[<- hnodes];exact hlvl,fun k k1 k2 k3 k4=>?_,zu h8',zu h9',rfl⟩;simp(disch:=omega)only[zdK]
    ·obtain rfl:i=0:=zo;refine zB ?_;refine zB ?_;refine zbH h9' ?_;refine zcf ?_;refine zas ⟨rfl,g,M,vs,ps,hM,hL,by rw[<- hnodes];exact hlvl,fun k k1 k2 k3 k4=>?_,zu h8',zu h9',rfl⟩;simp(disch:=omega)only[zdK]
  clear hM hL hlvl hvl h8' h9';rintro y ⟨tq,df,Hc⟩ ⟨rfl,g,M,vs,ps,hM,hL,hlvl,hf2,h8',h9',rfl⟩;dsimp only at hM hL hlvl hf2 h8' h9';have h0q:=(hf2 0 (by decide) (by decide) (by decide) (by decide)).trans h0';obtain⟨front,nd,hfr⟩:=zjs (l:=nodes) hnz;subst hfr;have hvl:=hlvl.lenV;have hpl:=hlvl.lenP;rw[zAB9]at hvl hpl;obtain⟨vf,v,rfl,hvf⟩:=zic hvl;obtain⟨pf,p',rfl,hpf⟩:=zic hpl;have hat:=hlvl.val front.length nd p' (by simp) (by rw[<- hpf];simp);have hv:v=zcB nd p':=by
   have h:=hat.1;rw[<- hvf,zAU9 (zAE9 _),Nat.sub_self]at h;injection h
  subst hv;have hpa:=hat.2;have hkl2:nd.pairs.length<=18:=hfew nd (zEQ9 _ (zBO9.2 rfl));unfold zqb at hstep;simp only[zEC9,zDQ9]at hstep;have hvfl:vf.length<=1000:=by rw[zAB9]at hnw;omega
  have hsub:IntKind.i64.wrap (((vf.length+1:Nat):Int)-1)=(vf.length:Int):=zwi;have hvv:(vf++[zcB nd p']).length=vf.length+1:=by simp
  have hvi:vf.length<vf.length+1:=zCE9 _;have hvg:(vf++[zcB nd p'])[vf.length]?=some (zcB nd p'):=by simp
  have hvs:∀y,(vf++[zcB nd p']).set vf.length y=vf++[y]:=fun y=>by simp
  have hLX:∀X,(Hc++X)[idL]?=some (.row 143 6 g M (vf++[zcB nd p'])):=fun X=>zbM hL;rw[hvv]at h8';refine zB ?_;refine zB ?_;refine zbH (zr2 h8' hsub) ?_;refine zB ?_;refine zbc ?_;rcases hpa with⟨rfl,hnp⟩|⟨idp,gp,rfl,hrp⟩
  ·have hLXY:∀X Y,(Hc++X++Y)[idL]?=some (.row 143 6 g M (vf++[zcB nd .nilsl])):=fun X Y=>zbM (zbM hL);refine zcI (zhk h0q h8' h9' hL hLX hM hxv hlt hvg hvi) ?_;refine zcI (zhk h0q h8' h9' hL hLX hLXY hM hvg hvi hvs) ?_;refine zQF h0q ?_;refine zJF h9' ?_;have hlc:idL<Hc.length:=(zAC9.1 hL).1;refine⟨_,?m,i+1,_,g,g,vf++[zcB (zdr nd (nd.pairs++[x])) (.sl (Hc.length+1) 0 0 1 2 2)],pf++[.sl (Hc.length+1) 0 0 1 2 2],rfl,hlt,zAE9 _,?G,?L,fun k k1 k2 k3 k4=>?_,zu h8',zu h9',rfl,rfl⟩
   case m=>omega
   case G =>
    rw[zAY9 (by simp only[zAB9,zAG9,zAH9];omega)];simp[zdr]
   case L =>
    rw[hstep];refine hlvl.last hvf hpf ?_ (fun a ha=>?_) (fun id o ho hi=>?_)
    ·refine .inr ⟨Hc.length+1,0,by simp[zdr,hnp],?_⟩;rw[zAT9 zo];simp[zdr,hnp]
    ·right
     have:Hc.length+1=a:=by simpa[zeC]using ha
     show Hc.length<=a;omega
    ·left
     have hne:idL≠id:=fun e=>by subst e;rw[hL]at hi;injection hi with hi;subst hi;exact absurd (show (143:Nat)=92 from ho) (by decide)
     rw[zAT9 hne];exact zbM (zbM hi)
   ·simp(disch:=omega)only[zdK];exact(hf2 k k1 k2 k3 k4).trans (hf k k1 k2 k3 k4)
  ·have hbb2:(nd.pairs.length+1)*17<=140737488355328:=zo;have hrX:∀X,(Hc++X)[idp]?=some (.row 92 2 gp 0 (nd.pairs.map pv)):=fun X=>zbM hrp;have hipl:idp<Hc.length:=(zAC9.1 hrp).1;have d1:idL≠idp:=fun e=>by subst e;rw[hL]at hrp;injection hrp with hrp;injection hrp with hrp;cases hrp
   have d4:Hc.length≠idp:=zo;have b1:(idL==idp)=false:=by simpa using d1
   have b4:(Hc.length==idp)=false:=by simpa using d4
   have b1':(idp==idL)=false:=by simpa using d1.symm
   have b4':(idp==Hc.length)=false:=by simpa using d4.symm
   have hLS:∀X y,((Hc++X).set idp y)[idL]?=some (.row 143 6 g M (vf++[zcB nd (.sl idp gp 0 nd.pairs.length (2*nd.pairs.length) 2)])):=fun X y=>by rw[zAT9 (fun e=>d1 e.symm)];exact zbM hL
   refine zcI (zfa h0q h8' h9' hL hLX hM hxv hlt hvg hvi hrX hbb2) ?_;refine zda ?_ (by simp(disch:=omega)only[go_sem,h0q,h8',h9',hL,hLX,hLS,hM,hvg,hvi,hvs,b1,b4,b1',b4']<;>rfl) (by first|exact trivial|simp only[go_sem,h0q,h8',h9',hL,hLX,hLS,hM,hvg,hvi,hvs,b1,b4,b1',b4']);refine zQF h0q ?_;refine zJF h9' ?_;have hlc:idL<Hc.length:=(zAC9.1 hL).1;refine⟨_,?m,i+1,_,g,g,vf++[zcB (zdr nd (nd.pairs++[x])) (.sl idp (gp+1) 0 (nd.pairs.length+1) (2*(nd.pairs.length+1)) 2)],pf++[.sl idp (gp+1) 0 (nd.pairs.length+1) (2*(nd.pairs.length+1)) 2],rfl,hlt,zAE9 _,?G,?L,fun k k1 k2 k3 k4=>?_,zu h8',zu h9',rfl,rfl⟩
   case m=>omega
   case G =>
    rw[zAY9 (by simp only[zBU9,zAB9,zAG9,zAH9];omega)];simp[zdr]
   case L =>
    rw[hstep];refine hlvl.last hvf hpf ?_ (fun a ha=>?_) (fun id o ho hi=>?_)
    ·refine .inr ⟨idp,gp+1,by simp[zdr],?_⟩;rw[zAT9 d1,zAY9 (by simp only[zAB9,zAG9,zAH9];omega)];simp[zdr]
    ·left
     exact ha
    ·by_cases he:idp=id
     ·right;rw[<- he];rfl
     ·left
      have hne:idL≠id:=fun e=>by subst e;rw[hL]at hi;injection hi with hi;subst hi;exact absurd (show (143:Nat)=92 from ho) (by decide)
      rw[zAT9 hne,zAT9 he];exact zbM hi
   ·simp(disch:=omega)only[zdK];exact(hf2 k k1 k2 k3 k4).trans (hf k k1 k2 k3 k4)
theorem Lvl.setNode {H:List zd}{vs ps:List PV}{nodes:List zH}(h:Lvl H vs ps nodes){q:Nat}{n n':zH}{p:PV}(hn:nodes[q]?=some n)(hp:ps[q]?=some p)(he:n'.pairs=n.pairs):Lvl H (vs.set q (zcB n' p)) ps (nodes.set q n'):=by
 have hq:q<nodes.length:=(zAC9.1 hn).1;refine⟨by simp[h.lenV],by simp[h.lenP],fun r m x hm hx=>?_,h.dist⟩
 by_cases hr:r=q
 ·subst hr;rw[zAY9 hq]at hm;rw[zAY9 (by rw[h.lenV];exact hq)];injection hm with hm;subst hm;rw[hp]at hx;injection hx with hx;subst hx;exact⟨rfl,by rw[he];exact(h.val r n p hn hp).2⟩
 ·rw[zAT9 (fun e=>hr e.symm)]at hm⊢;exact h.val r m x hm hx
theorem Lvl.but {H H':List zd}{vs ps:List PV}{nodes:List zH}(h:Lvl H vs ps nodes){a:Nat}{o:zd}(ha:H[a]?=some o)(ho:¬isP o)(k:zcA a H H'):Lvl H' vs ps nodes :=
 h.keep fun id q hq hi=>k id q (fun e=>by subst e;rw[ha]at hi;injection hi with hi;subst hi;exact ho hq) hi
theorem Lvl.set0 {H:List zd}{vs ps:List PV}{nodes:List zH}(h:Lvl H vs ps nodes){a:Nat}{o o':zd}(ha:H[a]?=some o)(ho:¬isP o):Lvl (H.set a o') vs ps nodes :=
 h.but ha ho ((zcA.refl a H).set o')
theorem zgD.frz {H:List zd}{p:PV}{ps:List Pr}(h:zgD H p ps):Frz H 1 p (psv 1 ps):=by
 rcases h with⟨rfl,rfl⟩|⟨id,g,rfl,h2⟩
 ·exact .nil _ _
 ·exact Frz.whole h2 rfl (by simp) (by simp) (fun v hv=>by obtain⟨x,_,rfl⟩:=zAK9.1 hv;rfl) zf0
def zgU (bs:List Nat)(q:Nat)(n:zH):zH:={ n with sib:=bs.getD (q+1) 0 }
set_option maxHeartbeats 4000000 in
theorem zwr (bs:List Nat)(nl:List zH)(hbl:bs.length=nl.length)(hnl:nl.length<=100)(hbm:∀b∈bs,b<2048)(hg:∀n∈nl,zde n/\n.sib=0)(tm:Nat->PV)(H:List zd)(idL idA idO g M0 gA:Nat)(vs0 ps V0:List PV)(hV0:V0.length<900000)(hM0:M0<=g)(hL0:H[idL]?=some (.row 143 6 g M0 vs0))(hlv0:Lvl H vs0 ps nl)(hA0:H[idA]?=some (.row 3 1 gA 0 (bfl bs)))(hO0:H[idO]?=some (.row 120 2 V0.length 0 V0))(h8:tm 8=.sl idL g 0 nl.length (2*nl.length) 6)(h11:tm 11=.sl idO V0.length 0 V0.length (2*V0.length) 2)(h13:tm 13=.sl idA gA 0 bs.length (2*bs.length) 1)(h15:tm 15=iv 0){Q:FX->FSt->Prop}
  (hQ:∀(tm':Nat->PV) (H':List zd) (M:Nat) (vs V:List PV),M<=g->H'[idL]?=some (.row 143 6 g M vs)->Lvl H' vs ps (zbO bs nl)->H'[idA]?=some (.row 3 1 gA 0 (bfl bs))->H'[idO]?=some (.row 120 2 V.length 0 V)->V=V0++(ziX bs (zbO bs nl)).map zec->(∀k,k<11\/(11<k/\k<15)\/132<k->tm' k=tm k)->tm' 11=.sl idO V.length 0 V.length (2*V.length) 2->Q .norm ⟨tm',[],H'⟩) :
  W ET ET.caught none c36_6 ⟨tm,[],H⟩ Q:=by
 unfold c36_6 xC;have hll:=zey bs nl hbl;have hVl:∀i,(((bs.zip (zbO bs nl)).take i).flatMap fun x=>zjp x.1 (zc1 x.2)).length<=64*i:=fun i=>by
  rw[zmm,zAN9];omega
 refine zF (zbJ (fun m s=>∃(i:Nat) (Hc:List zd) (M:Nat) (vs V:List PV) (nodes:List zH),m=nl.length-i/\i<=nl.length/\M<=g/\Hc[idL]?=some (.row 143 6 g M vs)/\Lvl Hc vs ps nodes/\nodes.length=nl.length/\(∀(q:Nat) (n:zH),nl[q]?=some n->nodes[q]?=some (if q<i then zgU bs q n else n))/\Hc[idA]?=some (.row 3 1 gA 0 (bfl bs))/\Hc[idO]?=some (.row 120 2 V.length 0 V)/\V=V0++(((bs.zip (zbO bs nl)).take i).flatMap fun x=>zjp x.1 (zc1 x.2)).map zec/\(∀k,k<11\/(11<k/\k<15)\/132<k->s.tm k=tm k)/\s.tm 11=.sl idO V.length 0 V.length (2*V.length) 2/\s.tm 15=iv i/\s.df=[]/\s.H=Hc) (n:=nl.length) ?_ ?_)
 ·exact⟨0,H,M0,vs0,V0,nl,rfl,zAL9 _,hM0,hL0,hlv0,rfl,fun q n hn=>by rw[if_neg (Nat.not_lt_zero _)];exact hn,hA0,hO0,by simp,fun k _=>rfl,h11,h15,rfl,rfl⟩
 ·rintro m ⟨tn,df,Hc⟩ ⟨i,Hc',M,vs,V,nodes,rfl,hi,hM,hL,hlvl,hnlen,hnode,hA,hO,hV,hf,h11',h15',rfl,rfl⟩;dsimp only at hf h11' h15';have h8':=(hf 8 (by decide)).trans h8;have h13':=(hf 13 (by decide)).trans h13;have hVli:=hVl i;have hVlen:V.length<=V0.length+64*i:=by rw[hV,zAB9,zAX9];omega
  (try refine zbC ?_);refine zar (zbH (zr2 h8' h15') ?_);refine zwh ?_ ?_;rotate_left
  ·intro hlt;have hlt:¬i<nl.length:=by have:=of_decide_eq_false hlt;omega
   obtain rfl:i=nl.length:=zo;have hnl2:nodes=zbO bs nl:=by
    apply zGK9
    intro q;rcases zDP9 q nl.length with hq|hq
    ·have hn:=zAA9 hq;rw[hnode q _ hn,if_pos hq,zff bs nl q _ hbl hn];rfl
    ·rw[zCX9 zo,zCX9 zo]
   rw[hnl2]at hlvl;refine hQ _ Hc M vs V hM hL hlvl hA hO ?_ (fun k k1=>?_) (by simp[upd,h11'])
   ·rw[hV,zBI9 (by simp;omega)];rfl
   ·simp(disch:=omega)only[zdK];exact hf k k1
  intro hlt;have hlt:i<nl.length:=by have:=of_decide_eq_true hlt;omega
  obtain⟨x,hx⟩:∃x,nl[i]?=some x:=⟨_,zAA9 hlt⟩
  obtain⟨b,hb⟩:∃b,bs[i]?=some b:=⟨_,zAA9 zo⟩
  obtain⟨p,hp⟩:∃p,ps[i]?=some p:=⟨_,zAA9 (by rw[hlvl.lenP];omega)⟩
  have hxn:nodes[i]?=some x:=by have:=hnode i x hx;rwa [if_neg (Nat.lt_irrefl _)]at this
  have hvx:=(hlvl.val i x p hxn hp).1;have hgx:=hg x (zAJ9 hx);have hli:=zff bs nl i x hbl hx;change (zbO bs nl)[i]?=some (zgU bs i x)at hli;have hbmb:=hbm b (zAJ9 hb);have hsib:bs.getD (i+1) 0<2048:=by
   rcases zDP9 (i+1) bs.length with h|h
   ·rw[zAP9,zAA9 h];exact hbm _ (zBK9 _)
   ·rw[zAP9,zCX9 zo];decide
  have hgx':zde (zgU bs i x):=hgx.1.setSib hsib;have dLO:idO≠idL:=fun e=>by subst e;rw[hL]at hO;injection hO with hO;injection hO with hO;cases hO
  have dLA:idA≠idL:=fun e=>by subst e;rw[hL]at hA;injection hA with hA;injection hA with hA;cases hA
  have dAO:idA≠idO:=fun e=>by subst e;rw[hO]at hA;injection hA with hA;injection hA with hA;cases hA
  have e2:((i:Int)+1)=((i+1:Nat):Int):=zo;have hvsl:i<vs.length:=by rw[hlvl.lenV];omega
  refine zB ?_;refine zF ?_;refine zar (zcV (Q:=fun y s'=>y=.norm/\∃(M:Nat) (vs:List PV) (nodes:List zH),M<=g/\s'.H[idL]?=some (.row 143 6 g M vs)/\Lvl s'.H vs ps nodes/\nodes.length=nl.length/\(∀(q:Nat) (n:zH),nl[q]?=some n->nodes[q]?=some (if q<i+1 then zgU bs q n else n))/\s'.H[idA]?=some (.row 3 1 gA 0 (bfl bs))/\s'.H[idO]?=some (.row 120 2 V.length 0 V)/\(∀k,k<15\/132<k->s'.tm k=tn k)/\s'.tm 15=iv i/\s'.df=[]) ?_ ?_)
  ·by_cases hi1:i+1<nl.length
   ·have g1:((i+1:Nat):Int)<(nl.length:Nat):=zo;have hi1b:i+1<bs.length:=zo;have hbv:(bfl bs)[i+1]?=some (iv (bs.getD (i+1) 0:Nat)):=by rw[zAI9,zAA9 hi1b,zAP9,zAA9 hi1b];rfl
    refine zB ?_;refine zB ?_;refine zbH (zr4 h8' h15' e2 g1) ?_;refine zct ?_;refine zau ?_;refine zKF (ziC h8' h13' h15' e2 hi1b hbv hA hL hM hvx hlt) ?_;refine⟨rfl,g,vs.set i (zcB (zgU bs i x) p),nodes.set i (zgU bs i x),zAE9 _,?G,?L,by simp[hnlen],?N,?A,?O,fun k k1=>?_,zu h15',rfl⟩
    case G=>rw[zAY9 (zAC9.1 hL).1];rfl
    case L=>exact(hlvl.setNode (n':=zgU bs i x) hxn hp rfl).set0 hL (fun h=>absurd (show (143:Nat)=92 from h) (by decide))
    case N =>
     intro q n hn
     by_cases hq:q=i
     ·subst hq;rw[zAY9 zo,if_pos (zCE9 _)];rw[hx]at hn;injection hn with hn;subst hn;rfl
     ·rw[zAT9 (fun e=>hq e.symm),hnode q n hn]
      by_cases h1:q<i
      ·rw[if_pos h1,if_pos zo]
      ·rw[if_neg h1,if_neg zo]
    case A=>rw[zAT9 (fun e=>dLA e.symm)];exact hA
    case O=>rw[zAT9 (fun e=>dLO e.symm)];exact hO
    ·simp(disch:=omega)only[zdK]
   ·have g1:¬((i+1:Nat):Int)<(nl.length:Nat):=zo;refine zB ?_;refine zB ?_;refine zbH (zr4 h8' h15' e2 g1) ?_;refine zcf ?_;refine zas ⟨rfl,M,vs,nodes,hM,hL,hlvl,hnlen,?_,hA,hO,fun k k1=>?_,zu h15',rfl⟩
    ·intro q n hn;rw[hnode q n hn]
     by_cases h1:q<i
     ·rw[if_pos h1,if_pos zo]
     ·by_cases hq:q=i
      ·subst hq;rw[if_neg h1,if_pos (zCE9 _)];rw[hx]at hn;injection hn with hn;subst hn;have h0:=hgx.2;unfold zgU;rw[zAP9,zCX9 (show bs.length<=q+1 by omega)];obtain⟨a1,a2,a3,a4,a5,a6⟩:=x;dsimp only at h0;rw[h0];rfl
      ·rw[if_neg h1,if_neg zo]
    ·simp(disch:=omega)only[zdK]
  clear hM hL hlvl hA hO hnlen hnode hxn hvx h15' hvsl;rintro y ⟨tq,df,Hc⟩ ⟨rfl,M,vs,nodes,hM,hL,hlvl,hnlen,hnode,hA,hO,hf2,h15',rfl⟩;dsimp only at hM hL hlvl hA hO hf2 h15';have hxn:nodes[i]?=some (zgU bs i x):=by have:=hnode i x hx;rwa [if_pos (zCE9 _)]at this
  have hvx:=hlvl.val i _ p hxn hp;have h8q:=(hf2 8 (by decide)).trans h8';have h11q:=(hf2 11 (by decide)).trans h11';have h13q:=(hf2 13 (by decide)).trans h13';have hw:=zuu 1 (zgU bs i x) hgx'.level hgx'.sib hgx'.way hgx'.few;have hfz:Frz Hc 1 (zcB (zgU bs i x) p) (zbU 1 (zgU bs i x)):=Frz.aggL ⟨.int _ _,.int _ _,.int _ _,.int _ _,.int _ _,hvx.2.frz,trivial⟩;have hvv:=hvx.1;generalize hx':zgU bs i x=x' at *
  refine zB ?_;refine zau ?_;refine zcz (zr6 h8q h15' hL hM hvv hlt) ?_;refine zhK (caps:=?_) (vs:=?_) ?_ ?_ hw ?_ ?_;rotate_left 2;(first|rfl|(simp only[zat,zaA,go_sem]<;>rfl));(simp only[go_sem]<;>rfl)
  ·exact⟨hfz,trivial⟩
  refine zN ?_;refine zB ?_;refine zI ?_;refine zbY ?_;refine zw0 bs (zc1 x') i b hb hbmb (zkJ _) zo _ Hc idO V zo idA gA dAO hO hA (by simp[upd,h11q]) (by simp[upd,h13q]) (by simp[upd,h15']) (by simp[upd]) (by simp[upd]) (fun tm2 H2 V2 hV2 hst hO2 hfr h11x=>?_);have h15x:tm2 15=iv i:=(hfr 15 (by decide) (by decide) (by decide)).trans (by simp[upd,h15']);refine zJF h15x ?_;refine⟨_,?m,i+1,H2,M,vs,V2,nodes,rfl,hlt,hM,hst idL _ dLO.symm hL,hlvl.but hO (fun h=>absurd (show (120:Nat)=92 from h) (by decide)) hst,hnlen,hnode,hst idA _ dAO hA,hO2,?_,fun k k1=>?_,by simp[upd,h11x],by simp[upd,h15x],rfl,rfl⟩
  case m=>omega
  ·rw[hV2,hV,zwn hb hli];simp
  ·simp(disch:=omega)only[zdK];rw[hfr k zo zo zo];simp(disch:=omega)only[zdK];exact(hf2 k zo).trans (hf k k1)
theorem f36:ET.funcs.get 36=some T36:=zD Tryz.func36
theorem zl5 {H:List zd}(n:Nat):Frz H 0 (.tuple [iv 0,.nilsl,iv 0,iv n]) (.tuple [iv 0,.list 0 2 (([]:List Pr).map zec),iv 0,iv n]):=Frz.tupL ⟨.int _ _,.nil _ _,.int _ _,.int _ _,trivial⟩
set_option maxHeartbeats 4000000 in
theorem zvQ (p q:Nat)(l:List Pr)(fr:List Int)(hl:l.length<=500)(hfr:fr.length<=2000):FN ET 36 [psv p l,.list q 1 (fr.map iv)] (ze9 l fr):=by
 refine zfn f36 (zwU l fr) ?_;refine zG ?_;refine zB ?_;refine zau ?_;have hris:=zsf p l zo;have hblk:=zsE q fr zo
 by_cases hokP:okP l=true
 rotate_left
 ·have hokP:okP l=false:=by simpa using hokP
  have he:ze9 l fr=zrA 2:=by unfold ze9;rw[hokP];rfl
  rw[hokP]at hris;refine zfx ?_;refine zca hris ?_;refine zN ?_;refine zU ?_;rw[he];exact zl5 2
 rw[hokP]at hris
 by_cases hokI:okI [] fr=true
 rotate_left
 ·have hokI:okI [] fr=false:=by simpa using hokI
  have he:ze9 l fr=zrA 2:=by unfold ze9;rw[hokI,Bool.and_false];rfl
  rw[hokI]at hblk;refine zfx ?_;refine zca hris ?_;refine zfx ?_;refine zca hblk ?_;refine zN ?_;refine zU ?_;rw[he];exact zl5 2
 rw[hokI]at hblk;refine zfx ?_;refine zca hris ?_;refine zfx ?_;refine zca hblk ?_;refine zN ?_;refine zcf ?_;refine zas ?_;show W _ _ _ _ _ _;obtain⟨free,rfl,hokF⟩:=zrI hokI;have hff:=(zhM free).1 hokF;have hfree:(free.map fun(b:Nat)=>(b:Int)).map Int.toNat=free:=by rw[zEG9];exact List.map_id free
 have hbE:ze9 l (free.map fun(b:Nat)=>(b:Int))=match zfD l free with
   | none=>zrA 221
   | some T=>bOk T:=by unfold ze9;rw[hokP,hokI,hfree];rfl
 have hfv:(free.map fun(b:Nat)=>(b:Int)).map iv=bfl free:=by rw[zEG9];rfl
 have hfl:free.length<=2000:=by simpa using hfr
 rw[hbE,hfv];have hfbl:(bfl free).length=free.length:=by rw[zAX9]
 refine zB ?_;refine zau ?_;refine zfx ?_;refine zca (zwB l.length hl) ?_
 by_cases hsp:free.length<zhh l.length
 ·have g:((free.length:Nat):Int)<(zhh l.length:Nat):=zo;have hn:=(zlI (free:=free) hl).2 hsp;refine zNF g ?_;refine zU ?_;rw[hn];exact zl5 221
 have g:¬((free.length:Nat):Int)<(zhh l.length:Nat):=zo;refine zNF g ?_;refine zcf ?_;refine zas ?_;show W _ _ _ _ _ _;obtain⟨TT,hTT⟩:∃TT,zfD l free=some TT:=by
  cases h:zfD l free with
  | none=>exact absurd ((zlI (free:=free) hl).1 h) hsp
  | some TT=>exact⟨TT,rfl⟩
 rw[hTT];refine zG ?_;refine zwI p l hl _ _ 0 0 0 [zcB ⟨0,0,0,9223372036854775808,0,[]⟩ .nilsl] [.nilsl] (zAE9 _) rfl ((Lvl.nil _).snoc ⟨0,0,0,9223372036854775808,0,[]⟩ rfl) (by simp[upd,zj]) (by simp[upd]) (by simp[upd]) (fun tm1 H1 g1 M1 vs1 ps1 hM1 hL1 hlv1 hf1 h81=>?_);have k1:tm1 1=.list q 1 (bfl free):=(hf1 1 (by decide) (by decide) (by decide) (by decide)).trans (by simp[upd,zj]);clear hf1;refine zG ?_;refine zdg 120 2 (i:=11) (by simp[upd]) ?_;simp only[lzy];have hO1:(H1++[zd.row 120 2 0 0 []])[H1.length]?=some (.row 120 2 0 0 []):=by simp
 have hL1':(H1++[zd.row 120 2 0 0 []])[0]?=some (.row 143 6 g1 M1 vs1):=zbM hL1;have hlv1':Lvl (H1++[zd.row 120 2 0 0 []]) vs1 ps1 (zck l):=hlv1.keep fun id o _ h=>zbM h;refine zF (zbJ (fun m s=>∃(k:Nat) (nl:List zH) (used:Nat) (T:List Lev) (Hc:List zd) (idL g M idO:Nat) (vs ps V:List PV),m=k/\1<=k/\3<=k+T.length/\zkz l free nl used T/\ziK free k nl used T=some TT/\used=(T.reverse.flatMap Prod.fst).length/\V=(zea T.reverse).map zec/\V.length=64*used/\M<=g/\Hc[idL]?=some (.row 143 6 g M vs)/\Lvl Hc vs ps nl/\Hc[idO]?=some (.row 120 2 V.length 0 V)/\s.tm 1=.list q 1 (bfl free)/\s.tm 8=.sl idL g 0 vs.length (2*vs.length) 6/\s.tm 11=.sl idO V.length 0 V.length (2*V.length) 2/\s.tm 12=iv used/\s.df=[]/\s.H=Hc) (n:=4) ?_ ?_)
 ·exact⟨4,zck l,0,[],_,0,g1,M1,H1.length,vs1,ps1,[],rfl,by decide,by decide,znC free hokP hl,hTT,rfl,rfl,rfl,hM1,hL1',hlv1',hO1,by simp[upd,k1],zu h81,zt,zt,rfl,rfl⟩
 ·clear hM1 hL1 hlv1 hL1' hlv1' hO1 k1 h81;rintro m ⟨tm,df,Hc⟩ ⟨k,nl,used,T,Hc',idL,g,M,idO,vs,ps,V,rfl,hk1,hk3,hI,hbd,hus,hV,hVl,hM,hL,hlvl,hO,h1,h8,h11,h12,rfl,rfl⟩;dsimp only at h1 h8 h11 h12;obtain⟨k,rfl⟩:∃k,m=k+1:=⟨m-1,by omega⟩
  have hnl0:0<nl.length:=zCI9.2 hI.ok.ne;have hnlb:nl.length<=28:=by
   have:=hI.bndL;have hb:∀t,bndL t<=28:=fun t=>by match t with|0=>decide|1=>decide|t+2=>exact(show 1<=28 by decide)
   exact zBJ9 this (hb _)
  rw[ziK]at hbd;have hul:=hI.used
  by_cases hsp2:free.length<used+nl.length
  ·rw[if_pos hsp2]at hbd;cases hbd
  rw[if_neg hsp2]at hbd;have hvn:=hlvl.lenV;rw[hvn]at h8;refine zB ?_;refine zF ?_;refine zG ?_;refine zdg 3 1 (i:=13) (by simp[upd]) ?_;simp only[lzy];have hlc:idL<Hc.length:=(zAC9.1 hL).1;have hoc:idO<Hc.length:=(zAC9.1 hO).1;refine zxU q free used nl.length zo zo _ _ idL g _ Hc.length (by simp) (by simp[upd,h1]) (by simp[upd,h8];rfl) (by simp[upd,h12]) (by simp[upd]) (by simp[upd]) (fun tm2 H2 hst2 hA2 hf2 h13=>?_);obtain⟨v1,v2,v3,v4,v5,v6,v7,v8⟩:=hI.level hokF hsp2;have hnx:=hI.next hokF hsp2;have hlvl3:=hI.lvl;have hL2:H2[idL]?=some (.row 143 6 g M vs):=hst2 idL _ zo (zbM hL);have hO2:H2[idO]?=some (.row 120 2 V.length 0 V):=hst2 idO _ zo (zbM hO);have hlv2:Lvl H2 vs ps nl:=hlvl.keep fun id o _ h=>hst2 id o (by have h1:id<Hc.length:=(zAC9.1 h).1;omega) (zbM h);have x1:tm2 1=.list q 1 (bfl free):=(hf2 1 (by decide) (by decide) (by decide)).trans (by simp[upd,h1]);have x8:tm2 8=.sl idL g 0 nl.length (2*nl.length) 6:=(hf2 8 (by decide) (by decide) (by decide)).trans (by simp[upd,h8]);have x11:tm2 11=.sl idO V.length 0 V.length (2*V.length) 2:=(hf2 11 (by decide) (by decide) (by decide)).trans (by simp[upd,h11]);have x12:tm2 12=iv used:=(hf2 12 (by decide) (by decide) (by decide)).trans (by simp[upd,h12]);clear hf2 hst2 h1 h8 h11 h12;generalize hbs:(free.drop used).take nl.length=bs at *
  refine zG ?_;refine zwr bs nl v1 zo (fun b hb=>(v4 b hb).2) (fun n hn=>⟨(hI.ok.each n hn).1,(hI.ok.each n hn).2.2⟩) _ H2 idL Hc.length idO g M nl.length vs ps V zo hM hL2 hlv2 hA2 hO2 (by simp[upd,x8]) (by simp[upd,x11]) (by simp[upd,h13,v1]) (by simp[upd]) (fun tm3 H3 M3 vs3 V3 hM3 hL3 hlv3 hA3 hO3 hV3 hf3 h11=>?_);have y1:tm3 1=.list q 1 (bfl free):=(hf3 1 (by decide)).trans (by simp[upd,x1]);have y8:tm3 8=.sl idL g 0 nl.length (2*nl.length) 6:=(hf3 8 (by decide)).trans (by simp[upd,x8]);have y12:tm3 12=iv used:=(hf3 12 (by decide)).trans (by simp[upd,x12]);have y13:tm3 13=.sl Hc.length nl.length 0 nl.length (2*nl.length) 1:=(hf3 13 (by decide)).trans (by simp[upd,h13]);clear hf3 x1 x8 x11 x12;have hpl:(ziX bs (zbO bs nl)).length=64*nl.length:=by
   unfold ziX;rw[zmm];simp[v1,zey bs nl v1]
  have hV4:V3=(zea ((bs,zbO bs nl)::T).reverse).map zec:=by
   rw[hV3,hV,zGH9,zea,zea,zEI9];simp
  have hV3l:V3.length=64*(used+nl.length):=by rw[hV3,zAB9,zAX9,hpl];omega
  have hus2:used+nl.length=(((bs,zbO bs nl)::T).reverse.flatMap Prod.fst).length:=by
   rw[zGH9,zEI9,zAB9,<- hus];simp[v1]
  have hw:IntKind.i64.wrap ((used:Int)+(nl.length:Int))=((used+nl.length:Nat):Int):=zwi
  by_cases ho:nl.length=1
  ·rw[if_pos ho]at hbd;injection hbd with hbd;subst hbd;have g1:((nl.length:Nat):Int)=1:=zo;obtain⟨b0,hb0⟩:=zEO9.1 (v1.trans ho);have hA0:(bfl bs)[0]?=some (iv b0):=by rw[hb0];rfl
   have hgA:0<=nl.length:=zAL9 _;refine zB ?_;refine zB ?_;refine zbH (zr3 y8 y12 hw) ?_;refine zB ?_;refine zB ?_;refine zbH (zr2 y8 g1) ?_;refine zct ?_;refine zB ?_;refine zB ?_;refine zbH (zr6 y13 h11 hA3 hA0 hnl0 hgA) ?_;refine zbG (zfr ?_);have hroot:zmD ((bs,zbO bs nl)::T)=b0:=by rw[hb0];rfl
   refine Frz.tupL ⟨?_,?_,?_,.int _ _,trivial⟩
   ·rw[hroot];exact .int _ _
   ·rw[<- hV4];refine Frz.whole hO3 rfl rfl (zAE9 _) (fun v hv=>?_) (fun v hv=>?_)
    ·rw[hV4]at hv;obtain⟨x,_,rfl⟩:=zAK9.1 hv;rfl
    ·rw[hV4]at hv;obtain⟨x,hx,hv⟩:=zBE9.1 hv;obtain⟨y,_,rfl⟩:=zAK9.1 hx;simp[PV.cells]at hv;rcases hv with rfl|rfl<;>exact .int _ _
   ·rw[<- hus2];exact .int _ _
  ·rw[if_neg ho]at hbd;have g1:¬((nl.length:Nat):Int)=1:=zo;have hnx:=hnx ho;have hT1:T.length<=1:=by
    have:=hnx.lvl;simp at this;omega
   obtain⟨w1,w2,w3⟩:=ze6 bs nl v1;have hll:=zey bs nl v1;have hlevs:∀n∈zbO bs nl,n.level=T.length:=by
    intro n hn;obtain⟨j,hj⟩:=zFJ9.1 hn;have hjl:j<nl.length:=by rw[<- hll];exact(zAC9.1 hj).1
    have e:=zff bs nl j _ v1 (zAA9 hjl);rw[hj]at e;injection e with e;subst e;exact(hI.ok.each _ (zBK9 _)).2.1
   have hab:=zt5 H3 idL g M3 Hc.length nl.length vs3 ps (zbO bs nl) bs T.length hL3 hM3 hlv3 hA3 (by rw[hll];exact v1) zo hlevs zo (fun b hb=>(v4 b hb).2);rw[hll,w2]at hab;refine zB ?_;refine zB ?_;refine zbH (zr3 y8 y12 hw) ?_;refine zB ?_;refine zB ?_;refine zbH (zr2 y8 g1) ?_;refine zcf ?_;refine zas ?_;show W _ _ _ _ _ _;refine zB ?_;refine zau ?_;refine zcz (zr2 y8 y13) ?_;refine zkQ (caps:=?caps) (vs:=?vs) ?a1 ?a2 hab ?a3 ?a4 ?a5
   case a1=>first|rfl|(simp only[zat,zaA,go_sem]<;>rfl)
   case a2=>simp only[go_sem]<;>rfl
   case a3=>rfl
   case a4=>rfl
   rintro e H4 ⟨hst4,idL4,g4,M4,vs4,ps4,rfl,hM4,_,hL4,hlv4,_⟩;refine zK ?_;refine⟨k,zCE9 _,k,_,used+nl.length,(bs,zbO bs nl)::T,H4,idL4,g4,M4,idO,vs4,ps4,V3,rfl,by omega,?_,hnx,hbd,hus2,hV4,hV3l,hM4,hL4,hlv4,hst4 idO _ hO3,by simp[upd,y1],zt,zu h11,zt,rfl,rfl⟩;simp;omega
theorem zkD:∀X:List Lev,(∀M∈X,M.1.length=M.2.length)->(zea X).length=64*(X.flatMap Prod.fst).length
 | [],_=>rfl
 | M::X,h=>by
  have h1:=zkD X fun K hK=>h K (zAO9 _ hK);have h2:=h M (zAV9 ..);unfold zea at h1⊢;rw[zBR9,zAB9,h1,zBR9,zAB9];unfold ziX;rw[zmm,List.length_zip];omega
theorem f219:ET.funcs.get 219=some T219:=zD Tryz.func219
theorem f279:ET.funcs.get 279=some T279:=zD Tryz.func279
theorem f217:ET.funcs.get 217=some T217:=zD Tryz.func217
theorem zej {w:List Nat}{i:Nat}(h:i<w.length):(w.map uv)[i]?=some (uv (w.getD i 0)):=by grind
theorem zsu (p left:Nat)(w:List Nat)(j:Nat)(hw:zb0 w.length)(h:2*j<w.length+1):FN ET 219 [uv left,wv p w,iv j] (.ret (uv (zdh left w j))):=by
 refine zfn f219 (.int _ _) ?_;unfold zdh;refine zG ?_;refine zfc ?_ ?_
 ·intro hj;obtain rfl:j=0:=by have:=of_decide_eq_true hj;omega
  refine zO ?_;exact Frz.int _ _
 ·intro hj;have hj:¬j=0:=by have:=of_decide_eq_false hj;omega
  rw[if_neg hj];refine zas ?_;show W _ _ _ _ _ _;have w1:IntKind.i64.wrap (2*(j:Int))=((2*j:Nat):Int):=zwi;have w2:IntKind.i64.wrap (((2*j:Nat):Int)-1)=((2*(j-1)+1:Nat):Int):=zwi;have c1:2*(j-1)+1<w.length:=zo;have z1:=zej c1;refine zOF (zr4 w1 w2 c1 z1) ?_;exact Frz.int _ _
theorem zv0 (p:Nat)(w:List Nat)(hw:zb0 w.length):FN ET 279 [wv p w] (.ret (iv (zb1 w:Nat))):=by
 refine zfn f279 (.int _ _) ?_;have e0:IntKind.i64.wrap ((w.length:Int).tdiv 2)=((w.length/2:Nat):Int):=by rw[IntWalk.i64_quo _ _ zo];omega
 refine zG ?_;refine zF (zbJ (fun m s=>∃i:Nat,m=w.length-i/\2*i<=w.length/\zb1 w=i+zb1 (w.drop (2*i))/\s.tm 0=wv p w/\s.tm 3=iv i/\s.df=[]/\s.H=[]) (n:=w.length) ?_ ?_)
 ·exact⟨0,by simp[upd,zj]⟩
 ·rintro m ⟨tm,df,H⟩ ⟨i,rfl,hi,hc,h0,h3,rfl,rfl⟩;dsimp only at h0 h3
  by_cases hlt:i<w.length/2
  ·have g1:(i:Int)<((w.length/2:Nat):Int):=zo;have w1:IntKind.i64.wrap (2*(i:Int))=((2*i:Nat):Int):=zwi;have w2:IntKind.i64.wrap (((2*i:Nat):Int)+1)=((2*i+1:Nat):Int):=zwi;have c1:2*i+1<w.length:=zo;have z1:=zej c1;have hd:=zp4 w i c1;have hx:w[2*i+1]=w.getD (2*i+1) 0:=by rw[zAP9,zAA9 c1];rfl
   rw[hx]at hd;generalize w.getD (2*i+1) 0=x at *
   by_cases hz:x=0
   ·have gx:(x:Int)=0:=zo;(try refine zbC ?_);refine zar (zbH (zr9 h0 h3 e0 g1 w1 w2 c1 z1 gx) ?_);refine zwh ?_ ?_
    ·intro h;cases h
    ·intro _;refine zOF h3 ?_;rw[hc,hd,zb1,if_pos hz];exact Frz.int _ _
   ·have gx:¬(x:Int)=0:=zo;(try refine zbC ?_);refine zar (zbH (zr9 h0 h3 e0 g1 w1 w2 c1 z1 gx) ?_);refine zwh ?_ ?_
    ·intro _;refine zF ?_;refine zJF h3 ?_;refine⟨_,?m,i+1,rfl,by omega,?_,zu h0,zu h3,zt,zt⟩
     case m=>omega
     rw[hc,hd,zb1,if_neg hz];omega
    ·intro h;cases h
  ·have g1:¬(i:Int)<((w.length/2:Nat):Int):=zo;(try refine zbC ?_);refine zar (zbH (zr4 h0 h3 e0 g1) ?_);refine zwh ?_ ?_
   ·intro h;cases h
   ·intro _;refine zOF h3 ?_;rw[hc,zmX (by simp;omega)];exact Frz.int _ _
theorem zm6:∀(l:List Nat) (j prev:Nat),2*(zcg j prev l).length<=l.length
 | [],_,_=>by simp[zcg]
 | [_],_,_=>by simp[zcg]
 | _::p::l,j,prev=>by
  have:=zm6 l (j+1) p;rw[zcg]
  grind
theorem zsh {l:List Nat}(h:zb1 l=0)(j prev:Nat):zcg j prev l=[]:=by
 match l,h with
 | [],_=>simp[zcg]
 | [_],_=>simp[zcg]
 | a::b::l,h =>
  rw[zb1]at h
  by_cases hb:b=0
  ·rw[zcg,if_pos hb]
  ·rw[if_neg hb]at h;omega
set_option maxHeartbeats 1000000 in
theorem ztT (p left:Nat)(w:List Nat)(hw:w.length<1000000):FN ET 217 [uv left,wv p w] (.ret (.tuple [psv 0 (zcO left w),.list 0 1 ((zcg 0 left w).map fun x=>iv (x.1:Nat))])):=by
 refine zfn f217 (Lb.two (Lb.pvs _) ?_) ?_
 ·have:=Lb.ivs (z:=1) ((zcg 0 left w).map fun x=>(x.1:Int));rw[zEG9]at this;exact this
 refine zG ?_;refine zdg 92 2 (i:=6) rfl ?_;refine zdg 3 1 (i:=7) rfl ?_;simp only[lzy,zAB9,zAG9,zAH9,zBN9,zAD9,zAR9,zBB9];refine zF (zbJ (fun m s=>∃(j:Nat) (V1 V2:List PV) (I:List (Nat×Pr)) (G:List zd),m=w.length-j/\j<=zb1 w/\zb1 w=j+zb1 (w.drop (2*j))/\zcg 0 left w=I++zcg j (zdh left w j) (w.drop (2*j))/\V1=I.map (fun x=>pv x.2)/\V2=I.map (fun x=>iv (x.1:Nat))/\s.tm 0=uv left/\s.tm 1=wv p w/\s.tm 6=.sl 0 V1.length 0 V1.length (2*V1.length) 2/\s.tm 7=.sl 1 V2.length 0 V2.length (2*V2.length) 1/\s.tm 8=iv j/\s.df=[]/\s.H=.row 92 2 V1.length 0 V1::.row 3 1 V2.length 0 V2::G) (n:=w.length) ?_ ?_)
 ·exact⟨0,[],[],[],[],rfl,zAL9 _,by simp,by simp[zdh],rfl,rfl,zt,zt,zt,zt,zt,rfl,rfl⟩
 ·rintro m ⟨tm,df,H⟩ ⟨j,V1,V2,I,G,rfl,hj,hraw,hit,hV1,hV2,h0,h1,h6,h7,h8,rfl,rfl⟩;dsimp only at h0 h1 h6 h7 h8;have hrl:=zoG w;have hIl:I.length<=w.length:=by have:=zm6 w 0 left;rw[hit,zAB9]at this;omega
  have hl1:V1.length=I.length:=by rw[hV1,zAX9]
  have hl2:V2.length=I.length:=by rw[hV2,zAX9]
  refine zbC ?_;refine zIF (zr2 h1 h8) ?_;refine zca (zv0 p w zo) ?_;refine zN ?_;refine zwh ?_ ?_
  ·intro hlt;have hlt:j<zb1 w:=by have:=of_decide_eq_true hlt;omega
   have w1:IntKind.i64.wrap (2*(j:Int))=((2*j:Nat):Int):=zwi;have w2:IntKind.i64.wrap (((2*j:Nat):Int)+1)=((2*j+1:Nat):Int):=zwi;have c0:2*j<w.length:=zo;have c1:2*j+1<w.length:=zo;have z0:=zej c0;have z1:=zej c1;have hd:=zp4 w j c1;have hx0:w[2*j]=w.getD (2*j) 0:=by rw[zAP9,zAA9 c0];rfl
   have hx1:w[2*j+1]=w.getD (2*j+1) 0:=by rw[zAP9,zAA9 c1];rfl
   have han:zdh left w (j+1)=w.getD (2*j+1) 0:=by unfold zdh;rw[if_neg zo,zGE9]
   have hah:=zsu p left w j zo zo;rw[hx0,hx1]at hd;generalize w.getD (2*j) 0=k at *
   generalize w.getD (2*j+1) 0=x at *
   generalize zdh left w j=a at *
   have hxz:x≠0:=by
    intro e;rw[hraw,hd,zb1,if_pos e]at hlt;omega
   rw[hd,zb1,if_neg hxz]at hraw;rw[hd,zcg,if_neg hxz]at hit;refine zB ?_;refine zF ?_;refine zB ?_;refine zbc ?_
   by_cases he:x=a
   ·have g1:(x:Int)=a:=zo;rw[if_pos he]at hit;refine zdc (zr7 h0 h1 h8 w1 w2 c1 z1) hah ?_;refine zQF (zr2 h0 g1) ?_;refine zfc ?_ ?_
    ·intro h;simp[g1]at h
    intro _;refine zas ?_;refine zJF h8 ?_;refine⟨_,?m1,j+1,V1,V2,I,G,rfl,hlt,by omega,(by rw[han];exact hit),hV1,hV2,zu h0,zu h1,zu h6,zu h7,zu h8,rfl,rfl⟩
    case m1=>omega
   ·have g1:¬(x:Int)=a:=zo;rw[if_neg he]at hit;refine zdc (zr7 h0 h1 h8 w1 w2 c1 z1) hah ?_;refine zQF (zr2 h0 g1) ?_;refine zfc ?_ ?_;rotate_left
    ·intro h;simp[g1]at h
    intro _;have hb1:(V1.length+1)*17<=140737488355328:=zo;have hb2:(V2.length+1)*9<=140737488355328:=zo;refine zB ?_;refine zbc ?_;refine zcI (zfa h0 h1 h6 h7 h8 w1 w2 c0 c1 z0 z1 hb1) ?_;refine zQF h0 ?_;refine zJF (zr3 h7 h8 hb2) ?_;refine zJF h8 ?_;refine⟨_,?m2,j+1,V1++[pv (k,x)],V2++[iv (j:Nat)],I++[(j,(k,x))],?G2,rfl,hlt,by omega,(by rw[hit,han];simp),(by rw[hV1];simp),(by rw[hV2];simp),zu h0,zu h1,zt,zt,zu h8,zt,?H⟩
    case m2=>omega
    case H=>simp only[zAB9,zAG9,zAH9,zAD9,zAR9];rfl
  ·intro hlt;have hlt:¬j<zb1 w:=by have:=of_decide_eq_false hlt;omega
   rw[zsh (l:=w.drop (2*j)) zo,zDG9]at hit;refine zOF (zr2 h6 h7) ?_;have e1:zcO left w=I.map (fun x=>x.2):=by rw[<- zgg w 0 left,hit]
   have e2:(I.map (fun x=>x.2)).map pv=V1:=by rw[hV1,zEG9];rfl
   rw[e1,hit];refine Frz.tupL ⟨?_,?_,trivial⟩
   ·show Frz _ _ _ (.list 0 2 ((I.map fun x=>x.2).map pv));rw[e2];exact Frz.whole (l:=V1) rfl rfl rfl (zAE9 _) (fun v hv=>by rw[hV1]at hv;obtain⟨x,_,rfl⟩:=zAK9.1 hv;rfl) (by rw[<- e2];exact zf0)
   ·rw[<- hV2];have e3:V2=(I.map fun x=>(x.1:Int)).map iv:=by rw[hV2,zEG9];rfl
    exact Frz.whole (l:=V2) rfl rfl rfl (zAE9 _) (fun v hv=>by rw[hV2]at hv;obtain⟨x,_,rfl⟩:=zAK9.1 hv;rfl) (by rw[e3];exact ztn)


theorem f181:ET.funcs.get 181=some T181:=zD Tryz.func181
theorem f191:ET.funcs.get 191=some T191:=zD Tryz.func191
theorem zsC (x:Nat):FN ET 181 [uv x] (.ret (.bool (zdP x))):=by
 refine zfn f181 (.bool _) ?_
 by_cases h:1<=x
 ·have g:(1:Int)<=x:=zo
  by_cases h2:x<=2047
  ·have g2:(x:Int)<=2047:=zo;refine zOF (zr2 g g2) ?_;exact zbq.bool (by simp[zdP,h];omega)
  ·have g2:¬(x:Int)<=2047:=zo;refine zOF (zr2 g g2) ?_;exact zbq.bool (by simp[zdP,h];omega)
 ·have g:¬(1:Int)<=x:=zo;refine zOF g ?_;exact zbq.bool (by simp[zdP,h])
def zfg (w:List Nat):Bool:=decide (w.length=64)&&decide (7522529147838689024<=w.getD 0 0)&&decide (w.getD 0 0<=7522529147838689024+12)&&decide (w.getD 1 0<=2047)&&decide (w.getD 4 0<=2)&&decide (w.getD 5 0=0)&&decide (w.getD 6 0=0)&&decide (w.getD 7 0=0)
def zga (lv x:Nat):Bool:=(decide (lv=0)&&decide (x=9223372036854775808))||(decide (0<lv)&&zdP x)
theorem mp0 (lv a:Nat):zc4 0 lv a=(decide (7522529147838689024<=a)&&decide (a<=7522529147838689024+12)):=by rw[zc4]
theorem mp3 (lv a:Nat):zc4 3 lv a=zga lv a:=by rw[zc4,zga]
theorem mp1 (lv a:Nat):zc4 1 lv a=decide (a<=2047):=by
 rw[zc4,Bool.eq_iff_iff,decide_eq_true_eq,decide_eq_true_eq];omega
theorem mp4 (lv a:Nat):zc4 4 lv a=decide (a<=2):=by rw[zc4];all_goals (intro h;cases h)
theorem zsp (w:List Nat):headB w=(zfg w&&zga (zia (w.getD 0 0)) (w.getD 3 0)):=by
 by_cases hl:w.length=64
 rotate_left
 ·unfold headB zfg;rw[decide_eq_false hl];simp only[Bool.false_and]
 obtain⟨lv,hlv⟩:=ztO w;rw[zqL w hl lv hlv,<- hlv];have h567:((w.take 8).drop 5)=[w.getD 5 0,w.getD 6 0,w.getD 7 0]:=by
  apply List.ext_getElem
  all_goals grind
 have hr:List.range 5=[0,1,2,3,4]:=rfl;rw[h567,hr];unfold zfg;rw[decide_eq_true hl,zDM9];simp only[zEL9,List.any_nil,List.all_cons,List.all_nil,Bool.and_true,zFH9];rw[mp0,mp1,mp3,mp4];have m2:zc4 2 lv (w.getD 2 0)=true:=rfl
 grind
set_option maxHeartbeats 4000000 in
theorem zxs (p:Nat)(w:List Nat)(hw:zb0 w.length):FN ET 191 [wv p w] (zeS w):=by
 refine zfn f191 ?_ ?_
 ·unfold zeS;split
  ·exact Lb.two (Lb.node _) (.int _ _)
  ·exact Lb.two (Lb.node _) (.int _ _)
 have hsp:=zsp w;refine zG ?_;refine zB ?_;refine zcV (Q:=fun y s'=>y=.norm/\s'.tm 49=.bool (!zfg w)/\s'.tm 0=wv p w/\s'.tm 2=.ptr 0 0 0 0 6/\s'.df=[]/\s'.H=[.row 143 6 0 0 [zf5]]) (zau ?_) ?_
 ·have h0:True:=trivial;have fin:∀(tm:Nat->PV) (b:Bool),b=zfg w->tm 49=.bool (!b)->tm 0=wv p w->tm 2=.ptr 0 0 0 0 6->(FX.norm=FX.norm/\tm 49=.bool (!zfg w)/\tm 0=wv p w/\tm 2=.ptr 0 0 0 0 6/\([]:List FD)=[]/\[zd.row 143 6 0 0 [zf5]]=[.row 143 6 0 0 [zf5]]):=fun tm b hb h49 h0 h2=>⟨rfl,by rw[h49,hb],h0,h2,rfl,rfl⟩
  by_cases hl:w.length=64
  rotate_left
  ·have g:¬(w.length:Int)=64:=zo;refine zKF g ?_;exact fin _ false (by unfold zfg;rw[decide_eq_false hl];rfl) (by simp[upd]) (by simp[upd,zj]) (by simp[upd])
  have g:(w.length:Int)=64:=zo;have c0:0<w.length:=zo;have c1:1<w.length:=zo;have c4:4<w.length:=zo;have c5:5<w.length:=zo;have c6:6<w.length:=zo;have c7:7<w.length:=zo;have z0:=zej c0;have z1:=zej c1;have z4:=zej c4;have z5:=zej c5;have z6:=zej c6;have z7:=zej c7;have h8:zfg w=(decide (7522529147838689024<=w.getD 0 0)&&decide (w.getD 0 0<=7522529147838689024+12)&&decide (w.getD 1 0<=2047)&&decide (w.getD 4 0<=2)&&decide (w.getD 5 0=0)&&decide (w.getD 6 0=0)&&decide (w.getD 7 0=0)):=by unfold zfg;rw[decide_eq_true hl,zDM9]
  generalize zfg w=hd at *
  generalize w.getD 0 0=a0 at *
  generalize w.getD 1 0=a1 at *
  generalize w.getD 4 0=a4 at *
  generalize w.getD 5 0=a5 at *
  generalize w.getD 6 0=a6 at *
  generalize w.getD 7 0=a7 at *
  by_cases b0:7522529147838689024<=a0
  rotate_left
  ·have g0:(a0:Int)<7522529147838689024:=zo;refine zKF (zr5 g hl c0 z0 g0) ?_;exact fin _ false (by rw[h8,decide_eq_false b0];rfl) (by simp[upd]) (by simp[upd,zj]) (by simp[upd])
  have g0:¬(a0:Int)<7522529147838689024:=zo;rw[decide_eq_true b0]at h8
  by_cases b1:a0<=7522529147838689024+12
  rotate_left
  ·have g1:(7522529147838689036:Int)<a0:=zo;refine zKF (zr6 g hl c0 z0 g0 g1) ?_;exact fin _ false (by rw[h8,decide_eq_false b1];simp) (by simp[upd]) (by simp[upd,zj]) (by simp[upd])
  have g1:¬(7522529147838689036:Int)<a0:=zo;rw[decide_eq_true b1]at h8
  by_cases b2:a1<=2047
  rotate_left
  ·have g2:(2047:Int)<a1:=zo;refine zKF (zr9 g hl c0 z0 g0 g1 c1 z1 g2) ?_;exact fin _ false (by rw[h8,decide_eq_false b2];simp) (by simp[upd]) (by simp[upd,zj]) (by simp[upd])
  have g2:¬(2047:Int)<a1:=zo;rw[decide_eq_true b2]at h8
  by_cases b4:a4<=2
  rotate_left
  ·have g4:(2:Int)<a4:=zo;refine zKF (zfa g hl c0 z0 g0 g1 c1 z1 g2 c4 z4 g4) ?_;exact fin _ false (by rw[h8,decide_eq_false b4];simp) (by simp[upd]) (by simp[upd,zj]) (by simp[upd])
  have g4:¬(2:Int)<a4:=zo;rw[decide_eq_true b4]at h8
  by_cases b5:a5=0
  rotate_left
  ·have g5:¬(a5:Int)=0:=zo;refine zKF (zfa g hl c0 z0 g0 g1 c1 z1 g2 c4 z4 (zr4 g4 c5 z5 g5)) ?_;exact fin _ false (by rw[h8,decide_eq_false b5];simp) (by simp[upd]) (by simp[upd,zj]) (by simp[upd])
  have g5:(a5:Int)=0:=zo;rw[decide_eq_true b5]at h8
  by_cases b6:a6=0
  rotate_left
  ·have g6:¬(a6:Int)=0:=zo;refine zKF (zfa g hl c0 z0 g0 g1 c1 z1 g2 c4 z4 (zr7 g4 c5 z5 g5 c6 z6 g6)) ?_;exact fin _ false (by rw[h8,decide_eq_false b6];simp) (by simp[upd]) (by simp[upd,zj]) (by simp[upd])
  have g6:(a6:Int)=0:=zo;rw[decide_eq_true b6]at h8
  by_cases b7:a7=0
  rotate_left
  ·have g7:¬(a7:Int)=0:=zo;refine zKF (zfa g hl c0 z0 g0 g1 c1 z1 g2 c4 z4 (zhk g4 c5 z5 g5 c6 z6 g6 c7 z7 g7)) ?_;exact fin _ false (by rw[h8,decide_eq_false b7];simp) (by simp[upd]) (by simp[upd,zj]) (by simp[upd])
  have g7:(a7:Int)=0:=zo;rw[decide_eq_true b7]at h8;refine zKF (zfa g hl c0 z0 g0 g1 c1 z1 g2 c4 z4 (zhk g4 c5 z5 g5 c6 z6 g6 c7 z7 g7)) ?_;exact fin _ true (by rw[h8];rfl) (by simp[upd]) (by simp[upd,zj]) (by simp[upd])
 rintro y ⟨tm,df,H⟩ ⟨rfl,h49,h0,h2,rfl,rfl⟩;dsimp only at h49 h0 h2;have badE:headB w=false->zeS w=.ret (.tuple [zbU 0 zmR,iv 210]):=fun h=>by unfold zeS;rw[if_neg (by rw[h];decide)]
 by_cases h8:zfg w=true
 rotate_left
 ·have h8:zfg w=false:=by simpa using h8
  rw[h8]at h49 hsp;refine zct ?_ (by simp only[go_sem,h49]<;>rfl);refine zGF h2 ?_;refine zbG ?_;(try simp only[zef,ze4,zeY,zeq,zfB]);refine zep (vs:=[zf5,iv 210]) ?_ ?_
  ·simp only[T191,zbf,go_sem,h2];rfl
  rw[badE hsp];exact znV
 rw[h8]at h49;refine zcf ?_ (by simp only[go_sem,h49]<;>rfl);refine zas ?_;show W _ _ _ _ _ _;rw[h8,zDM9]at hsp;have h8':=h8;unfold zfg at h8';simp only[zAW9,decide_eq_true_eq]at h8';obtain⟨⟨⟨⟨⟨⟨⟨hl,b0⟩,b1⟩,b2⟩,b4⟩,_⟩,_⟩,_⟩:=h8';obtain⟨lv,hlv⟩:=ztO w;have hN:=zrX w lv hlv;rw[<- hlv]at hsp;have hlv2:lv=w.getD 0 0-7522529147838689024:=by rw[hlv,zlg]
 have okE:headB w=true->zeS w=.ret (.tuple [zbU 0 (headN w),iv 0]):=fun h=>by unfold zeS;rw[if_pos h]
 rw[hN]at okE;have c0:0<w.length:=zo;have c1:1<w.length:=zo;have c2:2<w.length:=zo;have c3:3<w.length:=zo;have c4:4<w.length:=zo;have z0:=zej c0;have z1:=zej c1;have z2:=zej c2;have z3:=zej c3;have z4:=zej c4;have q0:IntKind.i64.wrap (IntKind.u64.wrap ((w.getD 0 0:Int)-7522529147838689024))=(lv:Int):=by
  rw[wrap_u64 zo zo,wrap_i64 zo zo];omega
 have q0a:IntKind.u64.wrap ((w.getD 0 0:Int)-7522529147838689024)=(lv:Int):=by
  rw[wrap_u64 zo zo];omega
 have hl12:lv<=12:=zo;clear hlv hlv2 h8 h49;have hd8:List.drop 8 (List.map uv w)=(w.drop 8).map uv:=by rw[zCN9]
 have hRd:=ztT p (w.getD 3 0) (w.drop 8) (by rw[zBG9];omega);have hdl:(w.drop 8).length=56:=by rw[zBG9];omega
 have hle8:8<=w.length:=zo;generalize w.getD 0 0=a0 at *
 generalize w.getD 1 0=a1 at *
 generalize w.getD 2 0=a2 at *
 generalize w.getD 3 0=a3 at *
 generalize w.getD 4 0=a4 at *
 refine zB ?_;refine zbc ?_;refine zcI (zfa h0 h2 c0 c1 c2 c3 c4 z0 z1 z2 z3 (zr3 z4 q0 q0a)) ?_;refine zQF h0 ?_;have stop:∀(tm:Nat->PV) (H:List zd) (o:zd) (k:FSt->Prop),headB w=false->tm 2=.ptr 0 0 0 0 6->H=[zd.row 143 6 0 0 [zf5],o]->W ET ET.caught none (.seq (.region [⟨some 90,.build [.int .i64 0,.int .i64 0,.int .u64 0,.int .u64 0,.int .i64 0,.nilsl] [],[],none⟩,⟨none,.store 6,[.tmp 2,.tmp 90],none⟩,⟨some 3,.mov,[.const (.int .i64 210)],none⟩]) .ret) ⟨tm,[],H⟩ (zef k (zdT ET T191 fun e' H=>zbq H 0 e' (zeS w))):=fun tm H o k hb h2 hH=>by
  subst hH;refine zGF h2 ?_;refine zbG ?_;(try simp only[zef,ze4,zeY,zeq,zfB]);refine zep (vs:=[zf5,iv 210]) ?_ ?_
  ·simp only[T191,zbf,go_sem,h2];rfl
  rw[badE hb];exact znV
 have hgo:zga lv a3=true->a3≠0:=fun h=>by
  unfold zga at h;simp only[Bool.or_eq_true,zAW9,decide_eq_true_eq,zgf]at h;omega
 have hrd:a3≠0->zcK a3 (w.drop 8)=zcO a3 (w.drop 8):=fun h=>by
  unfold zcK;rw[if_pos (by unfold zdu;rw[hdl];simp[h])]
 by_cases hz:lv=0
 ·have g0:(lv:Int)=0:=zo;have g0':¬(0:Int)<(lv:Int):=zo
  by_cases he:a3=9223372036854775808
  rotate_left
  ·have ge:¬(a3:Int)=9223372036854775808:=zo;refine zB ?_;refine zbH (zr3 g0 g0' ge) ?_;refine zct ?_;refine stop _ _ ?so1 _ ?sa1 ?sb1 ?sc1
   case sc1=>rfl
   case sa1=>rw[hsp];simp[zga,hz,he]
   case sb1=>simp[upd,h2]
  have ge:(a3:Int)=9223372036854775808:=zo;have hh:zga lv a3=true:=by unfold zga;simp[hz,he]
  rw[hh]at hsp;rw[okE hsp,hrd (hgo hh)];refine zB ?_;refine zbH (zr3 g0 g0' ge) ?_;refine zcf ?_;refine zas ?_;show W _ _ _ _ _ _;refine zB ?_;refine zbc ?_;refine zdc (zr4 h0 h2 hd8 hle8) hRd ?_;refine zcI (zr2 h0 h2) ?_;refine zdl ?_ (by simp(disch:=omega)only[go_sem,h0]<;>rfl) (by first|exact trivial|simp only[go_sem,h0]);refine zb3 ?_;simp only[go_sem];refine zGF h2 ?_;refine zbG ?_;(try simp only[zef,ze4,zeY,zeq,zfB]);refine zep (vs:=?_) ?_ ?_;rotate_left
  ·simp only[T191,zbf,go_sem,h2];rfl
  exact Frz.tupL ⟨Frz.aggL ⟨(by subst hz;exact .int _ _),.int _ _,.int _ _,.int _ _,.int _ _,.list _ _ _,trivial⟩,.int _ _,trivial⟩
 ·have g0:¬(lv:Int)=0:=zo;have g0':(0:Int)<(lv:Int):=zo;refine zB ?_;refine zau ?_;refine zcz (zr2 g0 g0') ?_;refine zca (zsC a3) ?_
  by_cases hb:zdP a3=true
  rotate_left
  ·have hb:zdP a3=false:=by simpa using hb
   rw[hb];refine zN ?_;refine zct ?_;refine stop _ _ ?so2 _ ?sa2 ?sb2 ?sc2
   case sc2=>rfl
   case sa2=>rw[hsp];simp[zga,hz,hb]
   case sb2=>simp[upd,h2]
  have hh:zga lv a3=true:=by unfold zga;rw[hb];simp;omega
  rw[hh]at hsp;rw[okE hsp,hrd (hgo hh),hb];refine zN ?_;refine zcf ?_;refine zas ?_;show W _ _ _ _ _ _;refine zB ?_;refine zbc ?_;refine zdc (zr4 h0 h2 hd8 hle8) hRd ?_;refine zcI (zr2 h0 h2) ?_;refine zdl ?_ (by simp(disch:=omega)only[go_sem,h0]<;>rfl) (by first|exact trivial|simp only[go_sem,h0]);refine zb3 ?_;simp only[go_sem];refine zGF h2 ?_;refine zbG ?_;(try simp only[zef,ze4,zeY,zeq,zfB]);refine zep (vs:=?_) ?_ ?_;rotate_left
  ·simp only[T191,zbf,go_sem,h2];rfl
  exact Frz.tupL ⟨Frz.aggL ⟨.int _ _,.int _ _,.int _ _,.int _ _,.int _ _,.list _ _ _,trivial⟩,.int _ _,trivial⟩
theorem zxa {w:List Nat}(h:headB w=false):zeS w=.ret (.tuple [zbU 0 zmR,iv 210]):=by unfold zeS;rw[if_neg (by rw[h];decide)]

theorem Lb.three {a b c:PV}(ha:Lb a)(hb:Lb b)(hc:Lb c):Lb (.tuple [a,b,c]):=.tuple fun v hv=>by grind

section mid
variable {α:Type}
theorem ga0 (G l:List α)(a:α):(G++a::l)[G.length]?=some a:=by simp
theorem ga1 (G l:List α)(a b:α):(G++a::b::l)[G.length+1]?=some b:=by simp
theorem ga2 (G l:List α)(a b c:α):(G++a::b::c::l)[G.length+1+1]?=some c:=by grind
theorem sa0 (G l:List α)(a x:α):(G++a::l).set G.length x=G++x::l:=by grind
theorem sa1 (G l:List α)(a b x:α):(G++a::b::l).set (G.length+1) x=G++a::x::l:=by simp_all
theorem sa2 (G l:List α)(a b c x:α):(G++a::b::c::l).set (G.length+1+1) x=G++a::b::x::l:=by
 rw[zCG9 _ _ zo,show G.length+1+1-G.length=2 by omega];rfl
theorem ga3 (G l:List α)(a b c d:α):(G++a::b::c::d::l)[G.length+3]?=some d:=by grind
end mid
theorem f83:ET.funcs.get 83=some T83:=zD Tryz.func83
theorem f190:ET.funcs.get 190=some T190:=zD Tryz.func190
set_option maxHeartbeats 1000000 in
theorem zmu (p q:Nat)(bs:List Nat)(L:List zH)(hl:L.length<1000000)(hp:∀n∈L,n.pairs.length<=28)(hall:(zb4 L).length<1000000):FN ET 83 [zdd p q bs L] (zhn L):=by
 refine zfn f83 ?_ ?_
 ·unfold zhn;split
  ·exact Lb.two (Lb.pvs _) (.bool _)
  ·exact Lb.two (Lb.pvs _) (.bool _)
 refine zG ?_;refine zdg 92 2 (i:=4) rfl ?_;simp only[lzy,zAG9,zAH9,zAR9,zBB9];refine zG ?_;refine zF (zbJ (fun m s=>∃(i:Nat) (acc:List Pr) (G:List zd),m=L.length-i/\i<=L.length/\zb4 L=acc++zb4 (L.drop i)/\zbR acc=true/\s.tm 1=.ptr 0 0 0 0 2/\s.tm 4=.sl 1 acc.length 0 acc.length (2*acc.length) 2/\s.tm 5=iv i/\s.df=[]/\s.H=.row 163 2 0 0 [zdd p q bs L]::.row 92 2 acc.length 0 (acc.map pv)::G) (n:=L.length) ?_ ?_)
 ·exact⟨0,[],[],rfl,by omega,rfl,rfl,zt,zt,zt,rfl,rfl⟩
 ·rintro m ⟨tm,df,H⟩ ⟨i,acc,G,rfl,hi,hac,hri,h1,h4,h5,rfl,rfl⟩;dsimp only at h1 h4 h5;(try refine zbC ?_);refine zar (zbH (zr2 h1 h5) ?_);refine zwh ?_ ?_
  ·intro hlt;have hlt:i<L.length:=by have:=of_decide_eq_true hlt;omega
   have hLi:=zAA9 hlt;rw[zpx L i hlt]at hac;have hn28:=hp _ (zBK9 hlt);have hLiv:(L.map (zbU q))[i]?=some (zbU q L[i]):=by rw[zAI9,hLi];rfl
   generalize L[i]=n at *
   refine zB ?_;refine zF ?_;refine zGF (zr4 h1 h5 hLiv hlt) ?_;generalize hR:zb4 (List.drop (i+1) L)=R at hac;refine zF (zbJ (fun m s=>∃(j:Nat) (acc:List Pr) (G:List zd),m=n.pairs.length-j/\j<=n.pairs.length/\zb4 L=acc++((n.pairs.drop j).filter (zeh L[i+1]?)++R)/\zbR acc=true/\s.tm 1=.ptr 0 0 0 0 2/\s.tm 4=.sl 1 acc.length 0 acc.length (2*acc.length) 2/\s.tm 5=iv i/\s.tm 6=psv q n.pairs/\s.tm 7=iv j/\s.df=[]/\s.H=.row 163 2 0 0 [zdd p q bs L]::.row 92 2 acc.length 0 (acc.map pv)::G) (n:=n.pairs.length) ?_ ?_)
   ·exact⟨0,acc,_,rfl,by omega,hac,hri,zu h1,zu h4,zu h5,zt,zt,rfl,rfl⟩
   ·clear h1 h4 h5 hac hri;rintro m ⟨tm,df,H⟩ ⟨j,acc,G,rfl,hj,hac,hri,h1,h4,h5,h6,h7,rfl,rfl⟩;dsimp only at h1 h4 h5 h6 h7;(try refine zbC ?_);refine zar (zbH (zr2 h6 h7) ?_);refine zwh ?_ ?_
    ·intro hltj;have hltj:j<n.pairs.length:=by have:=of_decide_eq_true hltj;omega
     have hxj:=zAA9 hltj;rw[zAQ9 hltj,List.filter_cons]at hac;have hxv:(n.pairs.map pv)[j]?=some (pv n.pairs[j]):=by rw[zAI9,hxj];rfl
     generalize n.pairs[j]=x at *
     refine zB ?_;refine zF ?_;refine zB ?_;refine zcV (Q:=fun y s'=>y=.norm/\s'.tm 1=.ptr 0 0 0 0 2/\s'.tm 4=.sl 1 acc.length 0 acc.length (2*acc.length) 2/\s'.tm 5=iv i/\s'.tm 6=psv q n.pairs/\s'.tm 7=iv j/\s'.tm 48=.bool (!zeh L[i+1]? x)/\s'.df=[]/\s'.H=.row 163 2 0 0 [zdd p q bs L]::.row 92 2 acc.length 0 (acc.map pv)::G) (zbc ?_) ?_
     ·have e1:((i:Int)+1)=((i+1:Nat):Int):=zo
      by_cases hi1:i+1<L.length
      ·have g1:((i+1:Nat):Int)<(L.length:Nat):=zo;have hz:=zAA9 hi1;have hzv:(L.map (zbU q))[i+1]?=some (zbU q L[i+1]):=by rw[zAI9,hz];rfl
       rw[hz];generalize L[i+1]=z at *
       refine zQF (zhk h1 h5 h6 h7 e1 g1 hzv hxv hltj hi1) ?_;exact⟨h1,h4,h5,h6,h7,by simp[zeh]⟩
      ·have g1:¬((i+1:Nat):Int)<(L.length:Nat):=zo;have hz:L[i+1]?=none:=zCX9 zo;rw[hz];refine zQF (zr7 h1 h5 h6 h7 e1 g1 hltj) ?_;exact⟨h1,h4,h5,h6,h7,by simp[zeh]⟩
     ·clear h1 h4 h5 h6 h7;rintro y ⟨tm,df,H⟩ ⟨rfl,h1,h4,h5,h6,h7,h48,rfl,rfl⟩;dsimp only at h1 h4 h5 h6 h7 h48
      by_cases hk:zeh L[i+1]? x=true
      rotate_left
      ·rw[if_neg hk]at hac;have hk:zeh L[i+1]? x=false:=by simpa using hk
       refine zfc ?_ ?_ (by simp only[go_sem,h48]<;>rfl)
       ·intro _;refine zjb ?_;refine zJF h7 ?_;refine⟨_,?m1,j+1,acc,_,rfl,hltj,hac,hri,zu h1,zu h4,zu h5,zu h6,zu h7,rfl,rfl⟩
        case m1=>omega
       ·rw[hk];intro h;cases h
      rw[if_pos hk]at hac;refine zfc ?_ ?_ (by simp only[go_sem,h48]<;>rfl)
      ·rw[hk];intro h;cases h
      intro _;refine zas ?_;show W _ _ _ _ _ _;refine zGF h4 ?_;have hal:acc.length<1000000:=by have:=congrArg List.length hac;simp only[zAB9]at this;omega
      refine zcV (Q:=fun y s'=>y=.norm/\s'.tm 1=.ptr 0 0 0 0 2/\s'.tm 4=.sl 1 acc.length 0 acc.length (2*acc.length) 2/\s'.tm 5=iv i/\s'.tm 6=psv q n.pairs/\s'.tm 7=iv j/\s'.tm 66=.bool (zdZ acc x)/\s'.df=[]/\s'.H=.row 163 2 0 0 [zdd p q bs L]::.row 92 2 acc.length 0 (acc.map pv)::G) (zbc ?_) ?_
      ·by_cases ha0:acc.length=0
       ·have g1:¬(0:Int)<(acc.length:Nat):=zo;have g2:¬(0:Int)<=(acc.length:Int)-1:=zo;refine zQF (zr7 h4 h6 h7 g1 g2 hltj hxv) ?_;obtain rfl:acc=[]:=zBY9 ha0;exact⟨h1,h4,h5,h6,h7,rfl⟩
       ·have e1:(acc.length:Int)-1=((acc.length-1:Nat):Int):=zo;have g2:(0:Int)<=((acc.length-1:Nat):Int):=zo;have e2:acc.length-1<acc.length:=zo;obtain⟨y,hy⟩:∃y,acc.getLast?=some y:=by
         cases hh:acc.getLast? with
         | none=>rw[zCT9]at hh;subst hh;simp at ha0
         | some y=>exact⟨y,rfl⟩
        have hy2:acc[acc.length-1]?=some y:=by rw[<- zDO9];exact hy
        have hyv:(acc.map pv)[acc.length-1]?=some (pv y):=by rw[zAI9,hy2];rfl
        refine zQF (zr9 h4 h6 h7 e1 g2 e2 hyv hltj hxv) ?_;exact⟨h1,h4,h5,h6,h7,by simp[zdZ,hy]⟩
      ·clear h1 h4 h5 h6 h7 h48;rintro y ⟨tm,df,H⟩ ⟨rfl,h1,h4,h5,h6,h7,h66,rfl,rfl⟩;dsimp only at h1 h4 h5 h6 h7 h66
       by_cases hk2:zdZ acc x=true
       ·refine zfc ?_ ?_ (by simp only[go_sem,h66]<;>rfl)
        ·intro _;refine zO ?_;exact zyk hac (zmz hk2)
        ·rw[hk2];intro h;cases h
       have hk2:zdZ acc x=false:=by simpa using hk2
       refine zfc ?_ ?_ (by simp only[go_sem,h66]<;>rfl)
       ·rw[hk2];intro h;cases h
       intro _;refine zas ?_;have hbb:(acc.length+1)*17<=140737488355328:=zo;refine zJF (zr6 h4 h6 h7 hxv hltj hbb) ?_;refine zJF h7 ?_;refine⟨_,?m3,j+1,acc++[x],?G3,rfl,hltj,by rw[hac];simp,zrH hri hk2,zu h1,zt,zu h5,zu h6,zu h7,zt,?H3⟩
       case m3=>omega
       case H3=>(try dsimp only);rw[zBD9,zAB9];rfl
    ·intro hltj;have hltj:¬j<n.pairs.length:=by have:=of_decide_eq_false hltj;omega
     obtain rfl:j=n.pairs.length:=zo;refine zJF h5 ?_;rw[zCC9,List.filter_nil,zBB9,<- hR]at hac;refine⟨_,?m9,i+1,acc,G,rfl,hlt,hac,hri,zu h1,zu h4,zu h5,rfl,rfl⟩
     case m9=>omega
  ·intro hlt;have hlt:¬i<L.length:=by have:=of_decide_eq_false hlt;omega
   obtain rfl:i=L.length:=zo;refine zOF h4 ?_;rw[zCC9,zb4,zDG9]at hac;unfold zhn;rw[hac,if_pos hri];refine Frz.tupL ⟨?_,.bool _,trivial⟩;exact Frz.whole (l:=acc.map pv) rfl rfl (by simp) (by simp) (fun v hv=>by obtain⟨x,_,rfl⟩:=zAK9.1 hv;rfl) zf0
theorem zsi (p:Nat)(w:List Nat)(b:Nat)(hw:zb0 w.length):FN ET 190 [wv p w,uv b] (.ret (.bool (decide (1<=b)&&decide (b<w.length/64)))):=by
 refine zfn f190 (.bool _) ?_;unfold zb0 at hw;have w1:IntKind.u64.wrap (((w.length/64:Nat):Int))=((w.length/64:Nat):Int):=zwu;have hq:IntKind.i64.wrap ((w.length:Int)/64)=((w.length/64:Nat):Int):=zwi;have q1:IntKind.i64.wrap ((w.length:Int).tdiv 64)=((w.length/64:Nat):Int):=by rw[IntWalk.i64_quo _ _ zo];omega
 by_cases h:1<=b
 ·have g:(1:Int)<=b:=zo
  by_cases h2:b<w.length/64
  ·have g2:(b:Int)<((w.length/64:Nat):Int):=zo;refine zOF (zr5 g q1 hq w1 g2) ?_;exact zbq.bool (by simp[h,h2])
  ·have g2:¬(b:Int)<((w.length/64:Nat):Int):=zo;refine zOF (zr5 g q1 hq w1 g2) ?_;exact zbq.bool (by simp[h,h2])
 ·have g:¬(1:Int)<=b:=zo;refine zOF g ?_;exact zbq.bool (by simp[h])
theorem f132:ET.funcs.get 132=some T132:=zD Tryz.func132
def zf8 (w:List Nat)(lv:Int):Nat->List Nat->List Nat->List zH->Nat->List Nat×List zH×Bool
 | 0,_,bs,ns,b=>(bs,ns,decide (b=0) && !ns.isEmpty)
 | k+1,seen,bs,ns,b=>if b=0 then(bs,ns,!ns.isEmpty)else
  if decide (w.length/64<=b)||seen.contains b then(bs,ns,false)else
  if headB (zb7 w b)&&zb6 ns (headN (zb7 w b)) lv then zf8 w lv k (b::seen) (bs++[b]) (ns++[headN (zb7 w b)]) (headN (zb7 w b)).sib else(bs,ns,false)
theorem zo9 {w:List Nat}{lv:Int}:∀(k:Nat) (seen bs:List Nat) (ns:List zH) (b:Nat),zch w lv k seen bs ns b=none->(zf8 w lv k seen bs ns b).2.2=false
 | 0,seen,bs,ns,b,h=>by
  rw[zch]at h;rw[zf8]
  grind
 | k+1,seen,bs,ns,b,h=>by
  rw[zch]at h;rw[zf8]
  split
  ·grind
  ·rename_i hb;rw[if_neg hb]at h
   split
   ·rfl
   ·rename_i h2;rw[if_neg h2]at h
    split
    ·rename_i h3;rw[if_pos h3]at h;exact zo9 k _ _ _ _ h
    ·rfl
theorem zpY {w:List Nat}{lv:Int}{r:List Nat×List Nat×List zH}:∀(k:Nat) (seen bs:List Nat) (ns:List zH) (b:Nat),zch w lv k seen bs ns b=some r->zf8 w lv k seen bs ns b=(r.2.1,r.2.2,!r.2.2.isEmpty)
 | 0,seen,bs,ns,b,h=>by
  rw[zch]at h;rw[zf8]
  grind
 | k+1,seen,bs,ns,b,h=>by
  rw[zch]at h;rw[zf8]
  split
  ·grind
  ·rename_i hb;rw[if_neg hb]at h
   split
   ·grind
   ·rename_i h2;rw[if_neg h2]at h
    split
    ·rename_i h3;rw[if_pos h3]at h;exact zpY k _ _ _ _ h
    simp_all
theorem zqA (l:List Nat)(b:Nat):(l.map fun(x:Nat)=>(x:Int)).contains (b:Int)=l.contains b:=by grind
theorem zyH (l:List Nat):(l.map fun(x:Nat)=>(x:Int)).map iv=l.map fun(b:Nat)=>iv (b:Int):=by rw[zEG9];rfl
theorem zi5 (p:Nat)(l:List Nat)(n:Nat)(hl:l.length<4611686018427387904):FN ET 123 [.list p 1 (l.map fun(b:Nat)=>iv (b:Int)),iv (n:Nat)] (.ret (.bool (l.contains n))):=by
 have:=zuB p (l.map fun(x:Nat)=>(x:Int)) n (by simpa using hl);rw[zyH,zqA]at this;exact this
theorem zzO (bs:List Nat)(ns:List zH):Lb (zdd 0 0 bs ns):=.agg fun x hx=>by
 simp at hx;rcases hx with rfl|rfl
 ·exact Lb.ivn _
 ·exact Lb.nodes _
def lvH (z:PV)(bs:List Nat)(ns:List zH)(G:List zd):List zd :=
 .row 163 2 0 0 [z]::.row 163 2 0 0 [.agg [.sl 2 bs.length 0 bs.length (2*bs.length) 1,.sl 3 ns.length 0 ns.length (2*ns.length) 6]]::.row 3 1 bs.length 0 (bs.map fun(b:Nat)=>iv (b:Int))::.row 143 6 ns.length 0 (ns.map (zbU 0))::G
theorem ztb (z:PV)(bs:List Nat)(ns:List zH)(G:List zd)(lab:Nat):LF (lvH z bs ns G) lab [.sl 2 bs.length 0 bs.length (2*bs.length) 1,.sl 3 ns.length 0 ns.length (2*ns.length) 6] [.list lab 1 (bs.map fun(b:Nat)=>iv (b:Int)),.list lab 6 (ns.map (zbU 0))] :=
  ⟨Frz.whole (e:=3) (z':=1) (G:=bs.length) (l:=bs.map fun(b:Nat)=>iv (b:Int)) rfl rfl (by simp) (by simp) (fun v hv=>by obtain⟨x,_,rfl⟩:=zAK9.1 hv;rfl) zgG,
   Frz.whole (e:=143) (z':=6) (G:=ns.length) (l:=ns.map (zbU 0)) rfl rfl (by simp) (by simp) (fun v hv=>by obtain⟨x,_,rfl⟩:=zAK9.1 hv;rfl) zhc,trivial⟩
theorem zi8 {bs:List Nat}{ns:List zH}{G:List zd}{tm:Nat->PV}{b:Bool}{R:List Nat×List zH×Bool}(h8:tm 8=.ptr 0 0 0 0 2)(h9:tm 9=.bool b)(hR:R=(bs,ns,b)):zdT ET T132 (fun e' H=>zbq H 0 e' (.ret (.tuple [zdd 0 0 R.1 R.2.1,.bool R.2.2]))) .ret ⟨tm,[],lvH (.agg [.sl 2 bs.length 0 bs.length (2*bs.length) 1,.sl 3 ns.length 0 ns.length (2*ns.length) 6]) bs ns G⟩:=by
 subst hR;refine zep (vs:=[.agg [.sl 2 bs.length 0 bs.length (2*bs.length) 1,.sl 3 ns.length 0 ns.length (2*ns.length) 6],.bool b]) ?_ ?_
 ·simp[T132,xT,zbf,okv,h8,h9,zaz,zbl,zbr,lvH,PV.cells]
 ·exact Frz.tupL ⟨Frz.aggL (ztb _ bs ns G 0),.bool _,trivial⟩
end Fv
end Go.Proofs.YtkeknmgnoceogaaGreat
