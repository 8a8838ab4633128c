/- part 6 of the proof of dir_swaps. -/
import Derived.Test.YtkeknmgnoceogaaGreatDS5
import Derived.KernelRfl
set_option linter.unusedSimpArgs false
set_option linter.unusedVariables false
set_option linter.defProp false
set_option maxRecDepth 100000
set_option maxHeartbeats 4000000
namespace Go.Proofs.YtkeknmgnoceogaaGreat
open Tryz
namespace Fv
open Tw
variable {F:zd}{f:Func}{n:Nat}{t:AI}
def zsJ:LN:=[11,200,185,244,352,194,336,172]
noncomputable def zgf:LN->AI->AI
 | [],t=>t
 | n::l,t=>(zgf l t).set n none
theorem znJ:∀{l:LN},l.contains n=false->(zgf l t).get n=t.get n
 | [],_=>rfl
 | m::l,h=>by
  rw[zGG9,Bool.or_eq_false_iff]at h;show ((zgf l t).set m none).get n=_;rw[Tr.get_set,if_neg (by simpa using h.1)];exact znJ h.2
theorem zmj:∀{l:LN},(zgf l t).get n=some F->t.get n=some F
 | [],h=>h
 | m::l,h=>by
  have h:((zgf l t).set m none).get n=some F:=h;rw[Tr.get_set]at h
  split at h
  .cases h
  .exact zmj h
theorem zmi:∀{l:LN},l.contains n=true->(zgf l t).get n=none
 | m::l,h=>by
  show ((zgf l t).set m none).get n=_;rw[Tr.get_set]
  split
  .rfl
  .rename_i hn;rw[zGG9]at h;have hm:(n==m)=false:=by simpa using hn
   rw[hm,zFB9]at h;exact zmi h
noncomputable def zEE (f:Nat):Option (LJ->TH->Option (TE×TH)):=bif Nat.beq f 11 then some zo5 else bif Nat.beq f 172 then some (zsm 3)else zkM f
noncomputable def ET:Env:=⟨zgf zsJ zgK,zEE,zmw,zso,0⟩
abbrev FR(f:Nat)(a:List PV)(v:PV):Prop:=FN ET f a (.ret v)
theorem zkJ(h:prog.funcs[n]?=some f)(hF:fnO prog f=some F:=by kernel_rfl)(hn:zsJ.contains n=false:=by decide):ET.funcs.get n=some F:=by
 show (zgf zsJ zgK).get n=some F;rw[znJ hn];exact zEs h hF
theorem eG(F:zd)(h:prog.funcs[n]?=some f)(hF:fnO prog f=some F:=by kernel_rfl)(hn:zsJ.contains n=false:=by decide):ET.funcs.get n=some F:=zkJ h hF hn
theorem zkE(hn:zsJ.contains n=true:=by decide):ET.funcs.get n=none:=zmi hn
abbrev Pr:=Nat×Nat
abbrev LK:=List Pr
variable {z:Nat}(l:LN)
def zcb(left n:Nat):Bool:=decide (left≠0)&&decide (n%2=0)&&decide (2<=n/2)&&decide (n/2<=28)
def zb7:LN->Nat
 | _::p::l=>if p=0 then 0 else zb7 l+1
 | _=>0
def zbQ:Nat->LN->LK
 | prev,k::p::l=>if p=0 then[]else if p=prev then zbQ p l else(k,p)::zbQ p l
 | _,_=>[]
def zcr(left:Nat)(l:LN):LK:=if zcb left l.length=true then zbQ left l else[]
def zbT:LK->Bool
 | a::b::l=>decide (a.1<b.1)&&zbT (b::l)
 | _=>true
def zdO:LN->LK->Bool
 | seen,p::l=>!seen.contains p.2&&zdO (p.2::seen) l
 | _,[]=>true
def zgh:LN->Bool
 | _::p::l=>decide (p=0)&&zgh l
 | _=>true
def zdt(left:Nat)(l:LN):Bool :=
 zbT (zcr left l)&&zdO [left] (zcr left l)&&decide ((zcr left l).length=zb7 l)&&decide ((zcr left l).length<l.length/2)&&zgh (l.drop (2*(zcr left l).length))
def zcs(left:Nat)(l:LN):Nat:=if zcb left l.length=true then if zdt left l=true then 0 else 190 else 2
def zdL(left:Nat)(l:LN)(j:Nat):Nat:=if j=0 then left else l.getD (2*(j-1)+1) 0
theorem zpt(j:Nat)(h:2*j+1<l.length):l.drop (2*j)=l[2*j]::l[2*j+1]::l.drop (2*(j+1)):=by
 rw[zAK9 (i:=2*j) zo,zAK9 (i:=2*j+1) h];rfl
theorem zqw:∀l:LN,2*zb7 l<=l.length
 | []=>by simp[zb7]
 | [_]=>by simp[zb7]
 | _::p::l=>by
  have:=zqw l;rw[zb7]
  grind
theorem zo8{l:LN}(h:l.length<2):zb7 l=0:=by
 match l,h with
 | [],_=>rfl
 | [_],_=>rfl
@[reducible] def wv (p:Nat) (l:LN):PV:=.list p 1 (l.map uv)
@[reducible] def pv (x:Pr):PV:=.agg [uv x.1,uv x.2]
@[reducible] def psv (p:Nat) (l:LK):PV:=.list p 2 (l.map pv)
theorem Lb.uvs:Lb (.list 0 z (l.map uv)):=.list fun x hx=>by
 obtain⟨y,hy,hx⟩:=zBB9.1 hx;obtain⟨n,_,rfl⟩:=zAJ9.1 hy;simp[PV.cells]at hx;subst hx;exact .int _ _
theorem Lb.ivs(l:LM):Lb (.list 0 z (l.map iv)):=.list fun x hx=>by
 obtain⟨y,hy,hx⟩:=zBB9.1 hx;obtain⟨n,_,rfl⟩:=zAJ9.1 hy;simp[PV.cells]at hx;subst hx;exact .int _ _
theorem Lb.pvs(l:LK):Lb (.list 0 z (l.map pv)):=.list fun x hx=>by
 obtain⟨y,hy,hx⟩:=zBB9.1 hx;obtain⟨n,_,rfl⟩:=zAJ9.1 hy;simp[PV.cells]at hx;rcases hx with rfl|rfl<;>exact .int _ _
structure zZ where
 level:Nat
 sib:Nat
 low:Nat
 left:Nat
 way:Nat
 pairs:LK
deriving DecidableEq
abbrev LB:=List zZ
def zdH(p:Nat):Bool:=decide (1<=p)&&decide (p<2048)
def zdC:Nat->Nat->Nat->Bool
 | 0,_,w=>decide (7522529147838689024<=w)&&decide (w<=7522529147838689024+12)
 | 1,_,w=>decide (w<2048)
 | 2,_,_=>true
 | 3,lv,w=>(decide (lv=0)&&decide (w=9223372036854775808))||(decide (0<lv)&&zdH w)
 | _,_,w=>decide (w<=2)
@[irreducible] def ziC (x:Nat):Nat:=x - 7522529147838689024
theorem zm8(x:Nat):ziC x=x-7522529147838689024:=by unfold ziC;rfl
def headB(l:LN):Bool:=decide (l.length=64)&&((l.take 8).drop 5).all (fun x=>decide (x=0))&&(List.range 5).all fun i=>zdC i (ziC (l.getD 0 0)) (l.getD i 0)
def headN(l:LN):zZ:=⟨ziC (l.getD 0 0),l.getD 1 0,l.getD 2 0,l.getD 3 0,l.getD 4 0,zcr (l.getD 3 0) (l.drop 8)⟩
def zeY:zZ:=⟨0,0,0,0,0,[]⟩
def zxM:Nat->zZ->Nat
 | 0,n=>7522529147838689024+n.level
 | 1,n=>n.sib
 | 2,n=>n.low
 | 3,n=>n.left
 | _,n=>n.way
def zcD(n:zZ)(p:Pr):Bool:=if n.level=0 then decide (1<=p.2)&&decide (p.2<=1099511627776)&&decide (n.low<=p.1)else zdH p.2&&decide (n.low<p.1)
def zgR(l:LN):Bool:=decide (zcs (headN l).left (l.drop 8)=0) && !((headN l).pairs.any fun q=>!zcD (headN l) q)
def zb4(l:LN):Nat:=if headB l=true then if zgR l=true then 0 else 190 else 210
def zpl(n:zZ):LN:=[7522529147838689024+n.level,n.sib,n.low,n.left,n.way,0,0,0]
def zd1(l:LK):LN:=l.flatMap fun x=>[x.1,x.2]
@[reducible] def zbJ (p:Nat) (n:zZ):PV:=.agg [iv n.level,iv n.sib,uv n.low,uv n.left,iv n.way,psv p n.pairs]
def zEz:Nat->Nat
 | 0=>261|1=>264|2=>267|3=>270|_=>273
def zEH:Nat->Nat
 | 0=>262|1=>265|2=>268|3=>271|_=>274
def zFp:Nat->Nat
 | 0=>263|1=>266|2=>269|3=>272|_=>275
@[reducible] def zCG (i:Nat):PV:=.agg [.fn (zEz i) [],.fn (zEH i) [],.fn (zFp i) []]
def zja:LQ:=(List.range 5).map zCG
def zb5:LN->Nat
 | []=>0
 | x::l=>x+256*zb5 l
def zds(b:LN):LN:=(List.range ((b.length+7)/8)).map fun i=>zb5 ((b.drop (8*i)).take 8)
def zdh(w:Nat):LN:=(List.range 8).map fun k=>w/2 ^ (8*k)%256
def zcv(l:LN):LN:=l.flatMap zdh
def zbM(b:LN):Prop:=∀x∈b,x<256
variable {b:LN}{x y:Nat}(l:LN)(n w:Nat)
theorem zll:∀{b:LN},zbM b->zb5 b<256 ^ b.length
 | [],_=>by simp[zb5]
 | x::l,h=>by
  have h1:=h x (by simp);have h2:=zll (b:=l) fun y hy=>h y (zAO9 _ hy);rw[zb5,zAH9,zFU9];omega
theorem zkW:∀(b:LN) (x:Nat),zb5 (b++[x])=zb5 b+256 ^ b.length*x
 | [],x=>by simp[zb5]
 | y::l,x=>by
  rw[zAN9,zb5,zkW l x,zb5,zAH9,zFU9,zFZ9,<- Nat.mul_assoc,zEU9 256 (256 ^ l.length)];omega
theorem zy7:256 ^ n=2 ^ (8*n):=by rw[Nat.pow_mul]
theorem zAr(hb:zbM b)(x:Nat):Nat.lor (zb5 b) (x*2 ^ (8*b.length))=zb5 (b++[x]):=by
 have h:=zll hb;rw[zy7]at h;rw[zkW,zy7];have:=Nat.two_pow_add_eq_or_of_lt h x;show zb5 b ||| x*2 ^ (8*b.length)=_;rw[Nat.or_comm,zEU9 x,<- this];omega
theorem zgz(hb:zbM b)(hl:b.length<=8):zb5 b<18446744073709551616:=by
 have h:=zll hb;have h2:256 ^ b.length<=256 ^ 8:=zCX9 zo hl;omega
theorem zbM.sub{c:LN}(h:zbM b)(hs:∀x∈c,x∈b):zbM c:=fun x hx=>h x (hs x hx)
theorem zbM.take(h:zbM b)(n:Nat):zbM (b.take n):=h.sub fun _=>zBT9
theorem zbM.drop(h:zbM b)(n:Nat):zbM (b.drop n):=h.sub fun _=>zBS9
theorem zdE(b:LN):(zds b).length=(b.length+7)/8:=by simp[zds]
theorem zkQ{i:Nat}(h:8*i<b.length):(zds b)[i]?=some (zb5 ((b.drop (8*i)).take 8)):=by
 have:i<(b.length+7)/8:=zo;simp[zds,this]
theorem zA4(h:b.length%8=0):zds (b++[x])=zds b++[x]:=by
 obtain⟨n,hn⟩:∃n,b.length=8*n:=⟨b.length/8,by omega⟩
 unfold zds;rw[zAF9,zEV9,hn,show (8*n+1+7)/8=n+1 by omega,show (8*n+7)/8=n by omega,zDK9,zBA9]
 congr 1
 .refine zDO9 fun i hi=>?_;rw[zCT9]at hi;rw[zDY9 zo,zDM9 (by rw[zBP9];omega)]
 .simp[<- hn,zb5]
theorem zyu(hb:zbM b)(h:¬b.length%8=0):zds (b++[x])=(zds b).set (b.length/8) (Nat.lor ((zds b).getD (b.length/8) 0) (x*2 ^ (8*(b.length%8)))):=by
 have hq:(b.length+1+7)/8=(b.length+7)/8:=zo;have hi:8*(b.length/8)<b.length:=zo;have hg:(zds b).getD (b.length/8) 0=zb5 (b.drop (8*(b.length/8))):=by
  rw[zAQ9,zkQ hi,zFO9,zBL9 (by rw[zBP9];omega)]
 have hl:(b.drop (8*(b.length/8))).length=b.length%8:=by rw[zBP9];omega
 rw[hg,<- hl,zAr (hb.drop _)];refine zFL9 fun i=>?_;rw[List.getElem?_set,zdE]
 by_cases hin:i<(b.length+7)/8
 .have h8:8*i<(b++[x]).length:=by rw[zAF9,zEV9];omega
  rw[zkQ h8]
  by_cases e:b.length/8=i
  .subst e;rw[if_pos rfl,if_pos hin,zDY9 zo,zBL9 (by rw[zAF9,zBP9,zEV9];omega)]
  .rw[if_neg e,zkQ zo,zDY9 zo,zDM9 (by rw[zBP9];omega)]
 .rw[zCF9 (by rw[zdE,zAF9,zEV9];omega)];rw[if_neg zo,zCF9 (by rw[zdE];omega)]
theorem zlE(hb:zbM b):∀w∈zds b,w<18446744073709551616:=fun w hw=>by
 unfold zds at hw;rw[zAJ9]at hw;obtain⟨i,_,rfl⟩:=hw;exact zgz ((hb.drop _).take _) (by rw[zAU9];omega)
theorem zyr:zbM (zdh w):=fun x hx=>by
 unfold zdh at hx;rw[zAJ9]at hx;obtain⟨i,_,rfl⟩:=hx;omega
theorem zjR:zbM (zcv l):=fun x hx=>by
 obtain⟨w,_,h⟩:=zBB9.1 hx;exact zyr w x h
theorem zfm:(zcv l).length=8*l.length:=by
 unfold zcv;rw[List.length_flatMap];simp[zdh,List.map_const',List.sum_replicate_nat];omega
theorem znz:zcv (l++[w])=zcv l++zdh w:=by unfold zcv;rw[zDI9];simp
def bl(b:LN):LQ:=b.map fun n:Nat=>.int .u8 n
theorem zcG(b:LN):(bl b).length=b.length:=zAW9 ..
theorem zpc(b:LN)(i:Nat):(bl b)[i]?=b[i]?.map fun n:Nat=>PV.int .u8 n:=zAT9 ..
def zbW(s:LN):Nat:=if s=[]\/s=[46]\/s=[46,46]\/0∈s\/47∈s then 140 else if 120<s.length then 141 else 0
def zlD(r x:Nat):Nat:=Tw.ztN (Nat.xor r x)
def zhR(w n:Nat):Nat:=Nat.lor (w*2 ^ n%18446744073709551616) (w/2 ^ (64-n))
structure Sip where
 a:Nat
 b:Nat
 c:Nat
 d:Nat
def zd4(x y:Nat):Nat:=(x+y)%18446744073709551616
def Sip.h1(v:Sip):Sip:=⟨zhR (zd4 v.a v.b) 32,Nat.xor (zhR v.b 13) (zd4 v.a v.b),v.c,v.d⟩
def Sip.h2(v:Sip):Sip:=⟨v.a,v.b,zd4 v.c v.d,Nat.xor (zhR v.d 16) (zd4 v.c v.d)⟩
def Sip.h3(v:Sip):Sip:=⟨zd4 v.a v.d,v.b,v.c,Nat.xor (zhR v.d 21) (zd4 v.a v.d)⟩
def Sip.h4(v:Sip):Sip:=⟨v.a,Nat.xor (zhR v.b 17) (zd4 v.c v.b),zhR (zd4 v.c v.b) 32,v.d⟩
def Sip.rnd(v:Sip):Sip:=v.h1.h2.h3.h4
def Sip.rnds(v:Sip):Nat->Sip
 | 0=>v
 | n+1=>(v.rnd).rnds n
def Sip.low(v:Sip)(m:Nat):Sip:=⟨Nat.xor v.a m,v.b,v.c,v.d⟩
def Sip.into(v:Sip)(m:Nat):Sip:=(Sip.rnds ⟨v.a,v.b,v.c,Nat.xor v.d m⟩ 2).low m
def Sip.new(k0 k1:Nat):Sip:=⟨Nat.xor k0 8317987319222330741,Nat.xor k1 7237128888997146477,Nat.xor k0 7816392313619706465,Nat.xor k1 8387220255154660723⟩
def Sip.words(v:Sip)(l:LN):Sip:=l.foldl Sip.into v
def Sip.fin(v:Sip):Nat :=
 let v:=Sip.rnds ⟨v.a,v.b,Nat.xor v.c 255,v.d⟩ 4
 Nat.xor (Nat.xor (Nat.xor v.a v.b) v.c) v.d
def zdw(b:LN):LN:=zds (b.take (8*(b.length/8)))
def zjM(b:LN):Nat:=zb5 (b.drop (8*(b.length/8)))+b.length%256*2 ^ 56
def zgt(k0 k1:Nat)(b:LN):Nat:=(((Sip.new k0 k1).words (zdw b)).into (zjM b)).fin
structure Sip.ok(v:Sip):Prop where
 a:v.a<18446744073709551616
 b:v.b<18446744073709551616
 c:v.c<18446744073709551616
 d:v.d<18446744073709551616
theorem zcc(hx:x<18446744073709551616)(hy:y<18446744073709551616):Nat.xor x y<18446744073709551616:=zEC9 (n:=64) hx hy
theorem zE4(hx:x<18446744073709551616)(hy:y<18446744073709551616):Nat.lor x y<18446744073709551616:=Nat.or_lt_two_pow (n:=64) hx hy
theorem zdm(x y:Nat):zd4 x y<18446744073709551616:=by unfold zd4;omega
theorem zg0(hx:x<18446744073709551616):zhR x n<18446744073709551616:=zE4 zo (zGI9 (zFF9 _ _) hx)
section
variable {v:Sip}
variable {m:Nat}
theorem Sip.h1_ok(h:v.ok):v.h1.ok:=by
 unfold Sip.h1;exact⟨zg0 32 (zdm _ _),zcc (zg0 13 h.b) (zdm _ _),h.c,h.d⟩
theorem Sip.h2_ok(h:v.ok):v.h2.ok:=by
 unfold Sip.h2;exact⟨h.a,h.b,zdm _ _,zcc (zg0 16 h.d) (zdm _ _)⟩
theorem Sip.h3_ok(h:v.ok):v.h3.ok:=by
 unfold Sip.h3;exact⟨zdm _ _,h.b,h.c,zcc (zg0 21 h.d) (zdm _ _)⟩
theorem Sip.h4_ok(h:v.ok):v.h4.ok:=by
 unfold Sip.h4;exact⟨h.a,zcc (zg0 17 h.b) (zdm _ _),zg0 32 (zdm _ _),h.d⟩
theorem Sip.rnd_ok(h:v.ok):v.rnd.ok:=by
 unfold Sip.rnd;exact Sip.h4_ok (Sip.h3_ok (Sip.h2_ok (Sip.h1_ok h)))
theorem Sip.rnds_ok:∀{n:Nat} {v:Sip},v.ok->(v.rnds n).ok
 | 0,_,h=>h
 | n+1,_,h=>Sip.rnds_ok (n:=n) (Sip.rnd_ok h)
theorem Sip.low_ok(h:v.ok)(hm:m<18446744073709551616):(v.low m).ok:=by
 unfold Sip.low;exact⟨zcc h.a hm,h.b,h.c,h.d⟩
theorem Sip.into_ok(h:v.ok)(hm:m<18446744073709551616):(v.into m).ok:=by
 have h2:Sip.ok ⟨v.a,v.b,v.c,Nat.xor v.d m⟩:=⟨h.a,h.b,h.c,zcc h.d hm⟩
 unfold Sip.into;exact Sip.low_ok (Sip.rnds_ok h2) hm
end
@[reducible] def zbP (x:Pr):PV:=.agg [iv x.1,uv x.2]
attribute [go_sem] daF dnF xT zbr zaD zbd T3 T4 T9 T10 T11 T12 T13 T14 T15 T16 T17 T18 T19 T20 T22 T23 T26 T27 T30 T31 T32 T33 T34 T35 T36 T37 T39 T40 T41 T42 T43 T44 T45 T46 T47 T48 T49 T50 T51 T52 T53 T54 T55 T56 T58 T59 T60 T61 T63 T65 T66 T67 T68 T69 T70 T71 T72 T73 T74 T75 T76 T77 T78 T79 T80 T81 T82 T83 T84 T85 T86 T87 T88 T89 T90 T92 T93 T94 T95 T96 T97 T98 T99 T100 T101 T103 T105 T106 T107 T108 T109 T110 T111 T112 T115 T116 T117 T118 T119 T120 T121 T122 T123 T124 T125 T126 T127 T128 T129 T130 T131 T132 T133 T134 T135 T136 T137 T138 T139 T140 T141 T142 T143 T144 T145 T146 T147 T148 T149 T150 T151 T152 T153 T156 T161 T162 T163 T164 T165 T166 T167 T168 T169 T170 T171 T172 T173 T175 T176 T177 T178 T179 T180 T181 T182 T183 T184 T186 T187 T188 T189 T190 T191 T192 T193 T195 T196 T197 T198 T199 T202 T203 T204 T205 T206 T207 T208 T209 T210 T211 T212 T213 T214 T215 T216 T217 T218 T219 T220 T221 T222 T223 T224 T225 T226 T227 T228 T229 T230 T231 T233 T234 T235 T236 T237 T238 T239 T240 T241 T242 T243 T245 T246 T247 T248 T249 T250 T251 T252 T253 T254 T256 T257 T258 T259 T260 T261 T262 T263 T264 T265 T266 T267 T268 T269 T270 T271 T272 T273 T274 T275 T276 T277 T278 T279 T280 T281 T282 T283 T284 T285 T286 T287 T288 T289 T290 T291 T292 T293 T294 T295 T296 T297 T298 T299 T300 T301 T302 T303 T304 T305 T306 T307 T308 T309 T310 T311 T312 T313 T314 T315 T316 T317 T318 T319 T321 T322 T323 T324 T325 T326 T327 T328 T329 T330 T331 T332 T333 T334 T335 T337 T338 T339 T340 T341 T342 T343 T344 T346 T347 T348 T349 T350 T351 T353 T354 T355 T356 T357 T359 T360 T361

@[reducible] def zce (n:Int):PV:=.iface 38 (.int .i64 n)
variable (e:Int)
theorem zg6:FR 97 [.bool true,.int .i64 e] (.tuple []):=by
 refine zfn (eG T97 func97) Lb.unit ?_;refine zbG (zgo ?_);refine zfc ?_ ?_
 .intro h;cases h
 .intro _;refine zbX ?_;exact⟨[],rfl,Frz.tL trivial⟩
theorem zeN:FN ET 97 [.bool false,.int .i64 e] (.panic (zce e)):=by
 refine zfn (eG T97 func97) (.iface (.int _ _)) ?_;refine zbG (zgo ?_);refine zfc ?_ ?_
 .intro _;refine zbF ?_;refine zfx ?_;refine zn7 (ty:=38) (v:=.int .i64 e) rfl (by simp[evs,ev,okv,upd,zD]) ?_;exact Frz.iface (.int _ _)
 .intro h;cases h
theorem zg1:FR 204 [.bool true,.int .i64 e] (.tuple []):=by
 refine zfn (eG T204 func204) Lb.unit ?_;refine zbG (zgo ?_);refine zfc ?_ ?_
 .intro h;cases h
 .intro _;refine zbX ?_;exact⟨[],rfl,Frz.tL trivial⟩
theorem ze4:FN ET 204 [.bool false,.int .i64 e] (.panic (zce e)):=by
 refine zfn (eG T204 func204) (.iface (.int _ _)) ?_;refine zbG (zgo ?_);refine zfc ?_ ?_
 .intro _;refine zbF ?_;refine zfx ?_;refine zn7 (ty:=38) (v:=.int .i64 e) rfl (by simp[evs,ev,okv,upd,zD]) ?_;exact Frz.iface (.int _ _)
 .intro h;cases h
theorem zpE(p:Nat)(l:LM)(n:Int)(hl:l.length<4611686018427387904):FR 123 [.list p 1 (l.map iv),.int .i64 n] (.bool (l.contains n)):=by
 refine zfn (eG T123 func123) (.bool _) ?_;refine zbG (zgo ?_);refine zbG ?_;refine zbG (zgo ?_);refine zay (zbE (fun m s=>∃i:Nat,m=l.length-i/\i<=l.length/\(l.take i).contains n=false/\s.tm 0=.list p 1 (l.map iv)/\s.tm 1=.int .i64 n/\s.tm 5=.int .i64 i/\s.df=[]/\s.H=[]) (n:=l.length) ?_ ?_)
 .exact⟨0,by simp[upd,zD]⟩
 .rintro m ⟨tm,df,H⟩ ⟨i,rfl,hi,hc,h0,h1,h5,rfl,rfl⟩;dsimp only at h0 h1 h5;refine zjA ?_;refine zbG (zbO (zr3 h0 h1 h5) ?_);refine zwh ?_ ?_
  .intro hlt;have hlt:i<l.length:=ztd hlt;refine zbG (zay ?_);refine zbG (zbO (zr4 h0 h1 h5 (zAA9 hlt)) ?_);refine zfc ?_ ?_
   .intro he;have he:=of_decide_eq_true he;refine zbG (zgo ?_);refine zbK (zfr ?_);have:l.contains n=true:=by
     rw[zFQ9];rw[<- he];exact zBJ9 hlt
    rw[this];exact Frz.bool _
   .intro he;have he:=of_decide_eq_false he;refine zbX ?_;refine zbF ?_;refine zKF (zr3 h0 h1 h5) ?_;refine⟨_,?_,i+1,rfl,hlt,?_,?_⟩
    .omega
    .rw[List.take_succ_eq_append_getElem hlt];rw[List.contains_append,hc];simp[Ne.symm he]
    .have:IntKind.i64.wrap ((i:Int)+1)=((i+1:Nat):Int):=by rw[wrap_i64 zo zo];omega
     simp[upd,h0,h1,this]
  .intro hlt;have hlt:¬i<l.length:=zfd hlt;obtain rfl:i=l.length:=zo;refine zbG (zgo ?_);refine zbK (zfr ?_);rw[zBE9]at hc;rw[hc];exact Frz.bool _
abbrev zbL(n:Nat):Prop:=n<4611686018427387904
variable (p:Nat)(w:LN)(left j:Nat)
theorem zkr(hw:zbL w.length):FR 205 [wv p w] (.int .i64 (w.length/2:Nat)):=by
 refine zfn (eG T205 func205) (.int _ _) ?_;refine zbG (zgo ?_);have e1:IntKind.i64.wrap ((w.length:Int).tdiv 2)=((w.length/2:Nat):Int):=by
  rw[IntWalk.i64_quo _ _ zo];omega
 refine zbG (zbF ?_);refine zPF e1 ?_;exact Frz.int _ _
theorem zEo(hw:zbL w.length)(h:2*j<w.length):FR 285 [wv p w,.int .i64 j] (uv w[2*j]):=by
 refine zfn (eG T285 func285) (.int _ _) ?_;refine zbG (zgo ?_);have e1:IntKind.i64.wrap (2*(j:Int))=2*(j:Int):=zwi;have e2:(2*(j:Int)).toNat=2*j:=zo;have e3:(0:Int)<=2*(j:Int):=zo;refine zbG (zbO (zr4 e1 e2 e3 (zAA9 h)) ?_);refine zbK (zfr ?_);exact Frz.int _ _
theorem zl7(hw:zbL w.length)(h:2*j+1<w.length):FR 259 [wv p w,.int .i64 j] (uv w[2*j+1]):=by
 refine zfn (eG T259 func259) (.int _ _) ?_;refine zbG (zgo ?_);have e1:IntKind.i64.wrap (2*(j:Int))=2*(j:Int):=zwi;have e4:IntKind.i64.wrap (2*(j:Int)+1)=2*(j:Int)+1:=zwi;have e2:(2*(j:Int)+1).toNat=2*j+1:=zo;have e3:(0:Int)<=2*(j:Int)+1:=zo;refine zbG (zbO (zr5 e1 e2 e3 e4 (zAA9 h)) ?_);refine zbK (zfr ?_);exact Frz.int _ _
@[reducible] def ziG (p:Nat) (w:LN) (left:Nat):PV:=.agg [wv p w,uv left]
theorem zoh(hw:zbL w.length):FR 257 [ziG p w left] (.bool (zcb left w.length)):=by
 refine zfn (eG T257 func257) (.bool _) ?_;refine zbG (zgo ?_);refine zbG (zbF ?_)
 by_cases h1:left=0
 .subst h1;refine zP ?_;exact Frz.bool _
 .have g1:¬(left:Int)=0:=zo
  by_cases h2:w.length%2=0
  .have g2:(w.length:Int).tmod 2=0:=by rw[IntWalk.rem_in _ _ zo];omega
   refine zbV (zr2 g1 g2) ?_;refine zca (zkr p w hw) ?_
   by_cases h3:2<=w.length/2
   .have g3:(2:Int)<=((w.length/2:Nat):Int):=zo;refine zbV g3 ?_;refine zca (zkr p w hw) ?_;refine zP ?_;have:zcb left w.length=decide (((w.length/2:Nat):Int)<=28):=by simp[zcb,h1,h2,h3];omega
    rw[this];exact Frz.bool _
   .have g3:¬(2:Int)<=((w.length/2:Nat):Int):=zo;refine zPF g3 ?_;have:zcb left w.length=false:=by simp[zcb,h1,h2,h3]
    rw[this];exact Frz.bool _
  .have g2:¬(w.length:Int).tmod 2=0:=by rw[IntWalk.rem_in _ _ zo];omega
   refine zPF (zr2 g1 g2) ?_;have:zcb left w.length=false:=by simp[zcb,h1,h2]
   rw[this];exact Frz.bool _


theorem zAe(hw:zbL w.length)(h:2*j<w.length+1):FR 209 [ziG p w left,.int .i64 j] (uv (zdL left w j)):=by
 refine zfn (eG T209 func209) (.int _ _) ?_;refine zG ?_;refine zfc ?_ ?_
 .intro hj;obtain rfl:j=0:=ztd hj;refine zO ?_;exact Frz.int _ _
 .intro hj;have hj:¬j=0:=zfd hj;refine zSk ?_;refine zI ?_;have e1:(j:Int)-1=((j-1:Nat):Int):=zo;rw[e1];refine zca (zl7 p w (j-1) hw zo) ?_;refine zP ?_;have:zdL left w j=w[2*(j-1)+1]'zo:=by
   unfold zdL;rw[if_neg hj,zAQ9,zAA9 zo];rfl
  rw[this];exact Frz.int _ _
theorem zzs(hw:zbL w.length):FR 282 [ziG p w left] (.int .i64 (zb7 w:Nat)):=by
 refine zfn (eG T282 func282) (.int _ _) ?_;refine zG ?_;refine zay (zbE (fun m s=>∃i:Nat,m=w.length-i/\2*i<=w.length/\zb7 w=i+zb7 (w.drop (2*i))/\s.tm 1=.ptr 0 0 0 0 2/\s.tm 2=.int .i64 i/\s.df=[]/\s.H=[.row 299 2 0 0 [ziG p w left]]) (n:=w.length) ?_ ?_)
 .exact⟨0,by simp[upd,zD]⟩
 .rintro m ⟨tm,df,H⟩ ⟨i,rfl,hi,hc,h1,h2,rfl,rfl⟩;dsimp only at h1 h2;refine zjA ?_;refine zIF (zr2 h1 h2) ?_;refine zca (zkr p w hw) ?_;have stop:∀tm',zb7 (w.drop (2*i))=0->tm' 2=.int .i64 i->zgJ (fun m s=>∃i:Nat,m=w.length-i/\2*i<=w.length/\zb7 w=i+zb7 (w.drop (2*i))/\s.tm 1=.ptr 0 0 0 0 2/\s.tm 2=.int .i64 i/\s.df=[]/\s.H=[.row 299 2 0 0 [ziG p w left]]) (w.length-i)
    (zgs 0 (ze3 (fun s'=>W ET ET.caught none (.seq (.region [⟨some 17,.mov,[.tmp 2],none⟩,⟨some 2,.mov,[.tmp 17],none⟩]) .ret) s' (zej ET T282 fun e' H=>zbo H 0 e' (.ret (.int .i64 (zb7 w:Nat))))) (zej ET T282 fun e' H=>zbo H 0 e' (.ret (.int .i64 (zb7 w:Nat)))))) (.exit 0) ⟨tm',[],[.row 299 2 0 0 [ziG p w left]]⟩:=fun tm' h0 ht=>by
   refine zOF ht ?_;rw[hc,h0];exact Frz.int _ _
  by_cases hlt:i<w.length/2
  .have g1:(i:Int)<((w.length/2:Nat):Int):=zo;refine zbV (zr3 g1 h1 h2) ?_;refine zCN (zl7 p w i hw zo) ?_;have hd:=zpt w i zo;refine zwh ?_ ?_
   .intro hz;have hz:¬w[2*i+1]'zo=0:=by simpa using hz
    refine zay ?_;refine zJF h2 ?_;refine⟨_,?_,i+1,rfl,?_,?_,?_⟩
    .omega
    .omega
    .rw[hc,hd,zb7,if_neg hz];omega
    .simp[upd,h1]
   .intro hz;have hz:w[2*i+1]'zo=0:=by simpa using hz
    refine stop _ ?_ (by simp[upd,h2]);rw[hd,zb7,if_pos hz]
  .have g1:¬(i:Int)<((w.length/2:Nat):Int):=zo;refine zNF (zr3 g1 h1 h2) ?_;refine zwh ?_ ?_
   .intro h;cases h
   .intro _;refine stop _ ?_ (by simp[upd,h2]);exact zo8 (by simp;omega)


theorem zDS(a b:Pr):FR 281 [pv a,pv b] (.bool (decide (a.1<b.1))):=by
 refine zfn (eG T281 func281) (.bool _) ?_;refine zO ?_;have:decide ((a.1:Int)<(b.1:Int))=decide (a.1<b.1):=by simp
 rw[this];exact Frz.bool _
theorem zBG{α:Type}(l:List α)(i:Nat)(h:i+1<l.length):l.drop i=l[i]::l[i+1]::l.drop (i+2):=by simp_all
theorem zuP{l:LK}(h:l.length<2):zbT l=true:=by
 match l,h with
 | [],_=>rfl
 | [_],_=>rfl
theorem zzi(l:LK)(hl:zbL l.length):FR 280 [psv p l,.fn 281 []] (.bool (zbT l)):=by
 refine zfn (eG T280 func280) (.bool _) ?_;refine zG ?_;refine zay (zbE (fun m s=>∃i:Nat,m=l.length+1-i/\i<=l.length/\zbT l=zbT (l.drop i)/\s.tm 0=psv p l/\s.tm 1=.fn 281 []/\s.tm 5=.int .i64 (i+1:Nat)/\s.df=[]/\s.H=[]) (n:=l.length+1) ?_ ?_)
 .exact⟨0,by simp[upd,zD]⟩
 .rintro m ⟨tm,df,H⟩ ⟨i,rfl,hi,hc,h0,h1,h5,rfl,rfl⟩;dsimp only at h0 h1 h5;refine zLh (zr3 h0 h1 h5) ?_ ?_
  .intro hlt;have hlt:i+1<l.length:=ztd hlt;refine zbG (zay ?_);refine zbG ?_;refine zbU ?_;have e1:((i+1:Nat):Int)-1=(i:Int):=zo;refine zcw (zr6 h0 h1 h5 e1 (zAA9 hlt) (zAA9 (show i<l.length by omega))) (zDS l[i] l[i+1]) ?_;refine zQF h0 ?_;have hd:=zBG l i hlt;refine zfc ?_ ?_
   .intro hb;have hb:¬(l[i].1<l[i+1].1):=by simpa using hb
    refine zO ?_;rw[hc,hd,zbT];simp only[hb,decide_false,Bool.false_and];exact Frz.bool _
   .intro hb;have hb:l[i].1<l[i+1].1:=by simpa using hb
    refine zbX ?_;refine zJF h5 ?_;refine⟨_,?_,i+1,rfl,by omega,?_,?_⟩
    .omega
    .rw[hc,hd,zbT,zAK9 hlt];simp[hb]
    .simp[upd,h0,h1]
  .intro hlt;have hlt:¬i+1<l.length:=zfd hlt;refine zO ?_;rw[hc,zuP (by grind)];exact Frz.bool _
def zcK:Nat->Nat->LN->List (Nat×Pr)
 | i,prev,k::p::l=>if p=0 then[]else if p=prev then zcK (i+1) p l else(i,(k,p))::zcK (i+1) p l
 | _,_,_=>[]
def zeH(left:Nat)(l:LN):List (Nat×Pr):=if zcb left l.length=true then zcK 0 left l else[]
theorem zf0:∀(l:LN) (i prev:Nat),(zcK i prev l).map (·.2)=zbQ prev l
 | [],_,_=>by simp[zcK,zbQ]
 | [_],_,_=>by simp[zcK,zbQ]
 | k::p::l,i,prev=>by
  rw[zcK,zbQ]
  split
  .rfl
  .split
   .exact zf0 l (i+1) p
   .simp[zf0 l (i+1) p]
theorem znS(left:Nat)(l:LN):(zeH left l).map (·.2)=zcr left l:=by
 unfold zeH zcr
 split
 .exact zf0 l 0 left
 .rfl


theorem zCk(id p:Nat)(w:LN)(left:Nat)(hw:zbL w.length)(P:Nat->LP)(hlen:∀k,(P k).length=(P 0).length)(hnr:∀(k i:Nat) (o:zc),(P k)[i]?=some o->NRO (P 0).length o)
  (hy:∀(k j:Nat) (x:Pr) (G:LP),(zeH left w)[k]?=some (j,x)->FY ET id [.int .i64 j,pv x] (P k++G) fun r H'=>r=true/\H'=P (k+1)++G) :
  FO ET 324 [.yield id,.elem [wv p w],.elem [uv left]] (P 0) false fun e H'=>e=.ret (.tuple [])/\H'=P (zeH left w).length:=by
 refine FO.gc (zro (eG T324 func324) ?_);have hb:∀k (x:zc),(P k++[x])[(P 0).length]?=some x:=fun k x=>by grind
 have hs:∀k (x y:zc),(P k++[x]).set (P 0).length y=P k++[y]:=fun k x y=>by grind
 have fin:∀(tm:Nat->PV) (k:Nat),k=(zeH left w).length->zej ET T324 (fun e H'=>∃H'' G,zjb (P 0) H' H'' G/\NRE (P 0).length e/\e=.ret (.tuple [])/\H''=P (zeH left w).length) .ret ⟨tm,[],P k++[.row 299 2 0 0 [ziG p w left]]⟩:=fun tm k hk=>by
  subst hk;refine zc8 (vs:=[]) rfl ⟨P (zeH left w).length,_,⟨rfl,hlen _,fun i o ho=>.inr (hnr _ i o ho)⟩,.tuple (fun x h=>by cases h),rfl,rfl⟩
 refine zm6 ?_;refine zB ?_;refine zbO (zr2 (hb 0) (hs 0)) ?_;refine zIF (hb 0) ?_;refine zCN (zoh p w left hw) ?_
 by_cases hr:zcb left w.length=true
 .have hev:w.length%2=0:=by simp[zcb]at hr;omega
  have hit:zeH left w=zcK 0 left w:=by unfold zeH;rw[if_pos hr]
  refine zfc ?_ ?_
  .rw[hr];intro h;cases h
  .intro _;refine zSk ?_;refine zbG (zbX ?_);refine zIF (hb 0) ?_;refine zCN (zzs p w left hw) ?_;refine zay (zbE (fun m s=>∃j k:Nat,m=w.length-j/\j<=zb7 w/\zb7 w=j+zb7 (w.drop (2*j))/\k<=(zeH left w).length/\(zeH left w).drop k=zcK j (zdL left w j) (w.drop (2*j))/\s.tm 0=.yield id/\s.tm 4=.ptr (P 0).length 0 0 0 2/\s.tm 13=.int .i64 (zb7 w:Nat)/\s.tm 14=.int .i64 j/\s.df=[]/\s.H=P k++[.row 299 2 0 0 [ziG p w left]]) (n:=w.length) ?_ ?_)
   .exact⟨0,0,by simp,by omega,by simp,by omega,by simp[hit,zdL],zt,zt,zt,zt,rfl,rfl⟩
   .rintro m ⟨tm,df,H⟩ ⟨j,k,rfl,hj,hraw,hk,hdk,h0,h4,h13,h14,rfl,rfl⟩;dsimp only at *
    have hrl:=zqw w;refine zLh (zr4 h0 h4 h13 h14) ?_ ?_
    .intro hlt;have hlt:j<zb7 w:=ztd hlt;have hd:=zpt w j zo;have hpz:¬w[2*j+1]'zo=0:=by
      intro e;rw[hd,zb7,if_pos e]at hraw;omega
     rw[hd,zcK,if_neg hpz]at hdk;rw[hd,zb7,if_neg hpz]at hraw;have hah:zdL left w (j+1)=w[2*j+1]'zo:=by
      unfold zdL;rw[if_neg zo,zAQ9];simp only[zGJ9];rw[zAA9 zo];rfl
     refine zbG (zay ?_);refine zB ?_;refine zbO h14 ?_;refine zbG ?_;refine zbU ?_;refine zcw (zr4 h0 h4 h14 (hb k)) (zl7 p w j hw zo) ?_;refine zcw (zr4 h0 h4 h14 (hb k)) (zAe p w left j hw zo) ?_
     by_cases heq:w[2*j+1]'zo=zdL left w j
     .have g1:((w[2*j+1]'zo:Nat):Int)=((zdL left w j:Nat):Int):=by rw[heq]
      rw[if_pos heq]at hdk;refine ze6 (by first|exact trivial|simp only[go_sem,g1,h0,h4,h14,hb k]) (by simp(disch:=omega)only[go_sem,g1,hb k]<;>rfl) rfl (by simp only[go_sem,hb k]<;>rfl) (by simp only[go_sem]<;>rfl) ?_;refine ze6 (by first|exact trivial|simp only[go_sem,hb k]) (by simp(disch:=omega)only[go_sem,hb k]<;>rfl) rfl (by simp only[go_sem,hb k]<;>rfl) (by simp only[go_sem]<;>rfl) ?_;refine ze6 (by first|exact trivial|simp only[go_sem,hb k]) (by simp(disch:=omega)only[go_sem,hb k]<;>rfl) rfl (by simp only[go_sem,hb k]<;>rfl) (by simp only[go_sem]<;>rfl) ?_;refine zQF (zr5 g1 h0 h4 h14 (hb k)) ?_;refine zfc ?_ ?_
      .intro h;cases h
      .intro _;refine zbX ?_;refine zJF h14 ?_;refine⟨_,?_,j+1,k,rfl,by omega,by omega,hk,?_,?_⟩
       .omega
       .grind
       .simp[upd,h0,h4,h13]
     .have g1:¬((w[2*j+1]'zo:Nat):Int)=((zdL left w j:Nat):Int):=zo;rw[if_neg heq]at hdk;have hk1:(zeH left w)[k]?=some (j,(w[2*j]'zo,w[2*j+1]'zo)):=by
       have:=congrArg List.head? hdk;rw[List.head?_drop]at this;simpa using this
      have hk2:k<(zeH left w).length:=(zAB9.1 hk1).1;have hdk2:(zeH left w).drop (k+1)=zcK (j+1) (w[2*j+1]'zo) (w.drop (2*(j+1))):=by
       rw[<- zDQ9,hdk];rfl
      refine zcw (zr5 g1 h0 h4 h14 (hb k)) (zEo p w j hw zo) ?_;refine zcw (zr5 g1 h0 h4 h14 (hb k)) (zl7 p w j hw zo) ?_;refine zuj (s1:=?_) (id:=?_) (vs:=?_) ?_ ?_ rfl rfl ?_ ?_ ?_;rotate_left 3;(first|exact trivial|(simp only[go_sem,hb k]));(simp(disch:=omega)only[go_sem,hb k]<;>rfl);(first|rfl|(simp only[go_sem,g1,h0,h4,h14,hb k]<;>rfl));(simp only[go_sem,hb k]<;>rfl);refine FY.mono (hy k j _ _ hk1) fun r H' hh=>?_;obtain⟨rfl,rfl⟩:=hh;refine⟨_,by simp only[go_sem]<;>rfl,?_⟩;generalize zaB _ _=K0;refine zQF g1 ?_;refine zfc ?_ ?_
      .intro h;cases h
      .intro _;refine zbX ?_;refine zJF h14 ?_;refine⟨_,?_,j+1,k+1,rfl,by omega,by omega,hk2,?_,?_⟩
       .omega
       .grind
       .simp[upd,h0,h4,h13]
    .intro hlt;have hlt:¬j<zb7 w:=zfd hlt;obtain rfl:j=zb7 w:=zo;have hz:zcK (zb7 w) (zdL left w (zb7 w)) (w.drop (2*zb7 w))=[]:=by
      have hr0:zb7 (w.drop (2*zb7 w))=0:=zo
      revert hr0
      generalize w.drop (2*zb7 w)=l
      match l with
      | []=>intro _;simp[zcK]
      | [_]=>intro _;simp[zcK]
      | a::b::l =>
       intro hr0;rw[zb7]at hr0
       split at hr0
       .rename_i hb;rw[zcK,if_pos hb]
       .omega
     rw[hz]at hdk;have hk3:k=(zeH left w).length:=by
      have:=congrArg List.length hdk;simp at this;omega
     exact fin _ _ hk3
 .have hr:zcb left w.length=false:=by simpa using hr
  refine zfc ?_ ?_
  .intro _;refine zbK ?_;exact fin _ 0 (by simp[zeH,hr])
  .rw[hr];intro h;cases h
theorem zDW(p:Nat)(w:LN)(left:Nat):FP ET 276 [uv left,wv p w] (.ret (.fn 324 [.elem [wv p w],.elem [uv left]])):=by
 refine zfp (eG T276 func276) ?_;refine zO ?_;refine Frz.fnL ⟨.ptr (w:=wv p w) rfl (zAC9 _) rfl fun j x y hx hy=>?_,.ptr (w:=uv left) rfl (zAC9 _) rfl fun j x y hx hy=>?_,trivial⟩
 .cases j with
  | zero=>simp[PV.cells]at hx hy;subst hx;subst hy;exact Frz.list _ _ _
  | succ j=>simp at hy
 .cases j with
  | zero=>simp[PV.cells]at hx hy;subst hx;subst hy;exact Frz.int _ _
  | succ j=>simp at hy


def zws:zbN:=.region [⟨some 6,.alloc 92 [.int .u64 (.ofNat 0),.int .u64 (.ofNat 0)],[],none⟩,⟨none,.store 2,[.tmp 6,.tmp 11],none⟩]
def zxJ:zbN:=.block 1 (.region [⟨some 12,.load false 1,[.tmp 4],none⟩,⟨some 13,.load true 2,[.tmp 6],none⟩,⟨some 14,.bslice 92 2 1 [.int .u64 (.ofNat 0),.int .u64 (.ofNat 0)] [(0,2)],[.tmp 13],none⟩,⟨some 15,.append 92 2 16,[.tmp 12,.tmp 14],none⟩,⟨none,.store 1,[.tmp 4,.tmp 15],none⟩])
def zgC(tm:Nat->PV)(L:LK)(k:Nat):LP:=[.row 87 1 0 0 [.sl 1 k 0 k (2*k) 2],.row 92 2 k 0 ((L.take k).map pv),.dfr false,.loop .ready .norm tm [10,11] zws zxJ 2]
variable {H:LP}{L:LK}{e:FE}{k:IntKind}{n:Int}{tm:Nat->PV}(p:Nat)(cs:LQ)(w:LN)(i x left:Nat)
theorem zgZ{l:LK}:∀v∈(l.map pv).flatMap PV.cells,Id0 v:=fun v hv=>by
 obtain⟨x,hx,hv⟩:=zBB9.1 hv;obtain⟨n,_,rfl⟩:=zAJ9.1 hx;simp[PV.cells]at hv;rcases hv with rfl|rfl<;>exact .int _ _
theorem ztA(hnr:∀i,tm i=.bad\/NR 4 (tm i))(k i:Nat)(o:zc)(ho:(zgC tm L k)[i]?=some o):NRO 4 o:=by
 match i with
 | 0=>cases ho;intro x hx;simp[PV.cells]at hx;subst hx;exact .sl _ _ _ _ _ zo
 | 1=>cases ho;exact zDj zgZ
 | 2=>cases ho;trivial
 | 3=>cases ho;exact⟨by omega,hnr,trivial⟩
 | i+4=>simp[zgC]at ho
theorem zxd(hnr:∀i,tm i=.bad\/NR 4 (tm i))(k:Nat)(G G':LP):zjb (zgC tm L k++G) (zgC tm L (k+1)++G++G') (zgC tm L (k+1)++G) G' :=
 zjb.front rfl fun id o ho=>ztA hnr (k+1) id o ho
theorem zff(w:LN):(zcr left w).length<=28:=by
 unfold zcr
 split
 .rename_i h;have h1:∀(prev:Nat) (l:LN),2*(zbQ prev l).length<=l.length:=by
   intro prev l
   induction prev,l using zbQ.induct<;>rw[zbQ]<;>simp_all<;>omega
  have h2:=h1 left w;simp[zcb]at h;omega
 .simp
theorem zx9(tm:Nat->PV)(h4:tm 4=.ptr 0 0 0 0 1)(hnr:∀i,tm i=.bad\/NR 4 (tm i))(L:LK)(k j:Nat)(x:Pr)(hx:L[k]?=some x)(hL:L.length<1000000)(G:LP) :
  FY ET 3 [.int .i64 j,pv x] (zgC tm L k++G) fun r H'=>r=true/\H'=zgC tm L (k+1)++G:=by
 have hk:k<L.length:=(zAB9.1 hx).1;have hxk:L[k]=x:=(zAB9.1 hx).2;have hlt:(L.take k).length=k:=by simp;omega
 refine FY.gc (zkX (tm:=tm) (ps:=[10,11]) (aS:=zws) (bo:=zxJ) rfl rfl ?_);refine zbF ?_;refine zfx ?_ (by simp(disch:=omega)only[go_sem,zgC]<;>rfl);refine zdg ?_;refine⟨rfl,_,_,_,_,_,_,rfl,?_⟩;refine zay (zbF ?_);have hb:(k+1)*17<=140737488355328:=zo;refine zKF (zr3 h4 hlt hb) ?_;have htk:(L.take k).map pv++[PV.agg [uv x.1,uv x.2]]=(L.take (k+1)).map pv:=by
  rw[zAZ9,hx];simp
 rw[htk,zAR9];exact⟨rfl,.busy,.norm,tm,[10,11],zws,zxJ,2,rfl,zgC tm L (k+1)++G,[zc.row 92 2 0 0 [pv x]]++[zc.row 92 2 0 0 [PV.agg [uv x.1,uv x.2]]],zxd hnr k G _,rfl,rfl⟩
theorem zvq(hw:zbL w.length):FR 214 [uv left,wv p w] (psv 0 (zcr left w)):=by
 refine zfn (eG T214 func214) (Lb.pvs _) ?_;refine zGI ?_;refine zcp (zDW p w left) ?_;refine zN ?_;refine zay ?_;refine zq9 92 2 (id:=0) rfl ?_;simp only[lzy,zAH9,zAP9,zCR9,zAN9,zAV9];refine zkU (g:=324) (cap:=[.elem [wv p w],.elem [uv left]]) (b:=false) (by simp only[go_sem]) ?_;have hL:(zeH left w).length=(zcr left w).length:=by rw[<- znS];simp
 have h28:=zff left w;have hnr:∀i,(upd (upd (upd (upd (zD [uv left,wv p w]) 4 (PV.ptr 0 0 0 0 1)) 7 (uv left)) 8 (wv p w)) 9 (PV.fn 324 [PV.elem [wv p w],PV.elem [uv left]])) i=.bad\/NR 4 ((upd (upd (upd (upd (zD [uv left,wv p w]) 4 (PV.ptr 0 0 0 0 1)) 7 (uv left)) 8 (wv p w)) 9 (PV.fn 324 [PV.elem [wv p w],PV.elem [uv left]])) i) :=
  zjx (zjx (zjx (zjx (zDB fun v hv=>by simp at hv;rcases hv with rfl|rfl<;>constructor) (.ptr _ _ _ _ zo)) (.int _ _)) (.list _ _ _)) (.fn fun x hx=>by simp at hx;rcases hx with rfl|rfl<;>constructor)
 have hP:=zCk 3 p w left hw (zgC _ (zcr left w)) (fun _=>rfl) (fun k i o ho=>ztA hnr k i o ho) fun k j x G hk =>
  zx9 _ rfl hnr (zcr left w) k j x (by rw[<- znS];simp[hk]) zo G
 refine FO.mono (fun e H' he=>?_) hP;obtain⟨rfl,rfl⟩:=he;refine⟨⟨_,rfl⟩,.ready,.norm,_,_,_,_,_,by simp,rfl,?_⟩;rw[hL];refine zbG (zbF ?_);refine zfx ?_ (by simp(disch:=omega)only[go_sem,zgC]<;>rfl);refine zb8 ?_;refine zbK ?_;refine zn5 (vs:=[.sl 1 (zcr left w).length 0 (zcr left w).length (2*(zcr left w).length) 2]) rfl rfl ?_;refine Frz.wh (e:=92) (z':=2) (G:=(zcr left w).length) (l:=(zcr left w).map pv) ?_ rfl (by simp) (by simp) (fun v hv=>?_) zgZ
 .grind
 .obtain⟨x,_,rfl⟩:=zAJ9.1 hv;rfl


def zd0(left:Nat)(w:LN):FE:=if zcb left w.length=true then if zdt left w=true then .ret (psv 0 (zcr left w))else .panic (zce 190)else .panic (zce 2)
theorem zb2(h:e=.panic (zce n)):zbo H 0 (.panic (zce n)) e:=by subst h;exact Frz.iface (.int _ _)
theorem zrC(seen:LN)(L:LK)(i:Nat)(h:i<L.length):zdO seen (L.drop i)=(!seen.contains L[i].2&&zdO (L[i].2::seen) (L.drop (i+1))):=by
 rw[zAK9 h];rfl
theorem zpX(h:2*i+1<w.length):zgh (w.drop (2*i))=(decide (w[2*i+1]=0)&&zgh (w.drop (2*(i+1)))):=by
 rw[zpt w i h];rfl
theorem zqI(h:w.length<=2*i+1):zgh (w.drop (2*i))=true:=by
 match h2:w.drop (2*i)with
 | []=>rfl
 | [_]=>rfl
 | a::b::l=>have:=congrArg List.length h2;grind
theorem zpv(hw:zbL w.length):FN ET 221 [ziG p w left] (zd0 left w):=by
 refine zfn (eG T221 func221) ?_ ?_
 .unfold zd0;split
  .split
   .exact Lb.pvs _
   .exact .iface (.int _ _)
  .exact .iface (.int _ _)
 refine zGI ?_;refine zca (zoh p w left hw) ?_
 by_cases hr:zcb left w.length=true
 rotate_left
 .have hr:zcb left w.length=false:=by simpa using hr
  rw[hr];refine zfx ?_;refine zcx (ze4 2) ?_;exact zb2 (by simp[zd0,hr])
 rw[hr];refine zfx ?_;refine zCN (zg1 2) ?_;refine zM (zvq p w left hw) ?_;have h28:=zff left w;refine zI ?_;refine zca (zzi 0 (zcr left w) zo) ?_
 by_cases hs1:zbT (zcr left w)=true
 rotate_left
 .have hs1:zbT (zcr left w)=false:=by simpa using hs1
  rw[hs1];refine zfx ?_;refine zcx (ze4 190) ?_;exact zb2 (by simp[zd0,hr,zdt,hs1])
 rw[hs1];refine zfx ?_;refine zCN (zg1 190) ?_;refine zG ?_;generalize hL:zcr left w=L at *
 have hset:zdt left w=(zdO [left] L&&decide (L.length=zb7 w)&&decide (L.length<w.length/2)&&zgh (w.drop (2*L.length))):=by simp[zdt,hL,hs1]
 refine zay (zbE (fun m s=>∃(i:Nat) (seen:LN) (mm:Int->LW) (G:LP),m=L.length-i/\i<=L.length/\zdO [left] L=zdO seen (L.drop i)/\(∀q:Nat,mm q=if seen.contains q=true then some (iv 1)else none)/\s.tm 1=.ptr 0 0 0 0 2/\s.tm 3=psv 0 L/\s.tm 4=.map 1/\s.tm 23=psv 0 L/\s.tm 24=iv L.length/\s.tm 25=iv i/\s.df=[]/\s.H=.row 299 2 0 0 [ziG p w left]::.mapI .u64 mm::G) (n:=L.length) ?_ ?_)
 .refine⟨0,[left],_,[],by simp,by omega,rfl,?_,zt,zt,zt,zt,zt,zt,rfl,rfl⟩;intro q
  grind
 .rintro m ⟨tm,df,H⟩ ⟨i,seen,mm,G,rfl,hi,hpt,hmm,h1,h3,h4,h23,h24,h25,rfl,rfl⟩;dsimp only at *
  refine zLh (zr6 h1 h3 h4 h23 h24 h25) ?_ ?_
  .intro hlt;have hlt:i<L.length:=ztd hlt;have hq:=hmm L[i].2;refine zbG (zay ?_);refine zGF (zr7 h1 h3 h4 h23 h24 h25 (zAA9 hlt)) ?_
   by_cases hc:seen.contains L[i].2=true
   .rw[if_pos hc]at hq;refine zIF (zr7 h1 h3 h4 h23 h24 h25 hq) ?_;refine zcx (ze4 190) ?_;exact zb2 (by unfold zd0;rw[if_pos hr,hset,hpt,zrC _ _ _ hlt,hc];simp)
   .rw[if_neg hc]at hq;have hc:seen.contains L[i].2=false:=by simpa using hc
    refine zIF (zr7 h1 h3 h4 h23 h24 h25 hq) ?_;refine zCN (zg1 190) ?_;refine zbF ?_;refine zKF (zr6 h1 h3 h4 h23 h24 h25) ?_;refine zJF h25 ?_;refine⟨_,?_,i+1,L[i].2::seen,_,_,rfl,by omega,?_,?_,zu h1,zu h3,zu h4,zu h23,zu h24,zu h25,rfl,rfl⟩
    .omega
    .rw[hpt,zrC _ _ _ hlt,hc];simp
    .intro q
     by_cases hq:q=L[i].2
     .grind
     .have:¬(q:Int)=(L[i].2:Nat):=zo
      grind
  .intro hlt;have hlt:¬i<L.length:=zfd hlt;obtain rfl:i=L.length:=zo;rw[zBH9]at hpt;have hpt:zdO [left] L=true:=by rw[hpt];rfl
   refine zIF (zr2 h1 h3) ?_;refine zca (zzs p w left hw) ?_;have hmm2:2*(w.length/2)=w.length:=by simp[zcb]at hr;omega
   by_cases hc1:L.length=zb7 w
   rotate_left
   .have g1:¬(L.length:Int)=(zb7 w:Nat):=zo;refine zbV (zr3 h1 h3 g1) ?_;refine zcx (ze4 190) ?_;exact zb2 (by unfold zd0;grind)
   have g1:(L.length:Int)=(zb7 w:Nat):=zo;refine zbV (zr3 h1 h3 g1) ?_;refine zca (zkr p w hw) ?_
   by_cases hc2:L.length<w.length/2
   rotate_left
   .have g2:¬((zb7 w:Nat):Int)<((w.length/2:Nat):Int):=zo;refine zbV (zr4 h1 h3 g1 g2) ?_;refine zcx (ze4 190) ?_;exact zb2 (by unfold zd0;grind)
   have g2:((zb7 w:Nat):Int)<((w.length/2:Nat):Int):=zo;refine zbV (zr4 h1 h3 g1 g2) ?_;refine zCN (zg1 190) ?_;refine zGF (zr2 h1 h3) ?_;refine zay (zbE (fun m s=>∃i:Nat,m=w.length-i/\2*i<=w.length/\zgh (w.drop (2*L.length))=zgh (w.drop (2*i))/\s.tm 1=.ptr 0 0 0 0 2/\s.tm 3=psv 0 L/\s.tm 7=iv i/\s.df=[]/\s.H=.row 299 2 0 0 [ziG p w left]::.mapI .u64 mm::G) (n:=w.length-L.length) ?_ ?_)
   .exact⟨L.length,rfl,by omega,rfl,zu h1,zu h3,by simp[upd,g1],rfl,rfl⟩
   .clear h1 h3 h4 h23 h24 h25;rintro m ⟨tm,df,H⟩ ⟨i,rfl,hi,hz,h1,h3,h7,rfl,rfl⟩;dsimp only at h1 h3 h7;refine zjA ?_;refine zIF (zr3 h1 h3 h7) ?_;refine zCN (zkr p w hw) ?_;refine zwh ?_ ?_
    .intro hlt;have hlt:i<w.length/2:=ztd hlt;refine zbG (zay ?_);refine zbF ?_;refine zbV (zr3 h1 h3 h7) ?_;refine zca (zl7 p w i hw zo) ?_;have hst:=zpX w i zo
     by_cases h0:w[2*i+1]'zo=0
     .have g3:((w[2*i+1]'zo:Nat):Int)=0:=zo;refine zbV g3 ?_;refine zca (zg1 190) ?_;refine zK ?_;refine zJF h7 ?_;refine⟨_,?_,i+1,rfl,by omega,?_,zu h1,zu h3,zu h7,zt,zt⟩
      .omega
      grind
     .have g3:¬((w[2*i+1]'zo:Nat):Int)=0:=zo;refine zbV g3 ?_;refine zcx (ze4 190) ?_;exact zb2 (by unfold zd0;grind)
    .intro hlt;have hlt:¬i<w.length/2:=zfd hlt;refine zOF (zr2 h1 h3) ?_;have:zd0 left w=.ret (psv 0 L):=by unfold zd0;rw[if_pos hr,hset,hpt,hz,zqI w i zo,hL,decide_eq_true hc1,decide_eq_true hc2];rfl
     rw[this];exact Frz.list _ _ _


theorem zD9:ET.caught.get 201=some ():=by kernel_rfl
theorem zDX:FR 321 [] (.tuple []):=by
 refine zfn (eG T321 func321) Lb.unit ?_;refine zbX ?_;exact⟨[],rfl,Frz.tL trivial⟩
theorem zbo.int(h:e=.ret (.int k n)):zbo H 0 (.ret (.int k n)) e:=by subst h;exact Frz.int _ _
theorem zxX(hw:zbL w.length):FR 249 [uv left,wv p w] (.int .i64 (zcs left w:Nat)):=by
 refine zfn (eG T249 func249) (.int _ _) ?_;refine zGI ?_;refine zh1 (f:=201) (p:=.ptr 0 0 0 0 1) (cl:=.fn 321 []) ?_ ?_ zD9 ?_
 .rfl
 .simp only[go_sem]<;>rfl
 refine zN ?_;refine zI ?_;have hs:=zpv p w left hw;have bad:∀(tm:Nat->PV) (n:Nat),zcs left w=n->tm 4=.ptr 0 0 0 0 1->zej ET T249 (fun e' H=>zbo H 0 e' (.ret (.int .i64 (zcs left w:Nat)))) (.panic (zce n)) ⟨tm,[.caught (.ptr 0 0 0 0 1) (.fn 321 [])],[.row 38 1 0 0 [.int .i64 0]]⟩:=fun tm n hn h4=>by
  refine⟨n,321,[],true,0,0,1,rfl,rfl,rfl,(FN.FO (args:=[]) zDX trivial).mono fun e H he=>?_⟩;obtain⟨rfl,rfl⟩:=he;refine⟨rfl,_,rfl,[.int .i64 n],?_,zbo.int (by rw[hn])⟩;simp[T249,xT,zbd,okv,h4,zax,zbh,zbi];rfl
 by_cases hr:zcb left w.length=true
 rotate_left
 .have he:zd0 left w=.panic (zce 2):=by simp[zd0,hr]
  rw[he]at hs;refine zcx hs ?_;exact bad _ 2 (by simp[zcs,hr]) rfl
 by_cases h2:zdt left w=true
 rotate_left
 .have he:zd0 left w=.panic (zce 190):=by simp[zd0,hr,h2]
  rw[he]at hs;refine zcx hs ?_;exact bad _ 190 (by simp[zcs,hr,h2]) rfl
 have he:zd0 left w=.ret (psv 0 (zcr left w)):=by simp[zd0,hr,h2]
 rw[he]at hs;refine zCN hs ?_;refine zG ?_;refine zbK ?_;have:zcs left w=0:=by simp[zcs,hr,h2]
 rw[this];exact⟨[.int .i64 0],rfl,Frz.int _ _⟩


theorem f266:ET.funcs.get 266=some T266:=zkJ func266
theorem zbo.bool{b b':Bool}(h:b=b'):zbo H 0 (.ret (.bool b)) (.ret (.bool b')):=by subst h;exact Frz.bool _
theorem zbo.uv{b b':Int}(h:b=b'):zbo H 0 (.ret (.int k b)) (.ret (.int k b')):=by subst h;exact Frz.int _ _
theorem zto:FR 252 [uv x] (.bool (zdH x)):=by
 refine zfn (eG T252 func252) (.bool _) ?_;refine zG ?_;refine zbF ?_
 by_cases h:1<=x
 .have g:(1:Int)<=x:=zo;refine zPF g ?_;exact zbo.bool (by simp[zdH,h];omega)
 .have g:¬(1:Int)<=x:=zo;refine zPF g ?_;exact zbo.bool (by simp[zdH,h])
@[reducible] def zer (a b c d e:Nat):LQ:=[iv a,iv b,uv c,uv d,iv e,.nilsl]
theorem zFj:FR 261 [.elem cs,uv x] (.bool (decide (7522529147838689024<=x)&&decide (x<=7522529147838689024+12))):=by
 refine zfn (eG T261 func261) (.bool _) ?_;refine zG ?_;refine zbF ?_
 by_cases h:7522529147838689024<=x
 .have g:(7522529147838689024:Int)<=x:=zo;refine zPF g ?_;exact zbo.bool (by grind)
 .have g:¬(7522529147838689024:Int)<=x:=zo;refine zPF g ?_;exact zbo.bool (by simp[h])
theorem zFx:FR 264 [.elem cs,uv x] (.bool (decide (x<2048))):=by
 refine zfn (eG T264 func264) (.bool _) ?_;refine zO ?_;exact zbo.bool (by grind)
theorem zFB:FR 267 [.elem cs,uv x] (.bool true):=by
 refine zfn (eG T267 func267) (.bool _) ?_;refine zO ?_;exact zbo.bool rfl
theorem zFs:FR 273 [.elem cs,uv x] (.bool (decide (x<=2))):=by
 refine zfn (eG T273 func273) (.bool _) ?_;refine zO ?_;exact zbo.bool (by grind)
theorem zFz(a b c d e x:Nat):FR 270 [.elem (zer a b c d e),uv x] (.bool (zdC 3 a x)):=by
 refine zfn (eG T270 func270) (.bool _) ?_;refine zG ?_;refine zbF ?_
 by_cases h:a=0
 .have g0:(a:Int)=0:=zo
  by_cases h2:x=9223372036854775808
  .have g:(x:Int)=9223372036854775808:=zo;refine zPF (zr2 g0 g) ?_;exact zbo.bool (by simp[zdC,h,h2])
  .have g:¬(x:Int)=9223372036854775808:=zo;refine zPF (zr2 g0 g) ?_;exact zbo.bool (by simp[zdC,h,h2])
 .have g:¬(a:Int)=0:=zo;have g2:(0:Int)<a:=zo;have h2:0<a:=zo;refine zbV (zr2 g g2) ?_;refine zca (zto x) ?_;refine zP ?_;exact zbo.bool (by simp[zdC,h,h2])
theorem zAb:FR 213 [] (.list 0 3 zja):=by
 refine zfn (eG T213 func213) ?_ ?_
 .refine .list fun x hx=>?_;simp[zja,List.range,List.range.loop,PV.cells]at hx;rcases hx with h|h|h|h|h|h|h|h|h|h|h|h|h|h|h<;>subst h<;>exact .fn fun _ h=>by cases h
 refine zO ?_;refine Frz.wh rfl rfl rfl zy ?_ ?_
 .intro v hv;simp[zja,List.range,List.range.loop]at hv;rcases hv with h|h|h|h|h<;>subst h<;>rfl
 .intro v hv;simp[zja,List.range,List.range.loop,PV.cells]at hv;rcases hv with h|h|h|h|h|h|h|h|h|h|h|h|h|h|h<;>subst h<;>exact .fn fun _ h=>by cases h


@[reducible] def zfy (cs:LQ):zc:=.row 143 6 0 0 [.agg cs]
theorem zfX{F:zd}{R:FE->LP->Prop}(h:F.res=[])(k:R (.ret (.tuple [])) H):zej ET F R .norm ⟨tm,[],H⟩:=zgH (vs:=[]) (by rw[h];rfl) k
section
variable (a b c d e x:Nat)(G:LP)
theorem zEX(k:Nat)(h2:k<=12)(e1:IntKind.u64.wrap ((x:Int)-7522529147838689024)=(k:Int)):FO ET 262 [.ptr 0 0 0 0 6,uv x] (zfy (zer a b c d e)::G) false fun e' H'=>e'=.ret (.tuple [])/\H'=zfy (zer k b c d e)::G:=by
 refine zro (eG T262 func262) ?_;refine zbF ?_;refine zbV e1 ?_;refine ziu (zfX rfl ⟨rfl,rfl⟩)
theorem zCL(h1:7522529147838689024<=x)(h2:x<=7522529147838689024+12)(k:Nat)(hk:k=x-7522529147838689024):k<=12/\IntKind.u64.wrap ((x:Int)-7522529147838689024)=(k:Int):=by rw[wrap_u64 zo zo];omega
theorem set0(h1:7522529147838689024<=x)(h2:x<=7522529147838689024+12)(k:Nat)(hk:k=x-7522529147838689024):FO ET 262 [.ptr 0 0 0 0 6,uv x] (zfy (zer a b c d e)::G) false fun e' H'=>e'=.ret (.tuple [])/\H'=zfy (zer k b c d e)::G :=
 zEX a b c d e x G k (zCL x h1 h2 k hk).1 (zCL x h1 h2 k hk).2
theorem zFq(h1:x<2048):FO ET 265 [.ptr 0 0 0 0 6,uv x] (zfy (zer a b c d e)::G) false fun e' H'=>e'=.ret (.tuple [])/\H'=zfy (zer a x c d e)::G:=by
 refine zro (eG T265 func265) ?_;refine zbF ?_;refine zfx ?_;refine ziu (zfX rfl ⟨rfl,rfl⟩)
theorem zFr:FO ET 268 [.ptr 0 0 0 0 6,uv x] (zfy (zer a b c d e)::G) false fun e' H'=>e'=.ret (.tuple [])/\H'=zfy (zer a b x d e)::G:=by
 refine zro (eG T268 func268) ?_;refine zbF ?_;refine zfx ?_;refine ziu (zfX rfl ⟨rfl,rfl⟩)
theorem zFC:FO ET 271 [.ptr 0 0 0 0 6,uv x] (zfy (zer a b c d e)::G) false fun e' H'=>e'=.ret (.tuple [])/\H'=zfy (zer a b c x e)::G:=by
 refine zro (eG T271 func271) ?_;refine zbF ?_;refine zfx ?_;refine ziu (zfX rfl ⟨rfl,rfl⟩)
theorem zFg(h1:x<=2):FO ET 274 [.ptr 0 0 0 0 6,uv x] (zfy (zer a b c d e)::G) false fun e' H'=>e'=.ret (.tuple [])/\H'=zfy (zer a b c d x)::G:=by
 refine zro (eG T274 func274) ?_;refine zbF ?_;refine zfx ?_;refine ziu (zfX rfl ⟨rfl,rfl⟩)
end
section
variable (p:Nat)(n:zZ)
end
variable {k:Int}(p lv:Nat)(w:LN)(i:Nat)(l:LK)(n:zZ)(q:Pr)(x:Nat)
def hAt(lv:Nat)(w:LN)(i:Nat):LQ :=
 zer (if 0<i then lv else 0) (if 1<i then w.getD 1 0 else 0) (if 2<i then w.getD 2 0 else 0) (if 3<i then w.getD 3 0 else 0) (if 4<i then w.getD 4 0 else 0)
theorem zEk(hi:i<5):FN ET (zEz i) [.elem (hAt lv w i),uv x] (.ret (.bool (zdC i lv x))):=by
 match i,hi with
 | 0,_=>exact zFj _ x
 | 1,_=>exact zFx _ x
 | 2,_=>exact zFB _ x
 | 3,_=>exact zFz _ _ _ _ _ x
 | 4,_=>exact zFs _ x
theorem zD8(hlv:lv=w.getD 0 0-7522529147838689024)(i:Nat)(hi:i<5)(hm:zdC i lv (w.getD i 0)=true)(G:LP):FO ET (zEH i) [.ptr 0 0 0 0 6,uv (w.getD i 0)] (zfy (hAt lv w i)::G) false fun e H'=>e=.ret (.tuple [])/\H'=zfy (hAt lv w (i+1))::G:=by
 match i,hi with
 | 0,_=>rw[zdC,zAI9,decide_eq_true_eq,decide_eq_true_eq]at hm;exact set0 _ _ _ _ _ _ _ hm.1 hm.2 lv hlv
 | 1,_=>rw[zdC,decide_eq_true_eq]at hm;exact zFq _ _ _ _ _ _ _ hm
 | 2,_=>exact zFr _ _ _ _ _ _ _
 | 3,_=>exact zFC _ _ _ _ _ _ _
 | 4,_=>rw[zdC,decide_eq_true_eq]at hm<;>first|exact zFg _ _ _ _ _ _ _ hm|simp
theorem zyM(hi:i<5):zja[i]?=some (zCG i):=by
 match i,hi with
 | 0,_=>rfl
 | 1,_=>rfl
 | 2,_=>rfl
 | 3,_=>rfl
 | 4,_=>rfl
theorem zxY:zja.length=5:=rfl


def zfV{α:Type}(pr:α->Bool)(l:List α):Int:=match l.findIdx? pr with|some i=>(i:Int)|none=>-1
theorem znG{α:Type}(pr:α->Bool)(l:List α):decide (0<=zfV pr l)=l.any pr:=by
 unfold zfV
 grind
theorem zoD{lab:Nat}:∀l:LQ,(∀v∈l,Id0 v)->LF H lab l l
 | [],_=>trivial
 | x::l,h=>⟨(h x zAM9).frz,zoD l fun v hv=>h v (zAO9 _ hv)⟩
theorem zuD(l:LN)(hl:zbL l.length)(g:Nat)(caps:LQ)(hc:∀v∈caps,Id0 v)(pr:Nat->Bool)(hg:∀x∈l,FN ET g (uv x::caps) (.ret (.bool (pr x)))):FR 260 [wv p l,.fn g caps] (iv (zfV pr l)):=by
 refine zfn (eG T260 func260) (.int _ _) ?_;refine zG ?_;refine zay (zbE (fun m s=>∃i:Nat,m=l.length-i/\i<=l.length/\l.findIdx? pr=((l.drop i).findIdx? pr).map (· + i)/\s.tm 0=wv p l/\s.tm 1=.fn g caps/\s.tm 7=iv l.length/\s.tm 8=iv i/\s.df=[]/\s.H=[]) (n:=l.length) ?_ ?_)
 .exact⟨0,by simp[upd,zD]⟩
 .rintro m ⟨tm,df,H⟩ ⟨i,rfl,hi,hf,h0,h1,h7,h8,rfl,rfl⟩;dsimp only at h0 h1 h7 h8;refine zLh (zr4 h0 h1 h7 h8) ?_ ?_
  .intro hlt;have hlt:i<l.length:=ztd hlt;refine zbG (zay ?_);refine zGF h8 ?_;refine zIF (zr3 h0 h1 (zAA9 hlt)) ?_;refine zdq (caps:=caps) (vs:=[uv l[i]]) rfl ?_ (hg _ (zBJ9 hlt)) (zoD _ (fun v hv=>?_)) ?_
   .simp only[go_sem,h1]
   .rcases zAX9.1 hv with rfl|hv
    .exact .int _ _
    .exact hc v hv
   refine zN ?_;rw[zAK9 hlt,zED9]at hf;refine zfc ?_ ?_
   .intro hb;have hb:pr l[i]=true:=hb;refine zO ?_;rw[if_pos hb]at hf;exact zbo.uv (by simp[zfV,hf])
   .intro hb;have hb:pr l[i]=false:=hb;refine zbX ?_;refine zJF h8 ?_;refine⟨_,?_,i+1,rfl,hlt,?_,zu h0,zu h1,zu h7,zt,zt,zt⟩
    .omega
    .rw[hf,hb]
     cases (l.drop (i+1)).findIdx? pr with
     | none=>rfl
     | some j=>simp;omega
  .intro hlt;have hlt:¬i<l.length:=zfd hlt;obtain rfl:i=l.length:=zo;refine zO ?_;rw[zBH9]at hf;exact zbo.uv (by simp[zfV,hf])
theorem zqv(l:LN)(hl:zbL l.length)(g:Nat)(caps:LQ)(hc:∀v∈caps,Id0 v)(pr:Nat->Bool)(hg:∀x∈l,FN ET g (uv x::caps) (.ret (.bool (pr x)))):FR 211 [wv p l,.fn g caps] (.bool (l.any pr)):=by
 refine zfn (eG T211 func211) (.bool _) ?_;refine zGI ?_;refine zdq (caps:=[]) (vs:=[wv p l,.fn g caps]) rfl ?_ (zuD p l hl g caps hc pr hg) ?_ ?_
 .simp only[go_sem]
 .refine⟨.list _ _ _,⟨Id0.frz (.fn hc),trivial⟩⟩
 refine zP ?_;exact zbo.bool (znG _ _)
theorem zum(hl:zbL l.length)(g:Nat)(caps:LQ)(hc:∀v∈caps,Id0 v)(pr:Pr->Bool)(hg:∀x∈l,FN ET g (pv x::caps) (.ret (.bool (pr x)))):FR 322 [psv p l,.fn g caps] (iv (zfV pr l)):=by
 refine zfn (eG T322 func322) (.int _ _) ?_;refine zG ?_;refine zay (zbE (fun m s=>∃i:Nat,m=l.length-i/\i<=l.length/\l.findIdx? pr=((l.drop i).findIdx? pr).map (· + i)/\s.tm 0=psv p l/\s.tm 1=.fn g caps/\s.tm 7=iv l.length/\s.tm 8=iv i/\s.df=[]/\s.H=[]) (n:=l.length) ?_ ?_)
 .exact⟨0,by simp[upd,zD]⟩
 .rintro m ⟨tm,df,H⟩ ⟨i,rfl,hi,hf,h0,h1,h7,h8,rfl,rfl⟩;dsimp only at h0 h1 h7 h8;refine zLh (zr4 h0 h1 h7 h8) ?_ ?_
  .intro hlt;have hlt:i<l.length:=ztd hlt;refine zbG (zay ?_);refine zGF h8 ?_;refine zIF (zr3 h0 h1 (zAA9 hlt)) ?_;refine zdq (caps:=caps) (vs:=[pv l[i]]) rfl ?_ (hg _ (zBJ9 hlt)) (zoD _ (fun v hv=>?_)) ?_
   .simp only[go_sem,h1]
   .rcases zAX9.1 hv with rfl|hv
    .exact .agg fun y hy=>by simp at hy;rcases hy with rfl|rfl<;>exact .int _ _
    .exact hc v hv
   refine zN ?_;rw[zAK9 hlt,zED9]at hf;refine zfc ?_ ?_
   .intro hb;have hb:pr l[i]=true:=hb;refine zO ?_;rw[if_pos hb]at hf;exact zbo.uv (by simp[zfV,hf])
   .intro hb;have hb:pr l[i]=false:=hb;refine zbX ?_;refine zJF h8 ?_;refine⟨_,?_,i+1,rfl,hlt,?_,zu h0,zu h1,zu h7,zt,zt,zt⟩
    .omega
    .rw[hf,hb]
     cases (l.drop (i+1)).findIdx? pr with
     | none=>rfl
     | some j=>simp;omega
  .intro hlt;have hlt:¬i<l.length:=zfd hlt;obtain rfl:i=l.length:=zo;refine zO ?_;rw[zBH9]at hf;exact zbo.uv (by simp[zfV,hf])
theorem zkK(hl:zbL l.length)(g:Nat)(caps:LQ)(hc:∀v∈caps,Id0 v)(pr:Pr->Bool)(hg:∀x∈l,FN ET g (pv x::caps) (.ret (.bool (pr x)))):FR 250 [psv p l,.fn g caps] (.bool (l.any pr)):=by
 refine zfn (eG T250 func250) (.bool _) ?_;refine zGI ?_;refine zdq (caps:=[]) (vs:=[psv p l,.fn g caps]) rfl ?_ (zum p l hl g caps hc pr hg) ?_ ?_
 .simp only[go_sem]
 .refine⟨.list _ _ _,⟨Id0.frz (.fn hc),trivial⟩⟩
 refine zP ?_;exact zbo.bool (znG _ _)


theorem zEf:FR 212 [uv x] (.bool (decide (x≠0))):=by
 refine zfn (eG T212 func212) (.bool _) ?_;refine zO ?_;exact zbo.bool (by grind)
theorem Lb.node:Lb (zbJ 0 n):=.agg fun v hv=>by
 simp at hv;rcases hv with h|h|h|h|h|h<;>subst h
 .exact .int _ _
 .exact .int _ _
 .exact .int _ _
 .exact .int _ _
 .exact .int _ _
 .exact Lb.pvs _
theorem Lb.two{a b:PV}(ha:Lb a)(hb:Lb b):Lb (.tuple [a,b]):=.tuple fun v hv=>by grind
def zfb(w:LN):FE:=if headB w=true then .ret (.tuple [zbJ 0 (headN w),iv 0])else .ret (.tuple [zbJ 0 zeY,iv 210])
theorem zEu:∀v∈hAt lv w i,Id0 v:=fun v hv=>by
 simp[hAt]at hv;rcases hv with h|h|h|h|h|h<;>subst h<;>constructor
@[reducible] def zgE:PV:=.agg [iv 0,iv 0,uv 0,uv 0,iv 0,.nilsl]
theorem zqo:Frz H 0 (.tuple [zgE,iv 210]) (.tuple [zbJ 0 zeY,iv 210]):=by
 refine Frz.tL ⟨Frz.aggL ⟨.int _ _,.int _ _,.int _ _,.int _ _,.int _ _,.nil _ _,trivial⟩,.int _ _,trivial⟩
theorem zt2{w:LN}(h:headB w=false):zbo H 0 (.ret (zlH [zgE,iv 210])) (zfb w):=by
 unfold zfb;rw[if_neg (by grind)];exact zqo
theorem ztY(hl:w.length=64)(lv:Nat)(hlv:lv=ziC (w.getD 0 0)):headB w=(!(((w.take 8).drop 5).any fun x=>decide (x≠0))&&(List.range 5).all fun i=>zdC i lv (w.getD i 0)):=by
 subst hlv;unfold headB
 grind
theorem zsw(lv:Nat)(hlv:lv=ziC (w.getD 0 0)):headN w=⟨lv,w.getD 1 0,w.getD 2 0,w.getD 3 0,w.getD 4 0,zcr (w.getD 3 0) (w.drop 8)⟩:=by
 subst hlv;unfold headN;rfl
theorem zw1:∃lv,lv=ziC (w.getD 0 0):=⟨_,rfl⟩
theorem zCH(hw:zbL w.length):FN ET 148 [wv p w] (zfb w):=by
 refine zfn (eG T148 func148) ?_ ?_
 .unfold zfb;split
  .exact Lb.two (Lb.node _) (.int _ _)
  .exact Lb.two (Lb.node _) (.int _ _)
 refine zbG (zbF ?_);refine zN ?_;refine zm6 ?_;refine zBr ?_;have h2:(1:Nat)=1:=rfl
 by_cases hl:w.length=64
 rotate_left
 .have g:¬(w.length:Int)=64:=zo;refine zNF g ?_;refine zfc ?_ ?_
  .intro _;refine zkH ⟨rfl,?_⟩;refine zbG (zbX ?_);simp only[ze3,reduceIte];refine zIF h2 ?_;refine zb8 ?_;refine zbK ⟨(fun l h=>FX.noConfusion h),?_⟩;refine zc8 (vs:=[zgE,iv 210]) ?_ ?_
   .simp only[T148,zbd,go_sem];rfl
   .exact zt2 (by simp[headB,hl])
  .intro h;cases h
 have g:(w.length:Int)=64:=zo;have hm1:List.drop 5 (List.take 8 (List.map uv w))=((w.take 8).drop 5).map uv:=by simp[zBZ9,zCH9]
 refine zbV (zr2 hl hm1) ?_;refine zCN (zqv p ((w.take 8).drop 5) (by simp;omega) 212 [] (fun _ h=>by cases h) (fun x=>decide (x≠0)) fun x _=>zEf x) ?_;obtain⟨lv,hlv⟩:=zw1 w;have hsp:=ztY w hl lv hlv;refine zfc ?_ ?_
 .intro hb;have hb:(((w.take 8).drop 5).any fun x=>decide (x≠0))=true:=hb;refine zkH ⟨rfl,?_⟩;refine zbG (zbX ?_);simp only[ze3,reduceIte];refine zIF h2 ?_;refine zb8 ?_;refine zbK ⟨(fun l h=>FX.noConfusion h),?_⟩;refine zc8 (vs:=[zgE,iv 210]) ?_ ?_
  .simp only[T148,zbd,go_sem];rfl
  .exact zt2 (by grind)
 intro hb;have hb:(((w.take 8).drop 5).any fun x=>decide (x≠0))=false:=hb;rw[hb]at hsp;refine zSk ?_;refine zI ?_;refine zca zAb ?_;refine zfx ?_ (by simp(disch:=omega)only[go_sem,zxY]<;>rfl);refine zb8 ?_;have hsp:headB w=(List.range 5).all fun i=>zdC i lv (w.getD i 0):=by simpa using hsp
 clear hm1 h2;refine zay (zbE (fun m s=>∃(i:Nat) (G:LP),m=5-i/\i<=5/\(∀j,j<i->zdC j lv (w.getD j 0)=true)/\s.tm 0=wv p w/\s.tm 2=.ptr 0 0 0 0 6/\s.tm 14=.list 0 3 zja/\s.tm 15=iv 5/\s.tm 16=iv i/\s.df=[]/\s.H=zfy (hAt lv w i)::G) (n:=5) ?_ ?_)
 .exact⟨0,[],rfl,by omega,(fun j hj=>by omega),zt,zt,zt,zt,zt,rfl,rfl⟩
 .rintro m ⟨tm,df,H⟩ ⟨i,G,rfl,hi,hmay,h0,h2,h14,h15,h16,rfl,rfl⟩;dsimp only at *
  refine zLh (zr5 h0 h2 h14 h15 h16) ?_ ?_
  .intro hlt;have hlt:i<5:=ztd hlt;have hwi:w[i]?=some (w.getD i 0):=by rw[zAQ9,zAA9 zo];rfl
   have hid:=zEu lv w i;refine zBb ?_;refine zGF (zr5 h0 h2 h14 h16 (zyM i hlt)) ?_;refine zBd ?_;refine zcw (zr3 h0 h2 hwi) (zEk lv w i (w.getD i 0) hlt) ?_;refine zQF h0 ?_
   by_cases hm:zdC i lv (w.getD i 0)=true
   rotate_left
   .have hm:zdC i lv (w.getD i 0)=false:=by simpa using hm
    refine zfc ?_ ?_
    .intro _;refine zkH ⟨rfl,?_⟩;refine zbG (zbX ?_);simp only[ze3,reduceIte];refine zIF h2 ?_;refine zb8 ?_;refine zbK ⟨(fun l h=>FX.noConfusion h),?_⟩;refine zc8 (vs:=[zgE,iv 210]) ?_ ?_
     .simp only[zbd,go_sem,h2];rfl
     .exact zt2 (by grind)
    .rw[hm];intro h;cases h
   refine zfc ?_ ?_
   .rw[hm];intro h;cases h
   intro _;refine zSk ?_;refine zbU ?_;refine zrc (s1:=?_) (caps:=?_) (vs:=?_) ?_ ?_ rfl rfl ?_ ?_ (zD8 lv w (by rw[hlv,zm8]) i hlt hm ?_) ?_ ?_ ?_;rotate_left 3;(first|exact trivial|(simp only[go_sem,h0,h2,hwi]));(simp(disch:=omega)only[go_sem,h0,hwi]<;>rfl);(first|rfl|(simp only[go_sem,h0,h2,hwi]<;>rfl));(simp only[go_sem,h2]<;>rfl);rotate_left 1;rfl;rfl;rintro e H' he;obtain⟨rfl,rfl⟩:=he;refine⟨_,by simp only[go_sem]<;>rfl,?_⟩;refine zQF h0 ?_;refine zJF h16 ?_;refine⟨_,?_,i+1,_,rfl,hlt,?_,zu h0,zu h2,zu h14,zu h15,zu h16,rfl,rfl⟩
   .omega
   .intro j hj
    grind
  .intro hlt;have hlt:¬i<5:=zfd hlt;obtain rfl:i=5:=zo;have hok:headB w=true:=by rw[hsp,zBQ9];intro j hj;exact hmay j (zCT9.1 hj)
   have h5:hAt lv w 5=zer lv (w.getD 1 0) (w.getD 2 0) (w.getD 3 0) (w.getD 4 0):=rfl;have hm2:List.drop 8 (List.map uv w)=(w.drop 8).map uv:=by simp[zBZ9]
   rw[h5];refine zbG (zbU ?_);refine zcw (zr4 h0 h2 hl hm2) (zvq p (w.drop 8) (w.getD 3 0) (by simp;omega)) ?_;refine zb3 (zr2 h0 h2) ?_;refine zQF h0 ?_;refine zGF h2 ?_;refine zbK (zfr ?_ (by simp only[go_sem,h2]<;>rfl));unfold zfb;rw[if_pos hok];rw[zsw w lv hlv];exact zLF


theorem zss:FR 198 [zbJ p n,pv q] (.bool (zcD n q)):=by
 obtain⟨lv,sib,low,left,way,ps⟩:=n;obtain⟨k,x⟩:=q;refine zfn (eG T198 func198) (.bool _) ?_;refine zG ?_
 by_cases h0:lv=0
 .have g0:(lv:Int)=0:=zo;refine zfc ?_ ?_
  .intro _;refine zbG (zbF ?_)
   by_cases h1:1<=x
   .have g1:(1:Int)<=x:=zo
    by_cases h2:x<=1099511627776
    .have g2:(x:Int)<=1099511627776:=zo;refine zPF (zr2 g1 g2) ?_;exact zbo.bool (by simp[zcD,h0,h1,h2];try omega)
    .have g2:¬(x:Int)<=1099511627776:=zo;refine zPF (zr2 g1 g2) ?_;exact zbo.bool (by simp[zcD,h0,h1,h2])
   .have g1:¬(1:Int)<=x:=zo;refine zPF g1 ?_;exact zbo.bool (by simp[zcD,h0,h1])
  .intro h;exact absurd g0 (of_decide_eq_false h)
 .have g0:¬(lv:Int)=0:=zo;refine zfc ?_ ?_
  .intro h;exact absurd (of_decide_eq_true h) g0
  .intro _;refine zSk ?_;refine zI ?_;refine zca (zto x) ?_
   by_cases hb:zdH x=true
   .rw[hb];refine zP ?_;exact zbo.bool (by simp[zcD,h0,hb])
   .have hb:zdH x=false:=by simpa using hb
    rw[hb];refine zP ?_;exact zbo.bool (by simp[zcD,h0,hb])
@[reducible] def zwz (p:Nat) (n:zZ):LQ:=[iv n.level,iv n.sib,uv n.low,uv n.left,iv n.way,psv p n.pairs]
theorem zu5:FR 251 [pv q,.elem (zwz p n)] (.bool (!zcD n q)):=by
 refine zfn (eG T251 func251) (.bool _) ?_;refine zGI ?_;refine zca (zss p n q) ?_;refine zP ?_;exact zbo.bool rfl
theorem ztr:∀v∈zwz p n,Id0 v:=fun v hv=>by
 simp at hv;rcases hv with h|h|h|h|h|h<;>subst h<;>constructor
def zio(w:LN):FE:=if zb4 w=0 then .ret (.tuple [zbJ 0 (headN w),iv 0])else .ret (.tuple [zbJ 0 zeY,iv (zb4 w:Nat)])
theorem zzJ{w:LN}(h:headB w=true):w.length=64:=by
 unfold headB at h
 grind
theorem zz8{n:zZ}:Frz H 0 (.tuple [zbJ 0 n,iv k]) (.tuple [zbJ 0 n,iv k]):=by
 refine Frz.tL ⟨Frz.aggL ⟨.int _ _,.int _ _,.int _ _,.int _ _,.int _ _,.list _ _ _,trivial⟩,.int _ _,trivial⟩
theorem zom:Frz H 0 (.tuple [zgE,iv k]) (.tuple [zbJ 0 zeY,iv k]):=by
 refine Frz.tL ⟨Frz.aggL ⟨.int _ _,.int _ _,.int _ _,.int _ _,.int _ _,.nil _ _,trivial⟩,.int _ _,trivial⟩
def zh9(n:zZ)(w:LN):FE:=if(decide (zcs n.left (w.drop 8)=0) && !(n.pairs.any fun q=>!zcD n q))=true then .ret (.tuple [zbJ 0 n,iv 0])else .ret (.tuple [zbJ 0 zeY,iv 190])
theorem zvb(hOf:FR 148 [wv p w] (.tuple [zbJ 0 n,iv 0]))(hl:w.length=64)(hps:n.pairs.length<=28):FN ET 197 [wv p w] (zh9 n w):=by
 refine zfn (eG T197 func197) ?_ ?_
 .unfold zh9;split
  .exact Lb.two (Lb.node _) (.int _ _)
  .exact Lb.two (Lb.node _) (.int _ _)
 refine zMG hOf ?_;refine zT ?_;refine zSk ?_;have hm2:List.drop 8 (List.map uv w)=(w.drop 8).map uv:=by simp[zBZ9]
 have hck:=zxX p (w.drop 8) n.left (by simp;omega);refine zBd ?_;have hid:=ztr 0 n
 by_cases h1:zcs n.left (w.drop 8)=0
 rotate_left
 .have g1:¬((zcs n.left (w.drop 8):Nat):Int)=0:=zo;refine zcw (zr2 hl hm2) hck ?_;refine ze6 (by first|exact trivial|simp only[go_sem,g1]) (by simp(disch:=omega)only[go_sem,g1]<;>rfl) rfl (by simp only[go_sem]<;>rfl) (by simp only[go_sem]<;>rfl) ?_;refine zQF g1 ?_;refine zfc ?_ ?_
  .intro _;refine zO ?_;have hs:zh9 n w=.ret (.tuple [zbJ 0 zeY,iv 190]):=by unfold zh9;rw[decide_eq_false h1];rfl
   rw[hs];exact zom
  .intro h;cases h
 rw[h1]at hck;refine zcw (zr2 hl hm2) hck ?_;refine zcw hl (zkK 0 n.pairs zo 251 [.elem (zwz 0 n)] (fun v hv=>by simp at hv;subst hv;exact .elem _) (fun q=>!zcD n q) fun q _=>zu5 0 n q) ?_;refine zQF hl ?_
 by_cases h2:(n.pairs.any fun q=>!zcD n q)=true
 .refine zfc ?_ ?_
  .intro _;refine zO ?_;have hs:zh9 n w=.ret (.tuple [zbJ 0 zeY,iv 190]):=by unfold zh9;rw[h2,decide_eq_true h1];rfl
   rw[hs];exact zom
  .rw[h2];intro h;cases h
 .have h2:(n.pairs.any fun q=>!zcD n q)=false:=by simpa using h2
  refine zfc ?_ ?_
  .rw[h2];intro h;cases h
  .intro _;refine zSk ?_;refine zO ?_;have hs:zh9 n w=.ret (.tuple [zbJ 0 n,iv 0]):=by unfold zh9;rw[h2,decide_eq_true h1];rfl
   rw[hs];exact zz8
theorem zhI(hh:headB w=true):zfb w=.ret (.tuple [zbJ 0 (headN w),iv 0]):=by unfold zfb;grind
theorem zB7(hh:headB w=true):zh9 (headN w) w=zio w:=by
 have hpk:zgR w=(decide (zcs (headN w).left (w.drop 8)=0) && !((headN w).pairs.any fun q=>!zcD (headN w) q)):=by unfold zgR;rfl
 unfold zh9 zio zb4
 grind
theorem zj4(hw:zbL w.length):FN ET 197 [wv p w] (zio w):=by
 have hOf:=zCH p w hw
 by_cases hh:headB w=true
 .rw[zhI w hh]at hOf;have h1:=zvb p w (headN w) hOf (zzJ hh) (zff _ _);rw[zB7 w hh]at h1;exact h1
 have hh:headB w=false:=by simpa using hh
 have he:zfb w=.ret (.tuple [zbJ 0 zeY,iv 210]):=by unfold zfb;rw[if_neg (by omega)]
 have hc:zb4 w=210:=by unfold zb4;rw[if_neg (by omega)]
 have hs:zio w=.ret (.tuple [zbJ 0 zeY,iv 210]):=by unfold zio;rw[hc];rfl
 rw[he]at hOf;rw[hs];refine zfn (eG T197 func197) (Lb.two (Lb.node _) (.int _ _)) ?_;refine zMG hOf ?_;refine zG ?_;refine zfc ?_ ?_
 .intro _;refine zO ?_;exact zom
 .intro h;cases h
theorem zrD(c:Nat)(hs:FR 197 [wv p w] (.tuple [zbJ 0 n,iv c])):FR 162 [wv p w] (iv c):=by
 refine zfn (eG T162 func162) (.int _ _) ?_;refine zMG hs ?_;refine zO ?_;exact Frz.int _ _
theorem zvT(h:zb4 w=0):zio w=.ret (.tuple [zbJ 0 (headN w),iv ((0:Nat):Int)]):=by unfold zio;grind
theorem zvF(h:¬zb4 w=0):zio w=.ret (.tuple [zbJ 0 zeY,iv (zb4 w:Nat)]):=by unfold zio;grind
theorem zy5(hw:zbL w.length):FR 162 [wv p w] (iv (zb4 w:Nat)):=by
 have hs:=zj4 p w hw
 by_cases h0:zb4 w=0
 .rw[zvT w h0]at hs;rw[h0];exact zrD p w _ 0 hs
 .rw[zvF w h0]at hs;exact zrD p w _ _ hs


def zcT(n:zZ):Nat->LN
 | 0=>List.replicate 64 0
 | i+1=>(zcT n i).set i (zxM i n)
theorem zlZ(n:zZ):∀i,(zcT n i).length=64
 | 0=>by simp[zcT]
 | i+1=>by simp[zcT,zlZ n i]
def zdW(n:zZ):Nat->LN
 | 0=>zcT n 5
 | j+1=>((zdW n j).set (8+2*j) (n.pairs.getD j (0,0)).1).set (8+2*j+1) (n.pairs.getD j (0,0)).2
theorem zg5(n:zZ):∀j,(zdW n j).length=64
 | 0=>zlZ n 5
 | j+1=>by simp[zdW,zg5 n j]


theorem zCt(k k':IntKind)(x y x' y':Int):zcI [1,1] [.int k x,.int k' y] [.int k x',.int k' y']=some (decide (x=x')&&decide (y=y')):=by
 by_cases h:x=x'<;>by_cases h2:y=y'<;>simp[zcI,zlc,zdp,h,h2]


def zdA(n:zZ):LN:=zdW n n.pairs.length
def zxt(n:zZ):Bool:=decide (n.level<=12)&&decide (n.sib<2048)&&decide (n.way<=2)&&decide (n.pairs.length<=27)
def zCD(n:zZ):Bool:=zxt n&&(decide (zb4 (zdA n)=0)&&decide ((headN (zdA n)).pairs=n.pairs))
theorem zy0:zxt n=true↔(n.level<=12/\n.sib<2048/\n.way<=2/\n.pairs.length<=27):=by
 unfold zxt;grind
theorem zii{w:LN}(h:zb4 w=0):headB w=true:=by
 unfold zb4 at h
 grind


def zkp(k:Nat)(l:LK):List (LK):=(List.range ((l.length+(k-1))/k)).map fun i=>(l.drop (k*i)).take k
theorem zhn(k:Nat)(l:LK):(zkp k l).length=(l.length+(k-1))/k:=by simp[zkp]
theorem zwf(f:Nat)(a b:LQ):Id0 (.fn f [.elem a,.elem b]):=.fn fun x hx=>by simp at hx;rcases hx with rfl|rfl<;>exact .elem _
@[reducible] def cv (x:Pr):PV:=.agg [uv x.1,iv x.2]
@[reducible] def csv (p:Nat) (l:LK):PV:=.list p 2 (l.map cv)


def zeC(l:LK)(i:Nat):zZ:=⟨0,0,if 0<i then(l.getD (18*i) (0,0)).1 else 0,9223372036854775808,0,(l.drop (18*i)).take 18⟩
def zcQ(l:LK):LB:=if l=[]then[⟨0,0,0,9223372036854775808,0,[]⟩]else(List.range (zkp 18 l).length).map (zeC l)
theorem ziv{p:Nat}{L:LB}:∀v∈(L.map (zbJ p)).flatMap PV.cells,Id0 v:=fun v hv=>by
 obtain⟨x,hx,hv⟩:=zBB9.1 hv;obtain⟨n,_,rfl⟩:=zAJ9.1 hx;exact ztr p n v hv


theorem f96:ET.funcs.get 96=some T96:=eG _ func96
def zbD(w:LN)(b:Nat):LN:=(w.take (64*b+64)).drop (64*b)
theorem zna(b:Nat)(hw:zbL w.length)(hb:64*b+64<=w.length):FP ET 96 [wv p w,iv b] (.ret (wv p (zbD w b))):=by
 refine zfp f96 ?_;refine zG ?_;have e1:(64:Int)*(b:Int)=((64*b:Nat):Int):=zo;have e2:((64*b:Nat):Int)+64=((64*b+64:Nat):Int):=zo;have e3:64*b<=64*b+64:=zo;have e4:0<w.length:=zo;have e5:List.drop (64*b) (List.take (64*b+64) (List.map uv w))=(zbD w b).map uv:=by simp[zbD,zBZ9,zCH9]
 refine zOF (zr6 e1 e2 e3 e4 hb e5) ?_;exact Frz.list _ _ _
def zci(n:Nat)(a:Int):Bool:=decide (64<=n)&&decide (n%64=0)&&decide (n<=131072)&&decide (0<=a)&&decide (a<n)
theorem zmC(a:Int)(hw:zbL w.length):FN ET 165 [wv p w,iv a] (if zci w.length a=true then .ret (.tuple [])else .panic (zce 2)):=by
 refine zfn (eG T165 func165) ?_ ?_
 .split
  .exact Lb.unit
  .exact .iface (.int _ _)
 refine zbF ?_
 by_cases h1:64<=w.length
 rotate_left
 .have g1:¬(64:Int)<=w.length:=zo;refine zbV g1 ?_;refine zcx (zeN 2) ?_;exact zb2 (by simp[zci,h1])
 have g1:(64:Int)<=w.length:=zo
 by_cases h2:w.length%64=0
 rotate_left
 .have g2:¬(w.length:Int).tmod 64=0:=by rw[IntWalk.rem_in _ _ zo];omega
  refine zbV (zr2 g1 g2) ?_;refine zcx (zeN 2) ?_;exact zb2 (by simp[zci,h1,h2])
 have g2:(w.length:Int).tmod 64=0:=by rw[IntWalk.rem_in _ _ zo];omega
 by_cases h3:w.length<=131072
 rotate_left
 .have g3:¬(w.length:Int)<=131072:=zo;refine zbV (zr3 g1 g2 g3) ?_;refine zcx (zeN 2) ?_;exact zb2 (by simp[zci,h1,h2,h3])
 have g3:(w.length:Int)<=131072:=zo
 by_cases h4:(0:Int)<=a
 rotate_left
 .refine zbV (zr4 g1 g2 g3 h4) ?_;refine zcx (zeN 2) ?_;exact zb2 (by simp[zci,h1,h2,h3,h4])
 by_cases h5:a<(w.length:Int)
 rotate_left
 .refine zbV (zr5 g1 g2 g3 h4 h5) ?_;refine zcx (zeN 2) ?_;exact zb2 (by simp[zci,h1,h2,h3,h4,h5])
 refine zbV (zr5 g1 g2 g3 h4 h5) ?_;refine zca (zg6 2) ?_;refine zfx ?_;have:zci w.length a=true:=by simp[zci,h1,h2,h3,h4,h5]
 rw[if_pos this];exact ziu (zfX rfl (Frz.tL trivial))


section
variable {α:Type}(G l m n:List α)(x y z:α)
theorem gm0:(G++x::l)[G.length]?=some x:=by simp
theorem gm1:(G++x::l++m)[G.length]?=some x:=by simp
theorem gm2:(G++x::l++m++n)[G.length]?=some x:=by simp
theorem hm0:(G++x::y::l)[G.length+1]?=some y:=by grind
theorem hm1:(G++x::y::l++m)[G.length+1]?=some y:=by grind
theorem hm2:(G++x::y::l++m++n)[G.length+1]?=some y:=by simp_all
theorem sm0:(G++x::l).set G.length z=G++z::l:=by grind
theorem sm1:(G++x::l++m).set G.length z=G++z::l++m:=by grind
theorem sm2:(G++x::l++m++n).set G.length z=G++z::l++m++n:=by grind
theorem tm0:(G++x::y::l).set (G.length+1) z=G++x::z::l:=by simp_all
theorem tm1:(G++x::y::l++m).set (G.length+1) z=G++x::z::l++m:=by simp_all
theorem tm2:(G++x::y::l++m++n).set (G.length+1) z=G++x::z::l++m++n:=by simp_all
end
variable {lab:Nat}(p q:Nat)
def zeB(lv:Nat)(ks:LK)(i:Nat):zZ:=⟨lv,0,(ks.getD (19*i) (0,0)).1,(ks.getD (19*i) (0,0)).2,0,((ks.drop (19*i)).take 19).drop 1⟩
def zdr(lv:Nat)(ks:LK):LB:=(List.range (zkp 19 ks).length).map (zeB lv ks)
theorem LF.append:∀{a b c d:LQ},LF H lab a b->LF H lab c d->LF H lab (a++c) (b++d)
 | [],[],_,_,_,h=>h
 | _::_,_::_,_,_,h,k=>⟨h.1,LF.append h.2 k⟩
theorem LF.get:∀{a b:LQ} {i:Nat} {x y:PV},LF H lab a b->a[i]?=some x->b[i]?=some y->Frz H lab x y
 | [],_,_,_,_,_,hx,_=>by simp at hx
 | _::_,[],_,_,_,h,_,_=>h.elim
 | _::_,_::_,0,_,_,h,hx,hy=>by injection hx with hx;injection hy with hy;subst hx hy;exact h.1
 | _::_,_::_,i+1,_,_,h,hx,hy=>LF.get h.2 hx hy
theorem zCz:∀{a b:LQ},LF H lab a b->a.length=b.length
 | [],[],_=>rfl
 | _::_,_::_,h=>by simp[zCz h.2]
theorem LF.flat{α:Type}{f:α->PV}:∀{vs:LQ} {L:List α},vs.length=L.length->(∀(q:Nat) (n:α),L[q]?=some n->∃v,vs[q]?=some v/\LF H lab v.cells (f n).cells)->LF H lab (vs.flatMap PV.cells) ((L.map f).flatMap PV.cells)
 | [],[],_,_=>trivial
 | v::vs,n::L,hl,h=>by
  have h0:=h 0 n rfl;obtain⟨v',e1,e2⟩:=h0
  cases e1
  exact LF.append e2 (LF.flat (by grind) fun q m hm=>h (q+1) m hm)
 | [],_::_,hl,_=>by simp at hl
 | _::_,[],hl,_=>by simp at hl


theorem zvg(a b:LK)(ha:zbL a.length)(hb:zbL b.length):FR 196 [csv p a,csv q b] (.bool (decide (a=b))):=by
 refine zfn (eG T196 func196) (.bool _) ?_;refine zG ?_
 by_cases hl:a.length=b.length
 rotate_left
 .have g:¬(a.length:Int)=b.length:=zo;have hne:¬a=b:=fun h=>hl (by rw[h]);refine zfc ?_ ?_
  .intro _;refine zO ?_;exact zbo.bool (decide_eq_false hne).symm
  .intro h;simp[g]at h
 have g:(a.length:Int)=b.length:=zo;refine zfc ?_ ?_
 .intro h;simp[g]at h
 intro _;refine zSk ?_;refine zG ?_;refine zay (zbE (fun m s=>∃i:Nat,m=a.length-i/\i<=a.length/\decide (a=b)=decide (a.drop i=b.drop i)/\s.tm 0=csv p a/\s.tm 1=csv q b/\s.tm 12=iv a.length/\s.tm 13=iv i/\s.df=[]/\s.H=[]) (n:=a.length) ?_ ?_)
 .exact⟨0,by simp[upd,zD]⟩
 .rintro m ⟨tm,df,H⟩ ⟨i,rfl,hi,hd,h0,h1,h12,h13,rfl,rfl⟩;dsimp only at h0 h1 h12 h13;refine zLh (zr4 h0 h1 h12 h13) ?_ ?_
  .intro hlt;have hlt:i<a.length:=ztd hlt;have hltb:i<b.length:=zo;refine zBb ?_;refine zGF h13 ?_;refine zBd ?_;refine zdl ?_ (by simp(disch:=omega)only[go_sem,h0,h1,h13,zAA9 hlt,zAA9 hltb,zCt]<;>rfl);refine zb9 ?_;simp only[go_sem];have hda:a.drop i=a[i]::a.drop (i+1):=zAK9 hlt;have hdb:b.drop i=b[i]::b.drop (i+1):=zAK9 hltb;rw[hda,hdb]at hd;have hee:(decide (((a[i].1:Nat):Int)=(b[i].1:Nat))&&decide (((a[i].2:Nat):Int)=(b[i].2:Nat)))=decide (a[i]=b[i]):=by
    rw[<- Bool.decide_and]
    congr 1
    rw[Prod.ext_iff];simp only[Int.natCast_inj]
   rw[hee]
   by_cases hx:a[i]=b[i]
   .refine zfc ?_ ?_
    .rw[decide_eq_true hx];intro h;cases h
    .intro _;refine zbX ?_;refine zJF h13 ?_;refine⟨_,?_,i+1,rfl,hlt,?_,zu h0,zu h1,zu h12,zu h13,zt,zt⟩
     .omega
     .rw[hd];simp only[hx,List.cons.injEq,true_and]
   .refine zfc ?_ ?_
    .intro _;refine zO ?_;exact zbo.bool (by rw[hd];simp only[List.cons.injEq,hx,false_and,decide_false,Bool.not_false])
    .rw[decide_eq_false hx];intro h;cases h
  .intro hlt;have hlt:¬i<a.length:=zfd hlt;obtain rfl:i=a.length:=zo;refine zO ?_;refine zbo.bool ?_;rw[hd,zBH9,hl,zBH9];rfl
def zcC(L:LB)(n:zZ)(lv:Int):Bool:=match L.getLast? with
 | none=>decide (n.low=0)&&(decide (lv<0)||decide ((n.level:Int)=lv))
 | some z=>decide (z.low<n.low)&&decide (n.level=z.level)
@[reducible] def zcg (p q:Nat) (bs:LN) (L:LB):PV:=.agg [.list p 1 (bs.map fun (b:Nat)=>iv (b:Int)),.list p 6 (L.map (zbJ q))]
theorem zDi(q':Nat)(bs:LN)(L:LB)(n:zZ)(lv:Int)(hl:zbL L.length):FR 225 [zcg p q bs L,zbJ q' n,iv lv] (.bool (zcC L n lv)):=by
 obtain⟨nl,ns,nlo,nle,nw,np⟩:=n;refine zfn (eG T225 func225) (.bool _) ?_;refine zbG (zbF ?_);refine zN ?_;refine zG ?_
 by_cases h0:L.length=0
 .have g0:(L.length:Int)=0:=zo;obtain rfl:L=[]:=zBU9 h0;refine zfc ?_ ?_
  .intro _;refine zbG (zbF ?_)
   by_cases h1:nlo=0
   .have g1:(nlo:Int)=0:=zo
    by_cases h2:lv<0
    .refine zPF (zr2 g1 h2) ?_;exact zbo.bool (by simp[zcC,h1,h2])
    .refine zPF (zr2 g1 h2) ?_;exact zbo.bool (by simp[zcC,h1,h2])
   .have g1:¬(nlo:Int)=0:=zo;refine zPF g1 ?_;exact zbo.bool (by simp[zcC,h1])
  .intro h;cases h
 .have g0:¬(L.length:Int)=0:=zo;refine zfc ?_ ?_
  .intro h;exact absurd (of_decide_eq_true h) g0
  .intro _;refine zSk ?_;obtain⟨z,hz⟩:∃z,L.getLast?=some z:=by
    cases hh:L.getLast? with
    | none=>rw[zDS9]at hh;subst hh;simp at h0
    | some z=>exact⟨z,rfl⟩
   have hz2:L[L.length-1]?=some z:=by rw[<- zCI9];exact hz
   have e1:(L.length:Int)-1=((L.length-1:Nat):Int):=zo;have hg:zcC L ⟨nl,ns,nlo,nle,nw,np⟩ lv=(decide (z.low<nlo)&&decide (nl=z.level)):=by unfold zcC;rw[hz]
   rw[hg];obtain⟨zl,zs,zlo,zle,zw,zp⟩:=z;refine zGF (zr2 e1 hz2) ?_;refine zbF ?_
   by_cases h1:zlo<nlo
   .have g1:(zlo:Int)<nlo:=zo;refine zPF g1 ?_;exact zbo.bool (by simp[h1];try omega)
   .have g1:¬(zlo:Int)<nlo:=zo;refine zPF g1 ?_;exact zbo.bool (by simp[h1])


def zeX(z:Option zZ)(x:Pr):Bool:=match z with
 | some z=>!decide (z.low<=x.1)
 | none=>true
def zcy:LB->LK
 | []=>[]
 | n::M=>n.pairs.filter (zeX M.head?)++zcy M
theorem zq5(L:LB)(i:Nat)(h:i<L.length):zcy (L.drop i)=L[i].pairs.filter (zeX L[i+1]?)++zcy (L.drop (i+1)):=by
 rw[zAK9 h,zcy,List.head?_drop]
theorem zln:∀(a:LK) (x:Pr),zbT (a++[x])=(zbT a&&(match a.getLast? with|some y=>decide (y.1<x.1)|none=>true))
 | [],_=>rfl
 | [a],x=>by simp[zbT]
 | a::b::l,x=>by
  have:=zln (b::l) x;rw[zAN9,zAN9,zbT,<- zAN9,this,zbT,zEO9,Bool.and_assoc]
theorem zkS:∀(a b:LK),zbT (a++b)=true->zbT a=true
 | [],_,_=>rfl
 | [_],_,_=>rfl
 | a::c::l,b,h=>by
  rw[zAN9,zAN9,zbT,<- zAN9,zAI9]at h;rw[zbT,h.1,zCA9];exact zkS (c::l) b h.2
def ziH(L:LB):FE:=if zbT (zcy L)=true then .ret (.tuple [psv 0 (zcy L),.bool true])else .ret (.tuple [psv 0 [],.bool false])
theorem zCs{H:LP}{L:LB}{acc:LK}{x:Pr}{r:LK}(hall:zcy L=acc++x::r)(hx:∃y,acc.getLast?=some y/\¬y.1<x.1):zbo H 0 (.ret (.tuple [.nilsl,.bool false])) (ziH L):=by
 have:zbT (zcy L)=false:=by
  cases h:zbT (zcy L)with
  | false=>rfl
  | true =>
   rw[hall,<- List.singleton_append,<- zAR9]at h;have h2:=zkS _ _ h;obtain⟨y,e1,e2⟩:=hx;rw[zln,e1]at h2
   grind
 unfold ziH;rw[this];exact zLF
def zeA(acc:LK)(x:Pr):Bool:=match acc.getLast? with
 | some y=>decide (x.1<=y.1)
 | none=>false
variable {acc:LK}{x:Pr}(a:Pr)(n:zZ)(p:Nat)(l:LK)
theorem zo6(h:zeA acc x=true):∃y,acc.getLast?=some y/\¬y.1<x.1:=by
 unfold zeA at h
 grind
theorem zsR(h:zbT acc=true)(hb:zeA acc x=false):zbT (acc++[x])=true:=by
 rw[zln,h,zCA9];unfold zeA at hb
 grind
theorem znM(q:Nat)(bs:LN)(L:LB)(hl:L.length<1000000)(hp:∀n∈L,n.pairs.length<=28)(hall:(zcy L).length<1000000):FN ET 109 [zcg p q bs L] (ziH L):=by
 refine zfn (eG T109 func109) ?_ ?_
 .unfold ziH;split
  .exact Lb.two (Lb.pvs _) (.bool _)
  .exact Lb.two (Lb.pvs _) (.bool _)
 refine zbG (zbF ?_);refine zN ?_;refine zG ?_;refine zc2 92 2 (i:=2) rfl ?_;simp only[lzy,zAH9,zAP9,zAN9,zAV9];refine zay (zbE (fun m s=>∃(i:Nat) (acc:LK) (G:LP),m=L.length-i/\i<=L.length/\zcy L=acc++zcy (L.drop i)/\zbT acc=true/\s.tm 1=.ptr 0 0 0 0 2/\s.tm 2=.sl 1 acc.length 0 acc.length (2*acc.length) 2/\s.tm 10=.list p 6 (L.map (zbJ q))/\s.tm 11=iv L.length/\s.tm 12=iv i/\s.df=[]/\s.H=.row 195 2 0 0 [zcg p q bs L]::.row 92 2 acc.length 0 (acc.map pv)::G) (n:=L.length) ?_ ?_)
 .exact⟨0,[],[],rfl,by omega,rfl,rfl,zt,zt,zt,zt,zt,rfl,rfl⟩
 .rintro m ⟨tm,df,H⟩ ⟨i,acc,G,rfl,hi,hac,hri,h1,h2,h10,h11,h12,rfl,rfl⟩;dsimp only at *
  refine zLh (zr5 h1 h2 h10 h11 h12) ?_ ?_
  .intro hlt;have hlt:i<L.length:=ztd hlt;have hLi:=zAA9 hlt;rw[zq5 L i hlt]at hac;have hn28:=hp _ (zBJ9 hlt);generalize L[i]=n at *
   refine zBb ?_;refine zGF (zr3 h10 h12 hLi) ?_;generalize hR:zcy (List.drop (i+1) L)=R at hac;refine zay (zbE (fun m s=>∃(j:Nat) (acc:LK) (G:LP),m=n.pairs.length-j/\j<=n.pairs.length/\zcy L=acc++((n.pairs.drop j).filter (zeX L[i+1]?)++R)/\zbT acc=true/\s.tm 1=.ptr 0 0 0 0 2/\s.tm 2=.sl 1 acc.length 0 acc.length (2*acc.length) 2/\s.tm 4=iv i/\s.tm 10=.list p 6 (L.map (zbJ q))/\s.tm 11=iv L.length/\s.tm 12=iv i/\s.tm 18=psv q n.pairs/\s.tm 19=iv n.pairs.length/\s.tm 20=iv j/\s.df=[]/\s.H=.row 195 2 0 0 [zcg p q bs L]::.row 92 2 acc.length 0 (acc.map pv)::G) (n:=n.pairs.length) ?_ ?_)
   .exact⟨0,acc,_,rfl,by omega,hac,hri,zu h1,zu h2,zt,zu h10,zu h11,zu h12,zt,zt,zt,rfl,rfl⟩
   .clear h1 h2 h10 h11 h12 hac hri;rintro m ⟨tm,df,H⟩ ⟨j,acc,G,rfl,hj,hac,hri,h1,h2,h4,h10,h11,h12,h18,h19,h20,rfl,rfl⟩;dsimp only at *
    refine zLh (zr3 h18 h19 h20) ?_ ?_
    .intro hltj;have hltj:j<n.pairs.length:=ztd hltj;have hxj:=zAA9 hltj;rw[zAK9 hltj,List.filter_cons]at hac;generalize n.pairs[j]=x at *
     refine zBb ?_;refine zGF (zr3 h18 h20 hxj) ?_;refine zB ?_;refine zcF (Q:=fun y s'=>y=.norm/\s'.tm 1=.ptr 0 0 0 0 2/\s'.tm 2=.sl 1 acc.length 0 acc.length (2*acc.length) 2/\s'.tm 4=iv i/\s'.tm 10=.list p 6 (L.map (zbJ q))/\s'.tm 11=iv L.length/\s'.tm 12=iv i/\s'.tm 18=psv q n.pairs/\s'.tm 19=iv n.pairs.length/\s'.tm 20=iv j/\s'.tm 41=.bool (!zeX L[i+1]? x)/\s'.tm 7=.ptr (G.length+1+1) 0 0 0 2/\s'.df=[]/\s'.H=.row 195 2 0 0 [zcg p q bs L]::.row 92 2 acc.length 0 (acc.map pv)::(G++[.row 92 2 0 0 [pv x]])) (zbU ?_) ?_
     .have e1:((i:Int)+1)=((i+1:Nat):Int):=zo
      by_cases hi1:i+1<L.length
      .have g1:((i+1:Nat):Int)<(L.length:Nat):=zo;have hz:=zAA9 hi1;rw[hz];generalize L[i+1]=z at *
       refine zQF (zr5 h1 h4 e1 g1 hz) ?_;exact⟨h1,h2,h4,h10,h11,h12,h18,h19,h20,by simp[zeX]⟩
      .have g1:¬((i+1:Nat):Int)<(L.length:Nat):=zo;have hz:L[i+1]?=none:=zCF9 zo;rw[hz];refine zQF (zr5 h1 h4 e1 g1 hz) ?_;exact⟨h1,h2,h4,h10,h11,h12,h18,h19,h20,by simp[zeX]⟩
     .clear h1 h2 h4 h10 h11 h12 h18 h19 h20;rintro y ⟨tm,df,H⟩ ⟨rfl,h1,h2,h4,h10,h11,h12,h18,h19,h20,h41,h7,rfl,rfl⟩;dsimp only at *
      by_cases hk:zeX L[i+1]? x=true
      rotate_left
      .rw[if_neg hk]at hac;have hk:zeX L[i+1]? x=false:=by simpa using hk
       refine zgP h41 ?_ ?_
       .intro _;refine zho ?_;refine zJF h20 ?_;refine⟨_,?m1,j+1,acc,_,rfl,hltj,hac,hri,zu h1,zu h2,zu h4,zu h10,zu h11,zu h12,zu h18,zu h19,zu h20,rfl,rfl⟩;omega
       .rw[hk];intro h;cases h
      rw[if_pos hk]at hac;refine zgP h41 ?_ ?_
      .rw[hk];intro h;cases h
      intro _;refine zSk ?_;refine zGF h2 ?_;have hal:acc.length<1000000:=by have:=congrArg List.length hac;simp only[zAF9]at this;omega
      have hH:∀G2:LP,True:=fun _=>trivial;refine zcF (Q:=fun y s'=>y=.norm/\s'.tm 1=.ptr 0 0 0 0 2/\s'.tm 2=.sl 1 acc.length 0 acc.length (2*acc.length) 2/\s'.tm 4=iv i/\s'.tm 10=.list p 6 (L.map (zbJ q))/\s'.tm 11=iv L.length/\s'.tm 12=iv i/\s'.tm 18=psv q n.pairs/\s'.tm 19=iv n.pairs.length/\s'.tm 20=iv j/\s'.tm 56=.bool (zeA acc x)/\s'.tm 7=.ptr (G.length+1+1) 0 0 0 2/\s'.df=[]/\s'.H=.row 195 2 0 0 [zcg p q bs L]::.row 92 2 acc.length 0 (acc.map pv)::(G++[.row 92 2 0 0 [pv x]])) (zbU ?_) ?_
      .by_cases ha0:acc.length=0
       .have g1:¬(0:Int)<(acc.length:Nat):=zo;refine zQF (zr2 h2 g1) ?_;obtain rfl:acc=[]:=zBU9 ha0;exact⟨h1,h2,h4,h10,h11,h12,h18,h19,h20,rfl,h7⟩
       .have g1:(0:Int)<(acc.length:Nat):=zo;have e1:(acc.length:Int)-1=((acc.length-1:Nat):Int):=zo;have e2:acc.length-1<acc.length:=zo;obtain⟨y,hy⟩:∃y,acc.getLast?=some y:=by
         grind
        have hy2:acc[acc.length-1]?=some y:=by rw[<- zCI9];exact hy
        refine zQF (zr6 h2 h7 g1 e1 e2 hy2) ?_;exact⟨h1,h2,h4,h10,h11,h12,h18,h19,h20,by simp[zeA,hy],h7⟩
      .clear h1 h2 h4 h10 h11 h12 h18 h19 h20 h41 h7;rintro y ⟨tm,df,H⟩ ⟨rfl,h1,h2,h4,h10,h11,h12,h18,h19,h20,h56,h7,rfl,rfl⟩;dsimp only at *
       by_cases hk2:zeA acc x=true
       .refine zgP h56 ?_ ?_
        .intro _;refine zO ?_;exact zCs hac (zo6 hk2)
        .rw[hk2];intro h;cases h
       have hk2:zeA acc x=false:=by simpa using hk2
       refine zgP h56 ?_ ?_
       .rw[hk2];intro h;cases h
       intro _;refine zbX ?_;have hbb:(acc.length+1)*17<=140737488355328:=zo;refine zJF (zr3 h2 h7 hbb) ?_;refine zJF h20 ?_;refine⟨_,?m3,j+1,acc++[x],?G3,rfl,hltj,by grind,zsR hri hk2,zu h1,zt,zu h4,zu h10,zu h11,zu h12,zu h18,zu h19,zu h20,zt,?H3⟩
       case m3=>omega
       case H3=>(try dsimp only);rw[zBA9,zAF9];rfl
    .intro hltj;have hltj:¬j<n.pairs.length:=zfd hltj;obtain rfl:j=n.pairs.length:=zo;refine zJF h12 ?_;rw[zBH9,List.filter_nil,zAV9,<- hR]at hac;refine⟨_,?m9,i+1,acc,G,rfl,hlt,hac,hri,zu h1,zu h2,zu h10,zu h11,zu h12,rfl,rfl⟩;omega
  .intro hlt;have hlt:¬i<L.length:=zfd hlt;obtain rfl:i=L.length:=zo;refine zOF h2 ?_;rw[zBH9,zcy,zCL9]at hac;unfold ziH;rw[hac,if_pos hri];refine Frz.tL ⟨?_,.bool _,trivial⟩;exact Frz.wh (l:=acc.map pv) rfl rfl (by simp) (by simp) zmm zgZ
def zem:Nat->LN->Nat
 | 0,_=>0
 | n+1,s=>zem n s+if s.contains n=true then 0 else 1
theorem zrw:∀(n b:Nat) (s:LN),zem n (b::s)<=zem n s
 | 0,_,_=>zAC9 _
 | n+1,b,s=>by
  have:=zrw n b s;rw[zem,zem]
  grind
theorem zmI:∀(n b:Nat) (s:LN),b<n->¬s.contains b=true->zem n (b::s)<zem n s
 | 0,_,_,h,_=>by omega
 | n+1,b,s,h,hs=>by
  rw[zem,zem]
  by_cases hb:b=n
  .subst hb;have:=zrw b b s
   grind
  .have:=zmI n b s zo hs
   grind
theorem zkk:∀(n b:Nat) (s:LN),zem n s=0->b<n->s.contains b=true
 | 0,_,_,_,h=>by omega
 | n+1,b,s,h,hb=>by
  rw[zem]at h
  by_cases h3:s.contains n=true
  .by_cases hbn:b=n
   .grind
   .exact zkk n b s zo zo
  grind
theorem zlz:∀(n:Nat) (s:LN),zem n s<=n
 | 0,_=>zAC9 _
 | n+1,s=>by have:=zlz n s;rw[zem];grind
abbrev Lev:=LN×LB
abbrev LG:=List Lev
def zcu(w:LN)(lv:Int):Nat->LN->LN->LB->Nat->Option (LN×LN×LB)
 | 0,seen,bs,ns,b=>if b=0 then some (seen,bs,ns)else none
 | k+1,seen,bs,ns,b=>if b=0 then some (seen,bs,ns)else
  if decide (w.length/64<=b)||seen.contains b then none else
  if headB (zbD w b)&&zcC ns (headN (zbD w b)) lv then zcu w lv k (b::seen) (bs++[b]) (ns++[headN (zbD w b)]) (headN (zbD w b)).sib else none
def zch(w:LN):Nat->LN->LG->Nat->Int->LG×Bool
 | 0,_,acc,_,_=>(acc,false)
 | d+1,seen,acc,b,lv=>match zcu w lv (w.length/64) seen [] [] b with
  | none=>(acc,false)
  | some (_,_,[])=>(acc,false)
  | some (seen',bs,n::ns)=>if n.level=0 then(acc++[(bs,n::ns)],zbT (zcy (n::ns)))else zch w d seen' (acc++[(bs,n::ns)]) n.left ((n.level:Int)-1)
def zbI(w:LN)(a:Nat):LG×Bool:=zch w 14 [] [] (w.getD a 0) (-1)
structure zdN(n:zZ):Prop where
 level:n.level<=12
 sib:n.sib<2048
 way:n.way<=2
 few:n.pairs.length<=27
 rise:zbT n.pairs=true
 ptrs:zdO [n.left] n.pairs=true
 may:∀p∈n.pairs,zcD n p=true
 left:(n.level=0/\n.left=9223372036854775808)\/(0<n.level/\zdH n.left=true)
theorem zfg:zdH p=true↔(1<=p/\p<2048):=by unfold zdH;simp
theorem zsF{n:zZ}{p:Pr}(h:zcD n p=true):p.2≠0:=by
 unfold zcD at h
 split at h
 .grind
 .rw[zAI9,zfg]at h;omega
theorem zjF:∀l:LK,(zd1 l).length=2*l.length
 | []=>rfl
 | a::l=>by have:=zjF l;simp only[zd1,zBR9,zAF9,zAH9,zAP9]at this⊢;omega
theorem zpf:zd1 (a::l)=a.1::a.2::zd1 l:=by simp[zd1]
theorem zxF:zd1 (l++[a])=zd1 l++[a.1,a.2]:=by simp[zd1]
theorem zur:∀(m prev:Nat),zbQ prev (List.replicate m 0)=[]
 | 0,_=>rfl
 | 1,_=>rfl
 | m+2,prev=>by rw[zCW9,zCW9,zbQ,if_pos rfl]
theorem znI(m:Nat):∀(ps:LK) (seen:LN) (prev:Nat),zdO seen ps=true->prev∈seen->(∀p∈ps,p.2≠0)->zbQ prev (zd1 ps++List.replicate m 0)=ps
 | [],_,prev,_,_,_=>by rw[show zd1 []=[]from rfl,zAV9];exact zur m prev
 | a::ps,seen,prev,h,hm,hz=>by
  rw[zdO,zAI9,zDN9]at h;have h1:¬a.2=prev:=by grind
  rw[zpf,zAN9,zAN9,zbQ,if_neg (hz a (zAM9 ..)),if_neg h1];rw[znI m ps (a.2::seen) a.2 h.2 (zAM9 ..) fun p hp=>hz p (zAO9 _ hp)]
theorem zrM(m:Nat):∀ps:LK,(∀p∈ps,p.2≠0)->zb7 (zd1 ps++List.replicate m 0)=ps.length
 | [],_=>by
  rw[show zd1 []=[]from rfl,zAV9]
  match m with
  | 0=>rfl
  | 1=>rfl
  | m+2=>rw[zCW9,zCW9,zb7,if_pos rfl];rfl
 | a::ps,hz=>by
  rw[zpf,zAN9,zAN9,zb7,if_neg (hz a (zAM9 ..)),zrM m ps fun p hp=>hz p (zAO9 _ hp)];rfl
theorem zq8:∀m,zgh (List.replicate m 0)=true
 | 0=>rfl
 | 1=>rfl
 | m+2=>by rw[zCW9,zCW9,zgh,zq8 m];rfl
theorem zCU(A B:LN)(k x y a b:Nat)(hk:k=A.length):((A++x::y::B).set k a).set (k+1) b=A++a::b::B:=by simp_all
theorem zAd:zcT n 5=zpl n++List.replicate 56 0:=rfl
theorem ztm(n:zZ)(h:n.pairs.length<=28):∀j,j<=n.pairs.length->zdW n j=zpl n++zd1 (n.pairs.take j)++List.replicate (56-2*j) 0
 | 0,_=>by rw[zdW,zAd];rfl
 | j+1,hj=>by
  have hr:List.replicate (56-2*j) 0=0::0::List.replicate (56-2*(j+1)) 0:=by
   rw[show 56-2*j=(56-2*(j+1))+1+1 by omega,zCW9,zCW9]
  have hl:(zpl n++zd1 (n.pairs.take j)).length=8+2*j:=by
   rw[zAF9,zjF,zAU9];simp[zpl];omega
  rw[zdW,ztm n h j zo,hr,zCU _ _ _ _ _ _ _ hl.symm];have ht:n.pairs.take (j+1)=n.pairs.take j++[n.pairs.getD j (0,0)]:=by
   rw[zAZ9,zAQ9,zAA9 zo];rfl
  rw[ht,zxF]
  grind
theorem zoj(h:n.pairs.length<=28):zdA n=zpl n++(zd1 n.pairs++List.replicate (56-2*n.pairs.length) 0):=by
 unfold zdA;rw[ztm n h _ (zAC9 _),zBE9,zAR9]
theorem zmF:(zdA n).length=64:=zg5 n _
section
variable {n:zZ}(h:zdN n)
include h
theorem zdN.rowL:(zd1 n.pairs++List.replicate (56-2*n.pairs.length) 0).length=56:=by
 have:=h.few;rw[zAF9,zjF,zCM9];omega
theorem zdN.left0:n.left≠0:=by
 rcases h.left with⟨_,e⟩|⟨_,e⟩
 .omega
 .rw[zfg]at e;omega
theorem zdN.row:zcb n.left (zd1 n.pairs++List.replicate (56-2*n.pairs.length) 0).length=true:=by
 rw[h.rowL];unfold zcb;simp[h.left0]
theorem zdN.read:zcr n.left (zd1 n.pairs++List.replicate (56-2*n.pairs.length) 0)=n.pairs:=by
 unfold zcr;rw[if_pos h.row];exact znI _ _ [n.left] _ h.ptrs (zAM9 ..) fun p hp=>zsF (h.may p hp)
theorem zdN.drop8:(zdA n).drop 8=zd1 n.pairs++List.replicate (56-2*n.pairs.length) 0:=by
 rw[zoj n (by have:=h.few;omega)];rfl
theorem zdN.parts:(zdA n).getD 0 0=7522529147838689024+n.level/\(zdA n).getD 1 0=n.sib/\(zdA n).getD 2 0=n.low/\(zdA n).getD 3 0=n.left/\(zdA n).getD 4 0=n.way:=by
 rw[zoj n (by have:=h.few;omega)];exact⟨rfl,rfl,rfl,rfl,rfl⟩
omit h in
theorem zqR(k:Nat):ziC (7522529147838689024+k)=k:=by rw[zm8,zEP9]
omit h in
theorem zA5{w:LN}{a b c d e:Nat}{ps:LK}(h0:ziC (w.getD 0 0)=a)(h1:w.getD 1 0=b)(h2:w.getD 2 0=c)(h3:w.getD 3 0=d)(h4:w.getD 4 0=e)(h5:zcr d (w.drop 8)=ps):headN w=⟨a,b,c,d,e,ps⟩:=by
 unfold headN;grind
theorem zdN.headN:headN (zdA n)=n:=by
 obtain⟨p0,p1,p2,p3,p4⟩:=h.parts;exact zA5 (by rw[p0];exact zqR n.level) p1 p2 p3 p4 (by rw[h.drop8];exact h.read)
theorem zdN.headB:headB (zdA n)=true:=by
 obtain⟨p0,p1,p2,p3,p4⟩:=h.parts;unfold Fv.headB;rw[zAI9,zAI9,p0,zqR];refine⟨⟨by rw[zmF];rfl,by rw[zoj n (by have:=h.few;omega)];rfl⟩,?_⟩;rw[zBQ9];intro i hi;have hi:i<5:=zCT9.1 hi
 match i,hi with
 | 0,_=>rw[p0,zdC,zAI9,decide_eq_true_eq,decide_eq_true_eq];exact⟨Nat.le_add_right _ _,Nat.add_le_add_left h.level _⟩
 | 1,_=>rw[p1,zdC,decide_eq_true_eq];exact h.sib
 | 2,_=>rfl
 | 3,_ =>
  rw[p3,zdC];rcases h.left with⟨e1,e2⟩|⟨e1,e2⟩
  .rw[e1,e2];rfl
  .rw[e2,decide_eq_true e1,zGL9,Bool.or_true]
 | 4,_=>rw[p4];show decide (n.way<=2)=true;rw[decide_eq_true_eq];exact h.way
theorem zdN.slots:zcs n.left ((zdA n).drop 8)=0:=by
 have hne:∀p∈n.pairs,p.2≠0:=fun p hp=>zsF (h.may p hp);unfold zcs;rw[h.drop8,if_pos h.row,if_pos];unfold zdt;rw[h.read,h.rise,h.ptrs,zrM _ _ hne,h.rowL];have hd:(zd1 n.pairs++List.replicate (56-2*n.pairs.length) 0).drop (2*n.pairs.length)=List.replicate (56-2*n.pairs.length) 0:=by
  rw[<- zjF,List.drop_left]
 rw[hd,zq8];have:=h.few
 grind
theorem zdN.check:zb4 (zdA n)=0:=by
 unfold zb4 zgR;rw[if_pos h.headB,if_pos];rw[h.headN,h.slots];simp only[decide_true,zCA9,zDN9,List.any_eq_false];intro p hp;rw[h.may p hp];simp
theorem zdN.make:zCD n=true:=by
 unfold zCD;rw[h.check,h.headN,(zy0 n).2 ⟨h.level,h.sib,h.way,h.few⟩];simp
end
structure zAU(lv:Nat)(ns:LB):Prop where
 ne:ns ≠ []
 each:∀n∈ns,zdN n/\n.level=lv/\n.sib=0
 low0:∀n,ns[0]?=some n->n.low=0
 rise:∀i n m,ns[i]?=some n->ns[i+1]?=some m->n.low<m.low
 below:∀i n m,ns[i]?=some n->ns[i+1]?=some m->∀p∈n.pairs,p.1<m.low
def zb6:LN->LB->LB
 | _::bs,n::ns=>{ n with sib:=bs.headD 0 }::zb6 bs ns
 | _,_=>[]
theorem zfk:∀(bs:LN) (ns:LB),bs.length=ns.length->(zb6 bs ns).length=ns.length
 | [],[],_=>rfl
 | _::bs,n::ns,h=>by rw[zb6,zAH9,zAH9,zfk bs ns (by grind)]
 | [],_::_,h=>by simp at h
 | _::_,[],h=>by simp at h
theorem zgg:∀(bs:LN) (ns:LB) (i:Nat) (n:zZ),bs.length=ns.length->ns[i]?=some n->(zb6 bs ns)[i]?=some { n with sib:=bs.getD (i+1) 0 }
 | [],[],i,n,_,h=>by simp at h
 | [],_::_,_,_,h,_=>by simp at h
 | _::_,[],_,_,h,_=>by simp at h
 | b::bs,n::ns,i,m,hl,h=>by
  rw[zb6]
  match i with
  | 0 =>
   rw[List.getElem?_cons_zero]at h⊢
   cases h
   cases bs<;>rfl
  | i+1 =>
   rw[zBM9]at h⊢;rw[zgg bs ns i m (by grind) h];rfl
theorem zxN{bs:LN}{ns:LB}(hl:bs.length=ns.length)(h:ns ≠ []):zb6 bs ns ≠ []:=by
 intro e;have:=zfk bs ns hl
 grind
def after:LA->Nat->Prop
 | none,n=>n=0
 | some l,n=>l<n
def znj(lv:Nat):LA->LN->LB->Prop
 | _,[],[]=>True
 | pl,b::bs,n::ns=>1<=b/\b<2048/\zdN n/\n.level=lv/\n.sib=bs.headD 0/\after pl n.low/\(∀m,ns.head?=some m->∀p∈n.pairs,p.1<m.low)/\znj lv (some n.low) bs ns
 | _,[],_::_=>False
 | _,_::_,[]=>False
theorem zdN.setSib{n:zZ}(h:zdN n){s:Nat}(hs:s<2048):zdN { n with sib:=s }:=⟨h.level,hs,h.way,h.few,h.rise,h.ptrs,h.may,h.left⟩
theorem ztf(lv:Nat):∀(bs:LN) (ns:LB) (pl:LA),bs.length=ns.length->(∀b∈bs,1<=b/\b<2048)->(∀n∈ns,zdN n/\n.level=lv)->(∀n,ns[0]?=some n->after pl n.low)->(∀i n m,ns[i]?=some n->ns[i+1]?=some m->n.low<m.low)->(∀i n m,ns[i]?=some n->ns[i+1]?=some m->∀p∈n.pairs,p.1<m.low)->znj lv pl bs (zb6 bs ns)
 | [],[],_,_,_,_,_,_,_=>trivial
 | [],_::_,_,h,_,_,_,_,_=>by simp at h
 | _::_,[],_,h,_,_,_,_,_=>by simp at h
 | b::bs,n::ns,pl,hl,hb,hn,h0,hr,hw=>by
  have hs:bs.headD 0<2048:=by
   cases bs with
   | nil=>decide
   | cons c bs=>exact(hb c (by simp)).2
  have hl':bs.length=ns.length:=by simpa using hl
  have hg:=hn n (zAM9 ..);refine⟨(hb b (zAM9 ..)).1,(hb b (zAM9 ..)).2,hg.1.setSib hs,hg.2,rfl,h0 n rfl,?_,?_⟩
  .intro m hm p hp
   cases ns with
   | nil=>cases bs<;>simp[zb6]at hm
   | cons c ns =>
    cases bs with
    | nil=>grind
    | cons d bs =>
     simp[zb6]at hm;subst hm;exact hw 0 n c rfl rfl p hp
  .refine ztf lv bs ns (some n.low) hl' (fun c hc=>hb c (zAO9 _ hc)) (fun c hc=>hn c (zAO9 _ hc)) ?_ (fun i a c ha hc=>hr (i+1) a c ha hc) (fun i a c ha hc=>hw (i+1) a c ha hc);intro m hm;exact hr 0 n m rfl hm
def zd9(w:LN)(bs:LN)(ns:LB):Prop:=∀(i b:Nat) (n:zZ),bs[i]?=some b->ns[i]?=some n->b<w.length/64/\zbD w b=zdA n
variable {l:LK}
theorem zd9.tail{w:LN}{b:Nat}{bs:LN}{n:zZ}{ns:LB}(h:zd9 w (b::bs) (n::ns)):zd9 w bs ns:=fun i c m hc hm=>h (i+1) c m hc hm
def zdk(n:zZ):LK:=(n.low,n.left)::n.pairs
def zdJ(L:Lev):LK:=(L.2.map zZ.low).zip L.1
def zrV:LG->Prop
 | []=>False
 | [L]=>znj 0 none L.1 L.2/\L.2 ≠ []
 | L::M::T=>znj (T.length+1) none L.1 L.2/\L.2 ≠ []/\L.2.flatMap zdk=zdJ M/\zrV (M::T)
def zlb(b:Nat)(ws:LN):LK:=(List.range ws.length).map fun k=>(64*b+k,ws.getD k 0)
def zcj(w:LN)(l:LK):LN:=l.foldl (fun w x=>w.set x.1 x.2) w
theorem zrQ(w:LN)(a b:LK):zcj w (a++b)=zcj (zcj w a) b:=List.foldl_append
theorem zfo:∀(l:LK) (w:LN),(zcj w l).length=w.length
 | [],_=>rfl
 | x::l,w=>by show (zcj (w.set x.1 x.2) l).length=_;rw[zfo l,zBW9]
def zkI(bs:LN)(ns:LB):LK:=(bs.zip ns).flatMap fun x=>zlb x.1 (zdA x.2)
def zeR(T:LG):LK:=T.flatMap fun L=>zkI L.1 L.2
theorem zfe:∀l:LK,zbT l=true↔∀(i:Nat) (x y:Pr),l[i]?=some x->l[i+1]?=some y->x.1<y.1
 | []=>⟨fun _ i x y h=>by simp at h,fun _=>rfl⟩
 | [a]=>⟨fun _ i x y _ h=>by simp at h,fun _=>rfl⟩
 | a::b::l=>by
  rw[zbT,zAI9,decide_eq_true_eq,zfe (b::l)];refine⟨fun h i x y hx hy=>?_,fun h=>⟨h 0 a b rfl rfl,fun i x y hx hy=>h (i+1) x y hx hy⟩⟩
  match i with
  | 0=>injection hx with hx;injection hy with hy;subst hx hy;exact h.1
  | i+1=>exact h.2 i x y hx hy
theorem zgQ(h:zbT l=true):∀(k i:Nat) (x y:Pr),l[i]?=some x->l[i+k+1]?=some y->x.1<y.1
 | 0,i,x,y,hx,hy=>(zfe l).1 h i x y hx hy
 | k+1,i,x,y,hx,hy=>by
  have hlen:=(zAB9.1 hy).1;have hz:l[i+k+1]?=some l[i+k+1]:=zAA9 zo;exact Nat.lt_trans (zgQ h k i x _ hx hz) ((zfe l).1 h _ _ _ hz hy)
theorem zk1(h:zbT l=true)(k:Nat):zbT (l.drop k)=true:=by
 rw[zfe]at h⊢
 grind
theorem zo1(h:zbT l=true)(k:Nat):zbT (l.take k)=true:=by
 have:zbT (l.take k++l.drop k)=true:=by rw[zES9];exact h
 exact zkS _ _ this
theorem zge:∀(l:LK) (seen:LN),zdO seen l=true↔(l.map Prod.snd).Nodup/\∀p∈l,¬p.2∈seen
 | [],seen=>by simp[zdO]
 | a::l,seen=>by
  rw[zdO,zAI9,zDN9,zge l (a.2::seen),zBX9,zFV9]
  grind
theorem zkc(k:Nat)(l:LK):∀m,((List.range m).map fun i=>(l.drop (k*i)).take k).flatten=l.take (k*m)
 | 0=>by simp
 | m+1=>by
  rw[zDK9,zBA9,List.flatten_append,zkc k l m,Nat.mul_succ,List.take_add];simp
theorem zjX:∀L:LB,(∀(i:Nat) (n m:zZ),L[i]?=some n->L[i+1]?=some m->∀p∈n.pairs,p.1<m.low)->zcy L=L.flatMap zZ.pairs
 | [],_=>rfl
 | n::L,h=>by
  rw[zcy,zBR9,zjX L fun i a b ha hb=>h (i+1) a b ha hb]
  congr 1
  rw[List.filter_eq_self];intro p hp;unfold zeX
  cases hh:L.head? with
  | none=>rfl
  | some m =>
   have:=h 0 n m rfl (by rw[List.head?_eq_getElem?]at hh;exact hh) p hp
   grind
theorem zf2:∀(bs:LN) (ns:LB),bs.length=ns.length->(zb6 bs ns).flatMap zZ.pairs=ns.flatMap zZ.pairs/\(zb6 bs ns).map zZ.low=ns.map zZ.low/\(zb6 bs ns).flatMap zdk=ns.flatMap zdk
 | [],[],_=>⟨rfl,rfl,rfl⟩
 | [],_::_,h=>by simp at h
 | _::_,[],h=>by simp at h
 | b::bs,n::ns,h=>by
  obtain⟨h1,h2,h3⟩:=zf2 bs ns (by grind);simp[zb6,h1,h2,h3,zdk]
def okP(l:LK):Bool:=zbT l&&zdO [] l&&l.all fun p=>decide (1<=p.2)&&decide (p.2<=1099511627776)
variable {i:Nat}{ks:LK}{lv:Nat}
theorem zqB(l:LK):okP l=true↔zbT l=true/\(l.map Prod.snd).Nodup/\∀p∈l,1<=p.2/\p.2<=1099511627776:=by
 unfold okP;rw[zAI9,zAI9,zge,zBQ9]
 grind
theorem zmT{a k:Nat}{p:Pr}(h:p∈(l.drop a).take k):∃j,j<k/\l[a+j]?=some p:=by
 obtain⟨j,hj,e⟩:=zBG9.1 h;have:=zAA9 hj
 grind
theorem znY(h:(l.map Prod.snd).Nodup)(a k:Nat):(((l.drop a).take k).map Prod.snd).Nodup :=
 h.sublist (((List.take_sublist k _).trans (List.drop_sublist a l)).map _)
theorem getD_some{x:Pr}(h:l[i]?=some x):l.getD i (0,0)=x:=by grind
theorem get_lt(l:LK)(h:i<l.length):l[i]?=some (l.getD i (0,0)):=by grind
theorem zzH(h:okP l=true)(i:Nat)(hi:18*i<l.length\/i=0):zdN (zeC l i):=by
 rw[zqB]at h;obtain⟨h1,h2,h3⟩:=h;have hm:∀p∈(zeC l i).pairs,∃j,j<18/\l[18*i+j]?=some p:=fun p hp=>zmT hp;refine⟨zAG9 _,show 0<2048 by decide,zAG9 _,?_,?_,?_,fun p hp=>?_,.inl ⟨rfl,rfl⟩⟩
 .show ((l.drop (18*i)).take 18).length<=27
  grind
 .exact zo1 (zk1 h1 _) _
 .rw[zge];refine⟨znY h2 _ _,fun p hp hq=>?_⟩;obtain⟨j,_,hj⟩:=hm p hp;have:=h3 p (zAE9 hj);have hq:p.2=9223372036854775808:=zBI9.1 hq;omega
 .obtain⟨j,hjk,hj⟩:=hm p hp;have:=h3 p (zAE9 hj);have hl:(zeC l i).low<=p.1:=by
   show (if 0<i then(l.getD (18*i) (0,0)).1 else 0)<=p.1
   split
   .have hlen:=(zAB9.1 hj).1
    match j with
    | 0=>rw[zDE9]at hj;rw[getD_some hj];exact zAC9 _
    | j+1=>exact Nat.le_of_lt (zgQ h1 j _ _ _ (get_lt l zo) hj)
   omega
  unfold zcD;rw[if_pos (show (zeC l i).level=0 from rfl)]
  grind
theorem ziP(l:LK):zcQ l=(List.range (max 1 ((l.length+17)/18))).map (zeC l):=by
 unfold zcQ
 split
 .rename_i h;subst h;rfl
 .rename_i h;have:0<l.length:=zCD9.2 h;rw[zhn,Nat.max_eq_right zo]
theorem zfH(l:LK):(zcQ l).length=max 1 ((l.length+17)/18):=by rw[ziP];simp
theorem zfE{n:Nat}{f:Nat->zZ}{x:zZ}(h:((List.range n).map f)[i]?=some x):i<n/\x=f i:=by grind
theorem zw5(h:okP l=true):zAU 0 (zcQ l)/\zcy (zcQ l)=l:=by
 have h':=(zqB l).1 h;obtain⟨h1,h2,h3⟩:=h';rw[ziP];have hsm:∀i,i<max 1 ((l.length+17)/18)->18*i<l.length\/i=0:=fun i hi=>by omega
 have hbelow:∀(i:Nat) (n m:zZ),((List.range (max 1 ((l.length+17)/18))).map (zeC l))[i]?=some n->((List.range (max 1 ((l.length+17)/18))).map (zeC l))[i+1]?=some m->∀p∈n.pairs,p.1<m.low:=by
  intro i n m hn hm p hp;obtain⟨hi,rfl⟩:=zfE hn;obtain⟨hj,rfl⟩:=zfE hm;obtain⟨j,hjk,hj⟩:=zmT hp;show p.1<(if 0<i+1 then(l.getD (18*(i+1)) (0,0)).1 else 0);rw[if_pos (zCK9 _)];exact zgQ h1 (17-j) _ _ _ hj (by rw[show 18*i+j+(17-j)+1=18*(i+1) by omega];grind)
 refine⟨⟨?_,?_,?_,?_,hbelow⟩,?_⟩
 .simp_all
 .intro n hn;obtain⟨i,hi,rfl⟩:=zAJ9.1 hn;exact⟨zzH h i (hsm i (zCT9.1 hi)),rfl,rfl⟩
 .intro n hn;obtain⟨_,rfl⟩:=zfE hn;rfl
 .intro i n m hn hm;obtain⟨hi,rfl⟩:=zfE hn;obtain⟨hj,rfl⟩:=zfE hm;show (if 0<i then(l.getD (18*i) (0,0)).1 else 0)<(if 0<i+1 then(l.getD (18*(i+1)) (0,0)).1 else 0);rw[if_pos (zCK9 _)];have hlt:18*(i+1)<l.length:=zo
  split
  .exact zgQ h1 17 _ _ _ (get_lt l zo) (get_lt l hlt)
  .exact zGI9 (zAG9 _) ((zfe l).1 h1 (18*(i+1)-1) _ _ (get_lt l zo) (by grind))
 .rw[zjX _ hbelow,List.flatMap_map];have:=zkc 18 l (max 1 ((l.length+17)/18));rw[zBL9 zo]at this;refine Eq.trans ?_ this;rw[List.flatMap_def];rfl
theorem znN(ks:LK)(i:Nat)(hi:19*i<ks.length):(ks.drop (19*i)).take 19=ks.getD (19*i) (0,0)::((ks.drop (19*i)).take 19).drop 1:=by
 have hd:ks.drop (19*i)=ks[19*i]::ks.drop (19*i+1):=zAK9 hi
 grind
theorem zxi(hi:19*i<ks.length):zdk (zeB lv ks i)=(ks.drop (19*i)).take 19:=by
 rw[znN ks i hi];rfl
theorem zwm(h1:1<=lv/\lv<=12)(hr:zbT ks=true)(hn:(ks.map Prod.snd).Nodup)(hb:∀x∈ks,1<=x.2/\x.2<2048)(i:Nat)(hi:19*i<ks.length):zdN (zeB lv ks i):=by
 have hc:=znN ks i hi;have hrc:zbT ((ks.drop (19*i)).take 19)=true:=zo1 (zk1 hr _) _;have hnc:=znY hn (19*i) 19;rw[hc]at hnc;rw[zBX9,zFV9]at hnc;have hm:∀p∈(zeB lv ks i).pairs,p∈(ks.drop (19*i)).take 19:=fun p hp=>zBS9 hp;have hbk:∀p∈(ks.drop (19*i)).take 19,1<=p.2/\p.2<2048:=fun p hp=>hb p (zBS9 (zBT9 hp));refine⟨h1.2,show 0<2048 by decide,zAG9 _,?_,?_,?_,fun p hp=>?_,.inr ⟨h1.1,?_⟩⟩
 .show (((ks.drop (19*i)).take 19).drop 1).length<=27
  grind
 .exact zk1 hrc 1
 .rw[zge];refine⟨hnc.2,fun p hp hq=>?_⟩;have hq:p.2=(ks.getD (19*i) (0,0)).2:=zBI9.1 hq;exact hnc.1 (zAJ9.2 ⟨p,hp,hq⟩)
 .unfold zcD;rw[if_neg (show ¬(zeB lv ks i).level=0 from by show ¬lv=0;omega),zAI9,zfg,decide_eq_true_eq];refine⟨hbk p (hm p hp),?_⟩;obtain⟨j,hj⟩:=zDR9.1 hp;have hj:(((ks.drop (19*i)).take 19).drop 1)[j]?=some p:=hj;rw[zGB9]at hj;exact zgQ hrc j 0 _ p (by grind) (by grind)
 .rw[zfg];exact hb _ (zAE9 (get_lt ks hi))
theorem zfq(lv:Nat)(ks:LK):(zdr lv ks).length=(ks.length+18)/19:=by unfold zdr;rw[zAW9,List.length_range,zhn]
theorem zqZ(h1:1<=lv/\lv<=12)(hne:ks ≠ [])(hr:zbT ks=true)(h0:(ks.getD 0 (0,0)).1=0)(hn:(ks.map Prod.snd).Nodup)(hb:∀x∈ks,1<=x.2/\x.2<2048):zAU lv (zdr lv ks)/\(zdr lv ks).flatMap zdk=ks:=by
 have hpos:0<ks.length:=zCD9.2 hne;unfold zdr;rw[zhn];have hlt:∀i,i<(ks.length+(19-1))/19->19*i<ks.length:=fun i hi=>by omega
 refine⟨⟨?_,?_,?_,?_,?_⟩,?_⟩
 .simp;omega
 .intro n hn';obtain⟨i,hi,rfl⟩:=zAJ9.1 hn';exact⟨zwm h1 hr hn hb i (hlt i (zCT9.1 hi)),rfl,rfl⟩
 .intro n hn';obtain⟨_,rfl⟩:=zfE hn';exact h0
 .intro i n m hn' hm;obtain⟨hi,rfl⟩:=zfE hn';obtain⟨hj,rfl⟩:=zfE hm;exact zgQ hr 18 _ _ _ (get_lt ks (hlt i hi)) (get_lt ks (hlt _ hj))
 .intro i n m hn' hm p hp;obtain⟨hi,rfl⟩:=zfE hn';obtain⟨hj,rfl⟩:=zfE hm;obtain⟨j,hjk,hpj⟩:=zmT (zBS9 (i:=1) hp);show p.1<(ks.getD (19*(i+1)) (0,0)).1;exact zgQ hr (18-j) _ _ _ hpj (by rw[show 19*i+j+(18-j)+1=19*(i+1) by omega];grind)
 .have:=zkc 19 ks ((ks.length+(19-1))/19);rw[zBL9 zo]at this;rw[List.flatMap_map,List.flatMap_def];rw[<- this]
  congr 1
  .rw[this];refine zDO9 fun i hi=>?_;exact zxi (hlt i (zCT9.1 hi))
def zkd(free:LN):Nat->LB->Nat->LG->Option (LG)
 | 0,_,_,_=>none
 | k+1,l,used,T=>if free.length<used+l.length then none else
  if l.length=1 then some (((free.drop used).take l.length,zb6 ((free.drop used).take l.length) l)::T)else
  zkd free k (zdr (T.length+1) ((l.map zZ.low).zip ((free.drop used).take l.length))) (used+l.length) (((free.drop used).take l.length,zb6 ((free.drop used).take l.length) l)::T)
def bndL:Nat->Nat
 | 0=>28
 | 1=>2
 | _=>1
def zqf(free:LN):Bool:=free.all (fun b=>decide (1<=b)&&decide (b<2048))&&decide free.Nodup
theorem zjh(free:LN):zqf free=true↔(∀b∈free,1<=b/\b<2048)/\free.Nodup:=by
 unfold zqf
 grind
structure zmh(p:LK)(free:LN)(l:LB)(used:Nat)(T:LG):Prop where
 ok:zAU T.length l
 st:match T with | []=>zcy l=p|M::T'=>l.flatMap zdk=zdJ M/\zrV (M::T')
 last:∀M,T.getLast?=some M->zcy M.2=p
 len:∀M∈T,M.1.length=M.2.length
 blocks:T.reverse.flatMap Prod.fst=free.take used
 used:used<=free.length
 bndL:l.length<=bndL T.length
 lvl:T.length<=2
structure zCA(p:LK)(free:LN)(T:LG):Prop where
 st:zrV T
 one:∃b n T',T=([b],[n])::T'/\n.sib=0
 last:∀M,T.getLast?=some M->zcy M.2=p
 len:∀M∈T,M.1.length=M.2.length
 blocks:∃used,used<=free.length/\T.reverse.flatMap Prod.fst=free.take used
 few:T.length<=3
section
variable {p:LK}{free:LN}(hf:zqf free=true)
include hf
theorem zmh.level{l:LB}{used:Nat}{T:LG}(h:zmh p free l used T)(hu:¬free.length<used+l.length) :
  ((free.drop used).take l.length).length=l.length/\znj T.length none ((free.drop used).take l.length) (zb6 ((free.drop used).take l.length) l)/\zb6 ((free.drop used).take l.length) l ≠ []/\(∀b∈(free.drop used).take l.length,1<=b/\b<2048)/\((free.drop used).take l.length).Nodup /\
  (((free.drop used).take l.length,zb6 ((free.drop used).take l.length) l)::T).reverse.flatMap Prod.fst=free.take (used+l.length)/\zrV (((free.drop used).take l.length,zb6 ((free.drop used).take l.length) l)::T) /\
  (∀M,(((free.drop used).take l.length,zb6 ((free.drop used).take l.length) l)::T).getLast?=some M->zcy M.2=p):=by
 rw[zjh]at hf;have hbl:((free.drop used).take l.length).length=l.length:=by rw[zAU9,zBP9];omega
 have hbb:∀b∈(free.drop used).take l.length,1<=b/\b<2048:=fun b hb=>hf.1 b (zBS9 (zBT9 hb));have hnd:((free.drop used).take l.length).Nodup:=hf.2.sublist ((List.take_sublist _ _).trans (List.drop_sublist _ _));have hch:znj T.length none ((free.drop used).take l.length) (zb6 ((free.drop used).take l.length) l) :=
  ztf _ _ _ _ hbl hbb (fun n hn=>⟨(h.ok.each n hn).1,(h.ok.each n hn).2.1⟩) (fun n hn=>h.ok.low0 n hn) h.ok.rise h.ok.below
 have hne:=zxN hbl h.ok.ne;obtain⟨k1,k2,k3⟩:=zf2 _ _ hbl;refine⟨hbl,hch,hne,hbb,hnd,?_,?_,?_⟩
 .rw[zGO9,zDI9,h.blocks,List.take_add];simp
 .have hst:=h.st
  cases T with
  | nil=>exact⟨hch,hne⟩
  | cons M T=>exact⟨hch,hne,by grind,hst.2⟩
 .intro M hM;have hst:=h.st
  cases hT:T with
  | nil =>
   subst hT
   cases hM
   have hr:∀(i:Nat) (n m:zZ),(zb6 ((free.drop used).take l.length) l)[i]?=some n->(zb6 ((free.drop used).take l.length) l)[i+1]?=some m->∀q∈n.pairs,q.1<m.low:=by
    intro i n m hn hm;have hi:i+1<l.length:=by have:=(zAB9.1 hm).1;rw[zfk _ _ hbl]at this;exact this
    have e1:=zgg _ _ i _ hbl (zAA9 (show i<l.length by omega));have e2:=zgg _ _ (i+1) _ hbl (zAA9 hi);rw[hn]at e1;rw[hm]at e2;injection e1 with e1;injection e2 with e2;subst e1 e2;exact h.ok.below i (l[i]'zo) (l[i+1]'hi) (zAA9 (show i<l.length by omega)) (zAA9 hi)
   have e1:=zjX _ hr;have e2:=zjX _ h.ok.below
   grind
  | cons K T' =>
   refine h.last M ?_
   grind
theorem zoM:∀(k:Nat) (l:LB) (used:Nat) (T T':LG),zmh p free l used T->zkd free k l used T=some T'->zCA p free T'
 | 0,l,used,T,T',_,h=>by cases h
 | k+1,l,used,T,T',hi,h=>by
  rw[zkd]at h
  by_cases hu:free.length<used+l.length
  .grind
  rw[if_neg hu]at h;obtain⟨h1,h2,h3,h4,h5,h6,h7,h8⟩:=hi.level hf hu;have hbd:=hi.bndL;have hlvl:=hi.lvl
  by_cases ho:l.length=1
  .rw[if_pos ho]at h
   cases h
   refine⟨h7,?_,h8,?_,⟨used+l.length,by omega,h6⟩,?_⟩
   .obtain⟨n,hn⟩:=zER9.1 ho;obtain⟨b,hb⟩:=zER9.1 (h1.trans ho);rw[hb,hn];exact⟨b,{ n with sib:=0 },T,rfl,rfl⟩
   .intro M hM;rcases zAX9.1 hM with rfl|hM
    .exact h1.trans (zfk _ _ h1).symm
    .exact hi.len M hM
   grind
  .rw[if_neg ho]at h;refine zoM k _ _ _ _ ?_ h;have hne0:0<l.length:=zCD9.2 hi.ok.ne;have hT1:T.length<=1:=by
    rcases zCY9 T.length 2 with h|h
    .omega
    .have e:T.length=2:=zo;rw[e]at hbd;simp[bndL]at hbd;omega
   obtain⟨k1,k2,k3⟩:=zf2 _ _ h1;generalize hbs:(free.drop used).take l.length=bs at *
   have hzl:((l.map zZ.low).zip bs).length=l.length:=by simp[h1]
   have hms:((l.map zZ.low).zip bs).map Prod.snd=bs:=List.map_snd_zip (by simp[h1]);have hg:∀(i:Nat) (x:Pr),((l.map zZ.low).zip bs)[i]?=some x->∃n,l[i]?=some n/\x.1=n.low:=by
    intro i x hx;rw[zDT9]at hx
    grind
   have hz0:(((l.map zZ.low).zip bs).getD 0 (0,0)).1=0:=by
    obtain⟨n,hn,e⟩:=hg 0 _ (get_lt _ zo);rw[e];exact hi.ok.low0 n hn
   have hrz:zbT ((l.map zZ.low).zip bs)=true:=by
    rw[zfe];intro i x y hx hy;obtain⟨n,hn,e⟩:=hg i x hx;obtain⟨m,hm,e2⟩:=hg _ y hy;rw[e,e2];exact hi.ok.rise i n m hn hm
   have hab:=zqZ (lv:=T.length+1) (ks:=(l.map zZ.low).zip bs) ⟨by omega,by omega⟩ (by grind) hrz hz0 (by grind) (fun x hx=>h4 x.2 (zFG9 hx).2);refine⟨hab.1,⟨?_,h7⟩,h8,?_,h6,by omega,?_,by grind⟩
   .rw[hab.2];unfold zdJ;rw[k2]
   .intro M hM;rcases zAX9.1 hM with rfl|hM
    .grind
    .exact hi.len M hM
   .rw[zfq,hzl];show _<=bndL (T.length+1)
    match hT:T.length,hT1 with
    | 0,_=>rw[hT]at hbd;simp[bndL]at hbd⊢;omega
    | 1,_=>rw[hT]at hbd;simp[bndL]at hbd⊢;omega
end
theorem zpx{p:LK}(free:LN)(hp:okP p=true)(hl:p.length<=500):zmh p free (zcQ p) 0 []:=by
 have h:=zw5 hp;refine⟨h.1,h.2,fun M hM=>by grind,fun M hM=>by grind,rfl,zAG9 _,?_,zAG9 _⟩;rw[zfH];simp[bndL];omega
def zgO:Nat->Nat->Nat
 | 0,n=>n
 | k+1,n=>n+if n=1 then 0 else zgO k ((n+18)/19)
def ziw(n:Nat):Nat:=zgO 4 (max 1 ((n+17)/18))
theorem zre(free:LN):∀(k:Nat) (l:LB) (used:Nat) (T:LG),3<=k+T.length->1<=k->1<=l.length->l.length<=bndL T.length->(zkd free k l used T=none↔free.length<used+zgO k l.length)
 | 0,_,_,_,_,h,_,_=>by omega
 | k+1,l,used,T,h1,_,h3,h4=>by
  rw[zkd,zgO]
  by_cases hu:free.length<used+l.length
  .grind
  rw[if_neg hu]
  by_cases ho:l.length=1
  .grind
  rw[if_neg ho,if_neg ho];have hT1:T.length<=1:=by
   rcases zCY9 T.length 2 with h|h
   .omega
   .obtain⟨m,e⟩:∃m,T.length=m+2:=⟨T.length-2,by omega⟩
    rw[e]at h4;simp[bndL]at h4;omega
  have hzl:((l.map zZ.low).zip ((free.drop used).take l.length)).length=l.length:=by simp;omega
  rw[zre free k _ _ _ (by grind) zo (by rw[zfq,hzl];omega) ?_,zfq,hzl]
  .omega
  .rw[zfq,hzl];show _<=bndL (T.length+1)
   match hT:T.length,hT1 with
   | 0,_=>rw[hT]at h4;simp[bndL]at h4⊢;omega
   | 1,_=>rw[hT]at h4;simp[bndL]at h4⊢;omega
def zgw(p:LK)(free:LN):Option (LG):=zkd free 4 (zcQ p) 0 []
variable {free:LN}{p:LK}
theorem znB(hl:p.length<=500):zgw p free=none↔free.length<ziw p.length:=by
 unfold zgw ziw;rw[zre free 4 _ _ _ zy zy (by rw[zfH];omega) (by rw[zfH];simp[bndL];omega),zfH,zBN9]
theorem zyx{T:LG}(hp:okP p=true)(hf:zqf free=true)(hl:p.length<=500)(h:zgw p free=some T):zCA p free T:=zoM hf 4 _ _ _ _ (zpx free hp hl) h
def zdY(n:zZ)(z:Option zZ):Bool:=match n.pairs.getLast?,z with
 | some p,some m=>decide (p.1<m.low)
 | _,_=>true
def zc1(w:LN):LN->LB->Bool
 | b::bs,n::ns=>decide (zb4 (zbD w b)=0)&&zdY n ns.head? && zc1 w bs ns
 | _,_=>true
def zcA(w:LN):LG->Bool
 | []=>true
 | [L]=>zc1 w L.1 L.2
 | L::M::T=>zc1 w L.1 L.2&&decide (L.2.flatMap zdk=zdJ M)&&zcA w (M::T)
def ztj:LG->Bool
 | (_,n::_)::_=>decide (n.sib=0)
 | _=>false
def zgq(w:LN)(T:LG):Bool:=ztj T&&zcA w T
def zpL(T:LG):Nat:=match T with
 | L::_=>L.1.headD 0
 | []=>0
theorem zkf{l:LN}(h:headB l=true):(headN l).level<=12/\(headN l).sib<2048/\(headN l).way<=2:=by
 unfold headB at h;rw[zAI9,zBQ9]at h;have h0:=h.2 0 zy;have h1:=h.2 1 zy;have h4:=h.2 4 zy;rw[zdC,zAI9,decide_eq_true_eq,decide_eq_true_eq]at h0;rw[zdC,decide_eq_true_eq]at h1;have h4:decide (l.getD 4 0<=2)=true:=h4;rw[decide_eq_true_eq]at h4;refine⟨?_,h1,h4⟩;have:(headN l).level=ziC (l.getD 0 0):=by unfold headN;rfl
 rw[this,zm8];omega
theorem zt8{ns ms:LB}(h:ns ≠ []):(ns++ms).head?=ns.head?:=by
 cases ns with
 | nil=>exact absurd rfl h
 | cons a l=>rfl
theorem ziQ(l:LN):(headN l).pairs.length<=28:=by unfold headN;exact zff _ _
structure LvF(w:LN)(bs:LN)(ns:LB):Prop where
 is:ns=bs.map fun b=>headN (zbD w b)
 each:∀b∈bs,b<w.length/64/\headB (zbD w b)=true
 same:∀n∈ns,∀z,ns.head?=some z->n.level=z.level
variable {bs:LN}{ns:LB}{w:LN}
theorem LvF.len(h:LvF w bs ns):bs.length=ns.length:=by rw[h.is,zAW9]
theorem LvF.node(h:LvF w bs ns){n:zZ}(hn:n∈ns):n.pairs.length<=28/\n.level<=12/\n.sib<2048:=by
 rw[h.is]at hn;obtain⟨b,hb,rfl⟩:=zAJ9.1 hn;have:=zkf (h.each b hb).2;exact⟨ziQ _,this.1,this.2.1⟩
theorem LvF.nil(w:LN):LvF w [] []:=⟨rfl,fun b hb=>by simp at hb,fun n hn=>by simp at hn⟩
theorem zhz{lv:Int}{N:Nat}:∀(k:Nat) (seen bs:LN) (ns:LB) (b:Nat) (r:LN×LN×LB),zcu w lv k seen bs ns b=some r->LvF w bs ns->(∀n,ns.head?=some n->lv<0\/(n.level:Int)=lv)->bs.length+k<=N->LvF w r.2.1 r.2.2/\(∀n,r.2.2.head?=some n->lv<0\/(n.level:Int)=lv)/\r.2.1.length<=N
 | 0,seen,bs,ns,b,r,h,hF,hh,hN=>by
  rw[zcu]at h
  grind
 | k+1,seen,bs,ns,b,r,h,hF,hh,hN=>by
  rw[zcu]at h
  split at h
  .grind
  .split at h
   .cases h
   .rename_i hb
    split at h
    .rename_i hg;rw[zAI9]at hg;have hbl:b<w.length/64:=by grind
     refine zhz k _ _ _ _ r h ⟨by rw[hF.is];simp,fun c hc=>?_,fun n hn z hz=>?_⟩ (fun n hn=>?_) (by simp;omega)
     .rcases zBK9.1 hc with hc|hc
      .exact hF.each c hc
      grind
     .have hgo:=hg.2;unfold zcC at hgo
      cases hl:ns.getLast? with
      | none =>
       rw[zDS9]at hl;subst hl;simp at hn hz;rw[hn,<- hz]
      | some y =>
       rw[hl]at hgo;simp only[zAI9,decide_eq_true_eq]at hgo;have hne:ns ≠ []:=by intro e;rw[e]at hl;simp at hl
       rw[zt8 hne]at hz;rcases zBK9.1 hn with hn|hn
       .exact hF.same n hn z hz
       .simp at hn;rw[hn,hgo.2];exact hF.same y (List.mem_of_getLast? hl) z hz
     .have hgo:=hg.2;unfold zcC at hgo
      cases hl:ns.getLast? with
      | none =>
       rw[hl]at hgo;rw[zDS9]at hl;subst hl;simp only[zAI9,zFH9,decide_eq_true_eq]at hgo;simp at hn;rw[<- hn];exact hgo.2
      | some y =>
       have hne:ns ≠ []:=by intro e;rw[e]at hl;simp at hl
       rw[zt8 hne]at hn;exact hh n hn
    .cases h
structure zjs(w:LN)(L:Lev):Prop where
 lv:LvF w L.1 L.2
 ne:L.2 ≠ []
 few:L.2.length<=2048
def zjq(L:Lev):Prop:=∀n∈L.2,0<n.level
theorem zgB(hw:w.length<=131072):∀(d:Nat) (seen:LN) (acc:LG) (b:Nat) (lv:Int),(∀L∈acc,zjs w L/\zjq L) ->
  (∀L∈(zch w d seen acc b lv).1,zjs w L)/\(∀L∈(zch w d seen acc b lv).1.dropLast,zjq L)/\((zch w d seen acc b lv).2=true->(zch w d seen acc b lv).1 ≠ []/\∀M,(zch w d seen acc b lv).1.getLast?=some M->zbT (zcy M.2)=true)
 | 0,seen,acc,b,lv,h=>⟨fun L hL=>(h L hL).1,fun L hL=>(h L (zFW9 _ hL)).2,fun e=>by cases e⟩
 | d+1,seen,acc,b,lv,h=>by
  rw[zch]
  cases hr:zcu w lv (w.length/64) seen [] [] b with
  | none=>exact⟨fun L hL=>(h L hL).1,fun L hL=>(h L (zFW9 _ hL)).2,fun e=>by cases e⟩
  | some r =>
   obtain⟨s',bs,ns⟩:=r;obtain⟨k1,k2,k3⟩:=zhz (N:=2048) _ _ _ _ _ _ hr (LvF.nil w) (fun n hn=>by simp at hn) (by simp;omega)
   cases ns with
   | nil=>exact⟨fun L hL=>(h L hL).1,fun L hL=>(h L (zFW9 _ hL)).2,fun e=>by cases e⟩
   | cons n ns =>
    have hF:zjs w (bs,n::ns):=⟨k1,by simp,by rw[<- k1.len];exact k3⟩
    simp only
    split
    .refine⟨fun L hL=>?_,fun L hL=>?_,fun e=>⟨by simp,fun M hM=>?_⟩⟩
     .rcases zBK9.1 hL with hL|hL
      .exact(h L hL).1
      .simp at hL;subst hL;exact hF
     .rw[zDU9]at hL;exact(h L hL).2
     .simp at hM;subst hM;exact e
    .rename_i hlv;refine zgB hw d _ _ _ _ fun L hL=>?_;rcases zBK9.1 hL with hL|hL
     .exact h L hL
     .simp at hL;subst hL;exact⟨hF,fun m hm=>by have:=k1.same m hm n rfl;omega⟩
theorem zhJ:∀(L:LB),(∀n∈L,n.pairs.length<=28)->(zcy L).length<=28*L.length
 | [],_=>zAG9 _
 | n::L,h=>by
  have h1:=zhJ L fun m hm=>h m (zAO9 _ hm);have h2:=h n (zAM9 ..);have h3:=List.length_filter_le (zeX L.head?) n.pairs;rw[zcy,zAF9,zAH9];omega
theorem zmh.next{p:LK}{free:LN}(hf:zqf free=true){l:LB}{used:Nat}{T:LG}(hi:zmh p free l used T)(hu:¬free.length<used+l.length)(ho:¬l.length=1) :
  zmh p free (zdr (T.length+1) ((l.map zZ.low).zip ((free.drop used).take l.length))) (used+l.length) (((free.drop used).take l.length,zb6 ((free.drop used).take l.length) l)::T):=by
 obtain⟨h1,h2,h3,h4,h5,h6,h7,h8⟩:=hi.level hf hu;have hbd:=hi.bndL;have hlvl:=hi.lvl;have hne0:0<l.length:=zCD9.2 hi.ok.ne;have hT1:T.length<=1:=by
  rcases zCY9 T.length 2 with h|h
  .omega
  .have e:T.length=2:=zo;rw[e]at hbd;simp[Fv.bndL]at hbd;omega
 obtain⟨k1,k2,k3⟩:=zf2 _ _ h1;generalize hbs:(free.drop used).take l.length=bs at *
 have hzl:((l.map zZ.low).zip bs).length=l.length:=by simp[h1]
 have hms:((l.map zZ.low).zip bs).map Prod.snd=bs:=List.map_snd_zip (by simp[h1]);have hg:∀(i:Nat) (x:Pr),((l.map zZ.low).zip bs)[i]?=some x->∃n,l[i]?=some n/\x.1=n.low:=by
  intro i x hx;rw[zDT9]at hx
  grind
 have hz0:(((l.map zZ.low).zip bs).getD 0 (0,0)).1=0:=by
  obtain⟨n,hn,e⟩:=hg 0 _ (get_lt _ zo);rw[e];exact hi.ok.low0 n hn
 have hrz:zbT ((l.map zZ.low).zip bs)=true:=by
  rw[zfe];intro i x y hx hy;obtain⟨n,hn,e⟩:=hg i x hx;obtain⟨m,hm,e2⟩:=hg _ y hy;rw[e,e2];exact hi.ok.rise i n m hn hm
 have hab:=zqZ (lv:=T.length+1) (ks:=(l.map zZ.low).zip bs) ⟨by omega,by omega⟩ (by intro e;rw[e]at hzl;simp at hzl;omega) hrz hz0 (by rw[hms];exact h5) (fun x hx=>h4 x.2 (zFG9 hx).2);refine⟨hab.1,⟨?_,h7⟩,h8,?_,h6,by omega,?_,by simp;omega⟩
 .rw[hab.2];unfold zdJ;rw[k2]
 .intro M hM;rcases zAX9.1 hM with rfl|hM
  .grind
  .exact hi.len M hM
 .rw[zfq,hzl];show _<=Fv.bndL (T.length+1)
  match hT:T.length,hT1 with
  | 0,_=>rw[hT]at hbd;simp[Fv.bndL]at hbd⊢;omega
  | 1,_=>rw[hT]at hbd;simp[Fv.bndL]at hbd⊢;omega
def zhP(r:Nat)(b:LN):Nat:=b.foldl zlD r
def zhZ(l:LN):Nat:=18446744073709551615-zhP 18446744073709551615 (zcv l)
def zde(b d:Nat):LQ:=[iv 48,iv 8,iv 64,iv b,uv 3,uv 5,iv 9,iv 11,iv 27,iv d]
@[reducible] def zbZ (b d:Nat):PV:=.agg (zde b d)
structure zeS where
 ino:Nat
 name:LN
@[reducible] def zf1 (r:zeS):PV:=.agg [iv r.ino,.str r.name]
def zew(r:zeS):Bool:=decide (1<=r.ino)&&decide (r.ino<=256)&&decide (zbW r.name=0)
def zei(r:zeS):LN:=(r.ino+65536*r.name.length)::zds r.name++List.replicate (15-(r.name.length+7)/8) 0
def zhr(w:LN):Option zeS :=
 let r:zeS:=⟨w.getD 0 0%65536,(zcv (w.drop 1)).take (w.getD 0 0/65536%256)⟩
 if w.getD 0 0/65536%256<=120/\zew r=true/\zei r=w then some r else none
def zez(b:Nat)(name:LN):Nat:=zgt 3 5 name/2 ^ (64-b)%2 ^ b
structure zcB where
 key:Nat
 num:Nat
 ino:Nat
 name:LN
 deriving DecidableEq
abbrev AT:=List zcB
@[reducible] def zcR (x:zcB):PV:=.agg [uv x.key,iv x.num,iv x.ino,.str x.name]
@[reducible] def esv (p:Nat) (l:AT):PV:=.list p 4 (l.map zcR)
def zee(w:LN)(n:Nat):LN:=(w.drop (704+16*(n-1))).take 16
def zeE(w:LN)(b:Nat)(p:Pr):Option zcB :=
 if 1<=p.2/\p.2<=64 then match zhr (zee w p.2)with
  | some r=>if zez b r.name=p.1/65536 then some ⟨p.1,p.2,r.ino,r.name⟩else none
  | none=>none
 else none
def zjJ(acc:AT)(x:zcB):Bool:=acc.any fun y=>decide (y.name=x.name)||decide (y.num=x.num)
def zdy(w:LN)(b:Nat):AT->LK->Option (AT)
 | acc,[]=>some acc
 | acc,p::l=>match zeE w b p with
  | some x=>if zjJ acc x=true then none else zdy w b (acc++[x]) l
  | none=>none


def rdH(p:Nat)(w:LN)(mo:zc)(vs:LQ)(G:LP):LP :=
 .row 26 1 0 0 [wv p w]::.row 192 1 0 0 [.sl 5 vs.length 0 vs.length (2*vs.length) 2]::mo::.row 209 1 0 0 [.map 2]::.row 323 1 0 0 [.fn 224 [.ptr 0 0 0 0 1,.ptr 3 0 0 0 1,.ptr 1 0 0 0 1,.ptr 4 0 0 0 1]]::.row 195 2 vs.length 0 vs::G
def zpH(mo:zc)(seen:LN):Prop:=(mo=.map0/\seen=[])\/∃mm:Int->LW,mo=.mapI .u64 mm/\∀q:Nat,mm q=if seen.contains q=true then some (iv 1)else none
theorem zFc{α:Type}(G l:List α)(x y z:α):(G++x::y::z::l)[G.length+2]?=some z:=by grind
def zr1(H:LP)(v:PV)(l:Lev):Prop:=∃i j:Nat,v=.agg [.sl (i+6) l.1.length 0 l.1.length (2*l.1.length) 1,.sl (j+6) l.2.length 0 l.2.length (2*l.2.length) 6] /\
 H[i]?=some (.row 3 1 l.1.length 0 (l.1.map fun(b:Nat)=>iv (b:Int)))/\H[j]?=some (.row 143 6 l.2.length 0 (l.2.map (zbJ 0)))
def zf7(H:LP)(vs:LQ)(ls:LG):Prop:=vs.length=ls.length/\∀(k:Nat) (v:PV) (l:Lev),vs[k]?=some v->ls[k]?=some l->zr1 H v l
variable {G':LP}{acc:LG}{b d:Nat}{ls:LG}{lv:Int}{mo2:zc}{p:Nat}{seen:LN}{vs:LQ}{α:Type}(G:List α)(n:Nat)(G2:List α)
def zyN(b:Nat)(lv:Int):LQ:=[uv b,iv lv,.ptr 0 0 0 0 1,.ptr 3 0 0 0 1,.ptr 1 0 0 0 1,.ptr 4 0 0 0 1]
def zk5(p:Nat)(w:LN)(mo2:zc)(vs:LQ)(G:LP)(bs:LN)(ns:LB)(G2:LP):LP :=
 .row 26 1 0 0 [wv p w]::.row 192 1 0 0 [.sl 5 vs.length 0 vs.length (2*vs.length) 2]::mo2::.row 209 1 0 0 [.map 2]::.row 323 1 0 0 [.fn 224 [.ptr 0 0 0 0 1,.ptr 3 0 0 0 1,.ptr 1 0 0 0 1,.ptr 4 0 0 0 1]]::.row 195 2 vs.length 0 vs ::
   (G++.row 195 2 0 0 [.agg [.sl (G.length+7) bs.length 0 bs.length (2*bs.length) 1,.sl (G.length+8) ns.length 0 ns.length (2*ns.length) 6]]::.row 3 1 bs.length 0 (bs.map fun(b:Nat)=>iv (b:Int))::.row 143 6 ns.length 0 (ns.map (zbJ 0))::G2)
theorem zr1.mono{G:LP}{v:PV}{l:Lev}(h:zr1 G v l):zr1 (G++G') v l:=by
 obtain⟨i,j,h1,h2,h3⟩:=h;exact⟨i,j,h1,by grind,by grind⟩
theorem zf7.mono{G:LP}(h:zf7 G vs ls):zf7 (G++G') vs ls:=⟨h.1,fun k v l hv hl=>(h.2 k v l hv hl).mono⟩
theorem zf7.snoc{G:LP}(h:zf7 G vs ls)(r:zc)(bs:LN)(ns:LB)(X:LP)(k:Nat)(hk:k=ns.length):zf7 (G++r::.row 3 1 bs.length 0 (bs.map fun(b:Nat)=>iv (b:Int))::.row 143 6 k 0 (ns.map (zbJ 0))::X) (vs++[.agg [.sl (G.length+7) bs.length 0 bs.length (2*bs.length) 1,.sl (G.length+8) k 0 k (2*k) 6]]) (ls++[(bs,ns)]):=by
 subst hk;refine⟨by simp[h.1],fun q v l hv hl=>?_⟩;rcases zCY9 q vs.length with hq|hq
 .rw[zBD9 hq]at hv;rw[zBD9 (by rw[<- h.1];exact hq)]at hl;exact(h.2 q v l hv hl).mono
 .rw[zBC9 hq]at hv;rw[zBC9 (by rw[<- h.1];exact hq)]at hl;obtain rfl:=zBI9.1 (zAE9 hv);obtain rfl:=zBI9.1 (zAE9 hl);exact⟨G.length+1,G.length+2,rfl,hm0 G _ _ _,zFc G _ _ _ _⟩
def zng(p:Nat)(w:LN)(r:LG×Bool)(e:FE)(H':LP):Prop:=e=.ret (.bool r.2)/\∃mo' vs' G',H'=rdH p w mo' vs' G'/\zf7 G' vs' r.1
theorem zmD(hd:(0<=lv/\lv+1<=d)\/14<=d)(h:zcu w lv (w.length/64) seen [] [] b=none):zch w d seen acc b lv=(acc,false):=by
 match d,hd with
 | 0,hd=>omega
 | d+1,_=>rw[zch,h]
theorem zDt{G:LP}{bs:LN}{ns:LB}{G2:LP}(hd:(0<=lv/\lv+1<=d)\/14<=d)(h:zcu w lv (w.length/64) seen [] [] b=none)(hv:zf7 G vs acc):zng p w (zch w d seen acc b lv) (.ret (.bool false)) (zk5 p w mo2 vs G bs ns G2):=by
 rw[zmD hd h];exact⟨rfl,mo2,vs,_,rfl,hv.mono⟩
theorem zsQ{G:LP}(hd:(0<=lv/\lv+1<=d)\/14<=d)(h:zcu w lv (w.length/64) seen [] [] b=none)(hv:zf7 G vs acc):zng p w (zch w d seen acc b lv) (.ret (.bool false)) (rdH p w mo2 vs G):=by
 rw[zmD hd h];exact⟨rfl,mo2,vs,_,rfl,hv⟩
theorem zep:(n==n+1)=false:=by simp
theorem zev:(n+1==n)=false:=by simp
theorem zey:(n==n+1+1)=false:=by grind
theorem zeo:(n+1+1==n)=false:=by grind
theorem zz1:(n+6==n+7)=false:=by simp
theorem zBi:(n+7==n+6)=false:=by simp
theorem zCl:(n+6==n+8)=false:=by simp
theorem zBw:(n+8==n+6)=false:=by simp
theorem zAV:(n+7==n+8)=false:=by simp
theorem zAI:(n+8==n+7)=false:=by simp
theorem zCp(a b c:α):((G++a::b::c::G2).length==G.length)=false:=by grind
theorem zAH(a b c:α):(G.length==(G++a::b::c::G2).length)=false:=by grind
theorem zzX(a b c x0:α):((G++a::b::c::G2++[x0]).length==G.length)=false:=by grind
theorem zAu(a b c x0:α):(G.length==(G++a::b::c::G2++[x0]).length)=false:=by grind
theorem zz6(a b c x0 x1:α):((G++a::b::c::G2++[x0]++[x1]).length==G.length)=false:=by grind
theorem zCb(a b c x0 x1:α):(G.length==(G++a::b::c::G2++[x0]++[x1]).length)=false:=by grind
theorem zBo(a b c x0 x1 x2:α):((G++a::b::c::G2++[x0]++[x1]++[x2]).length==G.length)=false:=by grind
theorem zBR(a b c x0 x1 x2:α):(G.length==(G++a::b::c::G2++[x0]++[x1]++[x2]).length)=false:=by grind
theorem zBT(a b c:α):((G++a::b::c::G2).length==G.length+1)=false:=by grind
theorem zCr(a b c:α):(G.length+1==(G++a::b::c::G2).length)=false:=by grind
theorem zB1(a b c x0:α):((G++a::b::c::G2++[x0]).length==G.length+1)=false:=by grind
theorem zA9(a b c x0:α):(G.length+1==(G++a::b::c::G2++[x0]).length)=false:=by grind
theorem zAw(a b c x0 x1:α):((G++a::b::c::G2++[x0]++[x1]).length==G.length+1)=false:=by grind
theorem zCj(a b c x0 x1:α):(G.length+1==(G++a::b::c::G2++[x0]++[x1]).length)=false:=by grind
theorem zAO(a b c x0 x1 x2:α):((G++a::b::c::G2++[x0]++[x1]++[x2]).length==G.length+1)=false:=by grind
theorem zBx(a b c x0 x1 x2:α):(G.length+1==(G++a::b::c::G2++[x0]++[x1]++[x2]).length)=false:=by grind
theorem zAv(a b c:α):((G++a::b::c::G2).length==G.length+2)=false:=by grind
theorem zBp(a b c:α):(G.length+2==(G++a::b::c::G2).length)=false:=by grind
theorem zAc(a b c x0:α):((G++a::b::c::G2++[x0]).length==G.length+2)=false:=by grind
theorem zBj(a b c x0:α):(G.length+2==(G++a::b::c::G2++[x0]).length)=false:=by grind
theorem zz2(a b c x0 x1:α):((G++a::b::c::G2++[x0]++[x1]).length==G.length+2)=false:=by grind
theorem zCa(a b c x0 x1:α):(G.length+2==(G++a::b::c::G2++[x0]++[x1]).length)=false:=by grind
theorem zAz(a b c x0 x1 x2:α):((G++a::b::c::G2++[x0]++[x1]++[x2]).length==G.length+2)=false:=by grind
theorem zBU(a b c x0 x1 x2:α):(G.length+2==(G++a::b::c::G2++[x0]++[x1]++[x2]).length)=false:=by grind
theorem gl2(a b b' c p q z:α):(G++a::b'::c::G2++[p]++[q]++[z])[(G++a::b::c::G2++[p]++[q]).length]?=some z:=by simp_all
theorem zAy:(n+1==n+2)=false:=by simp
theorem zAS:(n+2==n+1)=false:=by simp
theorem zBu:(n==n+2)=false:=by simp
theorem zAl:(n+2==n)=false:=by simp
section
variable {α:Type}(G l m n o:List α)(x y z u:α)
theorem gm3:(G++x::l++m++n++o)[G.length]?=some x:=by grind
theorem hm3:(G++x::y::l++m++n++o)[G.length+1]?=some y:=by simp_all
theorem km3:(G++x::y::z::l++m++n++o)[G.length+2]?=some z:=by simp_all
theorem sm3:(G++x::l++m++n++o).set G.length u=G++u::l++m++n++o:=by grind
theorem tm3:(G++x::y::l++m++n++o).set (G.length+1) u=G++x::u::l++m++n++o:=by simp_all
theorem um3:(G++x::y::z::l++m++n++o).set (G.length+2) u=G++x::y::u::l++m++n++o:=by simp_all
theorem km0:(G++x::y::z::l)[G.length+2]?=some z:=by grind
theorem km1:(G++x::y::z::l++m)[G.length+2]?=some z:=by simp_all
theorem km2:(G++x::y::z::l++m++n)[G.length+2]?=some z:=by simp_all
end
variable {T:LG}(p:Nat)(w:LN)(a:Int)
def zyD:=And.intro (@gm0 zc) (And.intro (@gm1 zc) (And.intro (@gm2 zc) (And.intro (@gm3 zc) (And.intro (@hm0 zc) (And.intro (@hm1 zc) (And.intro (@hm2 zc) (And.intro (@hm3 zc) (And.intro (@km0 zc) (And.intro (@km1 zc) (And.intro (@km2 zc) (And.intro (@km3 zc) (And.intro (@sm0 zc) (And.intro (@sm1 zc) (And.intro (@sm2 zc) (And.intro (@sm3 zc) (And.intro (@tm0 zc) (And.intro (@tm1 zc) (And.intro (@tm2 zc) (And.intro (@tm3 zc) (@um3 zc))))))))))))))))))))
theorem zgN{l:LN}:∀v∈(l.map fun(b:Nat)=>iv (b:Int)).flatMap PV.cells,Id0 v:=fun v hv=>by
 obtain⟨x,hx,hv⟩:=zBB9.1 hv;obtain⟨n,_,rfl⟩:=zAJ9.1 hx;simp[PV.cells]at hv;subst hv;exact .int _ _
theorem zB8(hw:64<=w.length/\w.length<=131072/\w.length%64=0):∀(d:Nat) (seen:LN) (acc:LG) (b:Nat) (lv:Int) (mo:zc) (vs:LQ) (G:LP) (hd:(0<=lv/\lv+1<=d)\/14<=d) (hs:zpH mo seen) (hv:zf7 G vs acc) (hva:acc.length+d<=100),
  FO ET 224 (zyN b lv) (rdH p w mo vs G) false (zng p w (zch w d seen acc b lv)):=by
 intro d
 induction d with
 | zero=>intro seen acc b lv mo vs G hd;omega
 | succ d ih =>
 intro seen acc b lv mo vs G hd hs hv hva;refine zro (eG T224 func224) ?_;unfold zyN rdH;refine zG ?_;refine zf8 3 1 (id:=G.length+6) (v:=.agg [.nilsl,.nilsl]) (v':=.agg [.sl (G.length+7) 0 0 0 0 1,.nilsl]) (e0:=195) (z0:=2) (G:=0) (M:=0) (by simp_all) rfl (fun k x y hx hy=>?_) ?_
 .match k with
  | 0=>injection hx with hx;injection hy with hy;subst hx hy;exact .inr ⟨rfl,by simp[lzy]⟩
  | 1=>injection hx with hx;injection hy with hy;grind
  | k+2=>simp[PV.cells]at hx
 simp only[zCS9,zb,zAN9,zAR9,zAV9];refine zf8 143 6 (id:=G.length+6) (v:=.agg [.sl (G.length+7) 0 0 0 0 1,.nilsl]) (v':=.agg [.sl (G.length+7) 0 0 0 0 1,.sl (G.length+8) 0 0 0 0 6]) (e0:=195) (z0:=2) (G:=0) (M:=0) (by simp_all) rfl (fun k x y hx hy=>?_) ?_
 .match k with
  | 0=>injection hx with hx;injection hy with hy;grind
  | 1=>injection hx with hx;injection hy with hy;subst hx hy;exact .inr ⟨rfl,by simp[lzy]⟩
  | k+2=>simp[PV.cells]at hx
 simp only[zCS9,sm0,zAN9,zAR9,zAV9];have hnb:w.length/64<=2048:=zo;refine zay (zbE (fun m s=>∃(k:Nat) (seen2:LN) (bs:LN) (ns:LB) (b2:Nat) (mo2:zc) (G2:LP),m=k/\zem (w.length/64) seen2<=k/\zcu w lv (w.length/64) seen [] [] b=zcu w lv k seen2 bs ns b2/\bs.length=ns.length/\bs.length+k<=2048/\zpH mo2 seen2/\s.tm 0=uv b2/\s.tm 1=iv lv/\s.tm 2=.ptr 0 0 0 0 1/\s.tm 3=.ptr 3 0 0 0 1/\s.tm 4=.ptr 1 0 0 0 1/\s.tm 5=.ptr 4 0 0 0 1/\s.tm 9=.ptr (G.length+6) 0 0 0 2/\s.df=[] /\
  s.H=zk5 p w mo2 vs G bs ns G2) (n:=w.length/64) ?_ ?_)
 .exact⟨_,seen,[],[],b,mo,[],rfl,zlz _ _,rfl,rfl,by grind,hs,zt,zt,zt,zt,zt,zt,zt,rfl,rfl⟩
 .rintro m ⟨tm,df,H⟩ ⟨k,seen2,bs,ns,b2,mo2,G2,rfl,hun,hrd,hbn,hbk,hs2,h0,h1,h2,h3,h4,h5,h9,rfl,rfl⟩;dsimp only at *
  unfold zk5;refine zLh h0 ?_ ?_
  .intro hb0;have hb0:¬b2=0:=by simpa using hb0
   have q1:IntKind.i64.wrap ((w.length:Int).tdiv 64)=((w.length/64:Nat):Int):=by rw[IntWalk.i64_quo _ _ zo];omega
   refine zBb ?_;refine zB ?_;refine zcF (Q:=fun y s'=>y=.norm/\s'.tm 0=uv b2/\s'.tm 1=iv lv/\s'.tm 2=.ptr 0 0 0 0 1/\s'.tm 3=.ptr 3 0 0 0 1/\s'.tm 4=.ptr 1 0 0 0 1/\s'.tm 5=.ptr 4 0 0 0 1/\s'.tm 9=.ptr (G.length+6) 0 0 0 2/\s'.tm 38=.bool (decide (w.length/64<=b2)||seen2.contains b2)/\s'.df=[]/\s'.H=zk5 p w mo2 vs G bs ns G2) (zbF ?_) ?_
   .by_cases hge:w.length/64<=b2
    .have g1:((w.length/64:Nat):Int)<=b2:=zo;refine zKF (zr5 h0 h2 h3 q1 g1) ?_;exact⟨zt,h0,h1,h2,h3,h4,h5,h9,by simp[upd,hge],rfl,rfl⟩
    .have g1:¬((w.length/64:Nat):Int)<=b2:=zo;rcases hs2 with⟨rfl,rfl⟩|⟨mm,rfl,hmm⟩
     .refine zKF (zr5 h0 h2 h3 q1 g1) ?_;exact⟨zt,h0,h1,h2,h3,h4,h5,h9,by simp[upd,hge],rfl,rfl⟩
     .have hq:=hmm b2
      by_cases hc:seen2.contains b2=true
      .rw[if_pos hc]at hq;refine zKF (zr6 h0 h2 h3 q1 g1 hq) ?_;exact⟨zt,h0,h1,h2,h3,h4,h5,h9,by rw[hc];simp[upd],rfl,rfl⟩
      .rw[if_neg hc]at hq;refine zKF (zr6 h0 h2 h3 q1 g1 hq) ?_;have hc:seen2.contains b2=false:=by simpa using hc
       exact⟨zt,h0,h1,h2,h3,h4,h5,h9,by rw[hc];simp[upd,hge],rfl,rfl⟩
   .clear h0 h1 h2 h3 h4 h5 h9;rintro y ⟨tm,df,H⟩ ⟨rfl,h0,h1,h2,h3,h4,h5,h9,h38,rfl,rfl⟩;dsimp only at *
    by_cases hbad:(decide (w.length/64<=b2)||seen2.contains b2)=true
    .refine zgP h38 ?_ ?_
     .intro _;refine zO ?_;refine zDt hd ?_ hv;rw[hrd]
      cases m with
      | zero=>rw[zcu,if_neg hb0]
      | succ m=>rw[zcu,if_neg hb0,if_pos hbad]
     .rw[hbad];intro h;cases h
    have hbad:(decide (w.length/64<=b2)||seen2.contains b2)=false:=by simpa using hbad
    refine zgP h38 ?_ ?_
    .rw[hbad];intro h;cases h
    intro _;refine zSk ?_;have hbl:b2<w.length/64:=by
     cases h:decide (w.length/64<=b2)with
     | true=>grind
     | false=>grind
    have hbs:¬seen2.contains b2=true:=by intro h;rw[h,Bool.or_true]at hbad;cases hbad
    refine zbG (zcF (Q:=fun y s'=>y=.norm/\s'.tm 0=uv b2/\s'.tm 1=iv lv/\s'.tm 2=.ptr 0 0 0 0 1/\s'.tm 3=.ptr 3 0 0 0 1/\s'.tm 4=.ptr 1 0 0 0 1/\s'.tm 5=.ptr 4 0 0 0 1/\s'.tm 9=.ptr (G.length+6) 0 0 0 2/\s'.df=[]/\∃mo3,zpH mo3 (b2::seen2)/\s'.H=zk5 p w mo3 vs G bs ns G2) (zbF ?_) ?_)
    .unfold zk5;rcases hs2 with⟨rfl,rfl⟩|⟨mm,rfl,hmm⟩
     .refine zKF (zr2 h0 h3) ?_;refine⟨zt,h0,h1,h2,h3,h4,h5,h9,zt,_,.inr ⟨_,rfl,fun q=>?_⟩,rfl⟩
      by_cases hq:q=b2
      .grind
      .have:¬(q:Int)=b2:=zo;simp[hq,this]
     .refine zKF (zr2 h0 h3) ?_;refine⟨zt,h0,h1,h2,h3,h4,h5,h9,zt,_,.inr ⟨_,rfl,fun q=>?_⟩,rfl⟩
      by_cases hq:q=b2
      .subst hq;simp
      .have:¬(q:Int)=b2:=zo;rw[if_neg this,hmm q];simp[hq]
    .clear h0 h1 h2 h3 h4 h5 h9 h38 hs2;rintro y ⟨tm,df,H⟩ ⟨rfl,h0,h1,h2,h3,h4,h5,h9,rfl,mo3,hs3,rfl⟩;dsimp only at *
     unfold zk5;have hm1:∃m',m=m'+1:=by
      cases m with
      | zero=>exact absurd (zkk _ b2 seen2 zo hbl) hbs
      | succ m=>exact⟨m,rfl⟩
     obtain⟨m',rfl⟩:=hm1;rw[zcu,if_neg hb0,if_neg (by rw[hbad];decide)]at hrd;have hof:=zna p w b2 zo zo;have hOf:=zCH p (zbD w b2) (by unfold zbD;simp;omega);refine zBr ?_;refine zbV (zr2 h0 h2) ?_;refine zcp hof ?_
     by_cases hh:headB (zbD w b2)=true
     rotate_left
     .have hh:headB (zbD w b2)=false:=by simpa using hh
      have he:zfb (zbD w b2)=.ret (.tuple [zbJ 0 zeY,iv 210]):=by unfold zfb;rw[if_neg (by rw[hh];decide)]
      rw[he]at hOf;rw[hh,Bool.false_and,if_neg zy]at hrd;refine zfx ?_;refine zCN hOf ?_;refine zG ?_;refine zfc ?_ ?_
      .intro _;refine zO ?_;refine zsQ (G:=_) hd hrd ?_;exact hv.mono.mono
      .intro h;cases h
     obtain⟨b12,b2048,bw⟩:=zkf hh;rw[zhI _ hh]at hOf;rw[hh,zCA9]at hrd;generalize headN (zbD w b2)=nd at hOf hrd b12 b2048 bw;refine zfx ?_;refine zCN hOf ?_;refine zBr ?_;refine zbV (zr3 h1 h9 zyD) ?_;refine zcl (zDi 1 0 0 bs ns nd lv zo) ?_ ?_;(repeat(first|exact trivial|refine And.intro ?_ ?_|exact .int _ _|exact .bool _|exact .list _ _ _|exact .elem _|exact .nilsl|exact .nil _ _|exact .str _|refine Frz.aggL ?_|refine Frz.fnL ?_|refine Frz.tL ?_|refine .iface ?_|exact zek rfl rfl (by assumption)))
     .exact Frz.wh (e:=3) (z':=1) (G:=bs.length) (l:=bs.map fun(b:Nat)=>iv (b:Int)) (by simp only[zBM9,hm1]<;>rfl) rfl (by simp) (by simp) zmm zgN
     .refine⟨Frz.wh (e:=143) (z':=6) (G:=ns.length) (l:=ns.map (zbJ 0)) (by simp only[zBM9,km1]<;>rfl) rfl (by simp) (by simp) zmm ziv,trivial⟩
     .exact zLf
     by_cases hg:zcC ns nd lv=true
     rotate_left
     .have hg:zcC ns nd lv=false:=by simpa using hg
      rw[hg]at hrd⊢;rw[if_neg zy]at hrd;refine zN ?_;refine zfc ?_ ?_
      .intro _;refine zO ?_;refine zsQ (G:=_) hd hrd ?_;exact hv.mono.mono
      .intro h;cases h
     rw[hg]at hrd⊢;rw[if_pos rfl]at hrd;refine zN ?_;refine zcf ?_;refine zSk ?_;have hba:(bs.length+1)*9<=140737488355328:=zo;have hbb:(ns.length+1)*65<=140737488355328:=zo;refine zBd ?_;refine zb3 (zr5 h0 h9 hba hbb zyD) ?_;refine zda ?_ (by simp(disch:=omega)only[go_sem,h9,zCp,zAH,zzX,zAu,zz6,zCb,zBo,zBR,zBT,zCr,zB1,zA9,zAw,zCj,zAO,zBx,zAv,zBp,zAc,zBj,zz2,zCa,zAz,zBU,zep,zev,zey,zeo,zAy,zAS,zBu,zAl,zz1,zBi,zCl,zBw,zAV,zAI,gm0,gm1,gm2,hm0,hm1,hm2,km0,km1,km2,gm3,hm3,km3,sm3,tm3,um3,hba,hbb,gl2]<;>rfl) (by first|exact trivial|simp only[go_sem,h9,zCp,zAH,zzX,zAu,zz6,zCb,zBo,zBR,zBT,zCr,zB1,zA9,zAw,zCj,zAO,zBx,zAv,zBp,zAc,zBj,zz2,zCa,zAz,zBU,zep,zev,zey,zeo,zAy,zAS,zBu,zAl,zz1,zBi,zCl,zBw,zAV,zAI,gm0,gm1,gm2,hm0,hm1,hm2,km0,km1,km2,gm3,hm3,km3,sm3,tm3,um3,hba,hbb,gl2]);refine zda ?_ (by simp(disch:=omega)only[go_sem,h9,zCp,zAH,zzX,zAu,zz6,zCb,zBo,zBR,zBT,zCr,zB1,zA9,zAw,zCj,zAO,zBx,zAv,zBp,zAc,zBj,zz2,zCa,zAz,zBU,zep,zev,zey,zeo,zAy,zAS,zBu,zAl,zz1,zBi,zCl,zBw,zAV,zAI,gm0,gm1,gm2,hm0,hm1,hm2,km0,km1,km2,gm3,hm3,km3,sm3,tm3,um3,hba,hbb,gl2]<;>rfl) (by first|exact trivial|simp only[go_sem,h9,zCp,zAH,zzX,zAu,zz6,zCb,zBo,zBR,zBT,zCr,zB1,zA9,zAw,zCj,zAO,zBx,zAv,zBp,zAc,zBj,zz2,zCa,zAz,zBU,zep,zev,zey,zeo,zAy,zAS,zBu,zAl,zz1,zBi,zCl,zBw,zAV,zAI,gm0,gm1,gm2,hm0,hm1,hm2,km0,km1,km2,gm3,hm3,km3,sm3,tm3,um3,hba,hbb,gl2]);refine zda ?_ (by simp(disch:=omega)only[go_sem,h9,zCp,zAH,zzX,zAu,zz6,zCb,zBo,zBR,zBT,zCr,zB1,zA9,zAw,zCj,zAO,zBx,zAv,zBp,zAc,zBj,zz2,zCa,zAz,zBU,zep,zev,zey,zeo,zAy,zAS,zBu,zAl,zz1,zBi,zCl,zBw,zAV,zAI,gm0,gm1,gm2,hm0,hm1,hm2,km0,km1,km2,gm3,hm3,km3,sm3,tm3,um3,hba,hbb,gl2]<;>rfl) (by first|exact trivial|simp only[go_sem,h9,zCp,zAH,zzX,zAu,zz6,zCb,zBo,zBR,zBT,zCr,zB1,zA9,zAw,zCj,zAO,zBx,zAv,zBp,zAc,zBj,zz2,zCa,zAz,zBU,zep,zev,zey,zeo,zAy,zAS,zBu,zAl,zz1,zBi,zCl,zBw,zAV,zAI,gm0,gm1,gm2,hm0,hm1,hm2,km0,km1,km2,gm3,hm3,km3,sm3,tm3,um3,hba,hbb,gl2]);refine zQF h9 ?_;have hlb:(bs++[b2]).length=bs.length+1:=by simp
     have hln:(ns++[nd]).length=ns.length+1:=by simp
     have hgl:(List.map (zbJ 0) ns++[zbJ 0 nd])[ns.length]?=some (zbJ 0 nd):=by simp
     have hgs:IntKind.i64.wrap ((ns.length+1:Nat)-1)=ns.length:=by rw[show ((ns.length+1:Nat):Int)-1=(ns.length:Nat) by omega];exact wrap_i64 zo zo
     have hil:ns.length<ns.length+1:=zCJ9 _;refine zBr ?_;refine zbV (zr5 h9 hgl hgs hil zyD) ?_;refine zdg ?_;refine⟨m',zCJ9 _,m',b2::seen2,bs++[b2],ns++[nd],nd.sib,mo3,?G,rfl,?hu,hrd,by rw[hlb,hln,hbn],by rw[hlb];omega,hs3,?h0,zu h1,zu h2,zu h3,zu h4,zu h5,zu h9,zt,?H⟩
     case hu=>have:=zmI _ _ _ hbl hbs;omega
     case h0=>simp[upd]
     case H =>
      (try dsimp only);rw[hlb,hln,zBA9,zBA9];simp only[zAR9,zAN9,zAV9];rfl
  .intro hb0;have hb0:b2=0:=by simpa using hb0
   subst hb0;have hrd2:zcu w lv (w.length/64) seen [] [] b=some (seen2,bs,ns):=by rw[hrd];cases m<;>simp[zcu]
   clear hrd;obtain⟨hF,hfst,_⟩:=zhz (N:=2048) _ _ _ _ _ _ hrd2 (LvF.nil w) (fun n hn=>by simp at hn) (by simp;omega);dsimp only at hF hfst
   cases ns with
   | nil =>
    (repeat(first|refine zbG ?_|refine zbO (zr2 h9 zyD) ?_));refine zfc ?_ ?_
    .intro _;refine zO ?_;have:zch w (d+1) seen acc b lv=(acc,false):=by rw[zch,hrd2]
     rw[this];exact⟨rfl,mo2,vs,_,rfl,hv.mono⟩
    .intro h;cases h
   | cons nd ns =>
    have g0:¬((ns.length+1:Nat):Int)=0:=zo;(repeat(first|refine zbG ?_|refine zbO (zr3 h9 g0 zyD) ?_));refine zcf ?_;refine zSk ?_;have hvl:=hv.1;have hbv:(vs.length+1)*49<=140737488355328:=zo;refine zB ?_;refine zbO (zr4 h4 h9 hbv zyD) ?_;have hg0:(List.map (zbJ 0) (nd::ns))[0]?=some (zbJ 0 nd):=rfl;have hi0:0<ns.length+1:=zCK9 _;obtain⟨hpp,b12,b2048⟩:=hF.node (zAM9 ..);refine zB ?_;refine zbO (zr4 h9 hg0 hi0 zyD) ?_;have hX:=fun X=>hv.snoc (.row 195 2 0 0 [.agg [.sl (G.length+7) bs.length 0 bs.length (2*bs.length) 1,.sl (G.length+8) (ns.length+1) 0 (ns.length+1) (2*(ns.length+1)) 6]]) bs (nd::ns) X (ns.length+1) rfl
    by_cases hlv:nd.level=0
    .have g1:(nd.level:Int)=0:=zo;refine zB ?_;refine zbO (zr2 g1 zyD) ?_;refine zfc ?_ ?_
     .intro _;have hnl:(nd::ns).length<=2048:=by rw[<- hF.len];omega
      have hll:=zhJ (nd::ns) fun n hn=>(hF.node hn).1;have hra:zch w (d+1) seen acc b lv=(acc++[(bs,nd::ns)],zbT (zcy (nd::ns))):=by rw[zch,hrd2];simp only;rw[if_pos hlv]
      have hlp:=znM 1 0 bs (nd::ns) zo (fun n hn=>(hF.node hn).1) zo;unfold ziH at hlp
      by_cases hri:zbT (zcy (nd::ns))=true
      .rw[if_pos hri]at hlp;refine zBr ?_;refine zbV (zr2 h9 zyD) ?_;refine zcl hlp ?_ ?_;(repeat(first|exact trivial|refine And.intro ?_ ?_|exact .int _ _|exact .bool _|exact .list _ _ _|exact .elem _|exact .nilsl|exact .nil _ _|exact .str _|refine Frz.aggL ?_|refine Frz.fnL ?_|refine Frz.tL ?_|refine .iface ?_|exact zek rfl rfl (by assumption)))
       .exact Frz.wh (e:=3) (z':=1) (G:=bs.length) (l:=bs.map fun(b:Nat)=>iv (b:Int)) (by simp only[zBM9,hm2]<;>rfl) rfl (by simp) (by simp) zmm zgN
       .exact⟨Frz.wh (e:=143) (z':=6) (G:=ns.length+1) (l:=(nd::ns).map (zbJ 0)) (by simp only[zBM9,km2]<;>rfl) rfl (by simp) (by simp) zmm ziv,trivial⟩
       .exact zLf
       refine zN ?_;refine zO ?_;rw[hra,hri];refine⟨rfl,mo2,_,_,?e1,hX ?X1⟩
       case e1 =>
        unfold rdH;simp only[zAF9,zAH9,zAP9,zBN9,zAR9,zAN9];rfl
      .rw[if_neg hri]at hlp;have hri:zbT (zcy (nd::ns))=false:=by simpa using hri
       refine zBr ?_;refine zbV (zr2 h9 zyD) ?_;refine zcl hlp ?_ ?_;(repeat(first|exact trivial|refine And.intro ?_ ?_|exact .int _ _|exact .bool _|exact .list _ _ _|exact .elem _|exact .nilsl|exact .nil _ _|exact .str _|refine Frz.aggL ?_|refine Frz.fnL ?_|refine Frz.tL ?_|refine .iface ?_|exact zek rfl rfl (by assumption)))
       .exact Frz.wh (e:=3) (z':=1) (G:=bs.length) (l:=bs.map fun(b:Nat)=>iv (b:Int)) (by simp only[zBM9,hm2]<;>rfl) rfl (by simp) (by simp) zmm zgN
       .exact⟨Frz.wh (e:=143) (z':=6) (G:=ns.length+1) (l:=(nd::ns).map (zbJ 0)) (by simp only[zBM9,km2]<;>rfl) rfl (by simp) (by simp) zmm ziv,trivial⟩
       .exact zLf
       refine zN ?_;refine zO ?_;rw[hra,hri];refine⟨rfl,mo2,_,_,?e2,hX ?X2⟩
       case e2 =>
        unfold rdH;simp only[zAF9,zAH9,zAP9,zBN9,zAR9,zAN9];rfl
     .intro h;cases h
    .have g1:¬(nd.level:Int)=0:=zo;refine zB ?_;refine zbO (zr2 g1 zyD) ?_;refine zcf ?_;refine zSk ?_;have hra:zch w (d+1) seen acc b lv=zch w d seen2 (acc++[(bs,nd::ns)]) nd.left ((nd.level:Int)-1):=by rw[zch,hrd2];simp only;rw[if_neg hlv]
     have hfl:=hfst nd rfl;have ihc:=fun X=>ih seen2 (acc++[(bs,nd::ns)]) nd.left ((nd.level:Int)-1) mo2 _ _ zo hs2 (hX X) (by simp;omega);unfold rdH at ihc;simp only[show ∀v:PV,(vs++[v]).length=vs.length+1 from fun v=>by simp]at ihc;rw[<- hra]at ihc;refine zBr ?_;refine zbV (zr2 h5 zyD) ?_;simp only[zAR9,zAN9,zAV9];refine zmc (caps:=?caps) (vs:=?vs) ?g1 ?g2 (ihc ?X3) ?g3 ?g4 ?g5
     case g1=>first|rfl|(simp only[zau,zaA,go_sem]<;>rfl)
     case g2=>simp only[go_sem,h5]<;>rfl
     case g3=>rfl
     case g4=>rfl
     rintro e H' ⟨rfl,mo',vs',G',rfl,hv'⟩;refine zP ?_;exact⟨rfl,mo',vs',G',rfl,hv'⟩


theorem f108:ET.funcs.get 108=some T108:=eG _ func108
@[reducible] def zcW (T:LG):PV:=.list 0 2 (T.map fun L=>zcg 0 0 L.1 L.2)
theorem Lb.ivn(l:LN):Lb (.list 0 z (l.map fun(b:Nat)=>iv (b:Int))):=.list fun x hx=>by
 obtain⟨y,hy,hx⟩:=zBB9.1 hx;obtain⟨n,_,rfl⟩:=zAJ9.1 hy;simp[PV.cells]at hx;subst hx;exact .int _ _
theorem Lb.nodes(l:LB):Lb (.list 0 z (l.map (zbJ 0))):=.list fun x hx=>by
 obtain⟨y,hy,hx⟩:=zBB9.1 hx;obtain⟨n,_,rfl⟩:=zAJ9.1 hy;have:=Lb.node n
 cases this with
 | agg h=>exact h x hx
theorem zm7(T:LG):Lb (zcW T):=.list fun x hx=>by
 obtain⟨y,hy,hx⟩:=zBB9.1 hx;obtain⟨L,_,rfl⟩:=zAJ9.1 hy;simp[PV.cells]at hx;rcases hx with rfl|rfl
 .exact Lb.ivn _
 .exact Lb.nodes _
theorem zAt{p:Nat}{w:LN}{mo:zc}{vs:LQ}{G:LP}(h:zf7 G vs T):Frz (rdH p w mo vs G) 0 (.sl 5 vs.length 0 vs.length (2*vs.length) 2) (zcW T):=by
 have hf:LF (rdH p w mo vs G) 0 (vs.flatMap PV.cells) ((T.map fun L=>zcg 0 0 L.1 L.2).flatMap PV.cells):=LF.flat h.1 fun q L hL=>by
  have hq:q<vs.length:=by rw[h.1];exact(zAB9.1 hL).1
  obtain⟨i,j,e1,e2,e3⟩:=h.2 q _ L (zAA9 hq) hL;refine⟨_,(zAA9 hq).trans (congrArg some e1),?_,?_,trivial⟩
  .exact Frz.wh (e:=3) (z':=1) (G:=L.1.length) (l:=L.1.map fun(b:Nat)=>iv (b:Int)) e2 rfl (by simp) (by simp) zmm zgN
  .exact Frz.wh (e:=143) (z':=6) (G:=L.2.length) (l:=L.2.map (zbJ 0)) e3 rfl (by simp) (by simp) zmm ziv
 have ht:(vs.drop 0).take vs.length=vs:=by rw[zEL9,zBE9]
 have hl:=h.1;refine .sl (e:=195) (M:=0) (G:=vs.length) (l:=vs) rfl (zAG9 _) (zAC9 _) zo (zAC9 _) (by simp[hl]) zmm ?_ ?_
 .rw[ht];exact zCz hf
 .rw[ht];exact fun i x y hx hy=>hf.get hx hy
theorem zvk(hw:64<=w.length/\w.length<=131072/\w.length%64=0)(a:Nat)(ha:a<w.length):FR 166 [wv p w,iv a] (.tuple [zcW (zbI w a).1,.bool (zbI w a).2]):=by
 refine zfn (eG T166 func166) (Lb.two (zm7 _) (.bool _)) ?_;have hwa:(w.map uv)[a]?=some (uv (w.getD a 0)):=by rw[zAT9,zAA9 ha,zAQ9,zAA9 ha];rfl
 refine zG ?_;refine zq9 195 2 (id:=1) rfl ?_;simp only[lzy,zAH9,zAP9,zCS9,zCR9,zAN9,zAV9];have hc:=zB8 p w hw 14 [] [] (w.getD a 0) (-1) .map0 [] [] (.inr (zAC9 _)) (.inl ⟨rfl,rfl⟩) ⟨rfl,fun k v l hv _=>by simp at hv⟩ zy;change FO ET 224 _ _ _ (zng p w (zbI w a))at hc;generalize zbI w a=r at hc;refine zBd ?_;refine zxB (zr2 hwa ha) hc ?_;rintro e H' ⟨rfl,mo',vs',G',rfl,hv'⟩;refine⟨_,by simp only[go_sem]<;>rfl,?_⟩;refine zQF hwa ?_;unfold rdH;refine zOF hwa ?_;exact Frz.tL ⟨zAt hv',.bool _,trivial⟩
def znq(w:LN)(a:Int):FE:=if zci w.length a=true then if(zbI w a.toNat).2=true then .ret (zcW (zbI w a.toNat).1)else .panic (zce 220)else .panic (zce 2)
theorem zeD(n:Nat)(a:Int):zci n a=true↔(64<=n/\n%64=0/\n<=131072/\0<=a/\a<n):=by unfold zci;grind
theorem zrh(hs:zbL w.length):FN ET 108 [wv p w,iv a] (znq w a):=by
 have hr:=zmC p w a hs;unfold znq
 by_cases h:zci w.length a=true
 rotate_left
 .rw[if_neg h]at hr⊢;refine zfn f108 (.iface (.int _ _)) ?_;refine zGI ?_;refine zcx hr ?_;(try(refine .iface ?_;exact .int _ _))
 rw[if_pos h]at hr⊢;have hb:=(zeD _ _).1 h;obtain⟨n,rfl⟩:∃n:Nat,a=n:=⟨a.toNat,by omega⟩
 have hrd:=zvk p w ⟨hb.1,hb.2.2.1,hb.2.1⟩ n zo;rw[zCG9];generalize zbI w n=r at hrd;obtain⟨T,b⟩:=r
 cases b with
 | true =>
  rw[if_pos rfl];refine zfn f108 (zm7 _) ?_;refine zMG hr ?_;refine zM hrd ?_;refine zM (zg6 220) ?_;refine zO ?_;exact Frz.list _ _ _
 | false =>
  rw[if_neg (show ¬(T,false).2=true from zEE9)];refine zfn f108 (.iface (.int _ _)) ?_;refine zMG hr ?_;refine zM hrd ?_;refine zI ?_;refine zcx (zeN 220) ?_;(try(refine .iface ?_;exact .int _ _))


theorem c35:ET.caught.get 91=some ():=by kernel_rfl
def zc6(T:LG):Lev:=T.getLastD ([],[])
theorem zgv(h:T ≠ []):T[T.length-1]?=some (zc6 T)/\T.getLast?=some (zc6 T):=by
 have:T.getLast?=some (zc6 T):=by unfold zc6;rw[List.getLastD_eq_getLast?];cases T with
  | nil=>exact absurd rfl h
  | cons a l=>rw[List.getLast?_eq_some_getLast (by simp)];rfl
 grind
theorem zid(w:LN):∀(d:Nat) (seen:LN) (acc:LG) (b:Nat) (lv:Int),(zch w d seen acc b lv).1.length<=acc.length+d
 | 0,_,acc,_,_=>zAC9 _
 | d+1,seen,acc,b,lv=>by
  rw[zch]
  split
  .simp
  .simp
  .split
   .simp
   .refine zBO9 (zid w d _ _ _ _) ?_;simp;omega
theorem zdQ{w:LN}(hw:w.length<=131072)(a:Nat)(h:zbI w a=(T,true)):(∀L∈T,zjs w L)/\(∀L∈T.dropLast,zjq L)/\T ≠ []/\zbT (zcy (zc6 T).2)=true/\T.length<=14:=by
 have hle:=zid w 14 [] [] (w.getD a 0) (-1);change (zbI w a).1.length<=0+14 at hle;have hf:=zgB hw 14 [] [] (w.getD a 0) (-1) (fun L hL=>by simp at hL);change (∀L∈(zbI w a).1,zjs w L)/\(∀L∈(zbI w a).1.dropLast,zjq L)/\((zbI w a).2=true->(zbI w a).1 ≠ []/\∀M,(zbI w a).1.getLast?=some M->zbT (zcy M.2)=true)at hf;rw[h]at hf hle;obtain⟨h1,h2,h3⟩:=hf;obtain⟨h3,h4⟩:=h3 rfl;exact⟨h1,h2,h3,h4 _ (zgv h3).2,by simpa using hle⟩
def zg9(w:LN)(a:Int):FE:=if zci w.length a=true then if(zbI w a.toNat).2=true then .ret (.tuple [psv 0 (zcy (zc6 (zbI w a.toNat).1).2),iv 0])else .ret (.tuple [psv 0 [],iv 220])else .ret (.tuple [psv 0 [],iv 2])
theorem zDD:FO ET 127 [.ptr 0 0 0 0 1] [.row 87 1 0 0 [.nilsl],.row 38 1 0 0 [iv 0]] false fun e H'=>e=.ret (.tuple [])/\H'=[.row 87 1 0 0 [.nilsl],.row 38 1 0 0 [iv 0]]:=by
 refine zro (eG T127 func127) ?_;refine zJ ?_;exact⟨[],rfl,rfl,rfl⟩
theorem zEV(hs:zbL w.length):FN ET 79 [wv p w,iv a] (zg9 w a):=by
 have hl:=zrh p w a hs;have hlb:LbE (zg9 w a):=by
  unfold zg9
  split
  .split
   .exact Lb.two (Lb.pvs _) (.int _ _)
   .exact Lb.two (Lb.pvs _) (.int _ _)
  .exact Lb.two (Lb.pvs _) (.int _ _)
 refine zfn (eG T79 func79) hlb ?_;refine zGI ?_;refine zh1 (f:=91) (p:=.ptr 1 0 0 0 1) (cl:=.fn 127 [.ptr 0 0 0 0 1]) ?_ ?_ c35 ?_
 .rfl
 .simp only[go_sem]<;>rfl
 refine zN ?_;refine zI ?_;have bad:∀(tm:Nat->PV) (n:Nat),zg9 w a=.ret (.tuple [psv 0 [],iv n])->tm 4=.ptr 0 0 0 0 1->tm 5=.ptr 1 0 0 0 1->zej ET T79 (fun e' H=>zbo H 0 e' (zg9 w a)) (.panic (zce n)) ⟨tm,[.caught (.ptr 1 0 0 0 1) (.fn 127 [.ptr 0 0 0 0 1])],[.row 87 1 0 0 [.nilsl],.row 38 1 0 0 [iv 0]]⟩:=fun tm n hn h4 h5=>by
  refine⟨n,127,[.ptr 0 0 0 0 1],false,1,0,1,rfl,rfl,rfl,zDD.mono fun e H he=>?_⟩;obtain⟨rfl,rfl⟩:=he;refine⟨rfl,_,rfl,[.nilsl,iv n],?_,?_⟩
  .simp[T79,xT,zbd,okv,h4,h5,zax,zbh,zbi,zav];rfl
  .rw[hn];exact zLF
 unfold znq at hl
 by_cases hr:zci w.length a=true
 rotate_left
 .rw[if_neg hr]at hl;refine zcx hl ?_;exact bad _ 2 (by unfold zg9;rw[if_neg hr];rfl) rfl rfl
 rw[if_pos hr]at hl;have hb:=(zeD _ _).1 hr
 by_cases ht:(zbI w a.toNat).2=true
 rotate_left
 .rw[if_neg ht]at hl;refine zcx hl ?_;exact bad _ 220 (by unfold zg9;rw[if_pos hr,if_neg ht];rfl) rfl rfl
 rw[if_pos ht]at hl;have hall:zg9 w a=.ret (.tuple [psv 0 (zcy (zc6 (zbI w a.toNat).1).2),iv 0]):=by unfold zg9;rw[if_pos hr,if_pos ht]
 obtain⟨f1,f2,f3,f4,f5⟩:=zdQ (w:=w) (T:=(zbI w a.toNat).1) zo a.toNat (by rw[<- ht]);rw[hall];clear bad;generalize (zbI w a.toNat).1=T at hl f1 f2 f3 f4 f5;obtain⟨g1,g2⟩:=zgv f3;have hlen:T.length≠0:=fun h=>f3 (zBU9 h);have hLF:=f1 _ (zAE9 g1);have hget:(T.map fun L=>zcg 0 0 L.1 L.2)[T.length-1]?=some (zcg 0 0 (zc6 T).1 (zc6 T).2):=zmg g1;have hll:=zhJ (zc6 T).2 fun n hn=>(hLF.lv.node hn).1;have hfew:=hLF.few;have hlp:=znM 0 0 (zc6 T).1 (zc6 T).2 zo (fun n hn=>(hLF.lv.node hn).1) zo;unfold ziH at hlp;rw[if_pos f4]at hlp;refine zCN hl ?_;have hq:IntKind.i64.wrap ((T.length:Int)-1)=((T.length-1:Nat):Int):=zwi;have hi:T.length-1<T.length:=zo;refine zIF (zr3 hq hget hi) ?_;refine zCN hlp ?_;refine zG ?_;refine zbK ?_;exact⟨[psv 0 (zcy (zc6 T).2),iv 0],rfl,Frz.tL ⟨.list _ _ _,.int _ _,trivial⟩⟩


@[reducible] def cvI (x:Pr):PV:=.agg [uv x.1,.int .i64 (IntKind.i64.wrap (x.2:Int))]
theorem zEJ{x:Pr}(h:x.2<9223372036854775808):cvI x=cv x:=by
 unfold cvI cv;rw[wrap_i64 zo zo]
theorem zzu(G:LP)(r r2:zc)(V0:LQ)(ps:LK)(hb:V0.length+ps.length<1000000)(tm:Nat->PV)(G3:LP)(h8:tm 8=.sl (G.length+1) V0.length 0 V0.length (2*V0.length) 2)(h93:tm 93=psv 0 ps)(h94:tm 94=iv ps.length)(h95:tm 95=iv 0){Q:FX->FSt->Prop}
  (hQ:∀(tm':Nat->PV) (V:LQ) (G4:LP),V=V0++ps.map cvI->(∀k,k≠8->k≠14->(k<95\/108<k)->tm' k=tm k)->tm' 8=.sl (G.length+1) V.length 0 V.length (2*V.length) 2->Q .norm ⟨tm',[],G++r::.row 265 2 V.length 0 V::r2::G4⟩) :
  W ET ET.caught none c137_4 ⟨tm,[],G++r::.row 265 2 V0.length 0 V0::r2::G3⟩ Q:=by
 unfold c137_4 xC;refine zay (zbE (fun m s=>∃(j:Nat) (V:LQ) (G4:LP),m=ps.length-j/\j<=ps.length/\V=V0++(ps.take j).map cvI/\(∀k,k≠8->k≠14->k≠95->(k<95\/108<k)->s.tm k=tm k)/\s.tm 8=.sl (G.length+1) V.length 0 V.length (2*V.length) 2/\s.tm 95=iv j/\s.df=[]/\s.H=G++r::.row 265 2 V.length 0 V::r2::G4) (n:=ps.length) ?_ ?_)
 .exact⟨0,V0,G3,rfl,zAG9 _,by simp,fun k _ _ _ _=>rfl,h8,h95,rfl,rfl⟩
 .rintro m ⟨tn,df,H⟩ ⟨j,V,G4,rfl,hj,hV,hf,h8',h95',rfl,rfl⟩;dsimp only at hf h8' h95';have h93':=(hf 93 zy zy zy zy).trans h93;have h94':=(hf 94 zy zy zy zy).trans h94;have hVl:V.length=V0.length+j:=by rw[hV];simp;omega
  refine zLh (zr3 h93' h94' h95') ?_ ?_
  .intro hlt;have hlt:j<ps.length:=ztd hlt;obtain⟨q,hq⟩:=zex (l:=ps) hlt;have hqv:(ps.map pv)[j]?=some (pv q):=zmg hq;have hb2:(V.length+1)*17<=140737488355328:=zo;have hV2:V++[cvI q]=V0++(ps.take (j+1)).map cvI:=by rw[zAZ9,hq,hV];simp
   refine zBb ?_;(repeat(first|refine zbG ?_|refine zgo ?_ (by simp(disch:=omega)only[go_sem,h93',h95',hqv,gm0,tm2]<;>rfl)));refine zB ?_;refine zrg ?_ (by simp(disch:=omega)only[go_sem,h8',hb2,gm0,hm2,tm2]<;>rfl);refine zdg ?_;refine zJF h95' ?_;refine⟨_,?m,j+1,V++[cvI q],?G4,rfl,hlt,hV2,?f,?h8,zu h95',zt,?H⟩
   case m=>omega
   case f=>intro k k1 k2 k3 k4;simp(disch:=omega)only[zcZ];grind
   case h8=>simp[upd]
   case H =>
    (try dsimp only);rw[zAF9];simp only[zAR9,zAN9,zAV9];rfl
  .intro hlt;have hlt:¬j<ps.length:=zfd hlt;obtain rfl:j=ps.length:=zo;refine hQ _ V G4 (by grind) (fun k k1 k2 k3=>?_) (by simp[upd,h8']);simp(disch:=omega)only[zcZ]
   grind
section
variable {α:Type}(G l m n o:List α)(x y z u:α)
theorem um2:(G++x::y::z::l++m++n).set (G.length+2) u=G++x::y::u::l++m++n:=by simp_all
end
variable {Q:FX->FSt->Prop}(G:List α)(p:Nat)(l:List α)(w:LN)(q:List α)
theorem zx7{M:Lev}{j:Nat}{x:zZ}{b:Nat}(hx:M.2[j]?=some x)(hb:M.1[j]?=some b):(zdJ M).take (j+1)=(zdJ M).take j++[(x.low,b)]:=by
 have:(zdJ M)[j]?=some (x.low,b):=by
  unfold zdJ
  grind
 rw[zAZ9,this];rfl
theorem zyy(G:LP)(r r1:zc)(T:LG)(M:Lev)(n:Nat)(hn:n<1000000)(hM:T[n+1]?=some M)(hlen:M.1.length=M.2.length)(hfew:M.2.length<=2048)(tm:Nat->PV)(G3:LP)(h5:tm 5=zcW T)(h6:tm 6=iv n)(h9:tm 9=.sl (G.length+2) 0 0 0 0 2)(h120:tm 120=.list 0 6 (M.2.map (zbJ 0)))(h121:tm 121=iv M.2.length)(h122:tm 122=iv 0)(hQ:∀(tm':Nat->PV) (V:LQ) (G4:LP),V=(zdJ M).map cv->(∀k,k≠9->k≠15->k≠16->(k<122\/142<k)->tm' k=tm k)->tm' 9=.sl (G.length+2) V.length 0 V.length (2*V.length) 2->Q .norm ⟨tm',[],G++r::r1::.row 265 2 V.length 0 V::G4⟩):
  W ET ET.caught none c137_6 ⟨tm,[],G++r::r1::.row 265 2 0 0 []::G3⟩ Q:=by
 unfold c137_6 xC;have hLT:(T.map fun L=>zcg 0 0 L.1 L.2)[n+1]?=some (zcg 0 0 M.1 M.2):=zmg hM;have hnT:n+1<T.length:=(zAB9.1 hM).1;have e1:((n:Int)+1)=((n+1:Nat):Int):=zo;have hll:(zdJ M).length=M.2.length:=by unfold zdJ;simp[hlen]
 refine zay (zbE (fun m s=>∃(j:Nat) (V:LQ) (G4:LP),m=M.2.length-j/\j<=M.2.length/\V=((zdJ M).take j).map cv/\(∀k,k≠9->k≠15->k≠16->k≠122->(k<122\/142<k)->s.tm k=tm k)/\s.tm 9=.sl (G.length+2) V.length 0 V.length (2*V.length) 2/\s.tm 122=iv j/\s.df=[]/\s.H=G++r::r1::.row 265 2 V.length 0 V::G4) (n:=M.2.length) ?_ ?_)
 .exact⟨0,[],G3,rfl,zAG9 _,by simp,fun k _ _ _ _ _=>rfl,h9,h122,rfl,rfl⟩
 .rintro m ⟨tn,df,H⟩ ⟨j,V,G4,rfl,hj,hV,hf,h9',h122',rfl,rfl⟩;dsimp only at hf h9' h122';have h5':=(hf 5 zy zy zy zy zy).trans h5;have h6':=(hf 6 zy zy zy zy zy).trans h6;have h120':=(hf 120 zy zy zy zy zy).trans h120;have h121':=(hf 121 zy zy zy zy zy).trans h121;have hVl:V.length=j:=by rw[hV];simp;omega
  refine zLh (zr3 h120' h121' h122') ?_ ?_
  .intro hlt;have hlt:j<M.2.length:=ztd hlt;have hlt1:j<M.1.length:=zo;obtain⟨x,hx⟩:=zex (l:=M.2) hlt;obtain⟨b,hb⟩:=zex (l:=M.1) hlt1;have hxv:(M.2.map (zbJ 0))[j]?=some (zbJ 0 x):=zmg hx;have hbv:(M.1.map fun(b:Nat)=>iv (b:Int))[j]?=some (iv b):=zmg hb;have hb2:(V.length+1)*17<=140737488355328:=zo;have hV2:V++[cv (x.low,b)]=((zdJ M).take (j+1)).map cv:=by rw[zx7 hx hb,hV];simp
   refine zBb ?_;refine zGF (zr3 h120' h122' hxv) ?_;refine zbU ?_;refine zda ?_ (by simp(disch:=omega)only[go_sem,h9',h5',h6',hLT,e1,hbv,hb2,km2,um2]<;>rfl);refine zQF h5' ?_;refine zJF h122' ?_;refine⟨_,?m,j+1,V++[cv (x.low,b)],?G4,rfl,hlt,hV2,?f,?h9,zu h122',zt,?H⟩
   case m=>omega
   case f=>intro k k1 k2 k3 k4 k5;simp(disch:=omega)only[zcZ];exact hf k k1 k2 k3 k4 k5
   case h9=>simp[upd]
   case H =>
    (try dsimp only);rw[zAF9];simp only[zAR9,zAN9,zAV9];rfl
  .intro hlt;have hlt:¬j<M.2.length:=zfd hlt;obtain rfl:j=M.2.length:=zo;refine hQ _ V G4 (by grind) (fun k k1 k2 k3 k4=>?_) (by simp[upd,h9']);simp(disch:=omega)only[zcZ]
   grind


def zsj(w:LN)(L:Lev):LG->Bool
 | []=>true
 | M::T=>decide (L.2.flatMap zdk=zdJ M)&&zcA w (M::T)
theorem zs6(L:Lev)(R:LG):zcA w (L::R)=(zc1 w L.1 L.2&&zsj w L R):=by
 cases R with
 | nil=>rw[zcA,zsj,zGL9]
 | cons M R=>rw[zcA,zsj,Bool.and_assoc]
theorem zlM(bs:LN)(ns:LB)(i:Nat)(b:Nat)(n:zZ)(hb:bs[i]?=some b)(hn:ns[i]?=some n):zc1 w (bs.drop i) (ns.drop i)=(decide (zb4 (zbD w b)=0)&&zdY n ns[i+1]? && zc1 w (bs.drop (i+1)) (ns.drop (i+1))):=by
 obtain⟨h1,rfl⟩:=zAB9.1 hb;obtain⟨h2,rfl⟩:=zAB9.1 hn;rw[zAK9 h1,zAK9 h2,zc1,List.head?_drop]
theorem zyz(ns:LB)(i:Nat)(n:zZ)(hn:ns[i]?=some n):(ns.take (i+1)).flatMap zdk=(ns.take i).flatMap zdk++zdk n:=by
 rw[zAZ9,hn,zDI9];simp
theorem ztt{ns:LB}(h:∀n∈ns,n.pairs.length<=28):(ns.flatMap zdk).length<=29*ns.length:=by
 induction ns with
 | nil=>grind
 | cons n ns ih =>
  have h1:=h n (zAM9 ..);have h2:=ih fun m hm=>h m (zAO9 _ hm);rw[zBR9,zAF9,zAH9];have:(zdk n).length=n.pairs.length+1:=rfl;omega
theorem gp1(a b b' p:α):(G++a::b'::l++[p]++q)[(G++a::b::l).length]?=some p:=by simp_all
theorem gp2(a b b' p:α):(G++a::b'::(l++p::q))[(G++a::b::l).length]?=some p:=by grind
theorem zx8(hs:zbL w.length)(G:LP)(r2:zc)(L:Lev)(hLF:zjs w L)(tm:Nat->PV)(G3:LP)(h0:tm 0=wv p w)(h7:tm 7=.ptr G.length 0 0 0 2)(h8:tm 8=.sl (G.length+1) 0 0 0 0 2)(h37:tm 37=.list 0 6 (L.2.map (zbJ 0)))(h38:tm 38=iv L.2.length)(h39:tm 39=iv 0)(hP:zc1 w L.1 L.2=false->∀tm' H,Q (.panic (zce 220)) ⟨tm',[],H⟩)(hQ:∀(tm':Nat->PV) (V:LQ) (G4:LP),zc1 w L.1 L.2=true->V=(L.2.flatMap zdk).map cvI->(∀(j b:Nat),L.1[j]?=some b->zb4 (zbD w b)=0)->(∀k,k≠8->k≠10->k≠11->k≠12->k≠14->(k<39\/109<k)->tm' k=tm k)->tm' 8=.sl (G.length+1) V.length 0 V.length (2*V.length) 2->Q .norm ⟨tm',[],G++.row 195 2 0 0 [zcg 0 0 L.1 L.2]::.row 265 2 V.length 0 V::r2::G4⟩):
  W ET ET.caught none c137_2 ⟨tm,[],G++.row 195 2 0 0 [zcg 0 0 L.1 L.2]::.row 265 2 0 0 []::r2::G3⟩ Q:=by
 unfold c137_2 xC;have hbl:=hLF.lv.len;have hfew:=hLF.few;refine zay (zbE (fun m s=>∃(i:Nat) (V:LQ) (G4:LP),m=L.2.length-i/\i<=L.2.length/\V=((L.2.take i).flatMap zdk).map cvI/\zc1 w L.1 L.2=zc1 w (L.1.drop i) (L.2.drop i)/\(∀(j b:Nat),j<i->L.1[j]?=some b->zb4 (zbD w b)=0)/\(∀k,k≠8->k≠10->k≠11->k≠12->k≠14->(k<39\/109<k)->s.tm k=tm k)/\s.tm 8=.sl (G.length+1) V.length 0 V.length (2*V.length) 2/\s.tm 39=iv i/\s.df=[]/\s.H=G++.row 195 2 0 0 [zcg 0 0 L.1 L.2]::.row 265 2 V.length 0 V::r2::G4) (n:=L.2.length) ?_ ?_)
 .exact⟨0,[],G3,rfl,zAG9 _,rfl,rfl,fun j b h=>absurd h (Nat.not_lt_zero _),fun k _ _ _ _ _ _=>rfl,h8,h39,rfl,rfl⟩
 .rintro m ⟨tn,df,H⟩ ⟨i,V,G4,rfl,hi,hV,hls,hck,hf,h8',h39',rfl,rfl⟩;dsimp only at hf h8' h39';have h0':=(hf 0 zy zy zy zy zy zy).trans h0;have h7':=(hf 7 zy zy zy zy zy zy).trans h7;have h37':=(hf 37 zy zy zy zy zy zy).trans h37;have h38':=(hf 38 zy zy zy zy zy zy).trans h38;refine zLh (zr3 h37' h38' h39') ?_ ?_;rotate_left
  .intro hlti;have hlti:¬i<L.2.length:=zfd hlti;obtain rfl:i=L.2.length:=zo;refine hQ _ V G4 (by rw[hls,<- hbl,zBH9];rfl) (by rw[hV,zBE9]) (fun j b hb=>hck j b (by have:=(zAB9.1 hb).1;omega) hb) (fun k k1 k2 k3 k4 k5 k6=>?_) (by simp[upd,h8']);simp(disch:=omega)only[zcZ]
   grind
  intro hlti;have hlti:i<L.2.length:=ztd hlti;obtain⟨x,hx⟩:=zex (l:=L.2) hlti;obtain⟨b,hb⟩:∃b,L.1[i]?=some b:=⟨_,zAA9 zo⟩
  have hbl':i<L.1.length:=zo;have hxv:(L.2.map (zbJ 0))[i]?=some (zbJ 0 x):=zmg hx;have hbv:(L.1.map fun(b:Nat)=>iv (b:Int))[i]?=some (iv b):=zmg hb;have hbw:=(hLF.lv.each b (zAE9 hb)).1;have hof:=zna p w b hs zo;have hch:=zy5 p (zbD w b) (by unfold zbD;simp;omega);rw[zlM w L.1 L.2 i b x hb hx]at hls;have hKl:=ztt (ns:=L.2.take i) fun n hn=>(hLF.lv.node (zBT9 hn)).1;rw[zAU9]at hKl;have hVl:V.length<=29*L.2.length:=by rw[hV,zAW9];omega
  have hKt:=zyz L.2 i x hx;have hxl:=(hLF.lv.node (zAE9 hx)).1;refine zBb ?_;refine zGF (zr3 h37' h39' hxv) ?_;refine zB ?_;refine zrg ?_ (by simp(disch:=omega)only[go_sem,h0',h7',gm0,gm1,gm2,hbv,hbl']<;>rfl);refine zcp hof ?_;refine zfx ?_;refine zca hch ?_
  by_cases hc0:zb4 (zbD w b)=0
  rotate_left
  .have g:¬((zb4 (zbD w b):Nat):Int)=0:=zo;refine zbV g ?_;refine zcx (zeN 220) ?_;exact hP (by rw[hls];simp[hc0]) _ _
  have g:((zb4 (zbD w b):Nat):Int)=0:=zo;refine zbV g ?_;refine zCN (zg6 220) ?_;refine zB ?_;refine zB ?_;refine zgo ?_;have e1:((i:Int)+1)=((i+1:Nat):Int):=zo;generalize hH0:G++zc.row 195 2 0 0 [zcg 0 0 L.1 L.2]::.row 265 2 V.length 0 V::r2::G4=H0;refine zcF (Q:=fun y s'=>(y=.norm/\zdY x L.2[i+1]?=true/\(∀k,k≠8->k≠10->k≠11->k≠12->k≠14->(k<39\/109<k)->s'.tm k=tm k)/\s'.tm 8=.sl (G.length+1) V.length 0 V.length (2*V.length) 2/\s'.tm 11=.ptr H0.length 0 0 0 6/\s'.tm 39=iv i/\s'.df=[]/\s'.H=H0++[.row 143 6 0 0 [zbJ 0 x]])\/(y=.panic (zce 220)/\zdY x L.2[i+1]?=false/\s'.df=[])) ?_ ?_
  .have hfr:∀(t:Nat->PV),(∀k,k≠8->k≠10->k≠11->k≠12->k≠14->(k<39\/109<k)->t k=tn k)->∀k,k≠8->k≠10->k≠11->k≠12->k≠14->(k<39\/109<k)->t k=tm k:=fun t ht k k1 k2 k3 k4 k5 k6=>(ht k k1 k2 k3 k4 k5 k6).trans (hf k k1 k2 k3 k4 k5 k6)
   by_cases hp0:x.pairs.length=0
   .have g0:¬(0:Int)<(x.pairs.length:Nat):=zo;refine zB ?_;refine zB ?_;refine zbO g0 ?_;refine zcf ?_;refine zbX (.inl ⟨rfl,?_,hfr _ (fun k k1 k2 k3 k4 k5 k6=>by simp(disch:=omega)only[zcZ]),h8',zt,h39',rfl,rfl⟩);unfold zdY;rw[zBU9 hp0];rfl
   have g0:(0:Int)<(x.pairs.length:Nat):=zo;subst hH0
   by_cases hi1:i+1<L.2.length
   rotate_left
   .have g1:¬((i+1:Nat):Int)<(L.2.length:Nat):=zo;refine zB ?_;refine zB ?_;refine zgo ?_ (by simp(disch:=omega)only[go_sem,g0,g1,e1,h7',gm0,gm1,gm2]<;>rfl);refine zcf ?_;refine zbX (.inl ⟨rfl,?_,hfr _ (fun k k1 k2 k3 k4 k5 k6=>by simp(disch:=omega)only[zcZ]),h8',zt,h39',rfl,rfl⟩);unfold zdY;rw[zCF9 (show L.2.length<=i+1 by omega)];split
    .rename_i h;cases h
    .rfl
   have g1:((i+1:Nat):Int)<(L.2.length:Nat):=zo;obtain⟨z,hz⟩:∃z,L.2[i+1]?=some z:=⟨_,zAA9 hi1⟩
   have hzv:(L.2.map (zbJ 0))[i+1]?=some (zbJ 0 z):=zmg hz;obtain⟨y,hy⟩:∃y,x.pairs[x.pairs.length-1]?=some y:=⟨_,zAA9 zo⟩
   have hyv:(x.pairs.map pv)[x.pairs.length-1]?=some (pv y):=zmg hy;have hq:IntKind.i64.wrap ((x.pairs.length:Int)-1)=((x.pairs.length-1:Nat):Int):=zwi;have hq1:x.pairs.length-1<x.pairs.length:=zo;have hll:zdY x L.2[i+1]?=decide (y.1<z.low):=by unfold zdY;rw[zCI9,hy,hz]
   refine zB ?_;refine zB ?_;refine zgo ?_ (by simp(disch:=omega)only[go_sem,g0,g1,e1,h7',gm0,gm1,gm2]<;>rfl);refine zct ?_;refine zbU ?_
   by_cases hlow:y.1<z.low
   .have g2:(y.1:Int)<(z.low:Nat):=zo;refine zdn (zg6 220) ?_ (by simp(disch:=omega)only[go_sem,h7',gm0,gm1,gm2,hq,hyv,hq1,e1,hzv,hi1,g2]<;>rfl);refine zeW h7' ?_;refine zb9 ?_;refine .inl ⟨rfl,by rw[hll];simp[hlow],hfr _ (fun k k1 k2 k3 k4 k5 k6=>?_),h8',?_,h39',rfl,rfl⟩
    .simp(disch:=first|omega|simp)only[zaD,zcZ]
    .simp[zaD,upd]
   .have g2:¬(y.1:Int)<(z.low:Nat):=zo;refine zdx (zeN 220) ?_ (by simp(disch:=omega)only[go_sem,h7',gm0,gm1,gm2,hq,hyv,hq1,e1,hzv,hi1,g2]<;>rfl);exact .inr ⟨rfl,by rw[hll];simp[hlow],rfl⟩
  rintro y ⟨tq,df,H⟩ (⟨rfl,hlow,hf2,h8'',h11,h39'',rfl,rfl⟩|⟨rfl,hlow,rfl⟩);rotate_left
  .exact hP (by rw[hls];simp[hlow]) _ _
  dsimp only at hf2 h8'' h11 h39'';subst hH0;have hbK:(V.length+1)*17<=140737488355328:=zo;refine zB ?_;refine zgo ?_ (by simp(disch:=omega)only[go_sem,h8'',h11,gm0,gm1,gm2,hm0,hm1,hm2,tm0,tm1,tm2,hbK]<;>rfl);refine zB ?_;refine zB ?_;refine zgo ?_ (by simp(disch:=omega)only[go_sem,h11,gp1,gp2]<;>rfl);simp only[zAR9,zAN9,zAV9];obtain⟨V1,hV1⟩:∃V1,V1=V++[cvI (x.low,x.left)]:=⟨_,rfl⟩
  have hV1l:V.length+1=V1.length:=by rw[hV1];simp
  rw[<- hV1,hV1l];refine zzu G _ r2 V1 x.pairs zo _ _ (by simp[upd]) (by simp[upd]) (by simp[upd]) (by simp[upd]) (fun tm' V2 G5 hV2 hfr h8=>?_);have h39x:tm' 39=iv i:=(hfr 39 zy zy zy).trans (by simp[upd,h39'']);refine zJF h39x ?_;refine⟨_,?m,i+1,V2,?G6,rfl,hlti,?hV,?hls,?hck,?hf,zu h8,by simp[upd,h39x],zt,?H⟩
  case m=>omega
  case hV=>rw[hV2,hV1,hV,hKt];simp[zdk]
  case hls=>rw[hls,hlow];simp[hc0]
  case hck =>
   intro j c hj hc;rcases zCY9 j i with h|h
   .exact hck j c h hc
   .obtain rfl:j=i:=zo;rw[hb]at hc;cases hc;exact hc0
  case hf =>
   intro k k1 k2 k3 k4 k5 k6;simp(disch:=omega)only[zcZ];rw[hfr k k1 k5 zo];simp(disch:=omega)only[zcZ];exact hf2 k k1 k2 k3 k4 k5 k6
  case H=>rfl


theorem f137:ET.funcs.get 137=some T137:=eG _ func137
theorem zg8{l:LN}(h:zb4 l=0)(hl:0<(headN l).level):∀x∈zdk (headN l),x.2<2048:=by
 have hh:=zii h;unfold zb4 at h;rw[if_pos hh]at h;have hp:zgR l=true:=by grind
 unfold zgR at hp;rw[zAI9,zDN9,List.any_eq_false]at hp;intro x hx;rcases zAX9.1 hx with rfl|hx
 .unfold headB at hh;rw[zAI9,zBQ9]at hh;have h3:=hh.2 3 zy;have e1:(headN l).level=ziC (l.getD 0 0):=by unfold headN;rfl
  have e2:(headN l).left=l.getD 3 0:=by unfold headN;rfl
  rw[zdC,<- e1,<- e2]at h3;simp only[zFH9,zAI9,decide_eq_true_eq]at h3;rcases h3 with⟨h3,_⟩|⟨_,h3⟩
  .omega
  .exact((zfg _).1 h3).2
 .have:=hp.2 x hx;have hm:zcD (headN l) x=true:=by simpa using this
  unfold zcD at hm;rw[if_neg zo,zAI9]at hm;exact((zfg _).1 hm.1).2
def zjU(w:LN)(a:Int):FE:=if zci w.length a=true then if(zbI w a.toNat).2=true then if zgq w (zbI w a.toNat).1=true then .ret (zcW (zbI w a.toNat).1)else .panic (zce 220)else .panic (zce 220)else .panic (zce 2)
theorem zvc(a:Int)(hs:zbL w.length)(hwl:w.length<=131072)(T:LG)(hl:FR 108 [wv p w,iv a] (zcW T))(f1:∀L∈T,zjs w L)(f2:∀L∈T.dropLast,zjq L)(f3:T ≠ [])(f5:T.length<=14):
  FN ET 137 [wv p w,iv a] (if zgq w T=true then .ret (zcW T)else .panic (zce 220)):=by
 refine zfn f137 ?_ ?_
 .split
  .exact zm7 _
  .exact .iface (.int _ _)
 have bad:zgq w T=false->(if zgq w T=true then FE.ret (zcW T)else .panic (zce 220))=.panic (zce 220):=fun h=>by grind
 obtain⟨L0,R,rfl⟩:∃L0 R,T=L0::R:=by
  cases T with
  | nil=>grind
  | cons a l=>grind
 have hT0:(List.map (fun L=>zcg 0 0 L.1 L.2) (L0::R))[0]?=some (zcg 0 0 L0.1 L0.2):=rfl;obtain⟨n0,hn0⟩:∃n0:zZ,(L0.2.map (zbJ 0))[0]?=some (zbJ 0 n0)/\ztj (L0::R)=decide (n0.sib=0):=by
  have:=(f1 L0 (zAM9 ..)).ne;obtain⟨bs,ns⟩:=L0
  cases ns with
  | nil=>grind
  | cons n ns=>exact⟨n,rfl,rfl⟩
 obtain⟨hn0,hsb⟩:=hn0;refine zMG hl ?_;have hnl:0<L0.2.length:=zCD9.2 (f1 L0 (zAM9 ..)).ne;have hrl:0<R.length+1:=zCK9 _
 by_cases hsib:n0.sib=0
 rotate_left
 .have g:¬(n0.sib:Int)=0:=zo;refine zIF (zr5 hT0 hn0 hnl hrl g) ?_;refine zcx (zeN 220) ?_;exact zb2 (by rw[bad (by unfold zgq;grind)])
 have g:(n0.sib:Int)=0:=zo;refine zIF (zr5 hT0 hn0 hnl hrl g) ?_;refine zCN (zg6 220) ?_;refine zGF hT0 ?_;have hset:zgq w (L0::R)=zcA w (L0::R):=by unfold zgq;rw[hsb,hsib];rfl
 rw[hset]at bad⊢;clear hset hsb hT0 hn0 hnl hrl g hsib f3;have hTl:(L0::R).length=R.length+1:=rfl;generalize L0::R=T at *
 refine zay (zbE (fun m s=>∃(n:Nat) (G:LP),m=T.length-n/\n<=T.length/\zcA w T=zcA w (T.drop n)/\s.tm 0=wv p w/\s.tm 5=zcW T/\s.tm 29=zcW T/\s.tm 30=iv T.length/\s.tm 31=iv n/\s.df=[]/\s.H=G) (n:=T.length) ?_ ?_)
 .exact⟨0,_,rfl,by omega,rfl,zt,zt,zt,by simp[upd];omega,zt,rfl,rfl⟩
 .rintro m ⟨tm,df,G⟩ ⟨n,G',rfl,hn,hls,h0,h5,h29,h30,h31,rfl,rfl⟩;dsimp only at *
  refine zLh (zr3 h29 h30 h31) ?_ ?_;rotate_left
  .intro hlt;have hlt:¬n<T.length:=zfd hlt;obtain rfl:n=T.length:=zo;refine zOF h5 ?_;rw[zBH9]at hls;rw[hls];exact Frz.list _ _ _
  intro hlt;have hlt:n<T.length:=ztd hlt;obtain⟨L,hL⟩:=zex (l:=T) hlt;have hLT:(T.map fun L=>zcg 0 0 L.1 L.2)[n]?=some (zcg 0 0 L.1 L.2):=zmg hL;have hLF:=f1 L (zAE9 hL);have hdr:T.drop n=L::T.drop (n+1):=zdc hL;rw[hdr,zs6]at hls;have hbl:=hLF.lv.len;have hfew:=hLF.few;refine zBb ?_;refine zGF (zr3 h29 h31 hLT) ?_;refine zc2 265 2 (i:=8) rfl ?_;refine zc2 265 2 (i:=9) rfl ?_;simp only[lzy,zAF9,zAH9,zAP9,zBN9,zAR9,zAN9,zAV9];(repeat(first|refine zbG ?_|refine zgo ?_ (by simp(disch:=omega)only[go_sem,gm0]<;>rfl)));refine zx8 p w hs G _ L hLF _ [] (by simp[upd,h0]) (by simp[upd]) (by simp[upd]) (by simp[upd]) (by simp[upd]) (by simp[upd]) (fun hf tm' H=>?_) (fun tm' V G4 hns hV hck hfr h8=>?_)
  .exact zb2 (by grind)
  rw[hns,zCA9]at hls;have h0':tm' 0=wv p w:=(hfr 0 zy zy zy zy zy zy).trans (by simp[upd,h0]);have h5':tm' 5=zcW T:=(hfr 5 zy zy zy zy zy zy).trans (by simp[upd,h5]);have h6':tm' 6=iv n:=(hfr 6 zy zy zy zy zy zy).trans (by simp[upd]);have h9':tm' 9=.sl (G.length+2) 0 0 0 0 2:=(hfr 9 zy zy zy zy zy zy).trans (by simp[upd]);have h29':tm' 29=zcW T:=(hfr 29 zy zy zy zy zy zy).trans (by simp[upd,h29]);have h30':tm' 30=iv T.length:=(hfr 30 zy zy zy zy zy zy).trans (by simp[upd,h30]);have h31':tm' 31=iv n:=(hfr 31 zy zy zy zy zy zy).trans (by simp[upd,h31]);have hq:IntKind.i64.wrap ((T.length:Int)-1)=((T.length-1:Nat):Int):=zwi
  by_cases hlast:n+1=T.length
  .have g:((n:Nat):Int)=(T.length-1:Nat):=zo;have hd0:T.drop (n+1)=[]:=zDP9 zo;rw[hd0]at hls;refine zB ?_;refine zB ?_;refine zbO (zr4 h5' h6' hq g) ?_;refine zfc ?_ ?_;rotate_left
   .intro h;simp at h
   intro _;refine zho ?_;refine zOF h5' ?_;rw[hls];exact Frz.list _ _ _
  have g:¬((n:Nat):Int)=(T.length-1:Nat):=zo;obtain⟨M,hM⟩:∃M,T[n+1]?=some M:=⟨_,zAA9 zo⟩
  have hdM:T.drop (n+1)=M::T.drop (n+1+1):=by rw[zAK9 (show n+1<T.length by omega)];obtain⟨_,e⟩:=zAB9.1 hM;rw[e]
  have hMF:=f1 M (zAE9 hM);have hMT:(T.map fun L=>zcg 0 0 L.1 L.2)[n+1]?=some (zcg 0 0 M.1 M.2):=zmg hM;have hMn:n+1<T.length:=zo;have e1:((n:Int)+1)=((n+1:Nat):Int):=zo;have hLp:zjq L:=f2 L (by
   have:T.dropLast[n]?=some L:=by rw[List.getElem?_dropLast,if_pos zo];exact hL
   exact zAE9 this)
  have hsm:∀x∈L.2.flatMap zdk,x.2<2048:=fun x hx=>by
   obtain⟨y,hy,hx⟩:=zBB9.1 hx;have hy0:=hLp y hy;rw[hLF.lv.is]at hy;obtain⟨b,hb,rfl⟩:=zAJ9.1 hy;obtain⟨j,hj⟩:=zDR9.1 hb;exact zg8 (hck j b hj) hy0 x hx
  have hVc:V=(L.2.flatMap zdk).map cv:=by
   rw[hV];exact zDO9 fun x hx=>zEJ (by have:=hsm x hx;omega)
  rw[hdM,zsj]at hls;refine zB ?_;refine zB ?_;refine zbO (zr4 h5' h6' hq g) ?_;refine zfc ?_ ?_
  .intro h;simp at h
  intro _;refine zSk ?_;refine zB ?_;refine zB ?_;refine zbO (zr5 h5' h6' e1 hMT hMn) ?_;refine zyy G _ _ T M n zo hM hMF.lv.len hMF.few _ _ (by simp[upd,h5']) (by simp[upd,h6']) (by simp[upd,h9']) (by simp[upd]) (by simp[upd]) (by simp[upd]) (fun tm2 V2 G5 hV2 hfr2 h9=>?_);have h8x:tm2 8=.sl (G.length+1) V.length 0 V.length (2*V.length) 2:=(hfr2 8 zy zy zy zy).trans (by simp[upd,h8]);have hk1:=ztt (ns:=L.2) fun n hn=>(hLF.lv.node hn).1;have hfew:=hLF.few;have hMfew:=hMF.few;have hml:(zdJ M).length=M.2.length:=by unfold zdJ;simp[hMF.lv.len]
  have heq:=zvg 1 1 (L.2.flatMap zdk) (zdJ M) zo zo;have hflat:∀l:LK,∀v∈(l.map cv).flatMap PV.cells,Id0 v:=fun l v hv=>by
   obtain⟨x,hx,hv⟩:=zBB9.1 hv;obtain⟨y,_,rfl⟩:=zAJ9.1 hx;simp[PV.cells]at hv;rcases hv with rfl|rfl<;>exact .int _ _
  have fz1:Frz (G++zc.row 195 2 0 0 [zcg 0 0 L.1 L.2]::.row 265 2 V.length 0 V::.row 265 2 V2.length 0 V2::G5) 1 (.sl (G.length+1) V.length 0 V.length (2*V.length) 2) (csv 1 (L.2.flatMap zdk)):=by
   rw[hVc];exact Frz.wh (hm0 G _ _ _) rfl (by simp) (by simp) zmm (hflat _)
  have fz2:Frz (G++zc.row 195 2 0 0 [zcg 0 0 L.1 L.2]::.row 265 2 V.length 0 V::.row 265 2 V2.length 0 V2::G5) 1 (.sl (G.length+2) V2.length 0 V2.length (2*V2.length) 2) (csv 1 (zdJ M)):=by
   rw[hV2];exact Frz.wh (km0 G _ _ _ _) rfl (by simp) (by simp) zmm (hflat _)
  refine zBr ?_;refine zbV (zr2 h8x h9) ?_;refine zdq (caps:=?_) (vs:=?_) ?_ ?_ heq ?_ ?_;rotate_left 2;(first|rfl|(simp only[zau,zaA,go_sem]<;>rfl));(simp only[go_sem]<;>rfl)
  .exact⟨fz1,fz2,trivial⟩
  by_cases hke:L.2.flatMap zdk=zdJ M
  rotate_left
  .rw[decide_eq_false hke];refine zfx ?_;refine zcx (zeN 220) ?_;exact zb2 (by rw[bad (by rw[hls];simp[hke])])
  rw[decide_eq_true hke,zCA9]at hls;rw[decide_eq_true hke];refine zfx ?_;refine zca (zg6 220) ?_;refine zK ?_;have hx5:tm2 5=zcW T:=(hfr2 5 zy zy zy zy).trans (by simp[upd,h5']);have hx0:tm2 0=wv p w:=(hfr2 0 zy zy zy zy).trans (by simp[upd,h0']);have hx29:tm2 29=zcW T:=(hfr2 29 zy zy zy zy).trans (by simp[upd,h29']);have hx30:tm2 30=iv T.length:=(hfr2 30 zy zy zy zy).trans (by simp[upd,h30']);have hx31:tm2 31=iv n:=(hfr2 31 zy zy zy zy).trans (by simp[upd,h31']);refine zJF (zr2 hx31 e1) ?_;refine⟨_,?m,n+1,_,rfl,hlt,by rw[hls,hdM],by simp[upd,hx0],by simp[upd,hx5],by simp[upd,hx29],by simp[upd,hx30],zt,rfl,rfl⟩
  case m=>omega
theorem zup(a:Int)(hs:zbL w.length):FN ET 137 [wv p w,iv a] (zjU w a):=by
 have hl:=zrh p w a hs;unfold znq at hl;unfold zjU
 by_cases hr:zci w.length a=true
 rotate_left
 .rw[if_neg hr]at hl⊢;refine zfn f137 (.iface (.int _ _)) ?_;refine zGI ?_;refine zcx hl ?_;(try(refine .iface ?_;exact .int _ _))
 rw[if_pos hr]at hl⊢;have hb:=(zeD _ _).1 hr
 by_cases ht:(zbI w a.toNat).2=true
 rotate_left
 .rw[if_neg ht]at hl⊢;refine zfn f137 (.iface (.int _ _)) ?_;refine zGI ?_;refine zcx hl ?_;(try(refine .iface ?_;exact .int _ _))
 rw[if_pos ht]at hl⊢;obtain⟨f1,f2,f3,f4,f5⟩:=zdQ (w:=w) (T:=(zbI w a.toNat).1) zo a.toNat (by grind);exact zvc p w a hs zo _ hl f1 f2 f3 f5
def zkx(w:LN)(a:Int):Nat:=if zci w.length a=true then if(zbI w a.toNat).2=true then if zgq w (zbI w a.toNat).1=true then 0 else 220 else 220 else 2


theorem e10:((1:Int)=0)=False:=eq_false zy
def zf4:LA->Nat->Bool
 | none,_=>true
 | some k,n=>decide (k<n)
def ze0(seen:LN)(pk:LA)(x:Pr):Bool:=decide (1<=x.2)&&decide (x.2<=1099511627776) && !seen.contains x.2&&zf4 pk x.1
def zkw:LN->LA->LK->Bool
 | _,_,[]=>true
 | seen,pk,x::l=>ze0 seen pk x&&zkw (x.2::seen) (some x.1) l
theorem zoQ:∀(l:LK) (seen:LN) (pk:LA),zkw seen pk l=true↔(zdO seen l=true/\(∀p∈l,1<=p.2/\p.2<=1099511627776)/\zbT l=true/\(∀x,l.head?=some x->zf4 pk x.1=true))
 | [],_,_=>⟨fun _=>⟨rfl,by simp,rfl,by simp⟩,fun _=>rfl⟩
 | x::l,seen,pk=>by
  rw[zkw,zAI9,zoQ l,zdO,zAI9];unfold ze0;have hr:zbT (x::l)=true↔zbT l=true/\∀y,l.head?=some y->zf4 (some x.1) y.1=true:=by
   cases l with
   | nil=>simp[zbT]
   | cons y l=>rw[zbT,zAI9];simp[zf4,and_comm]
  grind
theorem zxD(l:LK):zkw [] none l=okP l:=by
 rw[zFI9,zoQ,zqB,zge]
 constructor
 .grind
 .rintro ⟨c,a,b⟩;exact⟨⟨a,by simp⟩,b,c,fun _ _=>rfl⟩
def zhp(l:LK)(i:Nat):LA:=if i=0 then none else some (l.getD (i-1) (0,0)).1


def okI:LM->LM->Bool
 | _,[]=>true
 | seen,b::l=>decide (1<=b)&&decide (b<2048) && !seen.contains b&&okI (b::seen) l
variable (p:Nat)(l:LK)
theorem zvR:∀(l seen:LM),okI seen l=true↔(∀b∈l,1<=b/\b<2048)/\l.Nodup/\∀b∈l,¬b∈seen
 | [],seen=>by simp[okI]
 | b::l,seen=>by
  rw[okI,zAI9,zAI9,zAI9,zvR l,decide_eq_true_eq,decide_eq_true_eq,zDN9,zFV9]
  grind
theorem zsr{l:LM}(h:okI [] l=true):∃fr:LN,l=fr.map (fun(b:Nat)=>(b:Int))/\zqf fr=true:=by
 rw[zvR]at h;obtain⟨h1,h2,_⟩:=h;have he:l=(l.map Int.toNat).map (fun(b:Nat)=>(b:Int)):=by
  rw[zDV9]
  conv=>lhs;rw[<- List.map_id l]
  refine zDO9 fun b hb=>?_
  grind
 refine⟨l.map Int.toNat,he,?_⟩;rw[zjh];refine⟨fun b hb=>?_,?_⟩
 .obtain⟨c,hc,rfl⟩:=zAJ9.1 hb
  grind
 .rw[he,List.nodup_iff_pairwise_ne,List.pairwise_map]at h2;exact h2.imp fun h e=>h (by rw[e])
def zhl(mo:zc)(seen:LM):Prop:=(mo=.map0/\seen=[])\/∃mm:Int->LW,mo=.mapI .i64 mm/\∀q:Int,mm q=if seen.contains q=true then some (iv 1)else none


@[reducible] def bfl (free:LN):LQ:=free.map fun (b:Nat)=>iv (b:Int)
theorem zof(xs:List (Nat×zZ)):(xs.flatMap fun x=>zlb x.1 (zdA x.2)).length=64*xs.length:=by
 induction xs with
 | nil=>rfl
 | cons a xs ih=>rw[zBR9,zAF9,ih,zAH9];simp[zlb,zmF];omega
theorem zBF{bs:LN}{L:LB}{i b:Nat}{x:zZ}(hb:bs[i]?=some b)(hx:L[i]?=some x):(bs.zip L).take (i+1)=(bs.zip L).take i++[(b,x)]:=by
 have:(bs.zip L)[i]?=some (b,x):=by rw[zDT9];exact⟨hb,hx⟩
 rw[zAZ9,this];rfl


@[reducible] def zte (n:Nat):FE:=.ret (.tuple [iv 0,.list 0 2 (([]:LK).map zbP),iv 0,iv n])
@[reducible] def bOk (T:LG):FE:=.ret (.tuple [iv (zpL T),.list 0 2 ((zeR T.reverse).map zbP),iv (T.reverse.flatMap Prod.fst).length,iv 0])
def zf6(l:LK)(fr:LM):FE:=if okP l&&okI [] fr then match zgw l (fr.map Int.toNat)with
 | none=>zte 221
 | some T=>bOk T else zte 2
theorem zh2:Lb (.list 0 2 (l.map zbP)):=.list fun x hx=>by
 obtain⟨y,hy,hx⟩:=zBB9.1 hx;obtain⟨n,_,rfl⟩:=zAJ9.1 hy;simp[PV.cells]at hx;rcases hx with rfl|rfl<;>exact .int _ _
theorem Lb.four{a b c d:PV}(ha:Lb a)(hb:Lb b)(hc:Lb c)(hd:Lb d):Lb (.tuple [a,b,c,d]):=.tuple fun v hv=>by grind
theorem zBS(fr:LM):LbE (zf6 l fr):=by
 unfold zf6
 split
 .split
  .exact Lb.four (.int _ _) (zh2 _) (.int _ _) (.int _ _)
  .exact Lb.four (.int _ _) (zh2 _) (.int _ _) (.int _ _)
 .exact Lb.four (.int _ _) (zh2 _) (.int _ _) (.int _ _)


theorem zve(q:Nat)(a b:LK)(ha:zbL a.length)(hb:zbL b.length):FR 22 [.list p 2 (a.map zbP),.list q 2 (b.map zbP)] (.bool (decide (a=b))):=by
 refine zfn (eG T22 func22) (.bool _) ?_;refine zG ?_
 by_cases hl:a.length=b.length
 rotate_left
 .have g:¬(a.length:Int)=b.length:=zo;have hne:¬a=b:=fun h=>hl (by rw[h]);refine zB ?_;refine zfc ?_ ?_
  .intro _;refine zO ?_;exact zbo.bool (decide_eq_false hne).symm
  .intro h;simp[g]at h
 have g:(a.length:Int)=b.length:=zo;refine zB ?_;refine zfc ?_ ?_
 .intro h;simp[g]at h
 intro _;refine zSk ?_;refine zG ?_;refine zay (zbE (fun m s=>∃i:Nat,m=a.length-i/\i<=a.length/\decide (a=b)=decide (a.drop i=b.drop i)/\s.tm 0=.list p 2 (a.map zbP)/\s.tm 1=.list q 2 (b.map zbP)/\s.tm 5=iv i/\s.df=[]/\s.H=[]) (n:=a.length) ?_ ?_)
 .exact⟨0,by simp[upd,zD]⟩
 .rintro m ⟨tm,df,H⟩ ⟨i,rfl,hi,hd,h0,h1,h5,rfl,rfl⟩;dsimp only at h0 h1 h5;refine zLh (zr3 h0 h1 h5) ?_ ?_
  .intro hlt;have hlt:i<a.length:=ztd hlt;have hltb:i<b.length:=zo;have hda:a.drop i=a[i]::a.drop (i+1):=zAK9 hlt;have hdb:b.drop i=b[i]::b.drop (i+1):=zAK9 hltb;have hav:(a.map zbP)[i]?=some (zbP a[i]):=by rw[zAT9,zAA9 hlt];rfl
   have hbv:(b.map zbP)[i]?=some (zbP b[i]):=by rw[zAT9,zAA9 hltb];rfl
   have hee:(decide (((a[i].1:Nat):Int)=(b[i].1:Nat))&&decide (((a[i].2:Nat):Int)=(b[i].2:Nat)))=decide (a[i]=b[i]):=by
    rw[<- Bool.decide_and]
    congr 1
    rw[Prod.ext_iff];simp only[Int.natCast_inj]
   rw[hda,hdb]at hd;generalize a[i]=x at *
   generalize b[i]=y at *
   refine zBb ?_;refine zBd ?_;refine zdl ?_ (by simp(disch:=omega)only[go_sem,h0,h1,h5,hav,hbv,zCt]<;>rfl);refine zb9 ?_;simp only[go_sem];rw[hee]
   by_cases hx:x=y
   .refine zfc ?_ ?_
    .rw[decide_eq_true hx];intro h;cases h
    .intro _;refine zbX ?_;refine zJF h5 ?_;refine⟨_,?m,i+1,rfl,hlt,?_,zu h0,zu h1,zu h5,zt,zt⟩
     case m=>omega
     rw[hd];simp only[hx,List.cons.injEq,true_and]
   .refine zfc ?_ ?_
    .intro _;refine zO ?_;exact zbo.bool (by grind)
    .rw[decide_eq_false hx];intro h;cases h
  .intro hlt;have hlt:¬i<a.length:=zfd hlt;obtain rfl:i=a.length:=zo;refine zO ?_;refine zbo.bool ?_
   grind
theorem zef(x:Nat):FR 122 [iv 0,uv x] (.bool (decide (1<=x)&&decide (x<=1099511627776))):=by
 refine zfn (eG T122 func122) (.bool _) ?_;refine zG ?_;refine zB ?_;refine zct ?_
 by_cases b1:1<=x
 .have a1:(1:Int)<=x:=zo
  by_cases b2:x<=1099511627776
  .have a2:(x:Int)<=1099511627776:=zo;refine zOF (zr2 a1 a2) ?_;exact zbo.bool (by grind)
  .have a2:¬(x:Int)<=1099511627776:=zo;refine zOF (zr2 a1 a2) ?_;exact zbo.bool (by grind)
 .have a1:¬(1:Int)<=x:=zo;refine zOF a1 ?_;exact zbo.bool (by simp[b1])
theorem zAA(n:Nat)(hn:n<=500):FR 74 [iv n] (iv (ziw n:Nat)):=by
 refine zfn (eG T74 func74) (.int _ _) ?_;have q1:IntKind.i64.wrap (((n:Int)+17).tdiv 18)=(((n+17)/18:Nat):Int):=by rw[show (n:Int)+17=((n+17:Nat):Int) by omega,IntWalk.i64_quo _ _ zo];omega
 have hm:max (1:Int) (((n+17)/18:Nat):Int)=((max 1 ((n+17)/18):Nat):Int):=zo;refine zGF (zr2 q1 hm) ?_;refine zay (zbE (fun m s=>∃(t m' c:Nat),m=m'/\t<=2/\1<=m'/\m'<=bndL t/\c<=10000*(t+1)/\ziw n+m'=c+zgO (4-t) m'/\s.tm 3=iv m'/\s.tm 4=iv c/\s.df=[]/\s.H=[]) (n:=max 1 ((n+17)/18)) ?_ ?_)
 .exact⟨0,_,_,rfl,by decide,by omega,by simp[bndL];omega,by omega,zDF9 _ _,zt,zt,rfl,rfl⟩
 .rintro m ⟨tm,df,H⟩ ⟨t,m',c,rfl,ht,h1,hb,hc,hn,h3,h4,rfl,rfl⟩;dsimp only at h3 h4;refine zLh (zr2 h3 h4) ?_ ?_
  .intro hlt;have hlt:1<m:=ztd hlt;have q2:IntKind.i64.wrap (((m:Int)+18).tdiv 19)=(((m+18)/19:Nat):Int):=by
    have:m<=28:=zBO9 hb (by match t with|0=>decide|1=>decide|t+2=>exact(show 1<=28 by decide));rw[show (m:Int)+18=((m+18:Nat):Int) by omega,IntWalk.i64_quo _ _ zo];omega
   have hm28:m<=28:=zBO9 hb (by match t with|0=>decide|1=>decide|t+2=>exact(show 1<=28 by decide));have q3:IntKind.i64.wrap ((c:Int)+(((m+18)/19:Nat):Int))=((c+(m+18)/19:Nat):Int):=zwi;refine zBb ?_;refine zB ?_;refine zB ?_;refine zbO (zr2 h3 q2) ?_;refine zJF (zr3 h3 h4 q3) ?_;refine⟨(m+18)/19,by omega,t+1,(m+18)/19,c+(m+18)/19,rfl,?_,by omega,?_,by omega,?_,zt,zt,zt,zt⟩
   .match t,ht,hb with
    | 0,_,_=>decide
    | 1,_,_=>decide
    | 2,_,hb=>simp[bndL]at hb;omega
   .match t,ht,hb with
    | 0,_,hb=>simp[bndL]at hb⊢;omega
    | 1,_,hb=>simp[bndL]at hb⊢;omega
    | 2,_,hb=>simp[bndL]at hb;omega
   .have e:4-t=(4-(t+1))+1:=zo;rw[e,zgO,if_neg zo]at hn;omega
  .intro hlt;have hlt:¬1<m:=zfd hlt;obtain rfl:m=1:=zo;refine zOF h4 ?_;have e:4-t=(3-t)+1:=zo;rw[e,zgO,if_pos rfl]at hn;have:ziw n=c:=zo;rw[this];exact Frz.int _ _
theorem zrd:∀(l s t:LM),(∀b,b∈s↔b∈t)->okI s l=okI t l
 | [],_,_,_=>rfl
 | b::l,s,t,h=>by
  rw[okI,okI,zrd l (b::s) (b::t) fun c=>by grind]
  grind
theorem zu2(l:LM)(hl:l.length<1000000):FR 73 [.list p 1 (l.map iv)] (.bool (okI [] l)):=by
 refine zfn (eG T73 func73) (.bool _) ?_;refine zG ?_;refine zay (zbE (fun m s=>∃i:Nat,m=l.length-i/\i<=l.length/\okI [] l=okI (l.take i) (l.drop i)/\s.tm 0=.list p 1 (l.map iv)/\s.tm 3=iv i/\s.df=[]/\s.H=[]) (n:=l.length) ?_ ?_)
 .exact⟨0,by simp[upd,zD]⟩
 .rintro m ⟨tm,df,H⟩ ⟨i,rfl,hi,hd,h0,h3,rfl,rfl⟩;dsimp only at h0 h3;refine zLh (zr2 h0 h3) ?_ ?_;rotate_left
  .intro hlt;have hlt:¬i<l.length:=zfd hlt;obtain rfl:i=l.length:=zo;refine zO ?_;refine zbo.bool ?_;rw[hd,zBH9];rfl
  intro hlt;have hlt:i<l.length:=ztd hlt;obtain⟨x,hx⟩:=zex (l:=l) hlt;have hxv:(l.map iv)[i]?=some (iv x):=zmg hx;have hdx:l.drop i=x::l.drop (i+1):=zdc hx;rw[hdx,okI]at hd;have hle:i<=l.length:=hi;have htk:(l.map iv).take i=(l.take i).map iv:=by rw[zCH9]
  have hhas:=zpE p (l.take i) x (by grind);refine zBb ?_;refine zBd ?_
  by_cases b1:x<1
  .refine ze6 (by first|exact trivial|simp only[go_sem,h0,h3,hxv,hlt,b1]) (by simp(disch:=omega)only[go_sem,h0,h3,hxv,b1]<;>rfl) rfl (by simp only[go_sem,b1]<;>rfl) (by simp only[go_sem]<;>rfl) ?_;refine zQF h0 ?_;refine zfc ?_ ?_
   .intro _;refine zO ?_;refine zbo.bool ?_
    grind
   .intro h;cases h
  by_cases b2:2047<x
  .refine ze6 (by first|exact trivial|simp only[go_sem,h0,h3,hxv,hlt,b1,b2]) (by simp(disch:=omega)only[go_sem,h0,h3,hxv,b1,b2]<;>rfl) rfl (by simp only[go_sem,b2]<;>rfl) (by simp only[go_sem]<;>rfl) ?_;refine zQF h0 ?_;refine zfc ?_ ?_
   .intro _;refine zO ?_;refine zbo.bool ?_
    grind
   .intro h;cases h
  refine zcw (zr8 h0 h3 hxv hlt hle b1 b2 htk) hhas ?_;refine zQF h0 ?_
  by_cases hc:(l.take i).contains x=true
  .refine zgP hc ?_ ?_
   .intro _;refine zO ?_;refine zbo.bool ?_
    grind
   .intro h;cases h
  have hc:(l.take i).contains x=false:=by simpa using hc
  refine zp4 hc ?_;refine zbX ?_;refine zJF h3 ?_;refine⟨_,?m,i+1,rfl,hlt,?_,zu h0,zu h3,zt,zt⟩
  case m=>omega
  rw[hd,hc];have:l.take (i+1)=l.take i++[x]:=by rw[zAZ9,hx];rfl
  rw[this,zrd _ (x::l.take i) (l.take i++[x]) fun b=>by grind]
  grind
theorem zul(hl:l.length<1000000):FR 72 [psv p l] (.bool (okP l)):=by
 refine zfn (eG T72 func72) (.bool _) ?_;refine zG ?_;refine zay (zbE (fun m s=>∃(i:Nat) (seen:LN) (mo:zc),m=l.length-i/\i<=l.length/\zpH mo seen/\okP l=zkw seen (zhp l i) (l.drop i)/\s.tm 0=psv p l/\s.tm 3=.map 0/\s.tm 4=iv i/\s.df=[]/\s.H=[mo]) (n:=l.length) ?_ ?_)
 .exact⟨0,[],.map0,rfl,zAG9 _,.inl ⟨rfl,rfl⟩,(zxD l).symm,zt,zt,zt,rfl,rfl⟩
 .rintro m ⟨tm,df,H⟩ ⟨i,seen,mo,rfl,hi,hs,hd,h0,h3,h4,rfl,rfl⟩;dsimp only at h0 h3 h4;refine zLh (zr2 h0 h4) ?_ ?_;rotate_left
  .intro hlt;have hlt:¬i<l.length:=zfd hlt;obtain rfl:i=l.length:=zo;refine zO ?_;refine zbo.bool ?_;rw[hd,zBH9];rfl
  intro hlt;have hlt:i<l.length:=ztd hlt;obtain⟨x,hx⟩:=zex (l:=l) hlt;have hxv:(l.map pv)[i]?=some (pv x):=zmg hx;have hdx:l.drop i=x::l.drop (i+1):=zdc hx;rw[hdx,zkw]at hd;have hpk:some x.1=zhp l (i+1):=by unfold zhp;rw[if_neg zo,zGJ9,zAQ9,hx];rfl
  rw[hpk]at hd;refine zBb ?_;refine zB ?_;refine zcF (Q:=fun y s'=>y=.norm/\s'.tm 46=.bool (!ze0 seen (zhp l i) x)/\s'.tm 0=psv p l/\s'.tm 3=.map 0/\s'.tm 4=iv i/\s'.df=[]/\s'.H=[mo]) (zbU ?_) ?_
  .by_cases b0:(decide (1<=x.2)&&decide (x.2<=1099511627776))=true
   rotate_left
   .have b0:(decide (1<=x.2)&&decide (x.2<=1099511627776))=false:=by simpa using b0
    refine zcw (zr6 h0 h3 h4 hxv hlt b0) (zef x.2) ?_;refine zQF (zr6 h0 h3 h4 hxv hlt b0) ?_;exact⟨by simp[ze0,b0],h0,h3,h4⟩
   have b1:1<=x.2:=by simp at b0;exact b0.1
   have b2:x.2<=1099511627776:=by simp at b0;exact b0.2
   by_cases b3:i=0
   .subst b3;rcases hs with⟨rfl,rfl⟩|⟨mm,rfl,hmm⟩
    .skip
     refine zcw (zr6 h0 h3 h4 hxv hlt b0) (zef x.2) ?_;refine zQF (zr6 h0 h3 h4 hxv hlt b0) ?_;exact⟨by simp[ze0,b1,b2,zhp,zf4],h0,h3,h4⟩
    .have hq:=hmm x.2
     by_cases hc:seen.contains x.2=true
     .rw[if_pos hc]at hq;have hc2:x.2∈seen:=by simpa using hc
      refine zcw (zr7 h0 h3 h4 hxv hlt b0 hq) (zef x.2) ?_;refine zQF (zr7 h0 h3 h4 hxv hlt b0 hq) ?_;exact⟨by simp[ze0,b1,b2,zhp,zf4,hc2],h0,h3,h4⟩
     .rw[if_neg hc]at hq;have hc2:¬x.2∈seen:=by simpa using hc
      refine zcw (zr7 h0 h3 h4 hxv hlt b0 hq) (zef x.2) ?_;refine zQF (zr7 h0 h3 h4 hxv hlt b0 hq) ?_;exact⟨by simp[ze0,b1,b2,zhp,zf4,hc2],h0,h3,h4⟩
   have hi0:(0:Int)<(i:Int):=zo;have hi1:IntKind.i64.wrap ((i:Int)-1)=((i-1:Nat):Int):=zwi;have hil:i-1<l.length:=zo;have hpv:(l.map pv)[i-1]?=some (pv (l.getD (i-1) (0,0))):=by rw[zAT9,get_lt l hil];rfl
   have hpk2:zhp l i=some (l.getD (i-1) (0,0)).1:=by unfold zhp;rw[if_neg b3]
   generalize l.getD (i-1) (0,0)=pr at hpv hpk2
   by_cases b4:pr.1<x.1
   .have hkey:¬((x.1:Nat):Int)<=(pr.1:Nat):=zo;rcases hs with⟨rfl,rfl⟩|⟨mm,rfl,hmm⟩
    .skip
     refine zcw (zel h0 h3 h4 hxv hlt b0 hi0 hi1 hil hpv hkey) (zef x.2) ?_;refine zQF (zel h0 h3 h4 hxv hlt b0 hi0 hi1 hil hpv hkey) ?_;exact⟨by simp[ze0,b1,b2,hpk2,zf4,b4],h0,h3,h4⟩
    .have hq:=hmm x.2
     by_cases hc:seen.contains x.2=true
     .rw[if_pos hc]at hq;have hc2:x.2∈seen:=by simpa using hc
      refine zcw (zb0 h0 h3 h4 hxv hlt b0 hi0 hi1 hil hpv hkey hq) (zef x.2) ?_;refine zQF (zb0 h0 h3 h4 hxv hlt b0 hi0 hi1 hil hpv hkey hq) ?_;exact⟨by simp[ze0,b1,b2,hpk2,zf4,b4,hc2],h0,h3,h4⟩
     .rw[if_neg hc]at hq;have hc2:¬x.2∈seen:=by simpa using hc
      refine zcw (zb0 h0 h3 h4 hxv hlt b0 hi0 hi1 hil hpv hkey hq) (zef x.2) ?_;refine zQF (zb0 h0 h3 h4 hxv hlt b0 hi0 hi1 hil hpv hkey hq) ?_;exact⟨by simp[ze0,b1,b2,hpk2,zf4,b4,hc2],h0,h3,h4⟩
   .have hkey:((x.1:Nat):Int)<=(pr.1:Nat):=zo;refine zcw (zel h0 h3 h4 hxv hlt b0 hi0 hi1 hil hpv hkey) (zef x.2) ?_;refine zQF (zel h0 h3 h4 hxv hlt b0 hi0 hi1 hil hpv hkey) ?_;exact⟨by simp[ze0,b1,b2,hpk2,zf4,b4],h0,h3,h4⟩
  clear h0 h3 h4;rintro y ⟨tm,df,H⟩ ⟨rfl,h46,h0,h3,h4,rfl,rfl⟩;dsimp only at *
  by_cases hst:ze0 seen (zhp l i) x=true
  rotate_left
  .have hst:ze0 seen (zhp l i) x=false:=by simpa using hst
   refine zgP h46 ?_ ?_
   .intro _;refine zO ?_;refine zbo.bool ?_
    grind
   .rw[hst];intro h;cases h
  rw[hst,zCA9]at hd;refine zgP h46 ?_ ?_
  .rw[hst];intro h;cases h
  intro _;refine zSk ?_;rcases hs with⟨rfl,rfl⟩|⟨mm,rfl,hmm⟩
  .refine zJF (zr5 h0 h3 h4 hxv hlt) ?_;refine zJF h4 ?_;refine⟨_,?m1,i+1,[x.2],_,rfl,hlt,.inr ⟨_,rfl,fun q=>?_⟩,hd,zu h0,zu h3,zu h4,rfl,rfl⟩
   case m1=>omega
   by_cases hq:q=x.2
   .subst hq;simp
   .have:¬(q:Int)=x.2:=zo;simp[hq,this]
  .refine zJF (zr5 h0 h3 h4 hxv hlt) ?_;refine zJF h4 ?_;refine⟨_,?m2,i+1,x.2::seen,_,rfl,hlt,.inr ⟨_,rfl,fun q=>?_⟩,hd,zu h0,zu h3,zu h4,rfl,rfl⟩
   case m2=>omega
   by_cases hq:q=x.2
   .subst hq;simp
   .have:¬(q:Int)=x.2:=zo;rw[if_neg this,hmm q];simp[hq]


theorem zwN(n:zZ)(h1:n.level<=12)(h2:n.sib<2048)(h3:n.way<=2)(hp:n.pairs.length<=27):FR 75 [zbJ p n] (wv 0 (zdA n)):=by
 refine zfn (eG T75 func75) (Lb.uvs _) ?_;have e0:(7522529147838689024:Int)+(n.level:Int)=((7522529147838689024+n.level:Nat):Int):=zo;have g:∀k,k<64->∃v,((zcT n k).map uv)[k]?=some v:=fun k hk=>⟨_,zAA9 (by rw[zAW9,zlZ];exact hk)⟩
 have s:∀k,(zcT n (k+1)).map uv=((zcT n k).map uv).set k (uv (zxM k n)):=fun k=>by rw[show zcT n (k+1)=(zcT n k).set k (zxM k n)from rfl,zDW9]
 obtain⟨v0,g0⟩:=g 0 zy;obtain⟨v1,g1⟩:=g 1 zy;obtain⟨v2,g2⟩:=g 2 zy;obtain⟨v3,g3⟩:=g 3 zy;obtain⟨v4,g4⟩:=g 4 zy;have s0:((zcT n 0).map uv).set 0 (.int .u64 ((7522529147838689024+n.level:Nat):Int))=(zcT n 1).map uv:=(s 0).symm;have s1:((zcT n 1).map uv).set 1 (.int .u64 (n.sib:Int))=(zcT n 2).map uv:=(s 1).symm;have s2:((zcT n 2).map uv).set 2 (.int .u64 (n.low:Int))=(zcT n 3).map uv:=(s 2).symm;have s3:((zcT n 3).map uv).set 3 (.int .u64 (n.left:Int))=(zcT n 4).map uv:=(s 3).symm;have s4:((zcT n 4).map uv).set 4 (.int .u64 (n.way:Int))=(zcT n 5).map uv:=(s 4).symm;refine zB ?_;refine zI ?_;refine zb8 ?_;refine zB ?_;refine zI ?_;refine zb8 ?_;have h00:List.replicate 64 (PV.int .u64 0)=(zcT n 0).map uv:=by rw[show zcT n 0=List.replicate 64 0 from rfl,zEF9];rfl
 rw[h00];generalize hL0:(zcT n 0).map uv=L0 at *
 generalize hL1:(zcT n 1).map uv=L1 at *
 generalize hL2:(zcT n 2).map uv=L2 at *
 generalize hL3:(zcT n 3).map uv=L3 at *
 generalize hL4:(zcT n 4).map uv=L4 at *
 generalize hL5:(zcT n 5).map uv=L5 at *
 refine zBd ?_;refine zb3 (zr3 e0 g0 s0) ?_;refine zb3 (zr2 g1 s1) ?_;refine zb3 (zr2 g2 s2) ?_;refine zb3 (zr2 g3 s3) ?_;refine zb3 (zr2 g4 s4) ?_;refine zQF e0 ?_;refine zG ?_;subst hL5;refine zay (zbE (fun m s=>∃(j:Nat) (G:LP),m=n.pairs.length-j/\j<=n.pairs.length/\s.tm 1=.ptr 0 0 0 0 6/\s.tm 3=.sl 1 0 0 64 128 1/\s.tm 4=iv j/\s.df=[]/\s.H=.row 143 6 0 0 [zbJ p n]::.row 29 1 0 0 ((zdW n j).map uv)::G) (n:=n.pairs.length) ?_ ?_)
 .exact⟨0,_,rfl,zAG9 _,zt,zt,zt,rfl,rfl⟩
 .rintro m ⟨tm,df,H⟩ ⟨j,G,rfl,hj,t1,t3,t4,rfl,rfl⟩;dsimp only at t1 t3 t4;refine zLh (zr2 t1 t4) ?_ ?_
  .intro hlt;have hlt:j<n.pairs.length:=ztd hlt;have hpj:(n.pairs.map pv)[j]?=some (pv (n.pairs.getD j (0,0))):=by rw[zAT9,get_lt _ hlt];rfl
   obtain⟨o1,ho1⟩:∃old,(zdW n j)[8+2*j]?=some old:=⟨_,zAA9 (by rw[zg5];omega)⟩
   obtain⟨o2,ho2⟩:∃old,((zdW n j).set (8+2*j) (n.pairs.getD j (0,0)).1)[8+2*j+1]?=some old:=⟨_,zAA9 (by rw[zBW9,zg5];omega)⟩
   have w1:IntKind.i64.wrap (2*(j:Int))=((2*j:Nat):Int):=zwi;have w2:IntKind.i64.wrap (8+((2*j:Nat):Int))=((8+2*j:Nat):Int):=zwi;have w3:IntKind.i64.wrap (9+((2*j:Nat):Int))=((8+2*j+1:Nat):Int):=zwi;have c1:8+2*j<64:=zo;have c2:8+2*j+1<64:=zo;have z1:((zdW n j).map uv)[8+2*j]?=some (uv o1):=zmg ho1;have z2:(((zdW n j).set (8+2*j) (n.pairs.getD j (0,0)).1).map uv)[8+2*j+1]?=some (uv o2):=zmg ho2;have y1:((zdW n j).map uv).set (8+2*j) (.int .u64 ((n.pairs.getD j (0,0)).1:Int))=((zdW n j).set (8+2*j) (n.pairs.getD j (0,0)).1).map uv:=zDW9.symm;have y2:(((zdW n j).set (8+2*j) (n.pairs.getD j (0,0)).1).map uv).set (8+2*j+1) (.int .u64 ((n.pairs.getD j (0,0)).2:Int))=(zdW n (j+1)).map uv:=zDW9.symm;generalize n.pairs.getD j (0,0)=q at *
   generalize (zdW n j).map uv=K0 at *
   generalize ((zdW n j).set (8+2*j) q.1).map uv=K1 at *
   refine zBb ?_;refine zBd ?_;refine zb3 (zfM t1 t3 t4 hpj w1 w2 w3 c1 z1 y1) ?_;refine zb3 (zr3 c2 z2 y2) ?_;refine zdl ?_ (by simp(disch:=omega)only[go_sem]<;>rfl);refine zb9 ?_;simp only[go_sem];refine zB ?_;refine zd6 t4 ?_;refine zdg ?_;refine⟨_,?m2,j+1,G,rfl,hlt,by simp[upd,t1],by simp[upd,t3],by simp[upd],rfl,rfl⟩;omega
  .intro hlt;have hlt:¬j<n.pairs.length:=zfd hlt;obtain rfl:j=n.pairs.length:=zo;(repeat(first|refine zbG ?_|refine zbO t3 ?_));refine zbK (zfr ?_);refine Frz.wh (l:=(zdW n n.pairs.length).map uv) rfl rfl (by simp[zg5]) (by simp[zg5]) (fun v hv=>?_) zqz;obtain⟨x,_,rfl⟩:=zAJ9.1 hv;rfl
theorem Frz.wM{H:LP}{lab id e z z' G M o n q:Nat}{l:LQ}(hH:H[id]?=some (.row e z' G M l))(hM:M<=G)(ho:o=0)(hl:n=l.length)(hq:2*l.length<=q)(hz:∀v∈l,v.cells.length=z)(hs:∀v∈l.flatMap PV.cells,Id0 v) :
  Frz H lab (.sl id G o n q z) (.list lab z l):=by
 subst ho hl;refine .sl hH hM (zAC9 _) zo hq rfl hz (by simp) fun i x y hx hy=>?_;have:x=y:=by grind
 subst this;exact(hs _ (zAE9 hy)).frz


@[reducible] def zc4 (n:zZ) (pvl:PV):PV:=.agg [iv n.level,iv n.sib,uv n.low,uv n.left,iv n.way,pvl]
def zhW(H:LP)(pvl:PV)(ps:LK):Prop:=(pvl=.nilsl/\ps=[])\/∃id g,pvl=.sl id g 0 ps.length (2*ps.length) 2/\H[id]?=some (.row 92 2 g 0 (ps.map pv))
def zfi:PV->LA
 | .sl id _ _ _ _ _=>some id
 | _=>none
structure Lvl(H:LP)(vs:LQ)(ps:LQ)(nodes:LB):Prop where
 lenV:vs.length=nodes.length
 lenP:ps.length=nodes.length
 val:∀(q:Nat) (n:zZ) (p:PV),nodes[q]?=some n->ps[q]?=some p->vs[q]?=some (zc4 n p)/\zhW H p n.pairs
 dist:∀(q r:Nat) (x y:PV) (a:Nat),ps[q]?=some x->ps[r]?=some y->zfi x=some a->zfi y=some a->q=r
def isP:zc->Prop
 | .row e _ _ _ _=>e=92
 | _=>False
variable {H':LP}{p:PV}{ps:LQ}(lv k:Nat)(ks:LK)(m i c j:Nat)
theorem zhW.keep{ps:LK}(h:zhW H p ps)(k:∀(id:Nat) (o:zc),zfi p=some id->isP o->H[id]?=some o->H'[id]?=some o):zhW H' p ps:=by
 rcases h with h|⟨id,g,rfl,h2⟩
 .exact .inl h
 .exact .inr ⟨id,g,rfl,k id _ rfl rfl h2⟩
theorem Lvl.keep{nodes:LB}(h:Lvl H vs ps nodes)(k:∀(id:Nat) (o:zc),isP o->H[id]?=some o->H'[id]?=some o):Lvl H' vs ps nodes :=
 ⟨h.lenV,h.lenP,fun q n p hn hp=>⟨(h.val q n p hn hp).1,(h.val q n p hn hp).2.keep fun id o _ ho hi=>k id o ho hi⟩,h.dist⟩
theorem Lvl.nil(H:LP):Lvl H [] [] []:=⟨rfl,rfl,fun q n p h=>by simp at h,fun q r x y a h=>by simp at h⟩
theorem Lvl.snoc{nodes:LB}(h:Lvl H vs ps nodes)(n:zZ)(hn:n.pairs=[]):Lvl H (vs++[zc4 n .nilsl]) (ps++[.nilsl]) (nodes++[n]):=by
 refine⟨by simp[h.lenV],by simp[h.lenP],fun q m p hm hp=>?_,fun q r x y a hx hy ha hb=>?_⟩
 .rcases zCY9 q nodes.length with hq|hq
  .rw[zBD9 hq]at hm;rw[zBD9 (by rw[h.lenP];exact hq)]at hp;rw[zBD9 (by rw[h.lenV];exact hq)];exact h.val q m p hm hp
  .rw[zBC9 hq]at hm;rw[zBC9 (by rw[h.lenP];exact hq)]at hp;rw[zBC9 (by rw[h.lenV];exact hq)];rw[h.lenP]at hp;rw[h.lenV];obtain rfl:=zBI9.1 (zAE9 hm);obtain rfl:=zBI9.1 (zAE9 hp);have h0:q-nodes.length=0:=by have:=(zAB9.1 hm).1;simp at this;omega
   rw[h0];exact⟨rfl,.inl ⟨rfl,hn⟩⟩
 .have hl:∀(s:Nat) (z:PV),(ps++[PV.nilsl])[s]?=some z->zfi z=some a->ps[s]?=some z:=fun s z hz he=>by
   rcases zCY9 s ps.length with hs|hs
   .grind
   .rw[zBC9 hs]at hz;obtain rfl:=zBI9.1 (zAE9 hz);simp[zfi]at he
  exact h.dist q r x y a (hl q x hx ha) (hl r y hy hb) ha hb
theorem Lvl.last{vf pf:LQ}{front:LB}{v p':PV}{nd nd':zZ}(h:Lvl H (vf++[v]) (pf++[p]) (front++[nd]))(hlv:vf.length=front.length)(hlp:pf.length=front.length)(hp':zhW H' p' nd'.pairs)(hd:∀a,zfi p'=some a->zfi p=some a\/H.length<=a)(k:∀(id:Nat) (o:zc),isP o->H[id]?=some o->H'[id]?=some o\/zfi p=some id):Lvl H' (vf++[zc4 nd' p']) (pf++[p']) (front++[nd']):=by
 have hlast:(pf++[p])[front.length]?=some p:=by rw[<- hlp];simp
 have hpq:∀(q:Nat) (x:PV),q<front.length->pf[q]?=some x->(pf++[p])[q]?=some x:=fun q x hq hx=>by grind
 have hbound:∀(q:Nat) (x:PV) (a:Nat),q<front.length->pf[q]?=some x->zfi x=some a->a<H.length:=fun q x a hq hx ha=>by
  obtain⟨n,hn⟩:=zex (l:=front) hq;have:=(h.val q n x (by grind) (hpq q x hq hx)).2;rcases this with⟨rfl,_⟩|⟨id,g,rfl,h2⟩
  .simp[zfi]at ha
  .simp[zfi]at ha;grind
 refine⟨by grind,by grind,fun q m x hm hx=>?_,fun q r x y a hx hy ha hb=>?_⟩
 .rcases zCY9 q front.length with hq|hq
  .rw[zBD9 hq]at hm;rw[zBD9 zo]at hx;rw[zBD9 zo];have hv:=h.val q m x (by grind) (hpq q x hq hx);rw[zBD9 zo]at hv;refine⟨hv.1,hv.2.keep fun id o he ho hi=>?_⟩;rcases k id o ho hi with h1|h1
   .exact h1
   .exact absurd (h.dist q front.length x p id (hpq q x hq hx) hlast he h1) zo
  .rw[zBC9 hq]at hm;rw[zBC9 zo]at hx;rw[zBC9 zo]
   grind
 .have hcase:∀(s:Nat) (z:PV),(pf++[p'])[s]?=some z->(s<front.length/\pf[s]?=some z)\/(s=front.length/\z=p'):=fun s z hz=>by
   rcases zCY9 s front.length with hs|hs
   .grind
   .rw[zBC9 zo]at hz;have h0:s-pf.length=0:=by have:=(zAB9.1 hz).1;simp at this;omega
    grind
  have key:∀(s:Nat) (z:PV),s<front.length->pf[s]?=some z->zfi z=some a->zfi p'=some a->False:=fun s z hs hz he hp=>by
   rcases hd a hp with h1|h1
   .exact absurd (h.dist s front.length z p a (hpq s z hs hz) hlast he h1) zo
   grind
  rcases hcase q x hx with⟨h1,h2⟩|⟨h1,h2⟩
  .rcases hcase r y hy with⟨h3,h4⟩|⟨h3,h4⟩
   .exact h.dist q r x y a (hpq q x h1 h2) (hpq r y h3 h4) ha hb
   grind
  grind
theorem zlO(h:j<m)(hm:m<=ks.length):(ks.take m).getD j (0,0)=ks.getD j (0,0):=by grind
theorem zpi(h:k*j+k<=m):((ks.take m).drop (k*j)).take k=(ks.drop (k*j)).take k:=by
 rw[zDH9,zEM9,zDJ9 zo]
theorem zoL(h:m<=k*j+k):((ks.take m).drop (k*j)).take k=(ks.drop (k*j)).take (m-k*j):=by
 rw[zDH9,zEM9,Nat.min_eq_right zo]
def zdU(n:zZ)(l:LK):zZ:={ n with pairs:=l }
def zpa(lv i:Nat)(x:Pr)(L:LB):LB:=if i%19=0 then L++[⟨lv,0,x.1,x.2,0,[]⟩]else
 match L.getLast? with
 | some n=>L.dropLast++[zdU n (n.pairs++[x])]
 | none=>L
theorem zq7(hm:m<=ks.length)(hc:19*c<=m):(List.range c).map (zeB lv (ks.take m))=(List.range c).map (zeB lv ks):=by
 refine zDO9 fun j hj=>?_;have hj:j<c:=zCT9.1 hj;unfold zeB;rw[zlO ks m _ zo hm,zpi 19 ks m j zo]
theorem zzk(hm:m<=ks.length)(h1:19*c<m)(h2:m<=19*c+19):zeB lv (ks.take m) c=⟨lv,0,(ks.getD (19*c) (0,0)).1,(ks.getD (19*c) (0,0)).2,0,((ks.drop (19*c)).take (m-19*c)).drop 1⟩:=by
 unfold zeB;rw[zlO ks m _ h1 hm,zoL 19 ks m c h2]
theorem zkn(hm:m<=ks.length)(h1:19*c<m)(h2:m<=19*c+19):zdr lv (ks.take m)=(List.range c).map (zeB lv ks)++[⟨lv,0,(ks.getD (19*c) (0,0)).1,(ks.getD (19*c) (0,0)).2,0,((ks.drop (19*c)).take (m-19*c)).drop 1⟩]:=by
 unfold zdr;have:(zkp 19 (ks.take m)).length=c+1:=by rw[zhn,zAU9,zDJ9 hm];omega
 rw[this,zDK9,zBA9,zq7 lv ks m c hm zo];simp only[zBX9,zDA9];rw[zzk lv ks m c hm h1 h2]
theorem zxc(hi:i<ks.length):zdr lv (ks.take (i+1))=zpa lv i (ks.getD i (0,0)) (zdr lv (ks.take i)):=by
 unfold zpa
 by_cases h:i%19=0
 .rw[if_pos h];obtain⟨c,rfl⟩:∃c,i=19*c:=⟨i/19,by omega⟩
  rw[zkn lv ks (19*c+1) c zo zo zo];have e:zdr lv (ks.take (19*c))=(List.range c).map (zeB lv ks):=by
   unfold zdr;have:(zkp 19 (ks.take (19*c))).length=c:=by rw[zhn,zAU9,zDJ9 zo];omega
   rw[this,zq7 lv ks (19*c) c zo zo]
  simp_all
 .rw[if_neg h];have hc1:19*(i/19)<i:=zo;rw[zkn lv ks i (i/19) zo hc1 zo,zkn lv ks (i+1) (i/19) zo zo zo];simp only[zEJ9,zDU9,zdU]
  congr 3
  have e:i+1-19*(i/19)=(i-19*(i/19))+1:=zo;rw[e,zAZ9,zDY9 (by grind)]
  grind
def zhe(i:Nat)(x:Pr)(L:LB):LB:=if 0<i/\i%18=0 then L++[⟨0,0,x.1,9223372036854775808,0,[]⟩]else L
def zsn(x:Pr)(L:LB):LB:=match L.getLast? with
 | some n=>L.dropLast++[zdU n (n.pairs++[x])]
 | none=>L
theorem zA7(hm:m<=ks.length)(hc:18*c<=m):(List.range c).map (zeC (ks.take m))=(List.range c).map (zeC ks):=by
 refine zDO9 fun j hj=>?_;have hj:j<c:=zCT9.1 hj;unfold zeC;rw[zlO ks m _ zo hm,zpi 18 ks m j zo]
theorem ziL(hm:m<=ks.length)(h1:18*c<m\/(m=0/\c=0))(h2:m<=18*c+18):zcQ (ks.take m)=(List.range c).map (zeC ks)++[⟨0,0,if 0<c then(ks.getD (18*c) (0,0)).1 else 0,9223372036854775808,0,(ks.drop (18*c)).take (m-18*c)⟩]:=by
 rw[ziP,zAU9,zDJ9 hm];have:max 1 ((m+17)/18)=c+1:=zo;rw[this,zDK9,zBA9,zA7 ks m c hm zo];simp only[zBX9,zDA9]
 congr 2
 unfold zeC;rw[zoL 18 ks m c h2]
 grind
theorem zyd(hi:i<ks.length):zcQ (ks.take (i+1))=zsn (ks.getD i (0,0)) (zhe i (ks.getD i (0,0)) (zcQ (ks.take i))):=by
 unfold zhe
 by_cases h:0<i/\i%18=0
 .rw[if_pos h];obtain⟨c,rfl⟩:∃c,i=18*(c+1):=⟨i/18-1,by omega⟩
  rw[ziL ks (18*(c+1)+1) (c+1) zo zo zo,ziL ks (18*(c+1)) c zo zo zo];unfold zsn;simp only[zEJ9,zDU9,zdU];rw[zDK9,zBA9];simp only[zBX9,zDA9,zAV9]
  congr 2
  .congr 2
   unfold zeC
   grind
  .rw[if_pos (zCK9 _)]
   congr 1
   rw[show 18*(c+1)+1-18*(c+1)=1 by omega];rw[zAK9 hi,zFX9,List.take_zero,zAQ9,zAA9 hi];rfl
 .rw[if_neg h];have hc1:18*(i/18)<i\/(i=0/\i/18=0):=zo;rw[ziL ks i (i/18) zo hc1 zo,ziL ks (i+1) (i/18) zo zo zo];unfold zsn;simp only[zEJ9,zDU9,zdU]
  congr 3
  have e:i+1-18*(i/18)=(i-18*(i/18))+1:=zo;rw[e,zAZ9]
  grind
end Fv
end Go.Proofs.YtkeknmgnoceogaaGreat
