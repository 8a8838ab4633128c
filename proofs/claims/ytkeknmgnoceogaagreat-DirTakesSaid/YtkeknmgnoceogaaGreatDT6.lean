/- part 6 of the proof of dir_takes. -/
import Derived.Test.YtkeknmgnoceogaaGreatDT5
import Derived.KernelRfl
set_option linter.unusedSimpArgs false
set_option linter.unusedVariables false
set_option linter.defProp false
set_option maxRecDepth 100000
namespace Go.Proofs.YtkeknmgnoceogaaGreat
open Tryz
namespace Fv
open Tw
variable {F:zd}{f:Func}{n:Nat}{t:AJ}
def zyi:LN:=[11,200,185,244,352,194,336,172]
noncomputable def zgU:LN->AJ->AJ
 | [],t=>t
 | n::l,t=>(zgU l t).set n none
theorem zoT:∀{l:LN},l.contains n=false->(zgU l t).get n=t.get n
 | [],_=>rfl
 | m::l,h=>by
  rw[List.contains_cons,Bool.or_eq_false_iff]at h;show ((zgU l t).set m none).get n=_;rw[Tr.get_set,if_neg (by simpa using h.1)];exact zoT h.2
theorem znL:∀{l:LN},(zgU l t).get n=some F->t.get n=some F
 | [],h=>h
 | m::l,h=>by
  have h:((zgU l t).set m none).get n=some F:=h;rw[Tr.get_set]at h
  split at h
  .cases h
  .exact znL h
theorem znP:∀{l:LN},l.contains n=true->(zgU l t).get n=none
 | m::l,h=>by
  show ((zgU l t).set m none).get n=_;rw[Tr.get_set]
  split
  .rfl
  .rename_i hn;rw[List.contains_cons]at h;have hm:(n==m)=false:=by simpa using hn
   rw[hm,zFV9]at h;exact znP h
noncomputable def zGa (f:Nat):Option (LK->TH->Option (TE×TH)):=bif Nat.beq f 11 then some zp6 else bif Nat.beq f 172 then some (zkr 3)else zk6 f
noncomputable def ET:Env:=⟨zgU zyi zhm,zGa,zmY,zv3,0⟩
abbrev FR(f:Nat)(a:List PV)(v:PV):Prop:=FN ET f a (.ret v)
theorem zh(h:prog.funcs[n]?=some f)(hF:fnO prog f=some F:=by kernel_rfl)(hn:zyi.contains n=false:=by decide):ET.funcs.get n=some F:=by
 show (zgU zyi zhm).get n=some F;rw[zoT hn];exact zGS h hF
theorem eG(F:zd)(h:prog.funcs[n]?=some f)(hF:fnO prog f=some F:=by kernel_rfl)(hn:zyi.contains n=false:=by decide):ET.funcs.get n=some F:=zh h hF hn
theorem zjD(hn:zyi.contains n=true:=by decide):ET.funcs.get n=none:=znP hn
theorem zHh:ET.funcs.get 172=none:=zjD
theorem zHj:ET.spec 172=some (zkr 3):=rfl
abbrev Pr:=Nat×Nat
abbrev LJ:=List Pr
variable {z:Nat}(l:LN)
def zcI(left n:Nat):Bool:=decide (left≠0)&&decide (n%2=0)&&decide (2<=n/2)&&decide (n/2<=28)
def zb3:LN->Nat
 | _::p::l=>if p=0 then 0 else zb3 l+1
 | _=>0
def zbO:Nat->LN->LJ
 | prev,k::p::l=>if p=0 then[]else if p=prev then zbO p l else(k,p)::zbO p l
 | _,_=>[]
def zcq(left:Nat)(l:LN):LJ:=if zcI left l.length=true then zbO left l else[]
def zbV:LJ->Bool
 | a::b::l=>decide (a.1<b.1)&&zbV (b::l)
 | _=>true
def zdO:LN->LJ->Bool
 | seen,p::l=>!seen.contains p.2&&zdO (p.2::seen) l
 | _,[]=>true
def zgS:LN->Bool
 | _::p::l=>decide (p=0)&&zgS l
 | _=>true
def zde(left:Nat)(l:LN):Bool :=
 zbV (zcq left l)&&zdO [left] (zcq left l)&&decide ((zcq left l).length=zb3 l)&&decide ((zcq left l).length<l.length/2)&&zgS (l.drop (2*(zcq left l).length))
def zcg(left:Nat)(l:LN):Nat:=if zcI left l.length=true then if zde left l=true then 0 else 190 else 2
def zc1(left:Nat)(l:LN)(j:Nat):Nat:=if j=0 then left else l.getD (2*(j-1)+1) 0
theorem zpV(j:Nat)(h:2*j+1<l.length):l.drop (2*j)=l[2*j]::l[2*j+1]::l.drop (2*(j+1)):=by
 rw[zAM9 (i:=2*j) zo,zAM9 (i:=2*j+1) h];rfl
theorem zrY:∀l:LN,2*zb3 l<=l.length
 | []=>by simp[zb3]
 | [_]=>by simp[zb3]
 | _::p::l=>by
  have:=zrY l;rw[zb3]
  grind
theorem zq4{l:LN}(h:l.length<2):zb3 l=0:=by
 match l,h with
 | [],_=>rfl
 | [_],_=>rfl
@[reducible] def wv (p:Nat) (l:LN):PV:=.list p 1 (l.map uv)
@[reducible] def pv (x:Pr):PV:=.agg [uv x.1,uv x.2]
@[reducible] def psv (p:Nat) (l:LJ):PV:=.list p 2 (l.map pv)
theorem Lb.uvs:Lb (.list 0 z (l.map uv)):=.list fun x hx=>by
 obtain⟨y,hy,hx⟩:=zAU9.1 hx;obtain⟨n,_,rfl⟩:=zAH9.1 hy;simp[PV.cells]at hx;subst hx;exact .int _ _
theorem Lb.ivs(l:LG):Lb (.list 0 z (l.map iv)):=.list fun x hx=>by
 obtain⟨y,hy,hx⟩:=zAU9.1 hx;obtain⟨n,_,rfl⟩:=zAH9.1 hy;simp[PV.cells]at hx;subst hx;exact .int _ _
theorem Lb.pvs(l:LJ):Lb (.list 0 z (l.map pv)):=.list fun x hx=>by
 obtain⟨y,hy,hx⟩:=zAU9.1 hx;obtain⟨n,_,rfl⟩:=zAH9.1 hy;simp[PV.cells]at hx;rcases hx with rfl|rfl<;>exact .int _ _
structure zq where
 level:Nat
 sib:Nat
 low:Nat
 left:Nat
 way:Nat
 pairs:LJ
deriving DecidableEq
abbrev LB:=List zq
def zd6(p:Nat):Bool:=decide (1<=p)&&decide (p<2048)
def zdV:Nat->Nat->Nat->Bool
 | 0,_,w=>decide (7522529147838689024<=w)&&decide (w<=7522529147838689024+12)
 | 1,_,w=>decide (w<2048)
 | 2,_,_=>true
 | 3,lv,w=>(decide (lv=0)&&decide (w=9223372036854775808))||(decide (0<lv)&&zd6 w)
 | _,_,w=>decide (w<=2)
@[irreducible] def zhp (x:Nat):Nat:=x - 7522529147838689024
theorem zn5(x:Nat):zhp x=x-7522529147838689024:=by unfold zhp;rfl
def headB(l:LN):Bool:=decide (l.length=64)&&((l.take 8).drop 5).all (fun x=>decide (x=0))&&(List.range 5).all fun i=>zdV i (zhp (l.getD 0 0)) (l.getD i 0)
def headN(l:LN):zq:=⟨zhp (l.getD 0 0),l.getD 1 0,l.getD 2 0,l.getD 3 0,l.getD 4 0,zcq (l.getD 3 0) (l.drop 8)⟩
def zfq:zq:=⟨0,0,0,0,0,[]⟩
def zop:Nat->zq->Nat
 | 0,n=>7522529147838689024+n.level
 | 1,n=>n.sib
 | 2,n=>n.low
 | 3,n=>n.left
 | _,n=>n.way
def zdu(n:zq)(p:Pr):Bool:=if n.level=0 then decide (1<=p.2)&&decide (p.2<=1099511627776)&&decide (n.low<=p.1)else zd6 p.2&&decide (n.low<p.1)
def zfO(l:LN):Bool:=decide (zcg (headN l).left (l.drop 8)=0) && !((headN l).pairs.any fun q=>!zdu (headN l) q)
def zbZ(l:LN):Nat:=if headB l=true then if zfO l=true then 0 else 190 else 210
def zpR(n:zq):LN:=[7522529147838689024+n.level,n.sib,n.low,n.left,n.way,0,0,0]
def zch(l:LJ):LN:=l.flatMap fun x=>[x.1,x.2]
@[reducible] def zbr (p:Nat) (n:zq):PV:=.agg [iv n.level,iv n.sib,uv n.low,uv n.left,iv n.way,psv p n.pairs]
def zGB:Nat->Nat
 | 0=>261|1=>264|2=>267|3=>270|_=>273
def zGZ:Nat->Nat
 | 0=>262|1=>265|2=>268|3=>271|_=>274
def zGl:Nat->Nat
 | 0=>263|1=>266|2=>269|3=>272|_=>275
@[reducible] def zEA (i:Nat):PV:=.agg [.fn (zGB i) [],.fn (zGZ i) [],.fn (zGl i) []]
def ziY:LQ:=(List.range 5).map zEA
def zcc:LN->Nat
 | []=>0
 | x::l=>x+256*zcc l
def zdQ(b:LN):LN:=(List.range ((b.length+7)/8)).map fun i=>zcc ((b.drop (8*i)).take 8)
def zdG(w:Nat):LN:=(List.range 8).map fun k=>w/2 ^ (8*k)%256
def zcK(l:LN):LN:=l.flatMap zdG
def zbT(b:LN):Prop:=∀x∈b,x<256
variable {b:LN}{x y:Nat}(l:LN)(n w:Nat)
theorem zlD:∀{b:LN},zbT b->zcc b<256 ^ b.length
 | [],_=>by simp[zcc]
 | x::l,h=>by
  have h1:=h x (by simp);have h2:=zlD (b:=l) fun y hy=>h y (zAQ9 _ hy);rw[zcc,zAG9,Nat.pow_succ];omega
theorem zlx:∀(b:LN) (x:Nat),zcc (b++[x])=zcc b+256 ^ b.length*x
 | [],x=>by simp[zcc]
 | y::l,x=>by
  rw[zAS9,zcc,zlx l x,zcc,zAG9,Nat.pow_succ,zHC9,<- Nat.mul_assoc,zFN9 256 (256 ^ l.length)];omega
theorem zAM:256 ^ n=2 ^ (8*n):=by rw[Nat.pow_mul]
theorem zDd(hb:zbT b)(x:Nat):Nat.lor (zcc b) (x*2 ^ (8*b.length))=zcc (b++[x]):=by
 have h:=zlD hb;rw[zAM]at h;rw[zlx,zAM];have:=Nat.two_pow_add_eq_or_of_lt h x;show zcc b ||| x*2 ^ (8*b.length)=_;rw[Nat.or_comm,zFN9 x,<- this];omega
theorem zgZ(hb:zbT b)(hl:b.length<=8):zcc b<18446744073709551616:=by
 have h:=zlD hb;have h2:256 ^ b.length<=256 ^ 8:=zDK9 zo hl;omega
theorem zbT.sub{c:LN}(h:zbT b)(hs:∀x∈c,x∈b):zbT c:=fun x hx=>h x (hs x hx)
theorem zbT.take(h:zbT b)(n:Nat):zbT (b.take n):=h.sub fun _=>zBP9
theorem zbT.drop(h:zbT b)(n:Nat):zbT (b.drop n):=h.sub fun _=>zBX9
theorem zee(b:LN):(zdQ b).length=(b.length+7)/8:=by simp[zdQ]
theorem zl9{i:Nat}(h:8*i<b.length):(zdQ b)[i]?=some (zcc ((b.drop (8*i)).take 8)):=by
 have:i<(b.length+7)/8:=zo;simp[zdQ,this]
theorem zC9(h:b.length%8=0):zdQ (b++[x])=zdQ b++[x]:=by
 obtain⟨n,hn⟩:∃n,b.length=8*n:=⟨b.length/8,by omega⟩
 unfold zdQ;rw[zAB9,zFO9,hn,show (8*n+1+7)/8=n+1 by omega,show (8*n+7)/8=n by omega,zCJ9,zBE9]
 congr 1
 .refine zEB9 fun i hi=>?_;rw[zCL9]at hi;rw[zEO9 zo,zDY9 (by rw[zBJ9];omega)]
 .simp[<- hn,zcc]
theorem zB2(hb:zbT b)(h:¬b.length%8=0):zdQ (b++[x])=(zdQ b).set (b.length/8) (Nat.lor ((zdQ b).getD (b.length/8) 0) (x*2 ^ (8*(b.length%8)))):=by
 have hq:(b.length+1+7)/8=(b.length+7)/8:=zo;have hi:8*(b.length/8)<b.length:=zo;have hg:(zdQ b).getD (b.length/8) 0=zcc (b.drop (8*(b.length/8))):=by
  rw[zAK9,zl9 hi,Option.getD_some,zBR9 (by rw[zBJ9];omega)]
 have hl:(b.drop (8*(b.length/8))).length=b.length%8:=by rw[zBJ9];omega
 rw[hg,<- hl,zDd (hb.drop _)];refine zDU9 fun i=>?_;rw[zFL9,zee]
 by_cases hin:i<(b.length+7)/8
 .have h8:8*i<(b++[x]).length:=by rw[zAB9,zFO9];omega
  rw[zl9 h8]
  by_cases e:b.length/8=i
  .subst e;rw[if_pos rfl,if_pos hin,zEO9 zo,zBR9 (by rw[zAB9,zBJ9,zFO9];omega)]
  .rw[if_neg e,zl9 zo,zEO9 zo,zDY9 (by rw[zBJ9];omega)]
 .rw[zBL9 (by rw[zee,zAB9,zFO9];omega)];rw[if_neg zo,zBL9 (by rw[zee];omega)]
theorem zmj(hb:zbT b):∀w∈zdQ b,w<18446744073709551616:=fun w hw=>by
 unfold zdQ at hw;rw[zAH9]at hw;obtain⟨i,_,rfl⟩:=hw;exact zgZ ((hb.drop _).take _) (by rw[zAT9];omega)
theorem zH1:zbT (zdG w):=fun x hx=>by
 unfold zdG at hx;rw[zAH9]at hx;obtain⟨i,_,rfl⟩:=hx;omega
theorem zkB:zbT (zcK l):=fun x hx=>by
 obtain⟨w,_,h⟩:=zAU9.1 hx;exact zH1 w x h
theorem zf0:(zcK l).length=8*l.length:=by
 unfold zcK;rw[List.length_flatMap];simp[zdG,List.map_const',List.sum_replicate_nat];omega
theorem zoY:zcK (l++[w])=zcK l++zdG w:=by unfold zcK;rw[zCI9];simp
def bl(b:LN):LQ:=b.map fun n:Nat=>.int .u8 n
theorem zcV(b:LN):(bl b).length=b.length:=zAP9 ..
theorem zqZ(b:LN)(i:Nat):(bl b)[i]?=b[i]?.map fun n:Nat=>PV.int .u8 n:=zAF9 ..
def zb1(s:LN):Nat:=if s=[]\/s=[46]\/s=[46,46]\/0∈s\/47∈s then 140 else if 120<s.length then 141 else 0
def zl5(r x:Nat):Nat:=Tw.zvO (Nat.xor r x)
def zgV(w n:Nat):Nat:=Nat.lor (w*2 ^ n%18446744073709551616) (w/2 ^ (64-n))
structure Sip where
 a:Nat
 b:Nat
 c:Nat
 d:Nat
def zd4(x y:Nat):Nat:=(x+y)%18446744073709551616
def Sip.h1(v:Sip):Sip:=⟨zgV (zd4 v.a v.b) 32,Nat.xor (zgV v.b 13) (zd4 v.a v.b),v.c,v.d⟩
def Sip.h2(v:Sip):Sip:=⟨v.a,v.b,zd4 v.c v.d,Nat.xor (zgV v.d 16) (zd4 v.c v.d)⟩
def Sip.h3(v:Sip):Sip:=⟨zd4 v.a v.d,v.b,v.c,Nat.xor (zgV v.d 21) (zd4 v.a v.d)⟩
def Sip.h4(v:Sip):Sip:=⟨v.a,Nat.xor (zgV v.b 17) (zd4 v.c v.b),zgV (zd4 v.c v.b) 32,v.d⟩
def Sip.rnd(v:Sip):Sip:=v.h1.h2.h3.h4
def Sip.rnds(v:Sip):Nat->Sip
 | 0=>v
 | n+1=>(v.rnd).rnds n
def Sip.low(v:Sip)(m:Nat):Sip:=⟨Nat.xor v.a m,v.b,v.c,v.d⟩
def Sip.into(v:Sip)(m:Nat):Sip:=(Sip.rnds ⟨v.a,v.b,v.c,Nat.xor v.d m⟩ 2).low m
def Sip.new(k0 k1:Nat):Sip:=⟨Nat.xor k0 8317987319222330741,Nat.xor k1 7237128888997146477,Nat.xor k0 7816392313619706465,Nat.xor k1 8387220255154660723⟩
def Sip.words(v:Sip)(l:LN):Sip:=l.foldl Sip.into v
def Sip.fin(v:Sip):Nat :=
 let v:=Sip.rnds ⟨v.a,v.b,Nat.xor v.c 255,v.d⟩ 4
 Nat.xor (Nat.xor (Nat.xor v.a v.b) v.c) v.d
def zdW(b:LN):LN:=zdQ (b.take (8*(b.length/8)))
def zkd(b:LN):Nat:=zcc (b.drop (8*(b.length/8)))+b.length%256*2 ^ 56
def zgX(k0 k1:Nat)(b:LN):Nat:=(((Sip.new k0 k1).words (zdW b)).into (zkd b)).fin
structure Sip.ok(v:Sip):Prop where
 a:v.a<18446744073709551616
 b:v.b<18446744073709551616
 c:v.c<18446744073709551616
 d:v.d<18446744073709551616
theorem zcn(hx:x<18446744073709551616)(hy:y<18446744073709551616):Nat.xor x y<18446744073709551616:=zET9 (n:=64) hx hy
theorem zHu(hx:x<18446744073709551616)(hy:y<18446744073709551616):Nat.lor x y<18446744073709551616:=Nat.or_lt_two_pow (n:=64) hx hy
theorem zdg(x y:Nat):zd4 x y<18446744073709551616:=by unfold zd4;omega
theorem zhC(hx:x<18446744073709551616):zgV x n<18446744073709551616:=zHu zo (zHJ9 (zGA9 _ _) hx)
section
variable {v:Sip}
variable {m:Nat}
theorem Sip.h1_ok(h:v.ok):v.h1.ok:=by
 unfold Sip.h1;exact⟨zhC 32 (zdg _ _),zcn (zhC 13 h.b) (zdg _ _),h.c,h.d⟩
theorem Sip.h2_ok(h:v.ok):v.h2.ok:=by
 unfold Sip.h2;exact⟨h.a,h.b,zdg _ _,zcn (zhC 16 h.d) (zdg _ _)⟩
theorem Sip.h3_ok(h:v.ok):v.h3.ok:=by
 unfold Sip.h3;exact⟨zdg _ _,h.b,h.c,zcn (zhC 21 h.d) (zdg _ _)⟩
theorem Sip.h4_ok(h:v.ok):v.h4.ok:=by
 unfold Sip.h4;exact⟨h.a,zcn (zhC 17 h.b) (zdg _ _),zhC 32 (zdg _ _),h.d⟩
theorem Sip.rnd_ok(h:v.ok):v.rnd.ok:=by
 unfold Sip.rnd;exact Sip.h4_ok (Sip.h3_ok (Sip.h2_ok (Sip.h1_ok h)))
theorem Sip.rnds_ok:∀{n:Nat} {v:Sip},v.ok->(v.rnds n).ok
 | 0,_,h=>h
 | n+1,_,h=>Sip.rnds_ok (n:=n) (Sip.rnd_ok h)
theorem Sip.low_ok(h:v.ok)(hm:m<18446744073709551616):(v.low m).ok:=by
 unfold Sip.low;exact⟨zcn h.a hm,h.b,h.c,h.d⟩
theorem Sip.into_ok(h:v.ok)(hm:m<18446744073709551616):(v.into m).ok:=by
 have h2:Sip.ok ⟨v.a,v.b,v.c,Nat.xor v.d m⟩:=⟨h.a,h.b,h.c,zcn h.d hm⟩
 unfold Sip.into;exact Sip.low_ok (Sip.rnds_ok h2) hm
end
@[reducible] def zbx (x:Pr):PV:=.agg [iv x.1,uv x.2]
attribute [go_sem] daF dnF xT zby zaD zaS T3 T4 T6 T10 T11 T12 T13 T14 T15 T16 T17 T18 T19 T20 T22 T23 T24 T25 T26 T27 T32 T33 T34 T35 T36 T37 T39 T40 T41 T42 T43 T44 T45 T46 T47 T48 T49 T50 T51 T52 T53 T54 T55 T58 T59 T60 T61 T62 T63 T68 T69 T70 T71 T72 T73 T74 T75 T76 T77 T78 T79 T80 T81 T82 T83 T84 T85 T86 T87 T88 T89 T90 T92 T93 T94 T95 T96 T97 T98 T99 T100 T101 T103 T105 T106 T107 T108 T109 T110 T111 T112 T113 T114 T115 T116 T120 T121 T122 T123 T124 T125 T126 T127 T128 T129 T130 T131 T132 T133 T134 T135 T136 T137 T138 T139 T140 T141 T142 T143 T144 T145 T146 T147 T148 T149 T150 T151 T152 T155 T156 T161 T162 T163 T164 T165 T166 T167 T168 T169 T170 T171 T172 T173 T174 T175 T179 T180 T181 T182 T183 T184 T186 T187 T188 T189 T190 T191 T192 T193 T195 T196 T197 T198 T199 T202 T203 T204 T205 T206 T207 T208 T209 T210 T211 T212 T213 T214 T215 T217 T218 T219 T220 T221 T222 T223 T224 T225 T226 T227 T228 T229 T230 T231 T232 T234 T235 T236 T237 T238 T239 T240 T241 T242 T243 T245 T246 T247 T248 T249 T250 T251 T252 T253 T254 T256 T257 T258 T259 T260 T261 T262 T263 T264 T265 T266 T267 T268 T269 T270 T271 T272 T273 T274 T275 T276 T277 T278 T279 T280 T281 T282 T283 T284 T285 T286 T287 T288 T289 T290 T291 T292 T293 T294 T295 T296 T297 T298 T299 T300 T301 T302 T303 T304 T305 T306 T307 T308 T309 T310 T311 T312 T313 T314 T315 T316 T317 T318 T319 T321 T322 T323 T324 T325 T326 T327 T328 T329 T330 T331 T332 T333 T334 T335 T337 T338 T339 T340 T341 T342 T343 T344 T346 T347 T348 T349 T350 T351 T353 T354 T355 T356 T357 T359 T360 T361

@[reducible] def zck (n:Int):PV:=.iface 38 (.int .i64 n)
variable (e:Int)
theorem zek:FR 97 [.bool true,.int .i64 e] (.tuple []):=by
 refine zfn (eG T97 func97) Lb.unit ?_;refine zHW (zgo ?_);refine zfc ?_ ?_
 .intro h;cases h
 .intro _;refine zr ?_;exact⟨[],rfl,Frz.tL trivial⟩
theorem zdk:FN ET 97 [.bool false,.int .i64 e] (.panic (zck e)):=by
 refine zfn (eG T97 func97) (.iface (.int _ _)) ?_;refine zHW (zgo ?_);refine zfc ?_ ?_
 .intro _;refine zae ?_;refine zfx ?_;refine zpx (ty:=38) (v:=.int .i64 e) rfl (by simp[evs,ev,okv,upd]) ?_;exact Frz.iface (.int _ _)
 .intro h;cases h
theorem zjF:FR 204 [.bool true,.int .i64 e] (.tuple []):=by
 refine zfn (eG T204 func204) Lb.unit ?_;refine zHW (zgo ?_);refine zfc ?_ ?_
 .intro h;cases h
 .intro _;refine zr ?_;exact⟨[],rfl,Frz.tL trivial⟩
theorem ziF:FN ET 204 [.bool false,.int .i64 e] (.panic (zck e)):=by
 refine zfn (eG T204 func204) (.iface (.int _ _)) ?_;refine zHW (zgo ?_);refine zfc ?_ ?_
 .intro _;refine zae ?_;refine zfx ?_;refine zpx (ty:=38) (v:=.int .i64 e) rfl (by simp[evs,ev,okv,upd]) ?_;exact Frz.iface (.int _ _)
 .intro h;cases h
theorem zp7(p:Nat)(l:LG)(n:Int)(hl:l.length<4611686018427387904):FR 123 [.list p 1 (l.map iv),.int .i64 n] (.bool (l.contains n)):=by
 refine zfn (eG T123 func123) (.bool _) ?_;refine zHW (zgo ?_);refine zHW ?_;refine zHW (zgo ?_);refine ze (zbk (fun m s=>∃i:Nat,m=l.length-i/\i<=l.length/\(l.take i).contains n=false/\s.tm 0=.list p 1 (l.map iv)/\s.tm 1=.int .i64 n/\s.tm 5=.int .i64 i/\s.df=[]/\s.H=[]) (n:=l.length) ?_ ?_)
 .exact⟨0,by simp[upd,zn]⟩
 .rintro m ⟨tm,df,H⟩ ⟨i,rfl,hi,hc,h0,h1,h5,rfl,rfl⟩;dsimp only at h0 h1 h5;refine zad ?_;refine zHW (zbj (zr3 h0 h1 h5) ?_);refine zwh ?_ ?_
  .intro hlt;have hlt:i<l.length:=ztd hlt;refine zHW (ze ?_);refine zHW (zbj (zr4 h0 h1 h5 (zAA9 hlt)) ?_);refine zfc ?_ ?_
   .intro he;have he:=of_decide_eq_true he;refine zHW (zgo ?_);refine zbN (zfr ?_);have:l.contains n=true:=by
     rw[zFP9];rw[<- he];exact zBK9 hlt
    rw[this];exact Frz.bool _
   .intro he;have he:=of_decide_eq_false he;refine zr ?_;refine zae ?_;refine zKF (zr3 h0 h1 h5) ?_;refine⟨_,?_,i+1,rfl,hlt,?_,?_⟩
    .omega
    .rw[zGL9 hlt]
     grind
    .have:IntKind.i64.wrap ((i:Int)+1)=((i+1:Nat):Int):=by rw[wrap_i64 zo zo];omega
     simp[upd,h0,h1]
  .intro hlt;have hlt:¬i<l.length:=zfd hlt;obtain rfl:i=l.length:=zo;refine zHW (zgo ?_);refine zbN (zfr ?_);rw[zBF9]at hc;rw[hc];exact Frz.bool _
abbrev zbQ(n:Nat):Prop:=n<4611686018427387904
variable (p:Nat)(w:LN)(left j:Nat)
theorem zlt(hw:zbQ w.length):FR 205 [wv p w] (.int .i64 (w.length/2:Nat)):=by
 refine zfn (eG T205 func205) (.int _ _) ?_;refine zHW (zgo ?_);have e1:IntKind.i64.wrap ((w.length:Int).tdiv 2)=((w.length/2:Nat):Int):=by
  rw[IntWalk.i64_quo _ _ zo];omega
 refine zHW (zae ?_);refine zPF e1 ?_;exact Frz.int _ _
theorem zA2(hw:zbQ w.length)(h:2*j<w.length):FR 285 [wv p w,.int .i64 j] (uv w[2*j]):=by
 refine zfn (eG T285 func285) (.int _ _) ?_;refine zHW (zgo ?_);have e1:IntKind.i64.wrap (2*(j:Int))=2*(j:Int):=zwi;have e2:(2*(j:Int)).toNat=2*j:=zo;have e3:(0:Int)<=2*(j:Int):=zo;refine zHW (zbj (zr4 e1 e2 e3 (zAA9 h)) ?_);refine zbN (zfr ?_);exact Frz.int _ _
theorem zk7(hw:zbQ w.length)(h:2*j+1<w.length):FR 259 [wv p w,.int .i64 j] (uv w[2*j+1]):=by
 refine zfn (eG T259 func259) (.int _ _) ?_;refine zHW (zgo ?_);have e1:IntKind.i64.wrap (2*(j:Int))=2*(j:Int):=zwi;have e4:IntKind.i64.wrap (2*(j:Int)+1)=2*(j:Int)+1:=zwi;have e2:(2*(j:Int)+1).toNat=2*j+1:=zo;have e3:(0:Int)<=2*(j:Int)+1:=zo;refine zHW (zbj (zr5 e1 e2 e3 e4 (zAA9 h)) ?_);refine zbN (zfr ?_);exact Frz.int _ _
@[reducible] def zhr (p:Nat) (w:LN) (left:Nat):PV:=.agg [wv p w,uv left]
theorem zuo(hw:zbQ w.length):FR 257 [zhr p w left] (.bool (zcI left w.length)):=by
 refine zfn (eG T257 func257) (.bool _) ?_;refine zHW (zgo ?_);refine zHW (zae ?_)
 by_cases h1:left=0
 .subst h1;refine zP ?_;exact Frz.bool _
 .have g1:¬(left:Int)=0:=zo
  by_cases h2:w.length%2=0
  .have g2:(w.length:Int).tmod 2=0:=by rw[IntWalk.rem_in _ _ zo];omega
   refine zb2 (zr2 g1 g2) ?_;refine zca (zlt p w hw) ?_
   by_cases h3:2<=w.length/2
   .have g3:(2:Int)<=((w.length/2:Nat):Int):=zo;refine zb2 g3 ?_;refine zca (zlt p w hw) ?_;refine zP ?_;have:zcI left w.length=decide (((w.length/2:Nat):Int)<=28):=by simp[zcI,h1,h2,h3];omega
    rw[this];exact Frz.bool _
   .have g3:¬(2:Int)<=((w.length/2:Nat):Int):=zo;refine zPF g3 ?_;have:zcI left w.length=false:=by simp[zcI,h1,h2,h3]
    rw[this];exact Frz.bool _
  .have g2:¬(w.length:Int).tmod 2=0:=by rw[IntWalk.rem_in _ _ zo];omega
   refine zPF (zr2 g1 g2) ?_;have:zcI left w.length=false:=by simp[zcI,h1,h2]
   rw[this];exact Frz.bool _


theorem zvA(hw:zbQ w.length)(h:2*j<w.length+1):FR 209 [zhr p w left,.int .i64 j] (uv (zc1 left w j)):=by
 refine zfn (eG T209 func209) (.int _ _) ?_;refine zG ?_;refine zfc ?_ ?_
 .intro hj;obtain rfl:j=0:=ztd hj;refine zO ?_;exact Frz.int _ _
 .intro hj;have hj:¬j=0:=zfd hj;refine zSk ?_;refine zI ?_;have e1:(j:Int)-1=((j-1:Nat):Int):=zo;rw[e1];refine zca (zk7 p w (j-1) hw zo) ?_;refine zP ?_;have:zc1 left w j=w[2*(j-1)+1]'zo:=by
   unfold zc1;rw[if_neg hj,zAK9,zAA9 zo];rfl
  rw[this];exact Frz.int _ _
theorem zAi(hw:zbQ w.length):FR 282 [zhr p w left] (.int .i64 (zb3 w:Nat)):=by
 refine zfn (eG T282 func282) (.int _ _) ?_;refine zG ?_;refine ze (zbk (fun m s=>∃i:Nat,m=w.length-i/\2*i<=w.length/\zb3 w=i+zb3 (w.drop (2*i))/\s.tm 1=.ptr 0 0 0 0 2/\s.tm 2=.int .i64 i/\s.df=[]/\s.H=[.row 299 2 0 0 [zhr p w left]]) (n:=w.length) ?_ ?_)
 .exact⟨0,by simp[upd,zn]⟩
 .rintro m ⟨tm,df,H⟩ ⟨i,rfl,hi,hc,h1,h2,rfl,rfl⟩;dsimp only at h1 h2;refine zad ?_;refine zIF (zr2 h1 h2) ?_;refine zca (zlt p w hw) ?_;have stop:∀tm',zb3 (w.drop (2*i))=0->tm' 2=.int .i64 i->zgB (fun m s=>∃i:Nat,m=w.length-i/\2*i<=w.length/\zb3 w=i+zb3 (w.drop (2*i))/\s.tm 1=.ptr 0 0 0 0 2/\s.tm 2=.int .i64 i/\s.df=[]/\s.H=[.row 299 2 0 0 [zhr p w left]]) (w.length-i)
    (zgz 0 (zfj (fun s'=>W ET ET.caught none (.seq (.region [⟨some 17,.mov,[.tmp 2],none⟩,⟨some 2,.mov,[.tmp 17],none⟩]) .ret) s' (zev ET T282 fun e' H=>zbp H 0 e' (.ret (.int .i64 (zb3 w:Nat))))) (zev ET T282 fun e' H=>zbp H 0 e' (.ret (.int .i64 (zb3 w:Nat)))))) (.exit 0) ⟨tm',[],[.row 299 2 0 0 [zhr p w left]]⟩:=fun tm' h0 ht=>by
   refine zOF ht ?_;rw[hc,h0];exact Frz.int _ _
  by_cases hlt:i<w.length/2
  .have g1:(i:Int)<((w.length/2:Nat):Int):=zo;refine zb2 (zr3 g1 h1 h2) ?_;refine zCN (zk7 p w i hw zo) ?_;have hd:=zpV w i zo;refine zwh ?_ ?_
   .intro hz;have hz:¬w[2*i+1]'zo=0:=by simpa using hz
    refine ze ?_;refine zJF h2 ?_;refine⟨_,?_,i+1,rfl,?_,?_,?_⟩
    .omega
    .omega
    .rw[hc,hd,zb3,if_neg hz];omega
    .simp[upd,h1]
   .intro hz;have hz:w[2*i+1]'zo=0:=by simpa using hz
    refine stop _ ?_ (by simp[upd,h2]);rw[hd,zb3,if_pos hz]
  .have g1:¬(i:Int)<((w.length/2:Nat):Int):=zo;refine zNF (zr3 g1 h1 h2) ?_;refine zwh ?_ ?_
   .intro h;cases h
   .intro _;refine stop _ ?_ (by simp[upd,h2]);exact zq4 (by simp;omega)


theorem zE4(a b:Pr):FR 281 [pv a,pv b] (.bool (decide (a.1<b.1))):=by
 refine zfn (eG T281 func281) (.bool _) ?_;refine zO ?_;have:decide ((a.1:Int)<(b.1:Int))=decide (a.1<b.1):=by simp
 rw[this];exact Frz.bool _
theorem zCy{α:Type}(l:List α)(i:Nat)(h:i+1<l.length):l.drop i=l[i]::l[i+1]::l.drop (i+2):=by simp_all
theorem zwm{l:LJ}(h:l.length<2):zbV l=true:=by
 match l,h with
 | [],_=>rfl
 | [_],_=>rfl
theorem zCa(l:LJ)(hl:zbQ l.length):FR 280 [psv p l,.fn 281 []] (.bool (zbV l)):=by
 refine zfn (eG T280 func280) (.bool _) ?_;refine zG ?_;refine ze (zbk (fun m s=>∃i:Nat,m=l.length+1-i/\i<=l.length/\zbV l=zbV (l.drop i)/\s.tm 0=psv p l/\s.tm 1=.fn 281 []/\s.tm 5=.int .i64 (i+1:Nat)/\s.df=[]/\s.H=[]) (n:=l.length+1) ?_ ?_)
 .exact⟨0,by simp[upd,zn]⟩
 .rintro m ⟨tm,df,H⟩ ⟨i,rfl,hi,hc,h0,h1,h5,rfl,rfl⟩;dsimp only at h0 h1 h5;refine zLh (zr3 h0 h1 h5) ?_ ?_
  .intro hlt;have hlt:i+1<l.length:=ztd hlt;refine zHW (ze ?_);refine zHW ?_;refine zaB ?_;have e1:((i+1:Nat):Int)-1=(i:Int):=zo;refine zcu (zr6 h0 h1 h5 e1 (zAA9 hlt) (zAA9 (show i<l.length by omega))) (zE4 l[i] l[i+1]) ?_;refine zQF h0 ?_;have hd:=zCy l i hlt;refine zfc ?_ ?_
   .intro hb;have hb:¬(l[i].1<l[i+1].1):=by simpa using hb
    refine zO ?_;rw[hc,hd,zbV];simp only[hb,decide_false,zDZ9];exact Frz.bool _
   .intro hb;have hb:l[i].1<l[i+1].1:=by simpa using hb
    refine zr ?_;refine zJF h5 ?_;refine⟨_,?_,i+1,rfl,by omega,?_,?_⟩
    .omega
    .rw[hc,hd,zbV,zAM9 hlt];simp[hb]
    .simp[upd,h0,h1]
  .intro hlt;have hlt:¬i+1<l.length:=zfd hlt;refine zO ?_;rw[hc,zwm (by grind)];exact Frz.bool _
def zcZ:Nat->Nat->LN->List (Nat×Pr)
 | i,prev,k::p::l=>if p=0 then[]else if p=prev then zcZ (i+1) p l else(i,(k,p))::zcZ (i+1) p l
 | _,_,_=>[]
def zfa(left:Nat)(l:LN):List (Nat×Pr):=if zcI left l.length=true then zcZ 0 left l else[]
theorem zgm:∀(l:LN) (i prev:Nat),(zcZ i prev l).map (·.2)=zbO prev l
 | [],_,_=>by simp[zcZ,zbO]
 | [_],_,_=>by simp[zcZ,zbO]
 | k::p::l,i,prev=>by
  rw[zcZ,zbO]
  split
  .rfl
  .split
   .exact zgm l (i+1) p
   .simp[zgm l (i+1) p]
theorem zoQ(left:Nat)(l:LN):(zfa left l).map (·.2)=zcq left l:=by
 unfold zfa zcq
 split
 .exact zgm l 0 left
 .rfl


theorem zCn(id p:Nat)(w:LN)(left:Nat)(hw:zbQ w.length)(P:Nat->LP)(hlen:∀k,(P k).length=(P 0).length)(hnr:∀(k i:Nat) (o:zc),(P k)[i]?=some o->NRO (P 0).length o)
  (hy:∀(k j:Nat) (x:Pr) (G:LP),(zfa left w)[k]?=some (j,x)->FY ET id [.int .i64 j,pv x] (P k++G) fun r H'=>r=true/\H'=P (k+1)++G) :
  FO ET 324 [.yield id,.elem [wv p w],.elem [uv left]] (P 0) false fun e H'=>e=.ret (.tuple [])/\H'=P (zfa left w).length:=by
 refine FO.gc (zro (eG T324 func324) ?_);have hb:∀k (x:zc),(P k++[x])[(P 0).length]?=some x:=fun k x=>by grind
 have hs:∀k (x y:zc),(P k++[x]).set (P 0).length y=P k++[y]:=fun k x y=>by grind
 have fin:∀(tm:Nat->PV) (k:Nat),k=(zfa left w).length->zev ET T324 (fun e H'=>∃H'' G,zjS (P 0) H' H'' G/\NRE (P 0).length e/\e=.ret (.tuple [])/\H''=P (zfa left w).length) .ret ⟨tm,[],P k++[.row 299 2 0 0 [zhr p w left]]⟩:=fun tm k hk=>by
  subst hk;refine zdw (vs:=[]) rfl ⟨P (zfa left w).length,_,⟨rfl,hlen _,fun i o ho=>.inr (hnr _ i o ho)⟩,.tuple (fun x h=>by cases h),rfl,rfl⟩
 refine zn0 ?_;refine zB ?_;refine zbj (zr2 (hb 0) (hs 0)) ?_;refine zIF (hb 0) ?_;refine zCN (zuo p w left hw) ?_
 by_cases hr:zcI left w.length=true
 .have hev:w.length%2=0:=by simp[zcI]at hr;omega
  have hit:zfa left w=zcZ 0 left w:=by unfold zfa;rw[if_pos hr]
  refine zfc ?_ ?_
  .rw[hr];intro h;cases h
  .intro _;refine zSk ?_;refine zHW (zr ?_);refine zIF (hb 0) ?_;refine zCN (zAi p w left hw) ?_;refine ze (zbk (fun m s=>∃j k:Nat,m=w.length-j/\j<=zb3 w/\zb3 w=j+zb3 (w.drop (2*j))/\k<=(zfa left w).length/\(zfa left w).drop k=zcZ j (zc1 left w j) (w.drop (2*j))/\s.tm 0=.yield id/\s.tm 4=.ptr (P 0).length 0 0 0 2/\s.tm 13=.int .i64 (zb3 w:Nat)/\s.tm 14=.int .i64 j/\s.df=[]/\s.H=P k++[.row 299 2 0 0 [zhr p w left]]) (n:=w.length) ?_ ?_)
   .exact⟨0,0,by simp,by omega,by simp,by omega,by simp[hit,zc1],zt,zt,zt,zt,rfl,rfl⟩
   .rintro m ⟨tm,df,H⟩ ⟨j,k,rfl,hj,hraw,hk,hdk,h0,h4,h13,h14,rfl,rfl⟩;dsimp only at *
    have hrl:=zrY w;refine zLh (zr4 h0 h4 h13 h14) ?_ ?_
    .intro hlt;have hlt:j<zb3 w:=ztd hlt;have hd:=zpV w j zo;have hpz:¬w[2*j+1]'zo=0:=by
      intro e;rw[hd,zb3,if_pos e]at hraw;omega
     rw[hd,zcZ,if_neg hpz]at hdk;rw[hd,zb3,if_neg hpz]at hraw;have hah:zc1 left w (j+1)=w[2*j+1]'zo:=by
      unfold zc1;rw[if_neg zo,zAK9];simp only[zFK9];rw[zAA9 zo];rfl
     refine zHW (ze ?_);refine zB ?_;refine zbj h14 ?_;refine zHW ?_;refine zaB ?_;refine zcu (zr4 h0 h4 h14 (hb k)) (zk7 p w j hw zo) ?_;refine zcu (zr4 h0 h4 h14 (hb k)) (zvA p w left j hw zo) ?_
     by_cases heq:w[2*j+1]'zo=zc1 left w j
     .have g1:((w[2*j+1]'zo:Nat):Int)=((zc1 left w j:Nat):Int):=by rw[heq]
      rw[if_pos heq]at hdk;refine zfw (by first|exact trivial|simp only[go_sem,g1,h0,h4,h14,hb k]) (by simp(disch:=omega)only[go_sem,g1,hb k]<;>rfl) rfl (by simp only[go_sem,hb k]<;>rfl) (by simp only[go_sem]<;>rfl) ?_;refine zfw (by first|exact trivial|simp only[go_sem,hb k]) (by simp(disch:=omega)only[go_sem,hb k]<;>rfl) rfl (by simp only[go_sem,hb k]<;>rfl) (by simp only[go_sem]<;>rfl) ?_;refine zfw (by first|exact trivial|simp only[go_sem,hb k]) (by simp(disch:=omega)only[go_sem,hb k]<;>rfl) rfl (by simp only[go_sem,hb k]<;>rfl) (by simp only[go_sem]<;>rfl) ?_;refine zQF (zr5 g1 h0 h4 h14 (hb k)) ?_;refine zfc ?_ ?_
      .intro h;cases h
      .intro _;refine zr ?_;refine zJF h14 ?_;refine⟨_,?_,j+1,k,rfl,by omega,by omega,hk,?_,?_⟩
       .omega
       .grind
       .simp[upd,h0,h4,h13]
     .have g1:¬((w[2*j+1]'zo:Nat):Int)=((zc1 left w j:Nat):Int):=zo;rw[if_neg heq]at hdk;have hk1:(zfa left w)[k]?=some (j,(w[2*j]'zo,w[2*j+1]'zo)):=by
       have:=congrArg List.head? hdk;rw[List.head?_drop]at this;simpa using this
      have hk2:k<(zfa left w).length:=(zAC9.1 hk1).1;have hdk2:(zfa left w).drop (k+1)=zcZ (j+1) (w[2*j+1]'zo) (w.drop (2*(j+1))):=by
       rw[<- zEF9,hdk];rfl
      refine zcu (zr5 g1 h0 h4 h14 (hb k)) (zA2 p w j hw zo) ?_;refine zcu (zr5 g1 h0 h4 h14 (hb k)) (zk7 p w j hw zo) ?_;refine zvV (s1:=?_) (id:=?_) (vs:=?_) ?_ ?_ rfl rfl ?_ ?_ ?_;rotate_left 3;(first|exact trivial|(simp only[go_sem,hb k]));(simp(disch:=omega)only[go_sem,hb k]<;>rfl);(first|rfl|(simp only[go_sem,g1,h0,h4,h14,hb k]<;>rfl));(simp only[go_sem,hb k]<;>rfl);refine FY.mono (hy k j _ _ hk1) fun r H' hh=>?_;obtain⟨rfl,rfl⟩:=hh;refine⟨_,by simp only[go_sem]<;>rfl,?_⟩;generalize zaG _ _=K0;refine zQF g1 ?_;refine zfc ?_ ?_
      .intro h;cases h
      .intro _;refine zr ?_;refine zJF h14 ?_;refine⟨_,?_,j+1,k+1,rfl,by omega,by omega,hk2,?_,?_⟩
       .omega
       .grind
       .simp[upd,h0,h4,h13]
    .intro hlt;have hlt:¬j<zb3 w:=zfd hlt;obtain rfl:j=zb3 w:=zo;have hz:zcZ (zb3 w) (zc1 left w (zb3 w)) (w.drop (2*zb3 w))=[]:=by
      have hr0:zb3 (w.drop (2*zb3 w))=0:=zo
      revert hr0
      generalize w.drop (2*zb3 w)=l
      match l with
      | []=>intro _;simp[zcZ]
      | [_]=>intro _;simp[zcZ]
      | a::b::l =>
       intro hr0;rw[zb3]at hr0
       split at hr0
       .rename_i hb;rw[zcZ,if_pos hb]
       .omega
     rw[hz]at hdk;have hk3:k=(zfa left w).length:=by
      have:=congrArg List.length hdk;simp at this;omega
     exact fin _ _ hk3
 .have hr:zcI left w.length=false:=by simpa using hr
  refine zfc ?_ ?_
  .intro _;refine zbN ?_;exact fin _ 0 (by simp[zfa,hr])
  .rw[hr];intro h;cases h
theorem zEQ(p:Nat)(w:LN)(left:Nat):FP ET 276 [uv left,wv p w] (.ret (.fn 324 [.elem [wv p w],.elem [uv left]])):=by
 refine zfp (eG T276 func276) ?_;refine zO ?_;refine Frz.fnL ⟨.ptr (w:=wv p w) rfl (zAE9 _) rfl fun j x y hx hy=>?_,.ptr (w:=uv left) rfl (zAE9 _) rfl fun j x y hx hy=>?_,trivial⟩
 .cases j with
  | zero=>simp[PV.cells]at hx hy;subst hx;subst hy;exact Frz.list _ _ _
  | succ j=>simp at hy
 .cases j with
  | zero=>simp[PV.cells]at hx hy;subst hx;subst hy;exact Frz.int _ _
  | succ j=>simp at hy


def zzH:zbS:=.region [⟨some 6,.alloc 92 [.int .u64 (.ofNat 0),.int .u64 (.ofNat 0)],[],none⟩,⟨none,.store 2,[.tmp 6,.tmp 11],none⟩]
def zyy:zbS:=.block 1 (.region [⟨some 12,.load false 1,[.tmp 4],none⟩,⟨some 13,.load true 2,[.tmp 6],none⟩,⟨some 14,.bslice 92 2 1 [.int .u64 (.ofNat 0),.int .u64 (.ofNat 0)] [(0,2)],[.tmp 13],none⟩,⟨some 15,.append 92 2 16,[.tmp 12,.tmp 14],none⟩,⟨none,.store 1,[.tmp 4,.tmp 15],none⟩])
def zg8(tm:Nat->PV)(L:LJ)(k:Nat):LP:=[.row 87 1 0 0 [.sl 1 k 0 k (2*k) 2],.row 92 2 k 0 ((L.take k).map pv),.dfr false,.loop .ready .norm tm [10,11] zzH zyy 2]
variable {H:LP}{L:LJ}{e:FE}{k:IntKind}{n:Int}{tm:Nat->PV}(p:Nat)(cs:LQ)(w:LN)(i x left:Nat)
theorem zgE{l:LJ}:∀v∈(l.map pv).flatMap PV.cells,Id0 v:=fun v hv=>by
 obtain⟨x,hx,hv⟩:=zAU9.1 hv;obtain⟨n,_,rfl⟩:=zAH9.1 hx;simp[PV.cells]at hv;rcases hv with rfl|rfl<;>exact .int _ _
theorem zvt(hnr:∀i,tm i=.bad\/NR 4 (tm i))(k i:Nat)(o:zc)(ho:(zg8 tm L k)[i]?=some o):NRO 4 o:=by
 match i with
 | 0=>cases ho;intro x hx;simp[PV.cells]at hx;subst hx;exact .sl _ _ _ _ _ zo
 | 1=>cases ho;exact zrS zgE
 | 2=>cases ho;trivial
 | 3=>cases ho;exact⟨by omega,hnr,trivial⟩
 | i+4=>simp[zg8]at ho
theorem zyo(hnr:∀i,tm i=.bad\/NR 4 (tm i))(k:Nat)(G G':LP):zjS (zg8 tm L k++G) (zg8 tm L (k+1)++G++G') (zg8 tm L (k+1)++G) G' :=
 zjS.front rfl fun id o ho=>zvt hnr (k+1) id o ho
theorem zfG(w:LN):(zcq left w).length<=28:=by
 unfold zcq
 split
 .rename_i h;have h1:∀(prev:Nat) (l:LN),2*(zbO prev l).length<=l.length:=by
   intro prev l
   induction prev,l using zbO.induct<;>rw[zbO]<;>simp_all<;>omega
  have h2:=h1 left w;simp[zcI]at h;omega
 .simp
theorem zBw(tm:Nat->PV)(h4:tm 4=.ptr 0 0 0 0 1)(hnr:∀i,tm i=.bad\/NR 4 (tm i))(L:LJ)(k j:Nat)(x:Pr)(hx:L[k]?=some x)(hL:L.length<1000000)(G:LP) :
  FY ET 3 [.int .i64 j,pv x] (zg8 tm L k++G) fun r H'=>r=true/\H'=zg8 tm L (k+1)++G:=by
 have hk:k<L.length:=(zAC9.1 hx).1;have hxk:L[k]=x:=(zAC9.1 hx).2;have hlt:(L.take k).length=k:=by simp;omega
 refine FY.gc (ziE (tm:=tm) (ps:=[10,11]) (aS:=zzH) (bo:=zyy) rfl rfl ?_);refine zae ?_;refine zfx ?_ (by simp(disch:=omega)only[go_sem,zg8]<;>rfl);refine zcr ?_;refine⟨rfl,_,_,_,_,_,_,rfl,?_⟩;refine ze (zae ?_);have hb:(k+1)*17<=140737488355328:=zo;refine zKF (zr3 h4 hlt hb) ?_;have htk:(L.take k).map pv++[PV.agg [uv x.1,uv x.2]]=(L.take (k+1)).map pv:=by
  rw[zBB9,hx];simp
 rw[htk,zAD9];exact⟨rfl,.busy,.norm,tm,[10,11],zzH,zyy,2,rfl,zg8 tm L (k+1)++G,[zc.row 92 2 0 0 [pv x]]++[zc.row 92 2 0 0 [PV.agg [uv x.1,uv x.2]]],zyo hnr k G _,rfl,rfl⟩
theorem zxu(hw:zbQ w.length):FR 214 [uv left,wv p w] (psv 0 (zcq left w)):=by
 refine zfn (eG T214 func214) (Lb.pvs _) ?_;refine zGI ?_;refine zcp (zEQ p w left) ?_;refine zN ?_;refine ze ?_;refine zhB 92 2 (id:=0) rfl ?_;simp only[lzy,zAG9,zAN9,zCE9,zAS9,zAV9];refine zit (g:=324) (cap:=[.elem [wv p w],.elem [uv left]]) (b:=false) (by simp only[go_sem]) ?_;have hL:(zfa left w).length=(zcq left w).length:=by rw[<- zoQ];simp
 have h28:=zfG left w;have hnr:∀i,(upd (upd (upd (upd (zn [uv left,wv p w]) 4 (PV.ptr 0 0 0 0 1)) 7 (uv left)) 8 (wv p w)) 9 (PV.fn 324 [PV.elem [wv p w],PV.elem [uv left]])) i=.bad\/NR 4 ((upd (upd (upd (upd (zn [uv left,wv p w]) 4 (PV.ptr 0 0 0 0 1)) 7 (uv left)) 8 (wv p w)) 9 (PV.fn 324 [PV.elem [wv p w],PV.elem [uv left]])) i) :=
  zfy (zfy (zfy (zfy (zsn fun v hv=>by simp at hv;rcases hv with rfl|rfl<;>constructor) (.ptr _ _ _ _ zo)) (.int _ _)) (.list _ _ _)) (.fn fun x hx=>by simp at hx;rcases hx with rfl|rfl<;>constructor)
 have hP:=zCn 3 p w left hw (zg8 _ (zcq left w)) (fun _=>rfl) (fun k i o ho=>zvt hnr k i o ho) fun k j x G hk =>
  zBw _ rfl hnr (zcq left w) k j x (by rw[<- zoQ];simp[hk]) zo G
 refine FO.mono (fun e H' he=>?_) hP;obtain⟨rfl,rfl⟩:=he;refine⟨⟨_,rfl⟩,.ready,.norm,_,_,_,_,_,by simp,rfl,?_⟩;rw[hL];refine zHW (zae ?_);refine zfx ?_ (by simp(disch:=omega)only[go_sem,zg8]<;>rfl);refine zcd ?_;refine zbN ?_;refine zj6 (vs:=[.sl 1 (zcq left w).length 0 (zcq left w).length (2*(zcq left w).length) 2]) rfl rfl ?_;refine Frz.wh (e:=92) (z':=2) (G:=(zcq left w).length) (l:=(zcq left w).map pv) ?_ rfl (by simp) (by simp) (fun v hv=>?_) zgE
 .grind
 .obtain⟨x,_,rfl⟩:=zAH9.1 hv;rfl


def zej(left:Nat)(w:LN):FE:=if zcI left w.length=true then if zde left w=true then .ret (psv 0 (zcq left w))else .panic (zck 190)else .panic (zck 2)
theorem zcz(h:e=.panic (zck n)):zbp H 0 (.panic (zck n)) e:=by subst h;exact Frz.iface (.int _ _)
theorem ztf(seen:LN)(L:LJ)(i:Nat)(h:i<L.length):zdO seen (L.drop i)=(!seen.contains L[i].2&&zdO (L[i].2::seen) (L.drop (i+1))):=by
 rw[zAM9 h];rfl
theorem zqM(h:2*i+1<w.length):zgS (w.drop (2*i))=(decide (w[2*i+1]=0)&&zgS (w.drop (2*(i+1)))):=by
 rw[zpV w i h];rfl
theorem zsF(h:w.length<=2*i+1):zgS (w.drop (2*i))=true:=by
 match h2:w.drop (2*i)with
 | []=>rfl
 | [_]=>rfl
 | a::b::l=>have:=congrArg List.length h2;grind
theorem zp2(hw:zbQ w.length):FN ET 221 [zhr p w left] (zej left w):=by
 refine zfn (eG T221 func221) ?_ ?_
 .unfold zej;split
  .split
   .exact Lb.pvs _
   .exact .iface (.int _ _)
  .exact .iface (.int _ _)
 refine zGI ?_;refine zca (zuo p w left hw) ?_
 by_cases hr:zcI left w.length=true
 rotate_left
 .have hr:zcI left w.length=false:=by simpa using hr
  rw[hr];refine zfx ?_;refine zcx (ziF 2) ?_;exact zcz (by simp[zej,hr])
 rw[hr];refine zfx ?_;refine zCN (zjF 2) ?_;refine zM (zxu p w left hw) ?_;have h28:=zfG left w;refine zI ?_;refine zca (zCa 0 (zcq left w) zo) ?_
 by_cases hs1:zbV (zcq left w)=true
 rotate_left
 .have hs1:zbV (zcq left w)=false:=by simpa using hs1
  rw[hs1];refine zfx ?_;refine zcx (ziF 190) ?_;exact zcz (by simp[zej,hr,zde,hs1])
 rw[hs1];refine zfx ?_;refine zCN (zjF 190) ?_;refine zG ?_;generalize hL:zcq left w=L at *
 have hset:zde left w=(zdO [left] L&&decide (L.length=zb3 w)&&decide (L.length<w.length/2)&&zgS (w.drop (2*L.length))):=by simp[zde,hL,hs1]
 refine ze (zbk (fun m s=>∃(i:Nat) (seen:LN) (mm:Int->LX) (G:LP),m=L.length-i/\i<=L.length/\zdO [left] L=zdO seen (L.drop i)/\(∀q:Nat,mm q=if seen.contains q=true then some (iv 1)else none)/\s.tm 1=.ptr 0 0 0 0 2/\s.tm 3=psv 0 L/\s.tm 4=.map 1/\s.tm 23=psv 0 L/\s.tm 24=iv L.length/\s.tm 25=iv i/\s.df=[]/\s.H=.row 299 2 0 0 [zhr p w left]::.mapI .u64 mm::G) (n:=L.length) ?_ ?_)
 .refine⟨0,[left],_,[],by simp,by omega,rfl,?_,zt,zt,zt,zt,zt,zt,rfl,rfl⟩;intro q
  grind
 .rintro m ⟨tm,df,H⟩ ⟨i,seen,mm,G,rfl,hi,hpt,hmm,h1,h3,h4,h23,h24,h25,rfl,rfl⟩;dsimp only at *
  refine zLh (zr6 h1 h3 h4 h23 h24 h25) ?_ ?_
  .intro hlt;have hlt:i<L.length:=ztd hlt;have hq:=hmm L[i].2;refine zHW (ze ?_);refine zGF (zr7 h1 h3 h4 h23 h24 h25 (zAA9 hlt)) ?_
   by_cases hc:seen.contains L[i].2=true
   .rw[if_pos hc]at hq;refine zIF (zr7 h1 h3 h4 h23 h24 h25 hq) ?_;refine zcx (ziF 190) ?_;exact zcz (by unfold zej;rw[if_pos hr,hset,hpt,ztf _ _ _ hlt,hc];simp)
   .rw[if_neg hc]at hq;have hc:seen.contains L[i].2=false:=by simpa using hc
    refine zIF (zr7 h1 h3 h4 h23 h24 h25 hq) ?_;refine zCN (zjF 190) ?_;refine zae ?_;refine zKF (zr6 h1 h3 h4 h23 h24 h25) ?_;refine zJF h25 ?_;refine⟨_,?_,i+1,L[i].2::seen,_,_,rfl,by omega,?_,?_,zu h1,zu h3,zu h4,zu h23,zu h24,zu h25,rfl,rfl⟩
    .omega
    .rw[hpt,ztf _ _ _ hlt,hc];simp
    .intro q
     by_cases hq:q=L[i].2
     .grind
     .have:¬(q:Int)=(L[i].2:Nat):=zo
      grind
  .intro hlt;have hlt:¬i<L.length:=zfd hlt;obtain rfl:i=L.length:=zo;rw[zBH9]at hpt;have hpt:zdO [left] L=true:=by rw[hpt];rfl
   refine zIF (zr2 h1 h3) ?_;refine zca (zAi p w left hw) ?_;have hmm2:2*(w.length/2)=w.length:=by simp[zcI]at hr;omega
   by_cases hc1:L.length=zb3 w
   rotate_left
   .have g1:¬(L.length:Int)=(zb3 w:Nat):=zo;refine zb2 (zr3 h1 h3 g1) ?_;refine zcx (ziF 190) ?_;exact zcz (by unfold zej;grind)
   have g1:(L.length:Int)=(zb3 w:Nat):=zo;refine zb2 (zr3 h1 h3 g1) ?_;refine zca (zlt p w hw) ?_
   by_cases hc2:L.length<w.length/2
   rotate_left
   .have g2:¬((zb3 w:Nat):Int)<((w.length/2:Nat):Int):=zo;refine zb2 (zr4 h1 h3 g1 g2) ?_;refine zcx (ziF 190) ?_;exact zcz (by unfold zej;grind)
   have g2:((zb3 w:Nat):Int)<((w.length/2:Nat):Int):=zo;refine zb2 (zr4 h1 h3 g1 g2) ?_;refine zCN (zjF 190) ?_;refine zGF (zr2 h1 h3) ?_;refine ze (zbk (fun m s=>∃i:Nat,m=w.length-i/\2*i<=w.length/\zgS (w.drop (2*L.length))=zgS (w.drop (2*i))/\s.tm 1=.ptr 0 0 0 0 2/\s.tm 3=psv 0 L/\s.tm 7=iv i/\s.df=[]/\s.H=.row 299 2 0 0 [zhr p w left]::.mapI .u64 mm::G) (n:=w.length-L.length) ?_ ?_)
   .exact⟨L.length,rfl,by omega,rfl,zu h1,zu h3,by simp[upd,g1],rfl,rfl⟩
   .clear h1 h3 h4 h23 h24 h25;rintro m ⟨tm,df,H⟩ ⟨i,rfl,hi,hz,h1,h3,h7,rfl,rfl⟩;dsimp only at h1 h3 h7;refine zad ?_;refine zIF (zr3 h1 h3 h7) ?_;refine zCN (zlt p w hw) ?_;refine zwh ?_ ?_
    .intro hlt;have hlt:i<w.length/2:=ztd hlt;refine zHW (ze ?_);refine zae ?_;refine zb2 (zr3 h1 h3 h7) ?_;refine zca (zk7 p w i hw zo) ?_;have hst:=zqM w i zo
     by_cases h0:w[2*i+1]'zo=0
     .have g3:((w[2*i+1]'zo:Nat):Int)=0:=zo;refine zb2 g3 ?_;refine zca (zjF 190) ?_;refine zK ?_;refine zJF h7 ?_;refine⟨_,?_,i+1,rfl,by omega,?_,zu h1,zu h3,zu h7,zt,zt⟩
      .omega
      grind
     .have g3:¬((w[2*i+1]'zo:Nat):Int)=0:=zo;refine zb2 g3 ?_;refine zcx (ziF 190) ?_;exact zcz (by unfold zej;grind)
    .intro hlt;have hlt:¬i<w.length/2:=zfd hlt;refine zOF (zr2 h1 h3) ?_;have:zej left w=.ret (psv 0 L):=by unfold zej;rw[if_pos hr,hset,hpt,hz,zsF w i zo,hL,decide_eq_true hc1,decide_eq_true hc2];rfl
     rw[this];exact Frz.list _ _ _


theorem zGK:ET.caught.get 201=some ():=by kernel_rfl
theorem zFV:FR 321 [] (.tuple []):=by
 refine zfn (eG T321 func321) Lb.unit ?_;refine zr ?_;exact⟨[],rfl,Frz.tL trivial⟩
theorem zbp.int(h:e=.ret (.int k n)):zbp H 0 (.ret (.int k n)) e:=by subst h;exact Frz.int _ _
theorem zAr(hw:zbQ w.length):FR 249 [uv left,wv p w] (.int .i64 (zcg left w:Nat)):=by
 refine zfn (eG T249 func249) (.int _ _) ?_;refine zGI ?_;refine zgt (f:=201) (p:=.ptr 0 0 0 0 1) (cl:=.fn 321 []) ?_ ?_ zGK ?_
 .rfl
 .simp only[go_sem]<;>rfl
 refine zN ?_;refine zI ?_;have hs:=zp2 p w left hw;have bad:∀(tm:Nat->PV) (n:Nat),zcg left w=n->tm 4=.ptr 0 0 0 0 1->zev ET T249 (fun e' H=>zbp H 0 e' (.ret (.int .i64 (zcg left w:Nat)))) (.panic (zck n)) ⟨tm,[.caught (.ptr 0 0 0 0 1) (.fn 321 [])],[.row 38 1 0 0 [.int .i64 0]]⟩:=fun tm n hn h4=>by
  refine⟨n,321,[],true,0,0,1,rfl,rfl,rfl,(FN.FO (args:=[]) zFV trivial).mono fun e H he=>?_⟩;obtain⟨rfl,rfl⟩:=he;refine⟨rfl,_,rfl,[.int .i64 n],?_,zbp.int (by rw[hn])⟩;simp[T249,xT,zaS,okv,h4,zaz,zbl,zbo];rfl
 by_cases hr:zcI left w.length=true
 rotate_left
 .have he:zej left w=.panic (zck 2):=by simp[zej,hr]
  rw[he]at hs;refine zcx hs ?_;exact bad _ 2 (by simp[zcg,hr]) rfl
 by_cases h2:zde left w=true
 rotate_left
 .have he:zej left w=.panic (zck 190):=by simp[zej,hr,h2]
  rw[he]at hs;refine zcx hs ?_;exact bad _ 190 (by simp[zcg,hr,h2]) rfl
 have he:zej left w=.ret (psv 0 (zcq left w)):=by simp[zej,hr,h2]
 rw[he]at hs;refine zCN hs ?_;refine zG ?_;refine zbN ?_;have:zcg left w=0:=by simp[zcg,hr,h2]
 rw[this];exact⟨[.int .i64 0],rfl,Frz.int _ _⟩


theorem zbp.bool{b b':Bool}(h:b=b'):zbp H 0 (.ret (.bool b)) (.ret (.bool b')):=by subst h;exact Frz.bool _
theorem zbp.uv{b b':Int}(h:b=b'):zbp H 0 (.ret (.int k b)) (.ret (.int k b')):=by subst h;exact Frz.int _ _
theorem zwg:FR 252 [uv x] (.bool (zd6 x)):=by
 refine zfn (eG T252 func252) (.bool _) ?_;refine zG ?_;refine zae ?_
 by_cases h:1<=x
 .have g:(1:Int)<=x:=zo;refine zPF g ?_;exact zbp.bool (by simp[zd6,h];omega)
 .have g:¬(1:Int)<=x:=zo;refine zPF g ?_;exact zbp.bool (by simp[zd6,h])
@[reducible] def zeU (a b c d e:Nat):LQ:=[iv a,iv b,uv c,uv d,iv e,.nilsl]
theorem zHI:FR 261 [.elem cs,uv x] (.bool (decide (7522529147838689024<=x)&&decide (x<=7522529147838689024+12))):=by
 refine zfn (eG T261 func261) (.bool _) ?_;refine zG ?_;refine zae ?_
 by_cases h:7522529147838689024<=x
 .have g:(7522529147838689024:Int)<=x:=zo;refine zPF g ?_;exact zbp.bool (by grind)
 .have g:¬(7522529147838689024:Int)<=x:=zo;refine zPF g ?_;exact zbp.bool (by simp[h])
theorem zHz:FR 264 [.elem cs,uv x] (.bool (decide (x<2048))):=by
 refine zfn (eG T264 func264) (.bool _) ?_;refine zO ?_;exact zbp.bool (by grind)
theorem zHx:FR 267 [.elem cs,uv x] (.bool true):=by
 refine zfn (eG T267 func267) (.bool _) ?_;refine zO ?_;exact zbp.bool rfl
theorem zHA:FR 273 [.elem cs,uv x] (.bool (decide (x<=2))):=by
 refine zfn (eG T273 func273) (.bool _) ?_;refine zO ?_;exact zbp.bool (by grind)
theorem zHJ(a b c d e x:Nat):FR 270 [.elem (zeU a b c d e),uv x] (.bool (zdV 3 a x)):=by
 refine zfn (eG T270 func270) (.bool _) ?_;refine zG ?_;refine zae ?_
 by_cases h:a=0
 .have g0:(a:Int)=0:=zo
  by_cases h2:x=9223372036854775808
  .have g:(x:Int)=9223372036854775808:=zo;refine zPF (zr2 g0 g) ?_;exact zbp.bool (by simp[zdV,h,h2])
  .have g:¬(x:Int)=9223372036854775808:=zo;refine zPF (zr2 g0 g) ?_;exact zbp.bool (by simp[zdV,h,h2])
 .have g:¬(a:Int)=0:=zo;have g2:(0:Int)<a:=zo;have h2:0<a:=zo;refine zb2 (zr2 g g2) ?_;refine zca (zwg x) ?_;refine zP ?_;exact zbp.bool (by simp[zdV,h,h2])
theorem zwa:FR 213 [] (.list 0 3 ziY):=by
 refine zfn (eG T213 func213) ?_ ?_
 .refine .list fun x hx=>?_;simp[ziY,List.range,List.range.loop,PV.cells]at hx;rcases hx with h|h|h|h|h|h|h|h|h|h|h|h|h|h|h<;>subst h<;>exact .fn fun _ h=>by cases h
 refine zO ?_;refine Frz.wh rfl rfl rfl zy ?_ ?_
 .intro v hv;simp[ziY,List.range,List.range.loop]at hv;rcases hv with h|h|h|h|h<;>subst h<;>rfl
 .intro v hv;simp[ziY,List.range,List.range.loop,PV.cells]at hv;rcases hv with h|h|h|h|h|h|h|h|h|h|h|h|h|h|h<;>subst h<;>exact .fn fun _ h=>by cases h


@[reducible] def zfP (cs:LQ):zc:=.row 143 6 0 0 [.agg cs]
theorem zfh{F:zd}{R:FE->LP->Prop}(h:F.res=[])(k:R (.ret (.tuple [])) H):zev ET F R .norm ⟨tm,[],H⟩:=zfg (vs:=[]) (by rw[h];rfl) k
section
variable (a b c d e x:Nat)(G:LP)
theorem zHq(k:Nat)(h2:k<=12)(e1:IntKind.u64.wrap ((x:Int)-7522529147838689024)=(k:Int)):FO ET 262 [.ptr 0 0 0 0 6,uv x] (zfP (zeU a b c d e)::G) false fun e' H'=>e'=.ret (.tuple [])/\H'=zfP (zeU k b c d e)::G:=by
 refine zro (eG T262 func262) ?_;refine zae ?_;refine zb2 e1 ?_;refine zi3 (zfh rfl ⟨rfl,rfl⟩)
theorem zEI(h1:7522529147838689024<=x)(h2:x<=7522529147838689024+12)(k:Nat)(hk:k=x-7522529147838689024):k<=12/\IntKind.u64.wrap ((x:Int)-7522529147838689024)=(k:Int):=by rw[wrap_u64 zo zo];omega
theorem set0(h1:7522529147838689024<=x)(h2:x<=7522529147838689024+12)(k:Nat)(hk:k=x-7522529147838689024):FO ET 262 [.ptr 0 0 0 0 6,uv x] (zfP (zeU a b c d e)::G) false fun e' H'=>e'=.ret (.tuple [])/\H'=zfP (zeU k b c d e)::G :=
 zHq a b c d e x G k (zEI x h1 h2 k hk).1 (zEI x h1 h2 k hk).2
theorem set1(h1:x<2048):FO ET 265 [.ptr 0 0 0 0 6,uv x] (zfP (zeU a b c d e)::G) false fun e' H'=>e'=.ret (.tuple [])/\H'=zfP (zeU a x c d e)::G:=by
 refine zro (eG T265 func265) ?_;refine zae ?_;refine zfx ?_;refine zi3 (zfh rfl ⟨rfl,rfl⟩)
theorem set2:FO ET 268 [.ptr 0 0 0 0 6,uv x] (zfP (zeU a b c d e)::G) false fun e' H'=>e'=.ret (.tuple [])/\H'=zfP (zeU a b x d e)::G:=by
 refine zro (eG T268 func268) ?_;refine zae ?_;refine zfx ?_;refine zi3 (zfh rfl ⟨rfl,rfl⟩)
theorem set3:FO ET 271 [.ptr 0 0 0 0 6,uv x] (zfP (zeU a b c d e)::G) false fun e' H'=>e'=.ret (.tuple [])/\H'=zfP (zeU a b c x e)::G:=by
 refine zro (eG T271 func271) ?_;refine zae ?_;refine zfx ?_;refine zi3 (zfh rfl ⟨rfl,rfl⟩)
theorem zIh(h1:x<=2):FO ET 274 [.ptr 0 0 0 0 6,uv x] (zfP (zeU a b c d e)::G) false fun e' H'=>e'=.ret (.tuple [])/\H'=zfP (zeU a b c d x)::G:=by
 refine zro (eG T274 func274) ?_;refine zae ?_;refine zfx ?_;refine zi3 (zfh rfl ⟨rfl,rfl⟩)
end
section
variable (p:Nat)(n:zq)
theorem zHf(k:Nat)(h:n.level<=12)(e1:IntKind.u64.wrap (7522529147838689024+(n.level:Int))=(k:Int)):FR 263 [zbr p n] (uv k):=by
 refine zfn (eG T263 func263) (.int _ _) ?_;refine zOF e1 ?_;exact Frz.int _ _
theorem zHr(h:n.level<=12)(k:Nat)(hk:k=7522529147838689024+n.level):IntKind.u64.wrap (7522529147838689024+(n.level:Int))=(k:Int):=by rw[wrap_u64 zo zo];omega
theorem zHH(h:n.level<=12)(k:Nat)(hk:k=7522529147838689024+n.level):FR 263 [zbr p n] (uv k):=zHf p n k h (zHr n h k hk)
theorem zHS(h:n.sib<2048):FR 266 [zbr p n] (uv n.sib):=by
 refine zfn (eG T266 func266) (.int _ _) ?_;refine zO ?_;exact Frz.int _ _
theorem zHG:FR 269 [zbr p n] (uv n.low):=by
 refine zfn (eG T269 func269) (.int _ _) ?_;refine zO ?_;exact Frz.int _ _
theorem zHP:FR 272 [zbr p n] (uv n.left):=by
 refine zfn (eG T272 func272) (.int _ _) ?_;refine zO ?_;exact Frz.int _ _
theorem zHU(h:n.way<=2):FR 275 [zbr p n] (uv n.way):=by
 refine zfn (eG T275 func275) (.int _ _) ?_;refine zO ?_;exact Frz.int _ _
end
variable {k:Int}(p lv:Nat)(w:LN)(n:zq)(q:Pr)(i x:Nat)
def hAt(lv:Nat)(w:LN)(i:Nat):LQ :=
 zeU (if 0<i then lv else 0) (if 1<i then w.getD 1 0 else 0) (if 2<i then w.getD 2 0 else 0) (if 3<i then w.getD 3 0 else 0) (if 4<i then w.getD 4 0 else 0)
theorem zGf(hi:i<5):FN ET (zGB i) [.elem (hAt lv w i),uv x] (.ret (.bool (zdV i lv x))):=by
 match i,hi with
 | 0,_=>exact zHI _ x
 | 1,_=>exact zHz _ x
 | 2,_=>exact zHx _ x
 | 3,_=>exact zHJ _ _ _ _ _ x
 | 4,_=>exact zHA _ x
theorem zGW(hlv:lv=w.getD 0 0-7522529147838689024)(i:Nat)(hi:i<5)(hm:zdV i lv (w.getD i 0)=true)(G:LP):FO ET (zGZ i) [.ptr 0 0 0 0 6,uv (w.getD i 0)] (zfP (hAt lv w i)::G) false fun e H'=>e=.ret (.tuple [])/\H'=zfP (hAt lv w (i+1))::G:=by
 match i,hi with
 | 0,_=>rw[zdV,zAO9,decide_eq_true_eq,decide_eq_true_eq]at hm;exact set0 _ _ _ _ _ _ _ hm.1 hm.2 lv hlv
 | 1,_=>rw[zdV,decide_eq_true_eq]at hm;exact set1 _ _ _ _ _ _ _ hm
 | 2,_=>exact set2 _ _ _ _ _ _ _
 | 3,_=>exact set3 _ _ _ _ _ _ _
 | 4,_=>rw[zdV,decide_eq_true_eq]at hm<;>first|exact zIh _ _ _ _ _ _ _ hm|simp
theorem zGG(k:Nat)(hi:i<5)(h1:n.level<=12)(h2:n.sib<2048)(h3:n.way<=2)(hk:k=zop i n):FN ET (zGl i) [zbr p n] (.ret (uv k)):=by
 match i,hi with
 | 0,_=>exact zHH p n h1 k hk
 | 1,_=>subst hk;exact zHS p n h2
 | 2,_=>subst hk;exact zHG p n
 | 3,_=>subst hk;exact zHP p n
 | 4,_=>subst hk;exact zHU p n h3
theorem zsP(hi:i<5):ziY[i]?=some (zEA i):=by
 match i,hi with
 | 0,_=>rfl
 | 1,_=>rfl
 | 2,_=>rfl
 | 3,_=>rfl
 | 4,_=>rfl
theorem zsG:ziY.length=5:=rfl


def zgq{α:Type}(pr:α->Bool)(l:List α):Int:=match l.findIdx? pr with|some i=>(i:Int)|none=>-1
theorem zoI{α:Type}(pr:α->Bool)(l:List α):decide (0<=zgq pr l)=l.any pr:=by
 unfold zgq
 grind
theorem zpZ{lab:Nat}:∀l:LQ,(∀v∈l,Id0 v)->LF H lab l l
 | [],_=>trivial
 | x::l,h=>⟨(h x zAR9).frz,zpZ l fun v hv=>h v (zAQ9 _ hv)⟩
theorem zwt(l:LN)(hl:zbQ l.length)(g:Nat)(caps:LQ)(hc:∀v∈caps,Id0 v)(pr:Nat->Bool)(hg:∀x∈l,FN ET g (uv x::caps) (.ret (.bool (pr x)))):FR 260 [wv p l,.fn g caps] (iv (zgq pr l)):=by
 refine zfn (eG T260 func260) (.int _ _) ?_;refine zG ?_;refine ze (zbk (fun m s=>∃i:Nat,m=l.length-i/\i<=l.length/\l.findIdx? pr=((l.drop i).findIdx? pr).map (· + i)/\s.tm 0=wv p l/\s.tm 1=.fn g caps/\s.tm 7=iv l.length/\s.tm 8=iv i/\s.df=[]/\s.H=[]) (n:=l.length) ?_ ?_)
 .exact⟨0,by simp[upd,zn]⟩
 .rintro m ⟨tm,df,H⟩ ⟨i,rfl,hi,hf,h0,h1,h7,h8,rfl,rfl⟩;dsimp only at *
  refine zLh (zr4 h0 h1 h7 h8) ?_ ?_
  .intro hlt;have hlt:i<l.length:=ztd hlt;refine zHW (ze ?_);refine zGF h8 ?_;refine zIF (zr3 h0 h1 (zAA9 hlt)) ?_;refine zeA (caps:=caps) (vs:=[uv l[i]]) rfl ?_ (hg _ (zBK9 hlt)) (zpZ _ (fun v hv=>?_)) ?_
   .simp only[go_sem,h1]
   .rcases zBA9.1 hv with rfl|hv
    .exact .int _ _
    .exact hc v hv
   refine zN ?_;rw[zAM9 hlt,zEU9]at hf;refine zfc ?_ ?_
   .intro hb;have hb:pr l[i]=true:=hb;refine zO ?_;rw[if_pos hb]at hf;exact zbp.uv (by simp[zgq,hf])
   .intro hb;have hb:pr l[i]=false:=hb;refine zr ?_;refine zJF h8 ?_;refine⟨_,?_,i+1,rfl,hlt,?_,zu h0,zu h1,zu h7,zt,zt,zt⟩
    .omega
    .rw[hf,hb]
     cases (l.drop (i+1)).findIdx? pr with
     | none=>rfl
     | some j=>simp;omega
  .intro hlt;have hlt:¬i<l.length:=zfd hlt;obtain rfl:i=l.length:=zo;refine zO ?_;rw[zBH9]at hf;exact zbp.uv (by simp[zgq,hf])
theorem zrP(l:LN)(hl:zbQ l.length)(g:Nat)(caps:LQ)(hc:∀v∈caps,Id0 v)(pr:Nat->Bool)(hg:∀x∈l,FN ET g (uv x::caps) (.ret (.bool (pr x)))):FR 211 [wv p l,.fn g caps] (.bool (l.any pr)):=by
 refine zfn (eG T211 func211) (.bool _) ?_;refine zGI ?_;refine zeA (caps:=[]) (vs:=[wv p l,.fn g caps]) rfl ?_ (zwt p l hl g caps hc pr hg) ?_ ?_
 .simp only[go_sem]
 .refine⟨.list _ _ _,⟨Id0.frz (.fn hc),trivial⟩⟩
 refine zP ?_;exact zbp.bool (zoI _ _)
theorem zw1(l:LJ)(hl:zbQ l.length)(g:Nat)(caps:LQ)(hc:∀v∈caps,Id0 v)(pr:Pr->Bool)(hg:∀x∈l,FN ET g (pv x::caps) (.ret (.bool (pr x)))):FR 322 [psv p l,.fn g caps] (iv (zgq pr l)):=by
 refine zfn (eG T322 func322) (.int _ _) ?_;refine zG ?_;refine ze (zbk (fun m s=>∃i:Nat,m=l.length-i/\i<=l.length/\l.findIdx? pr=((l.drop i).findIdx? pr).map (· + i)/\s.tm 0=psv p l/\s.tm 1=.fn g caps/\s.tm 7=iv l.length/\s.tm 8=iv i/\s.df=[]/\s.H=[]) (n:=l.length) ?_ ?_)
 .exact⟨0,by simp[upd,zn]⟩
 .rintro m ⟨tm,df,H⟩ ⟨i,rfl,hi,hf,h0,h1,h7,h8,rfl,rfl⟩;dsimp only at *
  refine zLh (zr4 h0 h1 h7 h8) ?_ ?_
  .intro hlt;have hlt:i<l.length:=ztd hlt;refine zHW (ze ?_);refine zGF h8 ?_;refine zIF (zr3 h0 h1 (zAA9 hlt)) ?_;refine zeA (caps:=caps) (vs:=[pv l[i]]) rfl ?_ (hg _ (zBK9 hlt)) (zpZ _ (fun v hv=>?_)) ?_
   .simp only[go_sem,h1]
   .rcases zBA9.1 hv with rfl|hv
    .exact .agg fun y hy=>by simp at hy;rcases hy with rfl|rfl<;>exact .int _ _
    .exact hc v hv
   refine zN ?_;rw[zAM9 hlt,zEU9]at hf;refine zfc ?_ ?_
   .intro hb;have hb:pr l[i]=true:=hb;refine zO ?_;rw[if_pos hb]at hf;exact zbp.uv (by simp[zgq,hf])
   .intro hb;have hb:pr l[i]=false:=hb;refine zr ?_;refine zJF h8 ?_;refine⟨_,?_,i+1,rfl,hlt,?_,zu h0,zu h1,zu h7,zt,zt,zt⟩
    .omega
    .rw[hf,hb]
     cases (l.drop (i+1)).findIdx? pr with
     | none=>rfl
     | some j=>simp;omega
  .intro hlt;have hlt:¬i<l.length:=zfd hlt;obtain rfl:i=l.length:=zo;refine zO ?_;rw[zBH9]at hf;exact zbp.uv (by simp[zgq,hf])
theorem zsl(l:LJ)(hl:zbQ l.length)(g:Nat)(caps:LQ)(hc:∀v∈caps,Id0 v)(pr:Pr->Bool)(hg:∀x∈l,FN ET g (pv x::caps) (.ret (.bool (pr x)))):FR 250 [psv p l,.fn g caps] (.bool (l.any pr)):=by
 refine zfn (eG T250 func250) (.bool _) ?_;refine zGI ?_;refine zeA (caps:=[]) (vs:=[psv p l,.fn g caps]) rfl ?_ (zw1 p l hl g caps hc pr hg) ?_ ?_
 .simp only[go_sem]
 .refine⟨.list _ _ _,⟨Id0.frz (.fn hc),trivial⟩⟩
 refine zP ?_;exact zbp.bool (zoI _ _)


theorem zGU:FR 212 [uv x] (.bool (decide (x≠0))):=by
 refine zfn (eG T212 func212) (.bool _) ?_;refine zO ?_;exact zbp.bool (by grind)
theorem Lb.node:Lb (zbr 0 n):=.agg fun v hv=>by
 simp at hv;rcases hv with h|h|h|h|h|h<;>subst h
 .exact .int _ _
 .exact .int _ _
 .exact .int _ _
 .exact .int _ _
 .exact .int _ _
 .exact Lb.pvs _
theorem Lb.two{a b:PV}(ha:Lb a)(hb:Lb b):Lb (.tuple [a,b]):=.tuple fun v hv=>by grind
def zft(w:LN):FE:=if headB w=true then .ret (.tuple [zbr 0 (headN w),iv 0])else .ret (.tuple [zbr 0 zfq,iv 210])
theorem zGY:∀v∈hAt lv w i,Id0 v:=fun v hv=>by
 simp[hAt]at hv;rcases hv with h|h|h|h|h|h<;>subst h<;>constructor
@[reducible] def zg6:PV:=.agg [iv 0,iv 0,uv 0,uv 0,iv 0,.nilsl]
theorem zsi:Frz H 0 (.tuple [zg6,iv 210]) (.tuple [zbr 0 zfq,iv 210]):=by
 refine Frz.tL ⟨Frz.aggL ⟨.int _ _,.int _ _,.int _ _,.int _ _,.int _ _,.nil _ _,trivial⟩,.int _ _,trivial⟩
theorem zuA{w:LN}(h:headB w=false):zbp H 0 (.ret (zlZ [zg6,iv 210])) (zft w):=by
 unfold zft;rw[if_neg (by grind)];exact zsi
theorem zuy(hl:w.length=64)(lv:Nat)(hlv:lv=zhp (w.getD 0 0)):headB w=(!(((w.take 8).drop 5).any fun x=>decide (x≠0))&&(List.range 5).all fun i=>zdV i lv (w.getD i 0)):=by
 subst hlv;unfold headB
 grind
theorem zvv(lv:Nat)(hlv:lv=zhp (w.getD 0 0)):headN w=⟨lv,w.getD 1 0,w.getD 2 0,w.getD 3 0,w.getD 4 0,zcq (w.getD 3 0) (w.drop 8)⟩:=by
 subst hlv;unfold headN;rfl
theorem zzW:∃lv,lv=zhp (w.getD 0 0):=⟨_,rfl⟩
theorem zyf(hw:zbQ w.length):FN ET 148 [wv p w] (zft w):=by
 refine zfn (eG T148 func148) ?_ ?_
 .unfold zft;split
  .exact Lb.two (Lb.node _) (.int _ _)
  .exact Lb.two (Lb.node _) (.int _ _)
 refine zHW (zae ?_);refine zN ?_;refine zn0 ?_;refine zBr ?_;have h2:(1:Nat)=1:=rfl
 by_cases hl:w.length=64
 rotate_left
 .have g:¬(w.length:Int)=64:=zo;refine zNF g ?_;refine zfc ?_ ?_
  .intro _;refine zlb ⟨rfl,?_⟩;refine zHW (zr ?_);simp only[zfj,reduceIte];refine zIF h2 ?_;refine zcd ?_;refine zbN ⟨(fun l h=>FX.noConfusion h),?_⟩;refine zdw (vs:=[zg6,iv 210]) ?_ ?_
   .simp only[T148,zaS,go_sem];rfl
   .exact zuA (by simp[headB,hl])
  .intro h;cases h
 have g:(w.length:Int)=64:=zo;have hm1:List.drop 5 (List.take 8 (List.map uv w))=((w.take 8).drop 5).map uv:=by simp[zCA9,zCN9]
 refine zb2 (zr2 hl hm1) ?_;refine zCN (zrP p ((w.take 8).drop 5) (by simp;omega) 212 [] (fun _ h=>by cases h) (fun x=>decide (x≠0)) fun x _=>zGU x) ?_;obtain⟨lv,hlv⟩:=zzW w;have hsp:=zuy w hl lv hlv;refine zfc ?_ ?_
 .intro hb;have hb:(((w.take 8).drop 5).any fun x=>decide (x≠0))=true:=hb;refine zlb ⟨rfl,?_⟩;refine zHW (zr ?_);simp only[zfj,reduceIte];refine zIF h2 ?_;refine zcd ?_;refine zbN ⟨(fun l h=>FX.noConfusion h),?_⟩;refine zdw (vs:=[zg6,iv 210]) ?_ ?_
  .simp only[T148,zaS,go_sem];rfl
  .exact zuA (by grind)
 intro hb;have hb:(((w.take 8).drop 5).any fun x=>decide (x≠0))=false:=hb;rw[hb]at hsp;refine zSk ?_;refine zI ?_;refine zca zwa ?_;refine zfx ?_ (by simp(disch:=omega)only[go_sem,zsG]<;>rfl);refine zcd ?_;have hsp:headB w=(List.range 5).all fun i=>zdV i lv (w.getD i 0):=by simpa using hsp
 clear hm1 h2;refine ze (zbk (fun m s=>∃(i:Nat) (G:LP),m=5-i/\i<=5/\(∀j,j<i->zdV j lv (w.getD j 0)=true)/\s.tm 0=wv p w/\s.tm 2=.ptr 0 0 0 0 6/\s.tm 14=.list 0 3 ziY/\s.tm 15=iv 5/\s.tm 16=iv i/\s.df=[]/\s.H=zfP (hAt lv w i)::G) (n:=5) ?_ ?_)
 .exact⟨0,[],rfl,by omega,(fun j hj=>by omega),zt,zt,zt,zt,zt,rfl,rfl⟩
 .rintro m ⟨tm,df,H⟩ ⟨i,G,rfl,hi,hmay,h0,h2,h14,h15,h16,rfl,rfl⟩;dsimp only at *
  refine zLh (zr5 h0 h2 h14 h15 h16) ?_ ?_
  .intro hlt;have hlt:i<5:=ztd hlt;have hwi:w[i]?=some (w.getD i 0):=by rw[zAK9,zAA9 zo];rfl
   have hid:=zGY lv w i;refine zBb ?_;refine zGF (zr5 h0 h2 h14 h16 (zsP i hlt)) ?_;refine zBd ?_;refine zcu (zr3 h0 h2 hwi) (zGf lv w i (w.getD i 0) hlt) ?_;refine zQF h0 ?_
   by_cases hm:zdV i lv (w.getD i 0)=true
   rotate_left
   .have hm:zdV i lv (w.getD i 0)=false:=by simpa using hm
    refine zfc ?_ ?_
    .intro _;refine zlb ⟨rfl,?_⟩;refine zHW (zr ?_);simp only[zfj,reduceIte];refine zIF h2 ?_;refine zcd ?_;refine zbN ⟨(fun l h=>FX.noConfusion h),?_⟩;refine zdw (vs:=[zg6,iv 210]) ?_ ?_
     .simp only[zaS,go_sem,h2];rfl
     .exact zuA (by grind)
    .rw[hm];intro h;cases h
   refine zfc ?_ ?_
   .rw[hm];intro h;cases h
   intro _;refine zSk ?_;refine zaB ?_;refine zs2 (s1:=?_) (caps:=?_) (vs:=?_) ?_ ?_ rfl rfl ?_ ?_ (zGW lv w (by rw[hlv,zn5]) i hlt hm ?_) ?_ ?_ ?_;rotate_left 3;(first|exact trivial|(simp only[go_sem,h0,h2,hwi]));(simp(disch:=omega)only[go_sem,h0,hwi]<;>rfl);(first|rfl|(simp only[go_sem,h0,h2,hwi]<;>rfl));(simp only[go_sem,h2]<;>rfl);rotate_left 1;rfl;rfl;rintro e H' he;obtain⟨rfl,rfl⟩:=he;refine⟨_,by simp only[go_sem]<;>rfl,?_⟩;refine zQF h0 ?_;refine zJF h16 ?_;refine⟨_,?_,i+1,_,rfl,hlt,?_,zu h0,zu h2,zu h14,zu h15,zu h16,rfl,rfl⟩
   .omega
   .intro j hj
    grind
  .intro hlt;have hlt:¬i<5:=zfd hlt;obtain rfl:i=5:=zo;have hok:headB w=true:=by rw[hsp,zBV9];intro j hj;exact hmay j (zCL9.1 hj)
   have h5:hAt lv w 5=zeU lv (w.getD 1 0) (w.getD 2 0) (w.getD 3 0) (w.getD 4 0):=rfl;have hm2:List.drop 8 (List.map uv w)=(w.drop 8).map uv:=by simp[zCA9]
   rw[h5];refine zHW (zaB ?_);refine zcu (zr4 h0 h2 hl hm2) (zxu p (w.drop 8) (w.getD 3 0) (by simp;omega)) ?_;refine zcs (zr2 h0 h2) ?_;refine zQF h0 ?_;refine zGF h2 ?_;refine zbN (zfr ?_ (by simp only[go_sem,h2]<;>rfl));unfold zft;rw[if_pos hok];rw[zvv w lv hlv];exact zLF


theorem zEq:FR 198 [zbr p n,pv q] (.bool (zdu n q)):=by
 obtain⟨lv,sib,low,left,way,ps⟩:=n;obtain⟨k,x⟩:=q;refine zfn (eG T198 func198) (.bool _) ?_;refine zG ?_
 by_cases h0:lv=0
 .have g0:(lv:Int)=0:=zo;refine zfc ?_ ?_
  .intro _;refine zHW (zae ?_)
   by_cases h1:1<=x
   .have g1:(1:Int)<=x:=zo
    by_cases h2:x<=1099511627776
    .have g2:(x:Int)<=1099511627776:=zo;refine zPF (zr2 g1 g2) ?_;exact zbp.bool (by simp[zdu,h0,h1,h2];try omega)
    .have g2:¬(x:Int)<=1099511627776:=zo;refine zPF (zr2 g1 g2) ?_;exact zbp.bool (by simp[zdu,h0,h1,h2])
   .have g1:¬(1:Int)<=x:=zo;refine zPF g1 ?_;exact zbp.bool (by simp[zdu,h0,h1])
  .intro h;exact absurd g0 (of_decide_eq_false h)
 .have g0:¬(lv:Int)=0:=zo;refine zfc ?_ ?_
  .intro h;exact absurd (of_decide_eq_true h) g0
  .intro _;refine zSk ?_;refine zI ?_;refine zca (zwg x) ?_
   by_cases hb:zd6 x=true
   .rw[hb];refine zP ?_;exact zbp.bool (by simp[zdu,h0,hb])
   .have hb:zd6 x=false:=by simpa using hb
    rw[hb];refine zP ?_;exact zbp.bool (by simp[zdu,h0,hb])
@[reducible] def zyv (p:Nat) (n:zq):LQ:=[iv n.level,iv n.sib,uv n.low,uv n.left,iv n.way,psv p n.pairs]
theorem zws:FR 251 [pv q,.elem (zyv p n)] (.bool (!zdu n q)):=by
 refine zfn (eG T251 func251) (.bool _) ?_;refine zGI ?_;refine zca (zEq p n q) ?_;refine zP ?_;exact zbp.bool rfl
theorem zuW:∀v∈zyv p n,Id0 v:=fun v hv=>by
 simp at hv;rcases hv with h|h|h|h|h|h<;>subst h<;>constructor
def ziR(w:LN):FE:=if zbZ w=0 then .ret (.tuple [zbr 0 (headN w),iv 0])else .ret (.tuple [zbr 0 zfq,iv (zbZ w:Nat)])
theorem zBO{w:LN}(h:headB w=true):w.length=64:=by
 unfold headB at h
 grind
theorem zDF{n:zq}:Frz H 0 (.tuple [zbr 0 n,iv k]) (.tuple [zbr 0 n,iv k]):=by
 refine Frz.tL ⟨Frz.aggL ⟨.int _ _,.int _ _,.int _ _,.int _ _,.int _ _,.list _ _ _,trivial⟩,.int _ _,trivial⟩
theorem zpb:Frz H 0 (.tuple [zg6,iv k]) (.tuple [zbr 0 zfq,iv k]):=by
 refine Frz.tL ⟨Frz.aggL ⟨.int _ _,.int _ _,.int _ _,.int _ _,.int _ _,.nil _ _,trivial⟩,.int _ _,trivial⟩
def ziM(n:zq)(w:LN):FE:=if(decide (zcg n.left (w.drop 8)=0) && !(n.pairs.any fun q=>!zdu n q))=true then .ret (.tuple [zbr 0 n,iv 0])else .ret (.tuple [zbr 0 zfq,iv 190])
theorem zxb(hOf:FR 148 [wv p w] (.tuple [zbr 0 n,iv 0]))(hl:w.length=64)(hps:n.pairs.length<=28):FN ET 197 [wv p w] (ziM n w):=by
 refine zfn (eG T197 func197) ?_ ?_
 .unfold ziM;split
  .exact Lb.two (Lb.node _) (.int _ _)
  .exact Lb.two (Lb.node _) (.int _ _)
 refine zMG hOf ?_;refine zT ?_;refine zSk ?_;have hm2:List.drop 8 (List.map uv w)=(w.drop 8).map uv:=by simp[zCA9]
 have hck:=zAr p (w.drop 8) n.left (by simp;omega);refine zBd ?_;have hid:=zuW 0 n
 by_cases h1:zcg n.left (w.drop 8)=0
 rotate_left
 .have g1:¬((zcg n.left (w.drop 8):Nat):Int)=0:=zo;refine zcu (zr2 hl hm2) hck ?_;refine zfw (by first|exact trivial|simp only[go_sem,g1]) (by simp(disch:=omega)only[go_sem,g1]<;>rfl) rfl (by simp only[go_sem]<;>rfl) (by simp only[go_sem]<;>rfl) ?_;refine zQF g1 ?_;refine zfc ?_ ?_
  .intro _;refine zO ?_;have hs:ziM n w=.ret (.tuple [zbr 0 zfq,iv 190]):=by unfold ziM;rw[decide_eq_false h1];rfl
   rw[hs];exact zpb
  .intro h;cases h
 rw[h1]at hck;refine zcu (zr2 hl hm2) hck ?_;refine zcu hl (zsl 0 n.pairs zo 251 [.elem (zyv 0 n)] (fun v hv=>by simp at hv;subst hv;exact .elem _) (fun q=>!zdu n q) fun q _=>zws 0 n q) ?_;refine zQF hl ?_
 by_cases h2:(n.pairs.any fun q=>!zdu n q)=true
 .refine zfc ?_ ?_
  .intro _;refine zO ?_;have hs:ziM n w=.ret (.tuple [zbr 0 zfq,iv 190]):=by unfold ziM;rw[h2,decide_eq_true h1];rfl
   rw[hs];exact zpb
  .rw[h2];intro h;cases h
 .have h2:(n.pairs.any fun q=>!zdu n q)=false:=by simpa using h2
  refine zfc ?_ ?_
  .rw[h2];intro h;cases h
  .intro _;refine zSk ?_;refine zO ?_;have hs:ziM n w=.ret (.tuple [zbr 0 n,iv 0]):=by unfold ziM;rw[h2,decide_eq_true h1];rfl
   rw[hs];exact zDF
theorem zil(hh:headB w=true):zft w=.ret (.tuple [zbr 0 (headN w),iv 0]):=by unfold zft;grind
theorem zCT(hh:headB w=true):ziM (headN w) w=ziR w:=by
 have hpk:zfO w=(decide (zcg (headN w).left (w.drop 8)=0) && !((headN w).pairs.any fun q=>!zdu (headN w) q)):=by unfold zfO;rfl
 unfold ziM ziR zbZ
 grind
theorem zoG(hw:zbQ w.length):FN ET 197 [wv p w] (ziR w):=by
 have hOf:=zyf p w hw
 by_cases hh:headB w=true
 .rw[zil w hh]at hOf;have h1:=zxb p w (headN w) hOf (zBO hh) (zfG _ _);rw[zCT w hh]at h1;exact h1
 have hh:headB w=false:=by simpa using hh
 have he:zft w=.ret (.tuple [zbr 0 zfq,iv 210]):=by unfold zft;rw[if_neg (by omega)]
 have hc:zbZ w=210:=by unfold zbZ;rw[if_neg (by omega)]
 have hs:ziR w=.ret (.tuple [zbr 0 zfq,iv 210]):=by unfold ziR;rw[hc];rfl
 rw[he]at hOf;rw[hs];refine zfn (eG T197 func197) (Lb.two (Lb.node _) (.int _ _)) ?_;refine zMG hOf ?_;refine zG ?_;refine zfc ?_ ?_
 .intro _;refine zO ?_;exact zpb
 .intro h;cases h
theorem ztK(c:Nat)(hs:FR 197 [wv p w] (.tuple [zbr 0 n,iv c])):FR 162 [wv p w] (iv c):=by
 refine zfn (eG T162 func162) (.int _ _) ?_;refine zMG hs ?_;refine zO ?_;exact Frz.int _ _
theorem zFx(h:zbZ w=0):ziR w=.ret (.tuple [zbr 0 (headN w),iv ((0:Nat):Int)]):=by unfold ziR;grind
theorem zFZ(h:¬zbZ w=0):ziR w=.ret (.tuple [zbr 0 zfq,iv (zbZ w:Nat)]):=by unfold ziR;grind
theorem zny(hw:zbQ w.length):FR 162 [wv p w] (iv (zbZ w:Nat)):=by
 have hs:=zoG p w hw
 by_cases h0:zbZ w=0
 .rw[zFx w h0]at hs;rw[h0];exact ztK p w _ 0 hs
 .rw[zFZ w h0]at hs;exact ztK p w _ _ hs


def zcN(n:zq):Nat->LN
 | 0=>List.replicate 64 0
 | i+1=>(zcN n i).set i (zop i n)
theorem zi1(n:zq):∀i,(zcN n i).length=64
 | 0=>by simp[zcN]
 | i+1=>by simp[zcN,zi1 n i]
def zdy(n:zq):Nat->LN
 | 0=>zcN n 5
 | j+1=>((zdy n j).set (8+2*j) (n.pairs.getD j (0,0)).1).set (8+2*j+1) (n.pairs.getD j (0,0)).2
theorem zet(n:zq):∀j,(zdy n j).length=64
 | 0=>zi1 n 5
 | j+1=>by simp[zdy,zet n j]
theorem zFe(h1:n.level<=12)(h2:n.sib<2048)(h3:n.way<=2)(hp:n.pairs.length<=28):FR 210 [zbr p n] (wv 0 (zdy n n.pairs.length)):=by
 refine zfn (eG T210 func210) (Lb.uvs _) ?_;refine zHW (zae ?_);refine zN ?_;refine zHW (zae ?_);refine zN ?_;refine zI ?_;refine zca zwa ?_;refine zfx ?_ (by simp(disch:=omega)only[go_sem,zsG]<;>rfl);refine zcd ?_;refine ze (zbk (fun m s=>∃(i:Nat) (G:LP),m=5-i/\i<=5/\s.tm 1=.ptr 0 0 0 0 6/\s.tm 3=.sl 1 0 0 64 128 1/\s.tm 9=.list 0 3 ziY/\s.tm 10=iv 5/\s.tm 11=iv i/\s.df=[]/\s.H=.row 143 6 0 0 [zbr p n]::.row 29 1 0 0 ((zcN n i).map uv)::G) (n:=5) ?_ ?_)
 .exact⟨0,[],rfl,by omega,zt,zt,zt,zt,zt,rfl,by simp[zcN]⟩
 .rintro m ⟨tm,df,H⟩ ⟨i,G,rfl,hi,t1,t3,t9,t10,t11,rfl,rfl⟩;dsimp only at t1 t3 t9 t10 t11;refine zLh (zr2 t10 t11) ?_ ?_
  .intro hlt;have hlt:i<5:=ztd hlt;obtain⟨old,hold⟩:∃old,(zcN n i)[i]?=some old:=⟨_,zAA9 (by rw[zi1];omega)⟩
   have hb:i<64:=zo;refine zBb ?_;(repeat(first|refine zHW ?_|refine zbj (zr3 t9 t11 (zsP i hlt)) ?_));refine zae ?_;refine zb2 (zr3 t1 t3 t11) ?_;refine zca (zGG p n i (zop i n) hlt h1 h2 h3 rfl) ?_;refine zb2 (zr2 hold hb) ?_;refine zcr ?_;refine zB ?_;refine zGM t11 ?_;refine zcr ?_;refine⟨_,?m,i+1,?G,rfl,hlt,by simp[upd,t1],by simp[upd,t3],by simp[upd,t9],by simp[upd,t10],by simp[upd],zt,?H⟩
   case m=>omega
   case H=>(try dsimp only);rw[show zcN n (i+1)=(zcN n i).set i (zop i n)from rfl,zDT9]
  .intro hlt;have hlt:¬i<5:=zfd hlt;obtain rfl:i=5:=zo;refine zGF t1 ?_;refine ze (zbk (fun m s=>∃(j:Nat) (G:LP),m=n.pairs.length-j/\j<=n.pairs.length/\s.tm 3=.sl 1 0 0 64 128 1/\s.tm 25=psv p n.pairs/\s.tm 26=iv n.pairs.length/\s.tm 27=iv j/\s.df=[]/\s.H=.row 143 6 0 0 [zbr p n]::.row 29 1 0 0 ((zdy n j).map uv)::G) (n:=n.pairs.length) ?_ ?_)
   .exact⟨0,_,rfl,by omega,by simp[upd,t3],zt,zt,zt,rfl,rfl⟩
   .clear t1 t3 t9 t10 t11;rintro m ⟨tm,df,H⟩ ⟨j,G,rfl,hj,t3,t25,t26,t27,rfl,rfl⟩;dsimp only at t3 t25 t26 t27;refine zLh (zr2 t26 t27) ?_ ?_
    .intro hlt;have hlt:j<n.pairs.length:=ztd hlt;have hpj:n.pairs[j]?=some (n.pairs.getD j (0,0)):=by rw[zAK9,zAA9 hlt];rfl
     obtain⟨o1,ho1⟩:∃old,(zdy n j)[8+2*j]?=some old:=⟨_,zAA9 (by rw[zet];omega)⟩
     obtain⟨o2,ho2⟩:∃old,((zdy n j).set (8+2*j) (n.pairs.getD j (0,0)).1)[8+2*j+1]?=some old:=⟨_,zAA9 (by rw[zBT9,zet];omega)⟩
     have a1:(8+2*(j:Int)).toNat=8+2*j:=zo;have a2:(8+2*(j:Int)+1).toNat=8+2*j+1:=zo;have b1:(0:Int)<=8+2*(j:Int):=zo;have b2:(0:Int)<=8+2*(j:Int)+1:=zo;have c1:8+2*j<64:=zo;have c2:8+2*j+1<64:=zo;generalize hq:n.pairs.getD j (0,0)=q at *
     refine zBb ?_;(repeat(first|refine zHW ?_|refine zbj (zr3 t25 t27 hpj) ?_));refine zaB ?_;refine zcs (zr5 t3 a1 b1 c1 ho1) ?_;refine zda ?_ (by simp(disch:=omega)only[go_sem,a2,b2,c2,<- zDT9,ho2]<;>rfl);refine zdl ?_ (by simp(disch:=omega)only[go_sem]<;>rfl);refine zb4 ?_;simp only[go_sem];refine zB ?_;refine zGM t27 ?_;refine zcr ?_;refine⟨_,?m2,j+1,?G2,rfl,hlt,by simp[upd,t3],by simp[upd,t25],by simp[upd,t26],by simp[upd],zt,?H2⟩
     case m2=>omega
     case H2=>(try dsimp only);rw[show zdy n (j+1)=((zdy n j).set (8+2*j) q.1).set (8+2*j+1) q.2 from by rw[<- hq];rfl,zDT9]
    .intro hlt;have hlt:¬j<n.pairs.length:=zfd hlt;obtain rfl:j=n.pairs.length:=zo;(repeat(first|refine zHW ?_|refine zbj t3 ?_));refine zbN (zfr ?_);refine Frz.wh (l:=(zdy n n.pairs.length).map uv) rfl rfl (by simp[zet]) (by simp[zet]) (fun v hv=>?_) zod;obtain⟨x,_,rfl⟩:=zAH9.1 hv;rfl


theorem zyE(k k':IntKind)(x y x' y':Int):zcX [1,1] [.int k x,.int k' y] [.int k x',.int k' y']=some (decide (x=x')&&decide (y=y')):=by
 by_cases h:x=x'<;>by_cases h2:y=y'<;>simp[zcX,zmi,zdM,h,h2]
theorem zw8(q:Nat)(a b:LJ)(ha:zbQ a.length)(hb:zbQ b.length):FR 227 [psv p a,psv q b] (.bool (decide (a=b))):=by
 refine zfn (eG T227 func227) (.bool _) ?_;refine zG ?_
 by_cases hl:a.length=b.length
 rotate_left
 .have g:¬(a.length:Int)=b.length:=zo;have hne:¬a=b:=fun h=>hl (by rw[h]);refine zfc ?_ ?_
  .intro _;refine zO ?_;exact zbp.bool (decide_eq_false hne).symm
  .intro h;simp[g]at h
 have g:(a.length:Int)=b.length:=zo;refine zfc ?_ ?_
 .intro h;simp[g]at h
 intro _;refine zSk ?_;refine zG ?_;refine ze (zbk (fun m s=>∃i:Nat,m=a.length-i/\i<=a.length/\decide (a=b)=decide (a.drop i=b.drop i)/\s.tm 0=psv p a/\s.tm 1=psv q b/\s.tm 12=iv a.length/\s.tm 13=iv i/\s.df=[]/\s.H=[]) (n:=a.length) ?_ ?_)
 .exact⟨0,by simp[upd,zn]⟩
 .rintro m ⟨tm,df,H⟩ ⟨i,rfl,hi,hd,h0,h1,h12,h13,rfl,rfl⟩;dsimp only at *
  refine zLh (zr4 h0 h1 h12 h13) ?_ ?_
  .intro hlt;have hlt:i<a.length:=ztd hlt;have hltb:i<b.length:=zo;refine zBb ?_;refine zGF h13 ?_;refine zBd ?_;refine zdl ?_ (by simp(disch:=omega)only[go_sem,h0,h1,zAA9 hlt,zAA9 hltb,zyE]<;>rfl);refine zb4 ?_;simp only[go_sem];have hda:a.drop i=a[i]::a.drop (i+1):=zAM9 hlt;have hdb:b.drop i=b[i]::b.drop (i+1):=zAM9 hltb;rw[hda,hdb]at hd;have hee:(decide (((a[i].1:Nat):Int)=(b[i].1:Nat))&&decide (((a[i].2:Nat):Int)=(b[i].2:Nat)))=decide (a[i]=b[i]):=by
    rw[<- Bool.decide_and]
    congr 1
    rw[Prod.ext_iff];simp only[Int.natCast_inj]
   rw[hee]
   by_cases hx:a[i]=b[i]
   .refine zfc ?_ ?_
    .rw[decide_eq_true hx];intro h;cases h
    .intro _;refine zr ?_;refine zJF h13 ?_;refine⟨_,?_,i+1,rfl,hlt,?_,zu h0,zu h1,zu h12,zu h13,zt,zt⟩
     .omega
     .rw[hd];simp only[hx,List.cons.injEq,true_and]
   .refine zfc ?_ ?_
    .intro _;refine zO ?_;exact zbp.bool (by grind)
    .rw[decide_eq_false hx];intro h;cases h
  .intro hlt;have hlt:¬i<a.length:=zfd hlt;obtain rfl:i=a.length:=zo;refine zO ?_;refine zbp.bool ?_
   grind


@[reducible] def zxB:FE:=.ret (.tuple [wv 0 [],iv 210])
theorem ziz:Frz H 0 (.tuple [.nilsl,iv k]) (.tuple [wv 0 [],iv k]):=Frz.tL ⟨.nil _ _,.int _ _,trivial⟩
theorem zB4{l:LN}:Frz H 0 (.tuple [wv 0 l,iv k]) (.tuple [wv 0 l,iv k]):=Frz.tL ⟨.list _ _ _,.int _ _,trivial⟩
theorem zFb(h:¬(n.level<=12/\n.sib<2048/\n.way<=2/\n.pairs.length<=27))(hs:zbQ n.pairs.length):FN ET 169 [zbr p n] zxB:=by
 refine zfn (eG T169 func169) (Lb.two (Lb.uvs _) (.int _ _)) ?_;refine zG ?_;refine zBr ?_;have g0:¬(n.level:Int)<0:=zo;have g1:¬(n.sib:Int)<0:=zo;have g2:¬(n.way:Int)<0:=zo
 by_cases a1:n.level<=12
 rotate_left
 .have b1:(12:Int)<n.level:=zo;refine zNF (zr2 g0 b1) ?_;refine zfc ?_ ?_
  .intro _;refine zO ?_;exact ziz
  .intro h;cases h
 have b1:¬(12:Int)<n.level:=zo
 by_cases a2:n.sib<2048
 rotate_left
 .have b2:(2048:Int)<=n.sib:=zo;refine zNF (zr4 g0 b1 g1 b2) ?_;refine zfc ?_ ?_
  .intro _;refine zO ?_;exact ziz
  .intro h;cases h
 have b2:¬(2048:Int)<=n.sib:=zo
 by_cases a3:n.way<=2
 rotate_left
 .have b3:(2:Int)<n.way:=zo;refine zNF (zr6 g0 b1 g1 b2 g2 b3) ?_;refine zfc ?_ ?_
  .intro _;refine zO ?_;exact ziz
  .intro h;cases h
 have b3:¬(2:Int)<n.way:=zo;have b4:(27:Int)<n.pairs.length:=zo;refine zNF (zr7 g0 b1 g1 b2 g2 b3 b4) ?_;refine zfc ?_ ?_
 .intro _;refine zO ?_;exact ziz
 .intro h;cases h
def zt2(ws:LN)(ok:Bool):FE:=if ok=true then .ret (.tuple [wv 0 ws,iv 0])else zxB
theorem zC2(n':zq)(ws:LN)(c:Nat)(hlaid:FR 210 [zbr p n] (wv 0 ws))(hck:FR 162 [wv 0 ws] (iv (c:Nat)))(hOf:c=0->FR 148 [wv 0 ws] (.tuple [zbr 0 n',iv 0]))(hl:n'.pairs.length<=28)(h:n.level<=12/\n.sib<2048/\n.way<=2/\n.pairs.length<=27):FN ET 169 [zbr p n] (zt2 ws (decide (c=0)&&decide (n'.pairs=n.pairs))):=by
 refine zfn (eG T169 func169) ?_ ?_
 .unfold zt2;split
  .exact Lb.two (Lb.uvs _) (.int _ _)
  .exact Lb.two (Lb.uvs _) (.int _ _)
 obtain⟨a1,a2,a3,a4⟩:=h;refine zG ?_;refine zBr ?_;have g0:¬(n.level:Int)<0:=zo;have g1:¬(n.sib:Int)<0:=zo;have g2:¬(n.way:Int)<0:=zo;have b1:¬(12:Int)<n.level:=zo;have b2:¬(2048:Int)<=n.sib:=zo;have b3:¬(2:Int)<n.way:=zo;have b4:¬(27:Int)<n.pairs.length:=zo;refine zNF (zr7 g0 b1 g1 b2 g2 b3 b4) ?_;refine zcf ?_;refine zSk ?_;refine zM hlaid ?_;refine zI ?_;refine zca hck ?_
 by_cases h0:c=0
 rotate_left
 .have g:¬(c:Int)=0:=zo;refine zNF g ?_;refine zfc ?_ ?_
  .intro _;refine zO ?_;rw[decide_eq_false h0];exact ziz
  .intro h;cases h
 subst h0;refine zN ?_;refine zcf ?_;refine zSk ?_;refine zM (hOf rfl) ?_;refine zM (zw8 0 p n'.pairs n.pairs zo zo) ?_
 by_cases h1:n'.pairs=n.pairs
 .rw[decide_eq_true h1];refine zcf ?_;refine zSk ?_;refine zO ?_;exact zB4
 .rw[decide_eq_false h1];refine zfc ?_ ?_
  .intro _;refine zO ?_;exact ziz
  .intro h;cases h
def zcw(n:zq):LN:=zdy n n.pairs.length
def zpG(n:zq):Bool:=decide (n.level<=12)&&decide (n.sib<2048)&&decide (n.way<=2)&&decide (n.pairs.length<=27)
def zms(n:zq):Bool:=zpG n&&(decide (zbZ (zcw n)=0)&&decide ((headN (zcw n)).pairs=n.pairs))
theorem znv:zpG n=true↔(n.level<=12/\n.sib<2048/\n.way<=2/\n.pairs.length<=27):=by
 unfold zpG;grind
theorem zg5{w:LN}(h:zbZ w=0):headB w=true:=by
 unfold zbZ at h
 grind
theorem zES(hs:zbQ n.pairs.length):FN ET 169 [zbr p n] (zt2 (zcw n) (zms n)):=by
 by_cases hf:zpG n=true
 .have h:=(znv n).1 hf;have hsm:zbQ (zcw n).length:=by unfold zcw;rw[zet];decide
  have k:=zC2 p n (headN (zcw n)) (zcw n) (zbZ (zcw n)) (zFe p n h.1 h.2.1 h.2.2.1 zo) (zny 0 _ hsm)
   (fun h0=>by have:=zyf 0 (zcw n) hsm;rw[zil _ (zg5 h0)]at this;exact this) (zfG _ _) h
  have:zms n=(decide (zbZ (zcw n)=0)&&decide ((headN (zcw n)).pairs=n.pairs)):=by unfold zms;rw[hf,zCB9]
  grind
 .have h:¬(n.level<=12/\n.sib<2048/\n.way<=2/\n.pairs.length<=27):=fun h=>hf ((znv n).2 h);have hf:zpG n=false:=by simpa using hf
  have:zms n=false:=by unfold zms;rw[hf,zDZ9]
  rw[this];exact zFb p n h hs


def zbU(k:Nat)(l:LJ):List (LJ):=(List.range ((l.length+(k-1))/k)).map fun i=>(l.drop (k*i)).take k
variable (k:Nat)(l:LJ)
theorem zdT:(zbU k l).length=(l.length+(k-1))/k:=by simp[zbU]
theorem zjh(i:Nat)(h:i<(zbU k l).length):(zbU k l)[i]?=some ((l.drop (k*i)).take k):=by
 have:=zdT k l;simp[zbU,zGZ9 (show i<(l.length+(k-1))/k by omega)]
theorem zgD(f:Nat)(a b:LQ):Id0 (.fn f [.elem a,.elem b]):=.fn fun x hx=>by simp at hx;rcases hx with rfl|rfl<;>exact .elem _
@[reducible] def cv (x:Pr):PV:=.agg [uv x.1,iv x.2]
@[reducible] def csv (p:Nat) (l:LJ):PV:=.list p 2 (l.map cv)
theorem zwE(id p:Nat)(l:LJ)(hl:zbQ l.length)(P:Nat->LP)
  (hy:∀(i:Nat) (x:LJ),(zbU 18 l)[i]?=some x->FY ET id [psv p x] (P i) fun r H'=>r=true/\H'=P (i+1)) :
  FO ET 326 [.yield id,.elem [psv p l],.elem [iv 18]] (P 0) false fun e H'=>e=.ret (.tuple [])/\H'=P (zbU 18 l).length:=by
 refine zro (eG T326 func326) ?_;have hlen:(zbU 18 l).length=(l.length+(18-1))/18:=zdT _ _;refine zG ?_;refine ze (zbk (fun m s=>∃i:Nat,m=l.length-18*i/\i<=(zbU 18 l).length/\s.tm 0=.yield id/\s.tm 1=.elem [psv p l]/\s.tm 2=.elem [iv 18]/\s.tm 4=iv (18*i:Nat)/\s.df=[]/\s.H=P i) (n:=l.length) ?_ ?_)
 .exact⟨0,by simp[upd,zn]⟩
 .rintro m ⟨tm,df,H⟩ ⟨i,rfl,hi,h0,h1,h2,h4,rfl,rfl⟩;dsimp only at *
  refine zLh (zr4 h0 h1 h2 h4) ?_ ?_
  .intro hlt;have hlt:18*i<l.length:=ztd hlt;have hic:i<(zbU 18 l).length:=zo;refine zBb ?_;refine zBd ?_;have a1:(((18*i:Nat):Int)).toNat=18*i:=zo;have a2:min (18:Int) ((l.length-18*i:Nat):Int)=((min 18 (l.length-18*i):Nat):Int):=zo;have a3:(0:Int)<=((18*i:Nat):Int):=zo;have a4:18*i<=l.length:=zo;refine zdl ?_ (by simp(disch:=omega)only[go_sem,h1,h2,h4,a1,a2,a3,a4,zBJ9]<;>rfl);refine zb4 ?_;simp only[go_sem];obtain⟨n,hn⟩:∃n,n=min 18 (l.length-18*i):=⟨_,rfl⟩
   rw[<- hn];have b1:((18*i:Nat):Int)+(n:Nat)=((18*i+n:Nat):Int):=zo;have b2:18*i+n<=l.length:=zo;have b3:18*i<=18*i+n:=zo;have b4:0<l.length:=zo;have b5:((18*i:Nat):Int)+18=((18*(i+1):Nat):Int):=zo;have c1:List.drop (18*i) (List.take (18*i+n) (List.map pv l))=((l.drop (18*i)).take 18).map pv:=by
    rw[zCN9,zCA9,zDJ9,zDR9,hn];rw[<- (show (l.map pv).length=l.length from zAP9 ..),<- zBJ9,zGO9 (i:=18)]
   refine zBr ?_;refine zb2 (zr9 h0 h1 h2 h4 b1 b2 b3 b4 c1) ?_;refine zlT (id:=id) (vs:=[psv p ((l.drop (18*i)).take 18)]) rfl (by simp only[go_sem]) (FY.mono (hy i _ (zjh _ _ _ hic)) fun r H' hh=>?_);obtain⟨rfl,rfl⟩:=hh;refine zN ?_;refine zH ?_;refine zJF (zr3 h2 h4 b5) ?_;refine⟨_,?_,i+1,rfl,by omega,zu h0,zu h1,zu h2,zt,rfl,rfl⟩;omega
  .intro hlt;have hlt:¬18*i<l.length:=zfd hlt;have hic:i=(zbU 18 l).length:=zo;refine zfh rfl ⟨rfl,by rw[hic]⟩
theorem zCk(p:Nat)(l:LJ):FP ET 287 [psv p l,iv 18] (.ret (.fn 326 [.elem [psv p l],.elem [iv 18]])):=by
 refine zfp (eG T287 func287) ?_;refine zT ?_;refine zSk ?_;refine zO ?_;refine Frz.fnL ⟨.ptr (w:=psv p l) rfl (zAE9 _) rfl fun j x y hx hy=>?_,.ptr (w:=iv 18) rfl (zAE9 _) rfl fun j x y hx hy=>?_,trivial⟩
 .cases j with
  | zero=>simp[PV.cells]at hx hy;subst hx;subst hy;exact Frz.list _ _ _
  | succ j=>simp at hy
 .cases j with
  | zero=>simp[PV.cells]at hx hy;subst hx;subst hy;exact Frz.int _ _
  | succ j=>simp at hy


def zrh:zbS:=.region [⟨some 5,.mov,[.tmp 7],none⟩]
def zrW:zbS:=.block 1 (.region [⟨some 8,.load false 1,[.tmp 2],none⟩,⟨some 9,.mov,[.tmp 5],none⟩,⟨some 10,.bslice 87 1 1 [.nilsl] [(0,1)],[.tmp 9],none⟩,⟨some 11,.append 87 1 24,[.tmp 8,.tmp 10],none⟩,⟨none,.store 1,[.tmp 2,.tmp 11],none⟩])
def zgJ(p:Nat)(tm:Nat->PV)(C:List (LJ))(k:Nat):LP:=[.row 325 1 0 0 [.sl 1 k 0 k (2*k) 1],.row 87 1 k 0 ((C.take k).map (psv p)),.dfr false,.loop .ready .norm tm [7] zrh zrW 2]
variable {C:List (LJ)}(p:Nat)(l:LJ)
theorem zxp{p:Nat}:∀v∈(C.map (psv p)).flatMap PV.cells,Id0 v:=fun v hv=>by
 obtain⟨x,hx,hv⟩:=zAU9.1 hv;obtain⟨n,_,rfl⟩:=zAH9.1 hx;simp[PV.cells]at hv;subst hv;exact .list _ _ _
theorem zBW{p:Nat}{tm:Nat->PV}(hnr:∀i,tm i=.bad\/NR 4 (tm i))(k i:Nat)(o:zc)(ho:(zgJ p tm C k)[i]?=some o):NRO 4 o:=by
 match i with
 | 0=>cases ho;intro x hx;simp[PV.cells]at hx;subst hx;exact .sl _ _ _ _ _ zo
 | 1=>cases ho;exact zrS zxp
 | 2=>cases ho;trivial
 | 3=>cases ho;exact⟨by omega,hnr,trivial⟩
 | i+4=>simp[zgJ]at ho
theorem zwr(tm:Nat->PV)(h2:tm 2=.ptr 0 0 0 0 1)(hnr:∀i,tm i=.bad\/NR 4 (tm i))(C:List (LJ))(k:Nat)(x:LJ)(hx:C[k]?=some x)(hC:C.length<1000000):
  FY ET 3 [psv p x] (zgJ p tm C k) fun r H'=>r=true/\H'=zgJ p tm C (k+1):=by
 have hk:k<C.length:=(zAC9.1 hx).1;have hlt:(C.take k).length=k:=by simp;omega
 refine FY.gc (ziE (tm:=tm) (ps:=[7]) (aS:=zrh) (bo:=zrW) rfl rfl ?_);refine zae ?_;refine zfx ?_ (by simp(disch:=omega)only[go_sem,zgJ]<;>rfl);refine zcr ?_;refine⟨rfl,_,_,_,_,_,_,rfl,?_⟩;refine ze (zae ?_);have hb:(k+1)*25<=140737488355328:=zo;refine zKF (zr3 h2 hlt hb) ?_;have htk:(C.take k).map (psv p)++[psv p x]=(C.take (k+1)).map (psv p):=by
  rw[zBB9,hx];simp
 rw[htk];exact⟨rfl,.busy,.norm,tm,[7],zrh,zrW,2,rfl,zgJ p tm C (k+1),[zc.row 87 1 0 0 [psv p x]],⟨rfl,rfl,fun id o ho=>.inr (zBW hnr (k+1) id o ho)⟩,rfl,rfl⟩
theorem zz5(hl:l.length<1000000):FP ET 325 [.nilsl,.fn 326 [.elem [psv p l],.elem [iv 18]]] (.ret (.list 0 1 ((zbU 18 l).map (psv p)))):=by
 refine zfp (eG T325 func325) ?_;refine zG ?_;refine ze ?_;refine zhB 87 1 (id:=0) rfl ?_;simp only[lzy,zAG9,zAN9,zCE9,zAS9,zAV9];refine zit (g:=326) (cap:=[.elem [psv p l],.elem [iv 18]]) (b:=false) (by simp only[go_sem]) ?_;have hlen:=zdT 18 l;have hnr:∀i,(upd (upd (upd (zn [.nilsl,.fn 326 [.elem [psv p l],.elem [iv 18]]]) 2 (PV.ptr 0 0 0 0 1)) 4 .nilsl) 6 (.fn 326 [.elem [psv p l],.elem [iv 18]])) i=.bad\/NR 4 ((upd (upd (upd (zn [.nilsl,.fn 326 [.elem [psv p l],.elem [iv 18]]]) 2 (PV.ptr 0 0 0 0 1)) 4 .nilsl) 6 (.fn 326 [.elem [psv p l],.elem [iv 18]])) i) :=
  zfy (zfy (zfy (zsn fun v hv=>by simp at hv;rcases hv with rfl|rfl;exact .nilsl;exact(zgD _ _ _).nr) (.ptr _ _ _ _ zo)) .nilsl) (zgD _ _ _).nr
 have hP:=zwE 3 p l zo (zgJ p _ (zbU 18 l)) fun k x hk=>zwr p _ rfl hnr (zbU 18 l) k x hk zo;refine FO.mono (fun e H' he=>?_) hP;obtain⟨rfl,rfl⟩:=he;refine⟨⟨_,rfl⟩,.ready,.norm,_,_,_,_,_,by simp,rfl,?_⟩;refine zHW (zae ?_);refine zfx ?_ (by simp(disch:=omega)only[go_sem,zgJ]<;>rfl);refine zcd ?_;refine zbN ?_;refine zj6 (vs:=[.sl 1 (zbU 18 l).length 0 (zbU 18 l).length (2*(zbU 18 l).length) 1]) rfl rfl ?_;refine Frz.wh (e:=87) (z':=1) (G:=(zbU 18 l).length) (l:=(zbU 18 l).map (psv p)) ?_ rfl (by simp) (by simp) (fun v hv=>?_) zxp
 .grind
 .obtain⟨x,_,rfl⟩:=zAH9.1 hv;rfl
theorem ztW(hl:l.length<1000000):FP ET 286 [.fn 326 [.elem [psv p l],.elem [iv 18]]] (.ret (.list 0 1 ((zbU 18 l).map (psv p)))):=by
 refine zfp (eG T286 func286) ?_;refine zGI ?_;refine zcp (zz5 p l hl) ?_;refine zP ?_;exact Frz.list _ _ _
theorem zz3(hl:l.length<1000000):FP ET 226 [psv p l,iv 18] (.ret (.list 0 1 ((zbU 18 l).map (psv p)))):=by
 refine zfp (eG T226 func226) ?_;refine zGI ?_;refine zcp (zCk p l) ?_;refine zfx ?_;refine zcp (ztW p l hl) ?_;refine zP ?_;exact Frz.list _ _ _


theorem zwM(id p:Nat)(l:LJ)(hl:zbQ l.length)(P:Nat->LP)
  (hy:∀(i:Nat) (x:LJ),(zbU 19 l)[i]?=some x->FY ET id [csv p x] (P i) fun r H'=>r=true/\H'=P (i+1)) :
  FO ET 328 [.yield id,.elem [csv p l],.elem [iv 19]] (P 0) false fun e H'=>e=.ret (.tuple [])/\H'=P (zbU 19 l).length:=by
 refine zro (eG T328 func328) ?_;have hlen:(zbU 19 l).length=(l.length+(19-1))/19:=zdT _ _;refine zG ?_;refine ze (zbk (fun m s=>∃i:Nat,m=l.length-19*i/\i<=(zbU 19 l).length/\s.tm 0=.yield id/\s.tm 1=.elem [csv p l]/\s.tm 2=.elem [iv 19]/\s.tm 4=iv (19*i:Nat)/\s.df=[]/\s.H=P i) (n:=l.length) ?_ ?_)
 .exact⟨0,by simp[upd,zn]⟩
 .rintro m ⟨tm,df,H⟩ ⟨i,rfl,hi,h0,h1,h2,h4,rfl,rfl⟩;dsimp only at *
  refine zLh (zr4 h0 h1 h2 h4) ?_ ?_
  .intro hlt;have hlt:19*i<l.length:=ztd hlt;have hic:i<(zbU 19 l).length:=zo;refine zBb ?_;refine zBd ?_;have a1:(((19*i:Nat):Int)).toNat=19*i:=zo;have a2:min (19:Int) ((l.length-19*i:Nat):Int)=((min 19 (l.length-19*i):Nat):Int):=zo;have a3:(0:Int)<=((19*i:Nat):Int):=zo;have a4:19*i<=l.length:=zo;refine zdl ?_ (by simp(disch:=omega)only[go_sem,h1,h2,h4,a1,a2,a3,a4,zBJ9]<;>rfl);refine zb4 ?_;simp only[go_sem];obtain⟨n,hn⟩:∃n,n=min 19 (l.length-19*i):=⟨_,rfl⟩
   rw[<- hn];have b1:((19*i:Nat):Int)+(n:Nat)=((19*i+n:Nat):Int):=zo;have b2:19*i+n<=l.length:=zo;have b3:19*i<=19*i+n:=zo;have b4:0<l.length:=zo;have b5:((19*i:Nat):Int)+19=((19*(i+1):Nat):Int):=zo;have c1:List.drop (19*i) (List.take (19*i+n) (List.map cv l))=((l.drop (19*i)).take 19).map cv:=by
    rw[zCN9,zCA9,zDJ9,zDR9,hn];rw[<- (show (l.map cv).length=l.length from zAP9 ..),<- zBJ9,zGO9 (i:=19)]
   refine zBr ?_;refine zb2 (zr9 h0 h1 h2 h4 b1 b2 b3 b4 c1) ?_;refine zlT (id:=id) (vs:=[csv p ((l.drop (19*i)).take 19)]) rfl (by simp only[go_sem]) (FY.mono (hy i _ (zjh _ _ _ hic)) fun r H' hh=>?_);obtain⟨rfl,rfl⟩:=hh;refine zN ?_;refine zH ?_;refine zJF (zr3 h2 h4 b5) ?_;refine⟨_,?_,i+1,rfl,by omega,zu h0,zu h1,zu h2,zt,rfl,rfl⟩;omega
  .intro hlt;have hlt:¬19*i<l.length:=zfd hlt;have hic:i=(zbU 19 l).length:=zo;refine zfh rfl ⟨rfl,by rw[hic]⟩
theorem zCg:FP ET 289 [csv p l,iv 19] (.ret (.fn 328 [.elem [csv p l],.elem [iv 19]])):=by
 refine zfp (eG T289 func289) ?_;refine zT ?_;refine zSk ?_;refine zO ?_;refine Frz.fnL ⟨.ptr (w:=csv p l) rfl (zAE9 _) rfl fun j x y hx hy=>?_,.ptr (w:=iv 19) rfl (zAE9 _) rfl fun j x y hx hy=>?_,trivial⟩
 .cases j with
  | zero=>simp[PV.cells]at hx hy;subst hx;subst hy;exact Frz.list _ _ _
  | succ j=>simp at hy
 .cases j with
  | zero=>simp[PV.cells]at hx hy;subst hx;subst hy;exact Frz.int _ _
  | succ j=>simp at hy
def zr0:zbS:=.region [⟨some 5,.mov,[.tmp 7],none⟩]
def zrq:zbS:=.block 1 (.region [⟨some 8,.load false 1,[.tmp 2],none⟩,⟨some 9,.mov,[.tmp 5],none⟩,⟨some 10,.bslice 262 1 1 [.nilsl] [(0,1)],[.tmp 9],none⟩,⟨some 11,.append 262 1 24,[.tmp 8,.tmp 10],none⟩,⟨none,.store 1,[.tmp 2,.tmp 11],none⟩])
def zgF(p:Nat)(tm:Nat->PV)(C:List (LJ))(k:Nat):LP:=[.row 328 1 0 0 [.sl 1 k 0 k (2*k) 1],.row 262 1 k 0 ((C.take k).map (csv p)),.dfr false,.loop .ready .norm tm [7] zr0 zrq 2]
variable {G:Nat}{L:LB}{e id p:Nat}
theorem zxy:∀v∈(C.map (csv p)).flatMap PV.cells,Id0 v:=fun v hv=>by
 obtain⟨x,hx,hv⟩:=zAU9.1 hv;obtain⟨n,_,rfl⟩:=zAH9.1 hx;simp[PV.cells]at hv;subst hv;exact .list _ _ _
theorem zCb{tm:Nat->PV}(hnr:∀i,tm i=.bad\/NR 4 (tm i))(k i:Nat)(o:zc)(ho:(zgF p tm C k)[i]?=some o):NRO 4 o:=by
 match i with
 | 0=>cases ho;intro x hx;simp[PV.cells]at hx;subst hx;exact .sl _ _ _ _ _ zo
 | 1=>cases ho;exact zrS zxy
 | 2=>cases ho;trivial
 | 3=>cases ho;exact⟨by omega,hnr,trivial⟩
 | i+4=>simp[zgF]at ho
theorem zwq(p:Nat)(tm:Nat->PV)(h2:tm 2=.ptr 0 0 0 0 1)(hnr:∀i,tm i=.bad\/NR 4 (tm i))(C:List (LJ))(k:Nat)(x:LJ)(hx:C[k]?=some x)(hC:C.length<1000000) :
  FY ET 3 [csv p x] (zgF p tm C k) fun r H'=>r=true/\H'=zgF p tm C (k+1):=by
 have hk:k<C.length:=(zAC9.1 hx).1;have hlt:(C.take k).length=k:=by simp;omega
 refine FY.gc (ziE (tm:=tm) (ps:=[7]) (aS:=zr0) (bo:=zrq) rfl rfl ?_);refine zae ?_;refine zfx ?_ (by simp(disch:=omega)only[go_sem,zgF]<;>rfl);refine zcr ?_;refine⟨rfl,_,_,_,_,_,_,rfl,?_⟩;refine ze (zae ?_);have hb:(k+1)*25<=140737488355328:=zo;refine zKF (zr3 h2 hlt hb) ?_;have htk:(C.take k).map (csv p)++[csv p x]=(C.take (k+1)).map (csv p):=by
  rw[zBB9,hx];simp
 rw[htk];exact⟨rfl,.busy,.norm,tm,[7],zr0,zrq,2,rfl,zgF p tm C (k+1),[zc.row 262 1 0 0 [csv p x]],⟨rfl,rfl,fun id o ho=>.inr (zCb hnr (k+1) id o ho)⟩,rfl,rfl⟩
theorem zB5(p:Nat)(l:LJ)(hl:l.length<1000000):FP ET 327 [.nilsl,.fn 328 [.elem [csv p l],.elem [iv 19]]] (.ret (.list 0 1 ((zbU 19 l).map (csv p)))):=by
 refine zfp (eG T327 func327) ?_;refine zG ?_;refine ze ?_;refine zhB 262 1 (id:=0) rfl ?_;simp only[lzy,zAG9,zAN9,zCE9,zAS9,zAV9];refine zit (g:=328) (cap:=[.elem [csv p l],.elem [iv 19]]) (b:=false) (by simp only[go_sem]) ?_;have hlen:=zdT 19 l;have hnr:∀i,(upd (upd (upd (zn [.nilsl,.fn 328 [.elem [csv p l],.elem [iv 19]]]) 2 (PV.ptr 0 0 0 0 1)) 4 .nilsl) 6 (.fn 328 [.elem [csv p l],.elem [iv 19]])) i=.bad\/NR 4 ((upd (upd (upd (zn [.nilsl,.fn 328 [.elem [csv p l],.elem [iv 19]]]) 2 (PV.ptr 0 0 0 0 1)) 4 .nilsl) 6 (.fn 328 [.elem [csv p l],.elem [iv 19]])) i) :=
  zfy (zfy (zfy (zsn fun v hv=>by simp at hv;rcases hv with rfl|rfl;exact .nilsl;exact(zgD _ _ _).nr) (.ptr _ _ _ _ zo)) .nilsl) (zgD _ _ _).nr
 have hP:=zwM 3 p l zo (zgF p _ (zbU 19 l)) fun k x hk=>zwq p _ rfl hnr (zbU 19 l) k x hk zo;refine FO.mono (fun e H' he=>?_) hP;obtain⟨rfl,rfl⟩:=he;refine⟨⟨_,rfl⟩,.ready,.norm,_,_,_,_,_,by simp,rfl,?_⟩;refine zHW (zae ?_);refine zfx ?_ (by simp(disch:=omega)only[go_sem,zgF]<;>rfl);refine zcd ?_;refine zbN ?_;refine zj6 (vs:=[.sl 1 (zbU 19 l).length 0 (zbU 19 l).length (2*(zbU 19 l).length) 1]) rfl rfl ?_;refine Frz.wh (e:=262) (z':=1) (G:=(zbU 19 l).length) (l:=(zbU 19 l).map (csv p)) ?_ rfl (by simp) (by simp) (fun v hv=>?_) zxy
 .grind
 .obtain⟨x,_,rfl⟩:=zAH9.1 hv;rfl
theorem ztU(p:Nat)(l:LJ)(hl:l.length<1000000):FP ET 288 [.fn 328 [.elem [csv p l],.elem [iv 19]]] (.ret (.list 0 1 ((zbU 19 l).map (csv p)))):=by
 refine zfp (eG T288 func288) ?_;refine zGI ?_;refine zcp (zB5 p l hl) ?_;refine zP ?_;exact Frz.list _ _ _
theorem zAh(p:Nat)(l:LJ)(hl:l.length<1000000):FP ET 228 [csv p l,iv 19] (.ret (.list 0 1 ((zbU 19 l).map (csv p)))):=by
 refine zfp (eG T228 func228) ?_;refine zGI ?_;refine zcp (zCg p l) ?_;refine zfx ?_;refine zcp (ztU p l hl) ?_;refine zP ?_;exact Frz.list _ _ _


def zdm(l:LJ)(i:Nat):zq:=⟨0,0,if 0<i then(l.getD (18*i) (0,0)).1 else 0,9223372036854775808,0,(l.drop (18*i)).take 18⟩
def zcA(l:LJ):LB:=if l=[]then[⟨0,0,0,9223372036854775808,0,[]⟩]else(List.range (zbU 18 l).length).map (zdm l)
theorem zht:∀v∈(L.map (zbr p)).flatMap PV.cells,Id0 v:=fun v hv=>by
 obtain⟨x,hx,hv⟩:=zAU9.1 hv;obtain⟨n,_,rfl⟩:=zAH9.1 hx;exact zuW p n v hv
theorem zz9{n:Nat}(hH:H[id]?=some (.row e 6 G 0 (L.map (zbr p))))(hn:n=L.length):Frz H 0 (.sl id G 0 n (2*n) 6) (.list 0 6 (L.map (zbr p))) :=
 Frz.wh hH rfl (by simp[hn]) (by simp[hn]) zmm zht
theorem zz2(hH:H[id]?=some (.row e 6 G 0 [.agg [iv 0,iv 0,uv 0,uv 9223372036854775808,iv 0,.nilsl]])):Frz H 0 (.sl id G 0 1 2 6) (.list 0 6 [zbr p ⟨0,0,0,9223372036854775808,0,[]⟩]):=by
 refine .sl hH (zAJ9 _) (zAE9 _) (by simp) (by simp) rfl (fun v hv=>by simp at hv;subst hv;rfl) rfl fun i x y hx hy=>?_
 match i with
 | 0=>injection hx with hx;injection hy with hy;subst hx hy;exact .int _ _
 | 1=>injection hx with hx;injection hy with hy;subst hx hy;exact .int _ _
 | 2=>injection hx with hx;injection hy with hy;subst hx hy;exact .int _ _
 | 3=>injection hx with hx;injection hy with hy;subst hx hy;exact .int _ _
 | 4=>injection hx with hx;injection hy with hy;subst hx hy;exact .int _ _
 | 5=>injection hx with hx;injection hy with hy;subst hx hy;exact .nil _ _
 | i+6=>simp[PV.cells]at hx
theorem zBA(p:Nat)(l:LJ)(hl:l.length<1000000):FP ET 168 [psv p l] (.ret (.list 0 6 ((zcA l).map (zbr p)))):=by
 refine zfp (eG T168 func168) ?_;refine zGI ?_;refine zcp (zz3 p l hl) ?_;refine zN ?_;have hlen:=zdT 18 l;refine zcL 143 6 (i:=2) rfl ?_;simp only[lzy,zAN9,zAV9];refine ze (zbk (fun m s=>∃(i:Nat) (G:LP),m=(zbU 18 l).length-i/\i<=(zbU 18 l).length/\s.tm 2=.sl 0 i 0 i (2*i) 6/\s.tm 7=.list 0 1 ((zbU 18 l).map (psv p))/\s.tm 8=iv (zbU 18 l).length/\s.tm 9=iv i/\s.df=[]/\s.H=.row 143 6 i 0 (((List.range i).map (zdm l)).map (zbr p))::G) (n:=(zbU 18 l).length) ?_ ?_)
 .exact⟨0,[],rfl,by omega,zt,zt,zt,zt,rfl,rfl⟩
 .rintro m ⟨tm,df,H⟩ ⟨i,G,rfl,hi,h2,h7,h8,h9,rfl,rfl⟩;dsimp only at *
  refine zLh (zr4 h2 h7 h8 h9) ?_ ?_
  .intro hlt;have hlt:i<(zbU 18 l).length:=ztd hlt;have hci:=zjh 18 l i hlt;have hb:(i+1)*65<=140737488355328:=zo;have hil:18*i<l.length:=zo;have hc0:((l.drop (18*i)).take 18)[0]?=some (l.getD (18*i) (0,0)):=by
    rw[zBU9,if_pos zo,zCP9,zDC9,zAK9,zAA9 hil];rfl
   generalize hc:(l.drop (18*i)).take 18=c at hci hc0;have hrl:((List.range i).map (zdm l)).length=i:=by simp
   refine zBb ?_;refine zGF (zr4 h7 h8 h9 hci) ?_;have hrs:((List.range (i+1)).map (zdm l)).map (zbr p)=((List.range i).map (zdm l)).map (zbr p)++[zbr p (zdm l i)]:=by
    rw[zCJ9,zBE9,zBE9];rfl
   by_cases hi0:0<i
   .have g:(0:Int)<i:=zo;have hlf:zdm l i=⟨0,0,(l.getD (18*i) (0,0)).1,9223372036854775808,0,c⟩:=by unfold zdm;rw[if_pos hi0,hc]
    rw[hlf]at hrs;refine zfc ?_ ?_
    .intro _;refine zae ?_;refine zKF (zr4 h2 h7 h9 hc0) ?_;refine zGF (zr3 h2 hrl hb) ?_;refine zJF (zr3 h2 hrl hb) ?_;refine zJF h9 ?_;refine⟨_,?m,i+1,?G,rfl,hlt,zt,zu h7,zu h8,zu h9,zt,?H⟩
     case m=>omega
     case H=>(try dsimp only);rw[hrs];rfl
    .intro h;exact absurd g (of_decide_eq_false h)
   .obtain rfl:i=0:=zo;have hlf:zdm l 0=⟨0,0,0,9223372036854775808,0,c⟩:=by unfold zdm;rw[if_neg hi0,hc]
    rw[hlf]at hrs;refine zfc ?_ ?_
    .intro h;exact absurd h zy
    .intro _;refine zSk ?_;refine zGF (zr3 h2 hrl hb) ?_;refine zJF (zr3 h2 hrl hb) ?_;refine zJF h9 ?_;refine⟨_,?m2,0+1,?G2,rfl,hlt,zt,zu h7,zu h8,zu h9,zt,?H2⟩
     case m2=>omega
     case H2=>(try dsimp only);rw[hrs];rfl
  .intro hlt;have hlt:¬i<(zbU 18 l).length:=zfd hlt;obtain rfl:i=(zbU 18 l).length:=zo
   by_cases h0:(zbU 18 l).length=0
   .have g:((zbU 18 l).length:Int)=0:=zo;have hl0:l=[]:=zBZ9 zo;rw[h0]at h2;have hH:((List.range (zbU 18 l).length).map (zdm l)).map (zbr p)=[]:=by rw[h0];rfl
    rw[hH,h0];refine zGF h2 ?_;refine zfc ?_ ?_
    .intro _;refine zOF h2 ?_;have:zcA l=[⟨0,0,0,9223372036854775808,0,[]⟩]:=by unfold zcA;rw[if_pos hl0]
     rw[this];exact zz2 rfl
    .intro h;cases h
   .have g:¬((zbU 18 l).length:Int)=0:=zo;have hl0:¬l=[]:=fun h=>h0 (by grind);refine zGF (zr2 h2 g) ?_;refine zfc ?_ ?_
    .intro h;cases h
    .intro _;refine zSk ?_;refine zOF h2 ?_;have:zcA l=(List.range (zbU 18 l).length).map (zdm l):=by unfold zcA;rw[if_neg hl0]
     rw[this];exact zz9 rfl (by simp)


def zap(w:LN)(b:Nat):LN:=(w.take (64*b+64)).drop (64*b)
theorem znZ(p:Nat)(w:LN)(b:Nat)(hw:zbQ w.length)(hb:64*b+64<=w.length):FP ET 96 [wv p w,iv b] (.ret (wv p (zap w b))):=by
 refine zfp (eG T96 func96) ?_;refine zG ?_;have e1:(64:Int)*(b:Int)=((64*b:Nat):Int):=zo;have e2:((64*b:Nat):Int)+64=((64*b+64:Nat):Int):=zo;have e3:64*b<=64*b+64:=zo;have e4:0<w.length:=zo;have e5:List.drop (64*b) (List.take (64*b+64) (List.map uv w))=(zap w b).map uv:=by simp[zap,zCA9,zCN9]
 refine zOF (zr6 e1 e2 e3 e4 hb e5) ?_;exact Frz.list _ _ _
def zci(n:Nat)(a:Int):Bool:=decide (64<=n)&&decide (n%64=0)&&decide (n<=131072)&&decide (0<=a)&&decide (a<n)
theorem znN(p:Nat)(w:LN)(a:Int)(hw:zbQ w.length):FN ET 165 [wv p w,iv a] (if zci w.length a=true then .ret (.tuple [])else .panic (zck 2)):=by
 refine zfn (eG T165 func165) ?_ ?_
 .split
  .exact Lb.unit
  .exact .iface (.int _ _)
 refine zae ?_
 by_cases h1:64<=w.length
 rotate_left
 .have g1:¬(64:Int)<=w.length:=zo;refine zb2 g1 ?_;refine zcx (zdk 2) ?_;exact zcz (by simp[zci,h1])
 have g1:(64:Int)<=w.length:=zo
 by_cases h2:w.length%64=0
 rotate_left
 .have g2:¬(w.length:Int).tmod 64=0:=by rw[IntWalk.rem_in _ _ zo];omega
  refine zb2 (zr2 g1 g2) ?_;refine zcx (zdk 2) ?_;exact zcz (by simp[zci,h1,h2])
 have g2:(w.length:Int).tmod 64=0:=by rw[IntWalk.rem_in _ _ zo];omega
 by_cases h3:w.length<=131072
 rotate_left
 .have g3:¬(w.length:Int)<=131072:=zo;refine zb2 (zr3 g1 g2 g3) ?_;refine zcx (zdk 2) ?_;exact zcz (by simp[zci,h1,h2,h3])
 have g3:(w.length:Int)<=131072:=zo
 by_cases h4:(0:Int)<=a
 rotate_left
 .refine zb2 (zr4 g1 g2 g3 h4) ?_;refine zcx (zdk 2) ?_;exact zcz (by simp[zci,h1,h2,h3,h4])
 by_cases h5:a<(w.length:Int)
 rotate_left
 .refine zb2 (zr5 g1 g2 g3 h4 h5) ?_;refine zcx (zdk 2) ?_;exact zcz (by simp[zci,h1,h2,h3,h4,h5])
 refine zb2 (zr5 g1 g2 g3 h4 h5) ?_;refine zca (zek 2) ?_;refine zfx ?_;have:zci w.length a=true:=by simp[zci,h1,h2,h3,h4,h5]
 rw[if_pos this];exact zi3 (zfh rfl (Frz.tL trivial))


section
variable {α:Type}(G l m n:List α)(x y z:α)
theorem gm0:(G++x::l)[G.length]?=some x:=by simp
theorem gm1:(G++x::l++m)[G.length]?=some x:=by simp
theorem gm2:(G++x::l++m++n)[G.length]?=some x:=by simp
theorem hm0:(G++x::y::l)[G.length+1]?=some y:=by grind
theorem hm1:(G++x::y::l++m)[G.length+1]?=some y:=by grind
theorem hm2:(G++x::y::l++m++n)[G.length+1]?=some y:=by simp_all
theorem sm0:(G++x::l).set G.length z=G++z::l:=by grind
theorem sm1:(G++x::l++m).set G.length z=G++z::l++m:=by grind
theorem sm2:(G++x::l++m++n).set G.length z=G++z::l++m++n:=by grind
theorem tm0:(G++x::y::l).set (G.length+1) z=G++x::z::l:=by simp_all
theorem tm1:(G++x::y::l++m).set (G.length+1) z=G++x::z::l++m:=by simp_all
theorem tm2:(G++x::y::l++m++n).set (G.length+1) z=G++x::z::l++m++n:=by simp_all
end
def zdK(lv:Nat)(ks:LJ)(i:Nat):zq:=⟨lv,0,(ks.getD (19*i) (0,0)).1,(ks.getD (19*i) (0,0)).2,0,((ks.drop (19*i)).take 19).drop 1⟩
def zc5(lv:Nat)(ks:LJ):LB:=(List.range (zbU 19 ks).length).map (zdK lv ks)
@[reducible] def zGL (n:zq) (id k:Nat):PV:=.agg [iv n.level,iv n.sib,uv n.low,uv n.left,iv n.way,.sl id k 0 k (2 * k) 2]
variable {lab:Nat}(p q:Nat)
theorem LF.append:∀{a b c d:LQ},LF H lab a b->LF H lab c d->LF H lab (a++c) (b++d)
 | [],[],_,_,_,h=>h
 | _::_,_::_,_,_,h,k=>⟨h.1,LF.append h.2 k⟩
theorem LF.get:∀{a b:LQ} {i:Nat} {x y:PV},LF H lab a b->a[i]?=some x->b[i]?=some y->Frz H lab x y
 | [],_,_,_,_,_,hx,_=>by simp at hx
 | _::_,[],_,_,_,h,_,_=>h.elim
 | _::_,_::_,0,_,_,h,hx,hy=>by injection hx with hx;injection hy with hy;subst hx hy;exact h.1
 | _::_,_::_,i+1,_,_,h,hx,hy=>LF.get h.2 hx hy
theorem zy7:∀{a b:LQ},LF H lab a b->a.length=b.length
 | [],[],_=>rfl
 | _::_,_::_,h=>by simp[zy7 h.2]
theorem LF.flat{α:Type}{f:α->PV}:∀{vs:LQ} {L:List α},vs.length=L.length->(∀(q:Nat) (n:α),L[q]?=some n->∃v,vs[q]?=some v/\LF H lab v.cells (f n).cells)->LF H lab (vs.flatMap PV.cells) ((L.map f).flatMap PV.cells)
 | [],[],_,_=>trivial
 | v::vs,n::L,hl,h=>by
  have h0:=h 0 n rfl;obtain⟨v',e1,e2⟩:=h0
  cases e1
  exact LF.append e2 (LF.flat (by grind) fun q m hm=>h (q+1) m hm)
 | [],_::_,hl,_=>by simp at hl
 | _::_,[],hl,_=>by simp at hl
theorem zFY{id e G k:Nat}{vs:LQ}{L:LB}(hH:H[id]?=some (.row e 6 G 0 vs))(hl:vs.length=L.length/\k=L.length)(hv:∀(q:Nat) (n:zq),L[q]?=some n->∃i g,vs[q]?=some (zGL n (i+1) g)/\H[i+1]?=some (.row 92 2 g 0 (n.pairs.map pv))/\g=n.pairs.length):Frz H 0 (.sl id G 0 k (2*k) 6) (.list 0 6 (L.map (zbr 0))):=by
 have hf:LF H 0 (vs.flatMap PV.cells) ((L.map (zbr 0)).flatMap PV.cells):=LF.flat hl.1 fun q n hn=>by
  obtain⟨i,g,e1,e2,e3⟩:=hv q n hn;refine⟨_,e1,.int _ _,.int _ _,.int _ _,.int _ _,.int _ _,?_,trivial⟩;exact Frz.wh e2 rfl (by simp[e3]) (by simp[e3]) zmm zgE
 obtain⟨hl,rfl⟩:=hl;have ht:(vs.drop 0).take L.length=vs:=by rw[zER9,<- hl,zBF9]
 refine .sl hH (zAJ9 _) (zAE9 _) zo (zAE9 _) (by simp) zmm ?_ ?_
 .rw[ht];exact zy7 hf
 .rw[ht];exact fun i x y hx hy=>hf.get hx hy
theorem zDS(lv:Nat)(ks:LJ)(hl:ks.length<1000000)(hb:∀x∈ks,x.2<2048):FP ET 170 [csv p ks,iv lv] (.ret (.list 0 6 ((zc5 lv ks).map (zbr 0)))):=by
 refine zfp (eG T170 func170) ?_;refine zGI ?_;refine zcp (zAh p ks hl) ?_;refine zN ?_;have hlen:=zdT 19 ks;refine zcL 143 6 (i:=4) rfl ?_;simp only[lzy,zAN9,zAV9];refine ze (zbk (fun m s=>∃(i:Nat) (vs:LQ) (G:LP),m=(zbU 19 ks).length-i/\i<=(zbU 19 ks).length/\vs.length=i/\(∀j,j<i->∃id,vs[j]?=some (zGL (zdK lv ks j) (id+1) (zdK lv ks j).pairs.length)/\G[id]?=some (.row 92 2 (zdK lv ks j).pairs.length 0 ((zdK lv ks j).pairs.map pv)))/\s.tm 1=iv lv/\s.tm 4=.sl 0 i 0 i (2*i) 6/\s.tm 11=.list 0 1 ((zbU 19 ks).map (csv p))/\s.tm 12=iv (zbU 19 ks).length/\s.tm 13=iv i/\s.df=[]/\s.H=.row 143 6 i 0 vs::G) (n:=(zbU 19 ks).length) ?_ ?_)
 .exact⟨0,[],[],rfl,by omega,rfl,(fun j hj=>by omega),zt,zt,zt,zt,zt,rfl,rfl⟩
 .rintro m ⟨tm,df,H⟩ ⟨i,vs,G,rfl,hi,hvl,hvs,h1,h4,h11,h12,h13,rfl,rfl⟩;dsimp only at *
  refine zLh (zr5 h1 h4 h11 h12 h13) ?_ ?_
  .intro hlt;have hlt:i<(zbU 19 ks).length:=ztd hlt;have hci:=zjh 19 ks i hlt;have hil:19*i<ks.length:=zo;have hc0:((ks.drop (19*i)).take 19)[0]?=some (ks.getD (19*i) (0,0)):=by
    rw[zBU9,if_pos zo,zCP9,zDC9,zAK9,zAA9 hil];rfl
   have hx2:(ks.getD (19*i) (0,0)).2<2048:=by
    rw[zAK9,zAA9 hil];exact hb _ (zBK9 hil)
   have hcm:∀x∈(ks.drop (19*i)).take 19,x.2<2048:=fun x hx=>hb x (zBX9 (zBP9 hx));have hcl:((ks.drop (19*i)).take 19).length<=19:=by simp;omega
   obtain⟨nd,hnd⟩:∃nd,nd=zdK lv ks i:=⟨_,rfl⟩
   have hnd2:nd=⟨lv,0,(ks.getD (19*i) (0,0)).1,(ks.getD (19*i) (0,0)).2,0,((ks.drop (19*i)).take 19).drop 1⟩:=hnd;generalize (ks.drop (19*i)).take 19=c at hci hc0 hcm hcl hnd2;generalize ks.getD (19*i) (0,0)=c0 at hc0 hx2 hnd2;refine zBb ?_;refine zGF (zr3 h11 h13 hci) ?_;refine zBd ?_;refine zcs (zr2 h1 hc0) ?_;refine zQF h1 ?_;have hcd:List.drop 1 (List.map cv c)=(c.drop 1).map cv:=by simp
   have hcp:1<=c.length:=by have:=(zAC9.1 hc0).1;omega
   refine zGF (zr2 hcd hcp) ?_;refine zfF 92 2 (id:=G.length+1) (v:=.agg [iv lv,iv 0,uv c0.1,uv c0.2,iv 0,.nilsl]) (v':=.agg [iv lv,iv 0,uv c0.1,uv c0.2,iv 0,.sl (G.length+1+1) 0 0 0 0 2]) (e0:=143) (z0:=6) (G:=0) (M:=0) (by grind) rfl (fun k x y hx hy=>?_) ?_
   .match k with
    | 0=>injection hx with hx;injection hy with hy;grind
    | 1=>injection hx with hx;injection hy with hy;grind
    | 2=>injection hx with hx;injection hy with hy;grind
    | 3=>injection hx with hx;injection hy with hy;grind
    | 4=>injection hx with hx;injection hy with hy;grind
    | 5=>injection hx with hx;injection hy with hy;subst hx hy;exact .inr ⟨rfl,by simp[lzy]⟩
    | k+6=>simp[PV.cells]at hx
   simp only[zCR9,zb,zAS9,zAD9,zAV9];generalize hD:c.drop 1=D at *
   have hDl:D.length<=19:=by rw[<- hD];simp;omega
   have hDm:∀x∈D,x.2<2048:=fun x hx=>hcm x (by grind);refine ze (zbk (fun m s=>∃(j:Nat) (G2:LP),m=D.length-j/\j<=D.length/\s.tm 1=iv lv/\s.tm 4=.sl 0 i 0 i (2*i) 6/\s.tm 11=.list 0 1 ((zbU 19 ks).map (csv p))/\s.tm 12=iv (zbU 19 ks).length/\s.tm 13=iv i/\s.tm 7=.ptr (G.length+1) 0 0 0 6/\s.tm 29=csv p D/\s.tm 30=iv D.length/\s.tm 31=iv j/\s.df=[] /\
    s.H=.row 143 6 i 0 vs::(G++.row 143 6 0 0 [.agg [iv lv,iv 0,uv c0.1,uv c0.2,iv 0,.sl (G.length+1+1) j 0 j (2*j) 2]]::.row 92 2 j 0 ((D.take j).map pv)::G2)) (n:=D.length) ?_ ?_)
   .exact⟨0,[],rfl,by omega,zu h1,zu h4,zu h11,zu h12,zu h13,zt,zt,zt,zt,rfl,rfl⟩
   .clear h1 h4 h11 h12 h13;rintro m ⟨tm,df,H⟩ ⟨j,G2,rfl,hj,h1,h4,h11,h12,h13,h7,h29,h30,h31,rfl,rfl⟩;dsimp only at *
    refine zLh (zr3 h29 h30 h31) ?_ ?_
    .intro hlt;have hlt:j<D.length:=ztd hlt;have hy2:D[j].2<2048:=hDm _ (zBK9 hlt);have hbb:(j+1)*17<=140737488355328:=zo;have htl:(D.take j).length=j:=by simp;omega
     refine zBb ?_;refine zGF (zr3 h29 h31 (zAA9 hlt)) ?_;refine zB ?_;refine zrg ?_ (by simp(disch:=omega)only[go_sem,h7,gm0,gm1,gm2,hm2,sm2,tm2,htl,hbb]<;>rfl);refine zcr ?_;refine zJF h31 ?_;have htk:(D.take j).map pv++[PV.agg [uv D[j].1,uv D[j].2]]=(D.take (j+1)).map pv:=by
      rw[zGL9 hlt,zBE9];rfl
     refine⟨_,?m,j+1,?G,rfl,hlt,zu h1,zu h4,zu h11,zu h12,zu h13,zu h7,zu h29,zu h30,zu h31,zt,?H⟩
     case m=>omega
     case H=>(try dsimp only);rw[<- htk];simp only[zAD9,zAS9];rfl
    .intro hlt2;have hlt2:¬j<D.length:=zfd hlt2;obtain rfl:j=D.length:=zo;rw[zBF9];have hbb:(i+1)*65<=140737488355328:=zo;refine zB ?_;refine zrg ?_ (by simp(disch:=omega)only[go_sem,h7,h4,gm0,hvl,hbb]<;>rfl);refine zcr ?_;refine zJF h13 ?_;refine⟨_,?m2,i+1,?V2,?G2,rfl,hlt,?L2,?F2,zu h1,zt,zu h11,zu h12,zu h13,zt,?H2⟩
     case H2=>rfl
     case m2=>omega
     case L2=>grind
     case F2 =>
      intro q hq
      by_cases hqi:q=i
      .refine⟨G.length+1,?_,?_⟩
       .rw[hqi,<- hnd,hnd2,zBC9 zo,hvl];simp
       .rw[hqi,<- hnd,hnd2,zAD9];exact hm0 ..
      .obtain⟨id,e1,e2⟩:=hvs q zo;refine⟨id,?_,?_⟩
       .rw[zAX9 zo];exact e1
       .rw[zAD9,zAX9 (zAC9.1 e2).1];exact e2
  .intro hlt;have hlt:¬i<(zbU 19 ks).length:=zfd hlt;obtain rfl:i=(zbU 19 ks).length:=zo;refine zOF h4 ?_;refine zFY (L:=zc5 lv ks) rfl ⟨by simp[zc5,hvl],by simp[zc5]⟩ fun q n hn=>?_;have hq:q<(zbU 19 ks).length:=by have:=(zAC9.1 hn).1;simpa[zc5]using this
   obtain⟨id,e1,e2⟩:=hvs q hq;have hnq:n=zdK lv ks q:=by
    simp[zc5,hq]at hn;exact hn.symm
   subst hnq;exact⟨_,_,e1,e2,rfl⟩


theorem zwV(a b:LJ)(ha:zbQ a.length)(hb:zbQ b.length):FR 196 [csv p a,csv q b] (.bool (decide (a=b))):=by
 refine zfn (eG T196 func196) (.bool _) ?_;refine zG ?_
 by_cases hl:a.length=b.length
 rotate_left
 .have g:¬(a.length:Int)=b.length:=zo;have hne:¬a=b:=fun h=>hl (by rw[h]);refine zfc ?_ ?_
  .intro _;refine zO ?_;exact zbp.bool (decide_eq_false hne).symm
  .intro h;simp[g]at h
 have g:(a.length:Int)=b.length:=zo;refine zfc ?_ ?_
 .intro h;simp[g]at h
 intro _;refine zSk ?_;refine zG ?_;refine ze (zbk (fun m s=>∃i:Nat,m=a.length-i/\i<=a.length/\decide (a=b)=decide (a.drop i=b.drop i)/\s.tm 0=csv p a/\s.tm 1=csv q b/\s.tm 12=iv a.length/\s.tm 13=iv i/\s.df=[]/\s.H=[]) (n:=a.length) ?_ ?_)
 .exact⟨0,by simp[upd,zn]⟩
 .rintro m ⟨tm,df,H⟩ ⟨i,rfl,hi,hd,h0,h1,h12,h13,rfl,rfl⟩;dsimp only at h0 h1 h12 h13;refine zLh (zr4 h0 h1 h12 h13) ?_ ?_
  .intro hlt;have hlt:i<a.length:=ztd hlt;have hltb:i<b.length:=zo;refine zBb ?_;refine zGF h13 ?_;refine zBd ?_;refine zdl ?_ (by simp(disch:=omega)only[go_sem,h0,h1,h13,zAA9 hlt,zAA9 hltb,zyE]<;>rfl);refine zb4 ?_;simp only[go_sem];have hda:a.drop i=a[i]::a.drop (i+1):=zAM9 hlt;have hdb:b.drop i=b[i]::b.drop (i+1):=zAM9 hltb;rw[hda,hdb]at hd;have hee:(decide (((a[i].1:Nat):Int)=(b[i].1:Nat))&&decide (((a[i].2:Nat):Int)=(b[i].2:Nat)))=decide (a[i]=b[i]):=by
    rw[<- Bool.decide_and]
    congr 1
    rw[Prod.ext_iff];simp only[Int.natCast_inj]
   rw[hee]
   by_cases hx:a[i]=b[i]
   .refine zfc ?_ ?_
    .rw[decide_eq_true hx];intro h;cases h
    .intro _;refine zr ?_;refine zJF h13 ?_;refine⟨_,?_,i+1,rfl,hlt,?_,zu h0,zu h1,zu h12,zu h13,zt,zt⟩
     .omega
     .rw[hd];simp only[hx,List.cons.injEq,true_and]
   .refine zfc ?_ ?_
    .intro _;refine zO ?_;exact zbp.bool (by rw[hd];simp only[List.cons.injEq,hx,false_and,decide_false,Bool.not_false])
    .rw[decide_eq_false hx];intro h;cases h
  .intro hlt;have hlt:¬i<a.length:=zfd hlt;obtain rfl:i=a.length:=zo;refine zO ?_;refine zbp.bool ?_;rw[hd,zBH9,hl,zBH9];rfl
def zcy(L:LB)(n:zq)(lv:Int):Bool:=match L.getLast? with
 | none=>decide (n.low=0)&&(decide (lv<0)||decide ((n.level:Int)=lv))
 | some z=>decide (z.low<n.low)&&decide (n.level=z.level)
@[reducible] def zb9 (p q:Nat) (bs:LN) (L:LB):PV:=.agg [.list p 1 (bs.map fun (b:Nat)=>iv (b:Int)),.list p 6 (L.map (zbr q))]
theorem zFK(q':Nat)(bs:LN)(L:LB)(n:zq)(lv:Int)(hl:zbQ L.length):FR 225 [zb9 p q bs L,zbr q' n,iv lv] (.bool (zcy L n lv)):=by
 obtain⟨nl,ns,nlo,nle,nw,np⟩:=n;refine zfn (eG T225 func225) (.bool _) ?_;refine zHW (zae ?_);refine zN ?_;refine zG ?_
 by_cases h0:L.length=0
 .have g0:(L.length:Int)=0:=zo;obtain rfl:L=[]:=zBZ9 h0;refine zfc ?_ ?_
  .intro _;refine zHW (zae ?_)
   by_cases h1:nlo=0
   .have g1:(nlo:Int)=0:=zo
    by_cases h2:lv<0
    .refine zPF (zr2 g1 h2) ?_;exact zbp.bool (by simp[zcy,h1,h2])
    .refine zPF (zr2 g1 h2) ?_;exact zbp.bool (by simp[zcy,h1,h2])
   .have g1:¬(nlo:Int)=0:=zo;refine zPF g1 ?_;exact zbp.bool (by simp[zcy,h1])
  .intro h;cases h
 .have g0:¬(L.length:Int)=0:=zo;refine zfc ?_ ?_
  .intro h;exact absurd (of_decide_eq_true h) g0
  .intro _;refine zSk ?_;obtain⟨z,hz⟩:∃z,L.getLast?=some z:=by
    cases hh:L.getLast? with
    | none=>rw[List.getLast?_eq_none_iff]at hh;subst hh;simp at h0
    | some z=>exact⟨z,rfl⟩
   have hz2:L[L.length-1]?=some z:=by rw[<- zCF9];exact hz
   have e1:(L.length:Int)-1=((L.length-1:Nat):Int):=zo;have hg:zcy L ⟨nl,ns,nlo,nle,nw,np⟩ lv=(decide (z.low<nlo)&&decide (nl=z.level)):=by unfold zcy;rw[hz]
   rw[hg];obtain⟨zl,zs,zlo,zle,zw,zp⟩:=z;refine zGF (zr2 e1 hz2) ?_;refine zae ?_
   by_cases h1:zlo<nlo
   .have g1:(zlo:Int)<nlo:=zo;refine zPF g1 ?_;exact zbp.bool (by simp[h1];try omega)
   .have g1:¬(zlo:Int)<nlo:=zo;refine zPF g1 ?_;exact zbp.bool (by simp[h1])


def zeI(z:Option zq)(x:Pr):Bool:=match z with
 | some z=>!decide (z.low<=x.1)
 | none=>true
def levP:LB->LJ
 | []=>[]
 | n::M=>n.pairs.filter (zeI M.head?)++levP M
theorem zts(L:LB)(i:Nat)(h:i<L.length):levP (L.drop i)=L[i].pairs.filter (zeI L[i+1]?)++levP (L.drop (i+1)):=by
 rw[zAM9 h,levP,List.head?_drop]
theorem zmh:∀(a:LJ) (x:Pr),zbV (a++[x])=(zbV a&&(match a.getLast? with|some y=>decide (y.1<x.1)|none=>true))
 | [],_=>rfl
 | [a],x=>by simp[zbV]
 | a::b::l,x=>by
  have:=zmh (b::l) x;rw[zAS9,zAS9,zbV,<- zAS9,this,zbV,zEP9,Bool.and_assoc]
theorem zlG:∀(a b:LJ),zbV (a++b)=true->zbV a=true
 | [],_,_=>rfl
 | [_],_,_=>rfl
 | a::c::l,b,h=>by
  rw[zAS9,zAS9,zbV,<- zAS9,zAO9]at h;rw[zbV,h.1,zCB9];exact zlG (c::l) b h.2
def zic(L:LB):FE:=if zbV (levP L)=true then .ret (.tuple [psv 0 (levP L),.bool true])else .ret (.tuple [psv 0 [],.bool false])
theorem zEx{H:LP}{L:LB}{acc:LJ}{x:Pr}{r:LJ}(hall:levP L=acc++x::r)(hx:∃y,acc.getLast?=some y/\¬y.1<x.1):zbp H 0 (.ret (.tuple [.nilsl,.bool false])) (zic L):=by
 have:zbV (levP L)=false:=by
  cases h:zbV (levP L)with
  | false=>rfl
  | true =>
   rw[hall,<- List.singleton_append,<- zAD9]at h;have h2:=zlG _ _ h;obtain⟨y,e1,e2⟩:=hx;rw[zmh,e1]at h2
   grind
 unfold zic;rw[this];exact zLF
def ze1(acc:LJ)(x:Pr):Bool:=match acc.getLast? with
 | some y=>decide (x.1<=y.1)
 | none=>false
variable {acc:LJ}{x:Pr}(a:Pr)(n:zq)(p:Nat)(l:LJ)
theorem zpI(h:ze1 acc x=true):∃y,acc.getLast?=some y/\¬y.1<x.1:=by
 unfold ze1 at h
 grind
theorem zut(h:zbV acc=true)(hb:ze1 acc x=false):zbV (acc++[x])=true:=by
 rw[zmh,h,zCB9];unfold ze1 at hb
 grind
theorem zkX(q:Nat)(bs:LN)(L:LB)(hl:L.length<1000000)(hp:∀n∈L,n.pairs.length<=28)(hall:(levP L).length<1000000):FN ET 109 [zb9 p q bs L] (zic L):=by
 refine zfn (eG T109 func109) ?_ ?_
 .unfold zic;split
  .exact Lb.two (Lb.pvs _) (.bool _)
  .exact Lb.two (Lb.pvs _) (.bool _)
 refine zHW (zae ?_);refine zN ?_;refine zG ?_;refine zcL 92 2 (i:=2) rfl ?_;simp only[lzy,zAG9,zAN9,zAS9,zAV9];refine ze (zbk (fun m s=>∃(i:Nat) (acc:LJ) (G:LP),m=L.length-i/\i<=L.length/\levP L=acc++levP (L.drop i)/\zbV acc=true/\s.tm 1=.ptr 0 0 0 0 2/\s.tm 2=.sl 1 acc.length 0 acc.length (2*acc.length) 2/\s.tm 10=.list p 6 (L.map (zbr q))/\s.tm 11=iv L.length/\s.tm 12=iv i/\s.df=[]/\s.H=.row 195 2 0 0 [zb9 p q bs L]::.row 92 2 acc.length 0 (acc.map pv)::G) (n:=L.length) ?_ ?_)
 .exact⟨0,[],[],rfl,by omega,rfl,rfl,zt,zt,zt,zt,zt,rfl,rfl⟩
 .rintro m ⟨tm,df,H⟩ ⟨i,acc,G,rfl,hi,hac,hri,h1,h2,h10,h11,h12,rfl,rfl⟩;dsimp only at *
  refine zLh (zr5 h1 h2 h10 h11 h12) ?_ ?_
  .intro hlt;have hlt:i<L.length:=ztd hlt;have hLi:=zAA9 hlt;rw[zts L i hlt]at hac;have hn28:=hp _ (zBK9 hlt);generalize L[i]=n at *
   refine zBb ?_;refine zGF (zr3 h10 h12 hLi) ?_;generalize hR:levP (List.drop (i+1) L)=R at hac;refine ze (zbk (fun m s=>∃(j:Nat) (acc:LJ) (G:LP),m=n.pairs.length-j/\j<=n.pairs.length/\levP L=acc++((n.pairs.drop j).filter (zeI L[i+1]?)++R)/\zbV acc=true/\s.tm 1=.ptr 0 0 0 0 2/\s.tm 2=.sl 1 acc.length 0 acc.length (2*acc.length) 2/\s.tm 4=iv i/\s.tm 10=.list p 6 (L.map (zbr q))/\s.tm 11=iv L.length/\s.tm 12=iv i/\s.tm 18=psv q n.pairs/\s.tm 19=iv n.pairs.length/\s.tm 20=iv j/\s.df=[]/\s.H=.row 195 2 0 0 [zb9 p q bs L]::.row 92 2 acc.length 0 (acc.map pv)::G) (n:=n.pairs.length) ?_ ?_)
   .exact⟨0,acc,_,rfl,by omega,hac,hri,zu h1,zu h2,zt,zu h10,zu h11,zu h12,zt,zt,zt,rfl,rfl⟩
   .clear h1 h2 h10 h11 h12 hac hri;rintro m ⟨tm,df,H⟩ ⟨j,acc,G,rfl,hj,hac,hri,h1,h2,h4,h10,h11,h12,h18,h19,h20,rfl,rfl⟩;dsimp only at *
    refine zLh (zr3 h18 h19 h20) ?_ ?_
    .intro hltj;have hltj:j<n.pairs.length:=ztd hltj;have hxj:=zAA9 hltj;rw[zAM9 hltj,zGM9]at hac;generalize n.pairs[j]=x at *
     refine zBb ?_;refine zGF (zr3 h18 h20 hxj) ?_;refine zB ?_;refine zcJ (Q:=fun y s'=>y=.norm/\s'.tm 1=.ptr 0 0 0 0 2/\s'.tm 2=.sl 1 acc.length 0 acc.length (2*acc.length) 2/\s'.tm 4=iv i/\s'.tm 10=.list p 6 (L.map (zbr q))/\s'.tm 11=iv L.length/\s'.tm 12=iv i/\s'.tm 18=psv q n.pairs/\s'.tm 19=iv n.pairs.length/\s'.tm 20=iv j/\s'.tm 41=.bool (!zeI L[i+1]? x)/\s'.tm 7=.ptr (G.length+1+1) 0 0 0 2/\s'.df=[]/\s'.H=.row 195 2 0 0 [zb9 p q bs L]::.row 92 2 acc.length 0 (acc.map pv)::(G++[.row 92 2 0 0 [pv x]])) (zaB ?_) ?_
     .have e1:((i:Int)+1)=((i+1:Nat):Int):=zo
      by_cases hi1:i+1<L.length
      .have g1:((i+1:Nat):Int)<(L.length:Nat):=zo;have hz:=zAA9 hi1;rw[hz];generalize L[i+1]=z at *
       refine zQF (zr5 h1 h4 e1 g1 hz) ?_;exact⟨h1,h2,h4,h10,h11,h12,h18,h19,h20,by simp[zeI]⟩
      .have g1:¬((i+1:Nat):Int)<(L.length:Nat):=zo;have hz:L[i+1]?=none:=zBL9 zo;rw[hz];refine zQF (zr5 h1 h4 e1 g1 hz) ?_;exact⟨h1,h2,h4,h10,h11,h12,h18,h19,h20,by simp[zeI]⟩
     .clear h1 h2 h4 h10 h11 h12 h18 h19 h20;rintro y ⟨tm,df,H⟩ ⟨rfl,h1,h2,h4,h10,h11,h12,h18,h19,h20,h41,h7,rfl,rfl⟩;dsimp only at *
      by_cases hk:zeI L[i+1]? x=true
      rotate_left
      .rw[if_neg hk]at hac;have hk:zeI L[i+1]? x=false:=by simpa using hk
       refine zIe h41 ?_ ?_
       .intro _;refine zh9 ?_;refine zJF h20 ?_;refine⟨_,?m1,j+1,acc,_,rfl,hltj,hac,hri,zu h1,zu h2,zu h4,zu h10,zu h11,zu h12,zu h18,zu h19,zu h20,rfl,rfl⟩;omega
       .rw[hk];intro h;cases h
      rw[if_pos hk]at hac;refine zIe h41 ?_ ?_
      .rw[hk];intro h;cases h
      intro _;refine zSk ?_;refine zGF h2 ?_;have hal:acc.length<1000000:=by have:=congrArg List.length hac;simp only[zAB9]at this;omega
      have hH:∀G2:LP,True:=fun _=>trivial;refine zcJ (Q:=fun y s'=>y=.norm/\s'.tm 1=.ptr 0 0 0 0 2/\s'.tm 2=.sl 1 acc.length 0 acc.length (2*acc.length) 2/\s'.tm 4=iv i/\s'.tm 10=.list p 6 (L.map (zbr q))/\s'.tm 11=iv L.length/\s'.tm 12=iv i/\s'.tm 18=psv q n.pairs/\s'.tm 19=iv n.pairs.length/\s'.tm 20=iv j/\s'.tm 56=.bool (ze1 acc x)/\s'.tm 7=.ptr (G.length+1+1) 0 0 0 2/\s'.df=[]/\s'.H=.row 195 2 0 0 [zb9 p q bs L]::.row 92 2 acc.length 0 (acc.map pv)::(G++[.row 92 2 0 0 [pv x]])) (zaB ?_) ?_
      .by_cases ha0:acc.length=0
       .have g1:¬(0:Int)<(acc.length:Nat):=zo;refine zQF (zr2 h2 g1) ?_;obtain rfl:acc=[]:=zBZ9 ha0;exact⟨h1,h2,h4,h10,h11,h12,h18,h19,h20,rfl,h7⟩
       .have g1:(0:Int)<(acc.length:Nat):=zo;have e1:(acc.length:Int)-1=((acc.length-1:Nat):Int):=zo;have e2:acc.length-1<acc.length:=zo;obtain⟨y,hy⟩:∃y,acc.getLast?=some y:=by
         grind
        have hy2:acc[acc.length-1]?=some y:=by rw[<- zCF9];exact hy
        refine zQF (zr6 h2 h7 g1 e1 e2 hy2) ?_;exact⟨h1,h2,h4,h10,h11,h12,h18,h19,h20,by simp[ze1,hy],h7⟩
      .clear h1 h2 h4 h10 h11 h12 h18 h19 h20 h41 h7;rintro y ⟨tm,df,H⟩ ⟨rfl,h1,h2,h4,h10,h11,h12,h18,h19,h20,h56,h7,rfl,rfl⟩;dsimp only at *
       by_cases hk2:ze1 acc x=true
       .refine zIe h56 ?_ ?_
        .intro _;refine zO ?_;exact zEx hac (zpI hk2)
        .rw[hk2];intro h;cases h
       have hk2:ze1 acc x=false:=by simpa using hk2
       refine zIe h56 ?_ ?_
       .rw[hk2];intro h;cases h
       intro _;refine zr ?_;have hbb:(acc.length+1)*17<=140737488355328:=zo;refine zJF (zr3 h2 h7 hbb) ?_;refine zJF h20 ?_;refine⟨_,?m3,j+1,acc++[x],?G3,rfl,hltj,by grind,zut hri hk2,zu h1,zt,zu h4,zu h10,zu h11,zu h12,zu h18,zu h19,zu h20,zt,?H3⟩
       case m3=>omega
       case H3=>(try dsimp only);rw[zBE9,zAB9];rfl
    .intro hltj;have hltj:¬j<n.pairs.length:=zfd hltj;obtain rfl:j=n.pairs.length:=zo;refine zJF h12 ?_;rw[zBH9,List.filter_nil,zAV9,<- hR]at hac;refine⟨_,?m9,i+1,acc,G,rfl,hlt,hac,hri,zu h1,zu h2,zu h10,zu h11,zu h12,rfl,rfl⟩;omega
  .intro hlt;have hlt:¬i<L.length:=zfd hlt;obtain rfl:i=L.length:=zo;refine zOF h2 ?_;rw[zBH9,levP,zCY9]at hac;unfold zic;rw[hac,if_pos hri];refine Frz.tL ⟨?_,.bool _,trivial⟩;exact Frz.wh (l:=acc.map pv) rfl rfl (by simp) (by simp) zmm zgE
def zeH:Nat->LN->Nat
 | 0,_=>0
 | n+1,s=>zeH n s+if s.contains n=true then 0 else 1
theorem zsW:∀(n b:Nat) (s:LN),zeH n (b::s)<=zeH n s
 | 0,_,_=>zAE9 _
 | n+1,b,s=>by
  have:=zsW n b s;rw[zeH,zeH]
  grind
theorem zkp:∀(n b:Nat) (s:LN),b<n->¬s.contains b=true->zeH n (b::s)<zeH n s
 | 0,_,_,h,_=>by omega
 | n+1,b,s,h,hs=>by
  rw[zeH,zeH]
  by_cases hb:b=n
  .subst hb;have:=zsW b b s
   grind
  .have:=zkp n b s zo hs
   grind
theorem zk4:∀(n b:Nat) (s:LN),zeH n s=0->b<n->s.contains b=true
 | 0,_,_,_,h=>by omega
 | n+1,b,s,h,hb=>by
  rw[zeH]at h
  by_cases h3:s.contains n=true
  .by_cases hbn:b=n
   .grind
   .exact zk4 n b s zo zo
  grind
theorem zjr:∀(n:Nat) (s:LN),zeH n s<=n
 | 0,_=>zAE9 _
 | n+1,s=>by have:=zjr n s;rw[zeH];grind
abbrev Lev:=LN×LB
abbrev LD:=List Lev
def zb5(w:LN)(lv:Int):Nat->LN->LN->LB->Nat->Option (LN×LN×LB)
 | 0,seen,bs,ns,b=>if b=0 then some (seen,bs,ns)else none
 | k+1,seen,bs,ns,b=>if b=0 then some (seen,bs,ns)else
  if decide (w.length/64<=b)||seen.contains b then none else
  if headB (zap w b)&&zcy ns (headN (zap w b)) lv then zb5 w lv k (b::seen) (bs++[b]) (ns++[headN (zap w b)]) (headN (zap w b)).sib else none
def zcb(w:LN):Nat->LN->LD->Nat->Int->LD×Bool
 | 0,_,acc,_,_=>(acc,false)
 | d+1,seen,acc,b,lv=>match zb5 w lv (w.length/64) seen [] [] b with
  | none=>(acc,false)
  | some (_,_,[])=>(acc,false)
  | some (seen',bs,n::ns)=>if n.level=0 then(acc++[(bs,n::ns)],zbV (levP (n::ns)))else zcb w d seen' (acc++[(bs,n::ns)]) n.left ((n.level:Int)-1)
def zaL(w:LN)(a:Nat):LD×Bool:=zcb w 14 [] [] (w.getD a 0) (-1)
structure zd0(n:zq):Prop where
 level:n.level<=12
 sib:n.sib<2048
 way:n.way<=2
 few:n.pairs.length<=27
 rise:zbV n.pairs=true
 ptrs:zdO [n.left] n.pairs=true
 may:∀p∈n.pairs,zdu n p=true
 left:(n.level=0/\n.left=9223372036854775808)\/(0<n.level/\zd6 n.left=true)
theorem ze4:zd6 p=true↔(1<=p/\p<2048):=by unfold zd6;simp
theorem zvZ{n:zq}{p:Pr}(h:zdu n p=true):p.2≠0:=by
 unfold zdu at h
 split at h
 .grind
 .rw[zAO9,ze4]at h;omega
theorem zeQ:∀l:LJ,(zch l).length=2*l.length
 | []=>rfl
 | a::l=>by have:=zeQ l;simp only[zch,zBQ9,zAB9,zAG9,zAN9]at this⊢;omega
theorem ze7:zch (a::l)=a.1::a.2::zch l:=by simp[zch]
theorem zlX:zch (l++[a])=zch l++[a.1,a.2]:=by simp[zch]
theorem zwK:∀(m prev:Nat),zbO prev (List.replicate m 0)=[]
 | 0,_=>rfl
 | 1,_=>rfl
 | m+2,prev=>by rw[zDI9,zDI9,zbO,if_pos rfl]
theorem zox(m:Nat):∀(ps:LJ) (seen:LN) (prev:Nat),zdO seen ps=true->prev∈seen->(∀p∈ps,p.2≠0)->zbO prev (zch ps++List.replicate m 0)=ps
 | [],_,prev,_,_,_=>by rw[show zch []=[]from rfl,zAV9];exact zwK m prev
 | a::ps,seen,prev,h,hm,hz=>by
  rw[zdO,zAO9,zDD9]at h;have h1:¬a.2=prev:=by grind
  rw[ze7,zAS9,zAS9,zbO,if_neg (hz a (zAR9 ..)),if_neg h1];rw[zox m ps (a.2::seen) a.2 h.2 (zAR9 ..) fun p hp=>hz p (zAQ9 _ hp)]
theorem zs4(m:Nat):∀ps:LJ,(∀p∈ps,p.2≠0)->zb3 (zch ps++List.replicate m 0)=ps.length
 | [],_=>by
  rw[show zch []=[]from rfl,zAV9]
  match m with
  | 0=>rfl
  | 1=>rfl
  | m+2=>rw[zDI9,zDI9,zb3,if_pos rfl];rfl
 | a::ps,hz=>by
  rw[ze7,zAS9,zAS9,zb3,if_neg (hz a (zAR9 ..)),zs4 m ps fun p hp=>hz p (zAQ9 _ hp)];rfl
theorem zsM:∀m,zgS (List.replicate m 0)=true
 | 0=>rfl
 | 1=>rfl
 | m+2=>by rw[zDI9,zDI9,zgS,zsM m];rfl
theorem zx3(A B:LN)(k x y a b:Nat)(hk:k=A.length):((A++x::y::B).set k a).set (k+1) b=A++a::b::B:=by simp_all
theorem zEh:zcN n 5=zpR n++List.replicate 56 0:=rfl
theorem zu8(n:zq)(h:n.pairs.length<=28):∀j,j<=n.pairs.length->zdy n j=zpR n++zch (n.pairs.take j)++List.replicate (56-2*j) 0
 | 0,_=>by rw[zdy,zEh];rfl
 | j+1,hj=>by
  have hr:List.replicate (56-2*j) 0=0::0::List.replicate (56-2*(j+1)) 0:=by
   rw[show 56-2*j=(56-2*(j+1))+1+1 by omega,zDI9,zDI9]
  have hl:(zpR n++zch (n.pairs.take j)).length=8+2*j:=by
   rw[zAB9,zeQ,zAT9];simp[zpR];omega
  rw[zdy,zu8 n h j zo,hr,zx3 _ _ _ _ _ _ _ hl.symm];have ht:n.pairs.take (j+1)=n.pairs.take j++[n.pairs.getD j (0,0)]:=by
   rw[zBB9,zAK9,zAA9 zo];rfl
  rw[ht,zlX]
  grind
theorem zpy(h:n.pairs.length<=28):zcw n=zpR n++(zch n.pairs++List.replicate (56-2*n.pairs.length) 0):=by
 unfold zcw;rw[zu8 n h _ (zAE9 _),zBF9,zAD9]
theorem zgx:(zcw n).length=64:=zet n _
section
variable {n:zq}(h:zd0 n)
include h
theorem zd0.rowL:(zch n.pairs++List.replicate (56-2*n.pairs.length) 0).length=56:=by
 have:=h.few;rw[zAB9,zeQ,zCV9];omega
theorem zd0.left0:n.left≠0:=by
 rcases h.left with⟨_,e⟩|⟨_,e⟩
 .omega
 .rw[ze4]at e;omega
theorem zd0.row:zcI n.left (zch n.pairs++List.replicate (56-2*n.pairs.length) 0).length=true:=by
 rw[h.rowL];unfold zcI;simp[h.left0]
theorem zd0.read:zcq n.left (zch n.pairs++List.replicate (56-2*n.pairs.length) 0)=n.pairs:=by
 unfold zcq;rw[if_pos h.row];exact zox _ _ [n.left] _ h.ptrs (zAR9 ..) fun p hp=>zvZ (h.may p hp)
theorem zd0.drop8:(zcw n).drop 8=zch n.pairs++List.replicate (56-2*n.pairs.length) 0:=by
 rw[zpy n (by have:=h.few;omega)];rfl
theorem zd0.parts:(zcw n).getD 0 0=7522529147838689024+n.level/\(zcw n).getD 1 0=n.sib/\(zcw n).getD 2 0=n.low/\(zcw n).getD 3 0=n.left/\(zcw n).getD 4 0=n.way:=by
 rw[zpy n (by have:=h.few;omega)];exact⟨rfl,rfl,rfl,rfl,rfl⟩
omit h in
theorem zsZ(k:Nat):zhp (7522529147838689024+k)=k:=by rw[zn5,zDR9]
omit h in
theorem zDY{w:LN}{a b c d e:Nat}{ps:LJ}(h0:zhp (w.getD 0 0)=a)(h1:w.getD 1 0=b)(h2:w.getD 2 0=c)(h3:w.getD 3 0=d)(h4:w.getD 4 0=e)(h5:zcq d (w.drop 8)=ps):headN w=⟨a,b,c,d,e,ps⟩:=by
 unfold headN;grind
theorem zd0.headN:headN (zcw n)=n:=by
 obtain⟨p0,p1,p2,p3,p4⟩:=h.parts;exact zDY (by rw[p0];exact zsZ n.level) p1 p2 p3 p4 (by rw[h.drop8];exact h.read)
theorem zd0.headB:headB (zcw n)=true:=by
 obtain⟨p0,p1,p2,p3,p4⟩:=h.parts;unfold Fv.headB;rw[zAO9,zAO9,p0,zsZ];refine⟨⟨by rw[zgx];rfl,by rw[zpy n (by have:=h.few;omega)];rfl⟩,?_⟩;rw[zBV9];intro i hi;have hi:i<5:=zCL9.1 hi
 match i,hi with
 | 0,_=>rw[p0,zdV,zAO9,decide_eq_true_eq,decide_eq_true_eq];exact⟨Nat.le_add_right _ _,Nat.add_le_add_left h.level _⟩
 | 1,_=>rw[p1,zdV,decide_eq_true_eq];exact h.sib
 | 2,_=>rfl
 | 3,_ =>
  rw[p3,zdV];rcases h.left with⟨e1,e2⟩|⟨e1,e2⟩
  .rw[e1,e2];rfl
  .rw[e2,decide_eq_true e1,zFH9,Bool.or_true]
 | 4,_=>rw[p4];show decide (n.way<=2)=true;rw[decide_eq_true_eq];exact h.way
theorem zd0.slots:zcg n.left ((zcw n).drop 8)=0:=by
 have hne:∀p∈n.pairs,p.2≠0:=fun p hp=>zvZ (h.may p hp);unfold zcg;rw[h.drop8,if_pos h.row,if_pos];unfold zde;rw[h.read,h.rise,h.ptrs,zs4 _ _ hne,h.rowL];have hd:(zch n.pairs++List.replicate (56-2*n.pairs.length) 0).drop (2*n.pairs.length)=List.replicate (56-2*n.pairs.length) 0:=by
  rw[<- zeQ,List.drop_left]
 rw[hd,zsM];have:=h.few
 grind
theorem zd0.check:zbZ (zcw n)=0:=by
 unfold zbZ zfO;rw[if_pos h.headB,if_pos];rw[h.headN,h.slots];simp only[decide_true,zCB9,zDD9,List.any_eq_false];intro p hp;rw[h.may p hp];simp
theorem zd0.make:zms n=true:=by
 unfold zms;rw[h.check,h.headN,(znv n).2 ⟨h.level,h.sib,h.way,h.few⟩];simp
end
structure zDu(lv:Nat)(ns:LB):Prop where
 ne:ns ≠ []
 each:∀n∈ns,zd0 n/\n.level=lv/\n.sib=0
 low0:∀n,ns[0]?=some n->n.low=0
 rise:∀i n m,ns[i]?=some n->ns[i+1]?=some m->n.low<m.low
 below:∀i n m,ns[i]?=some n->ns[i+1]?=some m->∀p∈n.pairs,p.1<m.low
def zbY:LN->LB->LB
 | _::bs,n::ns=>{ n with sib:=bs.headD 0 }::zbY bs ns
 | _,_=>[]
theorem zeN:∀(bs:LN) (ns:LB),bs.length=ns.length->(zbY bs ns).length=ns.length
 | [],[],_=>rfl
 | _::bs,n::ns,h=>by rw[zbY,zAG9,zAG9,zeN bs ns (by grind)]
 | [],_::_,h=>by simp at h
 | _::_,[],h=>by simp at h
theorem zfZ:∀(bs:LN) (ns:LB) (i:Nat) (n:zq),bs.length=ns.length->ns[i]?=some n->(zbY bs ns)[i]?=some { n with sib:=bs.getD (i+1) 0 }
 | [],[],i,n,_,h=>by simp at h
 | [],_::_,_,_,h,_=>by simp at h
 | _::_,[],_,_,h,_=>by simp at h
 | b::bs,n::ns,i,m,hl,h=>by
  rw[zbY]
  match i with
  | 0 =>
   rw[List.getElem?_cons_zero]at h⊢
   cases h
   cases bs<;>rfl
  | i+1 =>
   rw[zBO9]at h⊢;rw[zfZ bs ns i m (by grind) h];rfl
theorem zBf{bs:LN}{ns:LB}(hl:bs.length=ns.length)(h:ns ≠ []):zbY bs ns ≠ []:=by
 intro e;have:=zeN bs ns hl
 grind
def after:LC->Nat->Prop
 | none,n=>n=0
 | some l,n=>l<n
def zkg(lv:Nat):LC->LN->LB->Prop
 | _,[],[]=>True
 | pl,b::bs,n::ns=>1<=b/\b<2048/\zd0 n/\n.level=lv/\n.sib=bs.headD 0/\after pl n.low/\(∀m,ns.head?=some m->∀p∈n.pairs,p.1<m.low)/\zkg lv (some n.low) bs ns
 | _,[],_::_=>False
 | _,_::_,[]=>False
theorem zd0.setSib{n:zq}(h:zd0 n){s:Nat}(hs:s<2048):zd0 { n with sib:=s }:=⟨h.level,hs,h.way,h.few,h.rise,h.ptrs,h.may,h.left⟩
theorem zvH(lv:Nat):∀(bs:LN) (ns:LB) (pl:LC),bs.length=ns.length->(∀b∈bs,1<=b/\b<2048)->(∀n∈ns,zd0 n/\n.level=lv)->(∀n,ns[0]?=some n->after pl n.low)->(∀i n m,ns[i]?=some n->ns[i+1]?=some m->n.low<m.low)->(∀i n m,ns[i]?=some n->ns[i+1]?=some m->∀p∈n.pairs,p.1<m.low)->zkg lv pl bs (zbY bs ns)
 | [],[],_,_,_,_,_,_,_=>trivial
 | [],_::_,_,h,_,_,_,_,_=>by simp at h
 | _::_,[],_,h,_,_,_,_,_=>by simp at h
 | b::bs,n::ns,pl,hl,hb,hn,h0,hr,hw=>by
  have hs:bs.headD 0<2048:=by
   cases bs with
   | nil=>decide
   | cons c bs=>exact(hb c (by simp)).2
  have hl':bs.length=ns.length:=by simpa using hl
  have hg:=hn n (zAR9 ..);refine⟨(hb b (zAR9 ..)).1,(hb b (zAR9 ..)).2,hg.1.setSib hs,hg.2,rfl,h0 n rfl,?_,?_⟩
  .intro m hm p hp
   cases ns with
   | nil=>cases bs<;>simp[zbY]at hm
   | cons c ns =>
    cases bs with
    | nil=>grind
    | cons d bs =>
     simp[zbY]at hm;subst hm;exact hw 0 n c rfl rfl p hp
  .refine zvH lv bs ns (some n.low) hl' (fun c hc=>hb c (zAQ9 _ hc)) (fun c hc=>hn c (zAQ9 _ hc)) ?_ (fun i a c ha hc=>hr (i+1) a c ha hc) (fun i a c ha hc=>hw (i+1) a c ha hc);intro m hm;exact hr 0 n m rfl hm
def zd7(w:LN)(bs:LN)(ns:LB):Prop:=∀(i b:Nat) (n:zq),bs[i]?=some b->ns[i]?=some n->b<w.length/64/\zap w b=zcw n
theorem zd7.tail{w:LN}{b:Nat}{bs:LN}{n:zq}{ns:LB}(h:zd7 w (b::bs) (n::ns)):zd7 w bs ns:=fun i c m hc hm=>h (i+1) c m hc hm
theorem zmK(w:LN)(lv:Nat)(zgg:Int)(hwant:zgg<0\/(lv:Int)=zgg):∀(bs:LN) (ns:LB) (pl:LC) (accb:LN) (accn:LB) (seen:LN) (k:Nat),zkg lv pl bs ns->zd7 w bs ns->(accn.getLast?.map zq.low=pl)->(∀z,accn.getLast?=some z->z.level=lv)->bs.Nodup->(∀b∈bs,¬seen.contains b=true)->zeH (w.length/64) seen<=k->zb5 w zgg k seen accb accn (bs.headD 0)=some (bs.reverse++seen,accb++bs,accn++ns)
 | [],[],pl,accb,accn,seen,k,_,_,_,_,_,_,_=>by cases k<;>simp[zb5]
 | [],_::_,_,_,_,_,_,h,_,_,_,_,_,_=>h.elim
 | _::_,[],_,_,_,_,_,h,_,_,_,_,_,_=>h.elim
 | b::bs,n::ns,pl,accb,accn,seen,k,hc,hlaid,hpl,hlv,hnd,hseen,hk=>by
  obtain⟨h1,h2,hg,hl,hsib,hlow,_,hrest⟩:=hc;obtain⟨hbl,hw⟩:=hlaid 0 b n rfl rfl;have hns:¬seen.contains b=true:=hseen b (zAR9 ..);have hlt:=zkp _ b seen hbl hns;rw[zEX9]at hnd
  match k with
  | 0=>omega
  | k+1 =>
   rw[List.headD_cons,zb5,if_neg zo,if_neg (by simp only[zEA9,decide_eq_true_eq,not_or];exact⟨by omega,hns⟩),hw,hg.headB,hg.headN,if_pos]
   .rw[hsib,zmK w lv zgg hwant bs ns (some n.low) (accb++[b]) (accn++[n]) (b::seen) k hrest hlaid.tail (by simp) (fun z hz=>by simp at hz;subst hz;exact hl) hnd.2 ?_ zo]
    .simp
    .intro c hc;have hcb:¬c=b:=by intro e;subst e;exact hnd.1 hc
     have:=hseen c (zAQ9 _ hc);simpa[hcb]using this
   .rw[zCB9];unfold zcy
    cases hz:accn.getLast? with
    | none =>
     rw[hz]at hpl;simp at hpl;subst hpl;simp only[zAO9,zEA9,decide_eq_true_eq];exact⟨hlow,by rw[hl];exact hwant⟩
    | some z =>
     rw[hz]at hpl;simp at hpl;subst hpl;simp only[zAO9,decide_eq_true_eq];exact⟨hlow,by rw[hl,hlv z hz]⟩
def zdF(n:zq):LJ:=(n.low,n.left)::n.pairs
def zd1(L:Lev):LJ:=(L.2.map zq.low).zip L.1
def zIj:LD->Prop
 | []=>False
 | [L]=>zkg 0 none L.1 L.2/\L.2 ≠ []
 | L::M::T=>zkg (T.length+1) none L.1 L.2/\L.2 ≠ []/\L.2.flatMap zdF=zd1 M/\zIj (M::T)
variable {l:LJ}(w ws:LN)(b:Nat)
theorem zIj.chain{L:Lev}{T:LD}(h:zIj (L::T)):zkg T.length none L.1 L.2/\L.2 ≠ []:=by
 match T,h with
 | [],h=>exact h
 | _::_,h=>exact⟨h.1,h.2.1⟩
theorem zmx(w:LN):∀(T:LD) (L:Lev) (acc:LD) (seen:LN) (d:Nat) (zgg:Int),zIj (L::T)->(∀M∈L::T,zd7 w M.1 M.2)->((L::T).flatMap Prod.fst).Nodup->(∀M∈L::T,∀b∈M.1,¬seen.contains b=true)->(zgg<0\/(T.length:Int)=zgg)->T.length+1<=d->zcb w d seen acc (L.1.headD 0) zgg=(acc++L::T,zbV (levP ((L::T).getLast (by simp)).2))
 | T,L,acc,seen,d,zgg,hs,hl,hnd,hseen,hwant,hd=>by
  obtain⟨hch,hne⟩:=hs.chain;rw[zBQ9,List.nodup_append]at hnd;have hr:=zmK w T.length zgg hwant L.1 L.2 none [] [] seen (w.length/64) hch (hl L (zAR9 ..)) rfl (by simp) hnd.1 (hseen L (zAR9 ..)) (zjr _ _)
  match d with
  | 0=>omega
  | d+1 =>
   rw[zcb,hr];simp only[zAV9];obtain⟨bs,ns⟩:=L
   match ns,hne with
   | n::ns,_ =>
   have hb:∃b bs',bs=b::bs':=by
    cases bs with
    | nil=>exact hch.elim
    | cons b bs=>grind
   obtain⟨b,bs',rfl⟩:=hb;have hlv:n.level=T.length:=hch.2.2.2.1
   cases T with
   | nil =>
    grind
   | cons M T =>
    simp only;rw[if_neg (by grind)];have hk:=hs.2.2.1;have hsM:=hs.2.2.2;have hleft:n.left=M.1.headD 0:=by
     obtain⟨mb,mn⟩:=M;obtain⟨hcM,hneM⟩:=hsM.chain
     cases mn with
     | nil=>grind
     | cons m mn =>
      cases mb with
      | nil=>exact hcM.elim
      | cons c mb =>
       simp[zdF,zd1]at hk
       grind
    rw[hleft,zmx w T M (acc++[(b::bs',n::ns)]) ((b::bs').reverse++seen) d ((n.level:Int)-1) hsM (fun K hK=>hl K (zAQ9 _ hK)) hnd.2.1 ?_ (by grind) (by grind)]
    .simp
    .intro K hK c hc hcon;have h1:=hseen K (zAQ9 _ hK) c hc;have h2:=hnd.2.2;have hcT:c∈(M::T).flatMap Prod.fst:=zAU9.2 ⟨K,hK,hc⟩;rw[zFP9]at hcon h1
     grind
termination_by T=>T.length
def zeq(b:Nat)(ws:LN):LJ:=(List.range ws.length).map fun k=>(64*b+k,ws.getD k 0)
def zbA(w:LN)(l:LJ):LN:=l.foldl (fun w x=>w.set x.1 x.2) w
theorem zeC(a b:LJ):zbA w (a++b)=zbA (zbA w a) b:=List.foldl_append
theorem zc2:∀(l:LJ) (w:LN),(zbA w l).length=w.length
 | [],_=>rfl
 | x::l,w=>by show (zbA (w.set x.1 x.2) l).length=_;rw[zc2 l,zBT9]
theorem zoD(w ws:LN)(o:Nat):∀m,m<=ws.length->o+m<=w.length->zbA w ((List.range m).map fun k=>(o+k,ws.getD k 0))=w.take o++ws.take m++w.drop (o+m)
 | 0,_,_=>by simp[zbA]
 | m+1,h1,h2=>by
  have hd:w.drop (o+m)=w[o+m]::w.drop (o+(m+1)):=zAM9 zo;have hl:(w.take o++ws.take m).length=o+m:=by simp;omega
  have ht:ws.take (m+1)=ws.take m++[ws.getD m 0]:=by
   rw[zBB9,zAK9,zAA9 zo];rfl
  rw[zCJ9,zBE9,zeC,zoD w ws o m zo zo,hd];show List.set _ (o+m) (ws.getD m 0)=_;rw[zCG9 _ _ zo,hl,zGV9,zCE9,ht]
  grind
theorem zpX(h1:ws.length=64)(h2:64*b+64<=w.length):zbA w (zeq b ws)=w.take (64*b)++ws++w.drop (64*b+64):=by
 unfold zeq;rw[zoD w ws (64*b) ws.length (zAE9 _) zo,zBF9,h1]
theorem zpW(j:Nat):(zap w b)[j]?=if j<64 then w[64*b+j]? else none:=by
 unfold zap
 grind
theorem zzP(h1:ws.length=64)(h2:64*b+64<=w.length):zap (zbA w (zeq b ws)) b=ws:=by
 rw[zpX w ws b h1 h2];unfold zap
 grind
theorem zuK(c:Nat)(h1:ws.length=64)(h2:64*b+64<=w.length)(h3:¬c=b):zap (zbA w (zeq b ws)) c=zap w c:=by
 apply zDU9
 intro j;rw[zpW,zpW]
 split
 .rename_i hj;rw[zpX w ws b h1 h2]
  grind
 .rfl
def zeh(bs:LN)(ns:LB):LJ:=(bs.zip ns).flatMap fun x=>zeq x.1 (zcw x.2)
theorem ztD:∀(bs:LN) (ns:LB) (w:LN),bs.length=ns.length->bs.Nodup->(∀b∈bs,64*b+64<=w.length) ->
  (∀(i b:Nat) (n:zq),bs[i]?=some b->ns[i]?=some n->zap (zbA w (zeh bs ns)) b=zcw n)/\(∀c,¬c∈bs->zap (zbA w (zeh bs ns)) c=zap w c)
 | [],[],w,_,_,_=>⟨fun i b n h=>by simp at h,fun c _=>rfl⟩
 | [],_::_,_,h,_,_=>by simp at h
 | _::_,[],_,h,_,_=>by simp at h
 | b::bs,n::ns,w,hl,hnd,hw=>by
  rw[zEX9]at hnd;have hb:=hw b (zAR9 ..);have ih:=ztD bs ns (zbA w (zeq b (zcw n))) (by grind) hnd.2 (fun c hc=>by rw[zc2];grind);have he:zbA w (zeh (b::bs) (n::ns))=zbA (zbA w (zeq b (zcw n))) (zeh bs ns):=by
   rw[<- zeC];rfl
  rw[he];refine⟨fun i c m hc hm=>?_,fun c hc=>?_⟩
  .match i with
   | 0 =>
    injection hc with hc;injection hm with hm;subst hc hm;rw[ih.2 b hnd.1,zzP _ _ _ (zgx n) hb]
   | i+1=>grind
  .rw[zBA9,not_or]at hc;rw[ih.2 c hc.2,zuK _ _ _ _ (zgx n) hb hc.1]
def zcH(T:LD):LJ:=T.flatMap fun L=>zeh L.1 L.2
theorem zsB:∀(T:LD) (w:LN),(∀L∈T,L.1.length=L.2.length)->(T.flatMap Prod.fst).Nodup->(∀b∈T.flatMap Prod.fst,64*b+64<=w.length) ->
  (∀L∈T,∀(i b:Nat) (n:zq),L.1[i]?=some b->L.2[i]?=some n->zap (zbA w (zcH T)) b=zcw n)/\(∀c,¬c∈T.flatMap Prod.fst->zap (zbA w (zcH T)) c=zap w c)
 | [],w,_,_,_=>⟨fun L h=>by simp at h,fun c _=>rfl⟩
 | K::T,w,hl,hnd,hw=>by
  rw[zBQ9,List.nodup_append]at hnd;have hK:=ztD K.1 K.2 w (hl K (zAR9 ..)) hnd.1 (fun b hb=>hw b (by grind));have ih:=zsB T (zbA w (zeh K.1 K.2)) (fun L hL=>hl L (zAQ9 _ hL)) hnd.2.1 (fun c hc=>by rw[zc2];simp_all);have he:zbA w (zcH (K::T))=zbA (zbA w (zeh K.1 K.2)) (zcH T):=by
   rw[<- zeC];rfl
  rw[he];refine⟨fun L hL i b n hb hn=>?_,fun c hc=>?_⟩
  all_goals grind
theorem zfH:∀l:LJ,zbV l=true↔∀(i:Nat) (x y:Pr),l[i]?=some x->l[i+1]?=some y->x.1<y.1
 | []=>⟨fun _ i x y h=>by simp at h,fun _=>rfl⟩
 | [a]=>⟨fun _ i x y _ h=>by simp at h,fun _=>rfl⟩
 | a::b::l=>by
  rw[zbV,zAO9,decide_eq_true_eq,zfH (b::l)];refine⟨fun h i x y hx hy=>?_,fun h=>⟨h 0 a b rfl rfl,fun i x y hx hy=>h (i+1) x y hx hy⟩⟩
  match i with
  | 0=>injection hx with hx;injection hy with hy;subst hx hy;exact h.1
  | i+1=>exact h.2 i x y hx hy
theorem zho(h:zbV l=true):∀(k i:Nat) (x y:Pr),l[i]?=some x->l[i+k+1]?=some y->x.1<y.1
 | 0,i,x,y,hx,hy=>(zfH l).1 h i x y hx hy
 | k+1,i,x,y,hx,hy=>by
  have hlen:=(zAC9.1 hy).1;have hz:l[i+k+1]?=some l[i+k+1]:=zAA9 zo;exact Nat.lt_trans (zho h k i x _ hx hz) ((zfH l).1 h _ _ _ hz hy)
theorem zIk(h:zbV l=true)(k:Nat):zbV (l.drop k)=true:=by
 rw[zfH]at h⊢
 grind
theorem zqe(h:zbV l=true)(k:Nat):zbV (l.take k)=true:=by
 have:zbV (l.take k++l.drop k)=true:=by rw[zEG9];exact h
 exact zlG _ _ this
theorem zgK:∀(l:LJ) (seen:LN),zdO seen l=true↔(l.map Prod.snd).Nodup/\∀p∈l,¬p.2∈seen
 | [],seen=>by simp[zdO]
 | a::l,seen=>by
  rw[zdO,zAO9,zDD9,zgK l (a.2::seen),zBY9,zEX9]
  grind
theorem zkP(k:Nat)(l:LJ):∀m,((List.range m).map fun i=>(l.drop (k*i)).take k).flatten=l.take (k*m)
 | 0=>by simp
 | m+1=>by
  rw[zCJ9,zBE9,List.flatten_append,zkP k l m,Nat.mul_succ,List.take_add];simp
theorem zkF:∀L:LB,(∀(i:Nat) (n m:zq),L[i]?=some n->L[i+1]?=some m->∀p∈n.pairs,p.1<m.low)->levP L=L.flatMap zq.pairs
 | [],_=>rfl
 | n::L,h=>by
  rw[levP,zBQ9,zkF L fun i a b ha hb=>h (i+1) a b ha hb]
  congr 1
  rw[List.filter_eq_self];intro p hp;unfold zeI
  cases hh:L.head? with
  | none=>rfl
  | some m =>
   have:=h 0 n m rfl (by rw[List.head?_eq_getElem?]at hh;exact hh) p hp
   grind
theorem zgu:∀(bs:LN) (ns:LB),bs.length=ns.length->(zbY bs ns).flatMap zq.pairs=ns.flatMap zq.pairs/\(zbY bs ns).map zq.low=ns.map zq.low/\(zbY bs ns).flatMap zdF=ns.flatMap zdF
 | [],[],_=>⟨rfl,rfl,rfl⟩
 | [],_::_,h=>by simp at h
 | _::_,[],h=>by simp at h
 | b::bs,n::ns,h=>by
  obtain⟨h1,h2,h3⟩:=zgu bs ns (by grind);simp[zbY,h1,h2,h3,zdF]
open Go.RowKit
variable {c:Cx}{h:TH}
theorem zjv:∀l:LJ,(l.map zbx).flatMap PV.cells=l.flatMap fun x=>[.int .i64 x.1,.int .u64 x.2]
 | []=>rfl
 | x::l=>by rw[zBY9,zBQ9,zjv l];rfl
theorem zsr:∀{l:LJ} {cs:LK},LR (VR c h) (l.flatMap fun x=>[PV.int .i64 x.1,.int .u64 x.2]) cs->cs=l.flatMap fun x=>[TV.int .i64 x.1,.int .u64 x.2]
 | [],cs,k=>k.oN
 | x::l,cs,k=>by
  obtain⟨y,cs',rfl,h1,h2⟩:=LR.oc k;obtain⟨y2,cs'',rfl,h3,h4⟩:=LR.oc h2;rw[zsr h4,h1.int_inv,h3.int_inv];rfl
theorem zxi:∀l:LJ,LR (VR c h) (l.flatMap fun x=>[PV.int .i64 x.1,.int .u64 x.2]) (l.flatMap fun x=>[TV.int .i64 x.1,.int .u64 x.2])
 | []=>LR.nil
 | x::l=>LR.cons (.pure (.int _ _)) (LR.cons (.pure (.int _ _)) (zxi l))
theorem zkT:∀l:LJ,∃r,zgC (l.flatMap fun x=>[TV.int .i64 x.1,.int .u64 x.2])=some r
 | []=>⟨[],rfl⟩
 | x::l=>by
  obtain⟨r,hr⟩:=zkT l;refine⟨((x.1:Int),x.2)::r,?_⟩;show zgC (.int .i64 x.1::.int .u64 (.ofNat x.2)::l.flatMap _)=_;rw[zgC,hr]
theorem zta{α:Type}(f g:Pr->α):∀l:LJ,(l.flatMap fun x=>[f x,g x]).length=l.length*2
 | []=>rfl
 | x::l=>by rw[zBQ9,zAB9,zta f g l,zAG9];simp;omega
theorem zAL{E:Env}{f e0:Nat}(hf:E.funcs.get f=none)(hg:E.spec f=some (zo7 e0)){H:LP}{id ix g M gx Mx:Nat}{L:LJ}{c:Pr}(hH:H[id]?=some (.row e0 2 g M (L.map zbx)))(hM:M<=g)(hX:H[ix]?=some (.row e0 2 gx Mx [zbx c]))(hMx:Mx<=gx)(hne:id≠ix)(hL:0<L.length)(hL2:L.length<=100000) :
  FO E f [.sl id g 0 L.length (2*L.length) 2,iv 0,.sl ix gx 0 1 2 2] H false fun e H'=>e=.ret (.sl id (g+1) 0 (L.length+1) (2*(L.length+1)) 2)/\H'=H.set id (.row e0 2 (g+1) (g+1) ((c::L).map zbx)):=by
 intro B cx h us k hv;obtain⟨y,cs',rfl,h1,hv⟩:=hv.oc;obtain⟨y2,cs2,rfl,h2,hv⟩:=hv.oc;obtain⟨y3,cs3,rfl,h3,hv⟩:=hv.oc;obtain rfl:=hv.oN;obtain rfl:=h2.int_inv;rcases sl_inv h1 with⟨_,_,e3,_⟩|⟨b,d,g',hρ,hgd,rfl⟩
 .omega
 rcases sl_inv h3 with⟨_,_,e3,_⟩|⟨bx,dx,gx',hρx,hgdx,rfl⟩
 .omega
 obtain⟨_,G',M',cells,cs,r1,r2,r3,r4,r5⟩:=zgI k hH hρ;obtain⟨_,Gx',Mx',cellsx,csx,x1,x2,x3,x4,x5⟩:=zgI k hX hρx;obtain rfl:g'=G':=by omega
 obtain rfl:gx'=Gx':=by omega
 have r6:=r5.all;rw[zjv]at r6;have hcs:=zsr r6;have x6:=x5.all;rw[show ([zbx c]:LQ)=[c].map zbx from rfl,zjv]at x6;have hcsx:=zsr x6;rw[zAP9]at r1 r4;have x4:cellsx.getL 0 2=some csx:=x4;have hbb:b≠bx:=fun e=>hne (k.inj _ _ _ _ hρ hρx e);obtain⟨rn,hrn⟩:=zkT [c];obtain⟨ro,hro⟩:=zkT L;rw[<- hcsx]at hrn;rw[<- hcs]at hro;have hall:csx++cs=(c::L).flatMap fun x=>[TV.int .i64 x.1,.int .u64 x.2]:=by rw[hcs,hcsx];rfl
 have hlen:(csx++cs).length=(L.length+1)*2:=by rw[hall,zta,zAG9]
 obtain⟨m1,k1⟩:=k.set (o:=.row e0 2 (g+1) (g+1) ((c::L).map zbx)) (x:=.row e0 (g'+1) (g'+1) ((L.length+1)*2) (Tr.putL .nil 0 (csx++cs))) hρ (fun e=>by rw[hH]at e;cases e) fun mm =>
  .inr ⟨b,d,g'+1,g'+1,Tr.putL .nil 0 (csx++cs),csx++cs,hρ,by rw[TH.get_set _ _ _ _ (k.own _ _ hρ).2.1,if_pos rfl,zAP9,zAG9],by omega,by omega,by
   rw[zAP9,zAG9,<- hlen];exact zkC _,⟨fun v hv=>by obtain⟨a,_,rfl⟩:=zAH9.1 hv;rfl,by rw[zjv,hall];exact zxi _⟩⟩
 refine⟨.ret (.sl b (g'+1) 0 (L.length+1) (2*(L.length+1)) 2),_,.ret (.sl id (g+1) 0 (L.length+1) (2*(L.length+1)) 2),_,cx,⟨1,fun N hN d' hd=>?_⟩,⟨rfl,rfl⟩,m1,k1,?_,fun h=>by cases h⟩
 .obtain⟨d',rfl⟩:∃i,d'=i+1:=⟨d'-1,by omega⟩
  show Tw.zbm (EN E N) (zdX (EN E N) d') f _ h=_;unfold Tw.zbm;rw[show (EN E N).funcs.get f=none from hf];dsimp only;rw[show (EN E N).spec f=some (zo7 e0)from hg];show zo7 e0 [.sl b g' (0*2) L.length (2*L.length) 2,.int .i64 (.ofNat 0),.sl bx gx' (0*2) 1 2 2] h=_;rw[zGR9];show zt9 e0 h b g' L.length (2*L.length) 2 bx gx' 2=_;have hrd:zb0 h bx gx' 0 2=some csx:=by
   unfold zb0;rw[x1];show zhb gx' 0 2 (.row e0 gx' Mx' (1*2) cellsx)=_;unfold zhb;dsimp only;rw[zcG zo,zcG (zAE9 _)];exact x4
  unfold zt9;rw[x1,r1,hrd];dsimp only;rw[show zEz e0 (.row e0 gx' Mx' (List.length [zbx c]*2) cellsx)=true from zb6 rfl,zb6 (show 2=2 from rfl),zb6 (show 2*L.length%2=0 by omega),zcG (show 1<=L.length by omega),zcG hL2,show Nat.beq b bx=false from zoi hbb];simp only[cond_true,cond_false];unfold zzG;dsimp only;rw[zb6 rfl,zb6 rfl,zb6 rfl,r4];simp only[cond_true];unfold zy1;rw[hrn,hro]
 .show VR cx _ (.sl id (g+1) 0 (L.length+1) (2*(L.length+1)) 2) (.sl b (g'+1) 0 (L.length+1) (2*(L.length+1)) 2);have:=VR.sl (c:=cx) (h:=h.set b (.row e0 (g'+1) (g'+1) ((L.length+1)*2) (Tr.putL .nil 0 (csx++cs)))) (g:=g'+1) (o:=0) (n:=L.length+1) (q:=2*(L.length+1)) hρ
  grind
def okP(l:LJ):Bool:=zbV l&&zdO [] l&&l.all fun p=>decide (1<=p.2)&&decide (p.2<=1099511627776)
variable {i:Nat}{ks:LJ}{lv:Nat}
theorem zrB(l:LJ):okP l=true↔zbV l=true/\(l.map Prod.snd).Nodup/\∀p∈l,1<=p.2/\p.2<=1099511627776:=by
 unfold okP;rw[zAO9,zAO9,zgK,zBV9]
 grind
theorem zng{a k:Nat}{p:Pr}(h:p∈(l.drop a).take k):∃j,j<k/\l[a+j]?=some p:=by
 obtain⟨j,hj,e⟩:=zBN9.1 h;have:=zAA9 hj
 grind
theorem zoN(h:(l.map Prod.snd).Nodup)(a k:Nat):(((l.drop a).take k).map Prod.snd).Nodup :=
 h.sublist (((zGF9 k _).trans (List.drop_sublist a l)).map _)
theorem getD_some{x:Pr}(h:l[i]?=some x):l.getD i (0,0)=x:=by grind
theorem get_lt(l:LJ)(h:i<l.length):l[i]?=some (l.getD i (0,0)):=by grind
theorem zAN(h:okP l=true)(i:Nat)(hi:18*i<l.length\/i=0):zd0 (zdm l i):=by
 rw[zrB]at h;obtain⟨h1,h2,h3⟩:=h;have hm:∀p∈(zdm l i).pairs,∃j,j<18/\l[18*i+j]?=some p:=fun p hp=>zng hp;refine⟨zAJ9 _,show 0<2048 by decide,zAJ9 _,?_,?_,?_,fun p hp=>?_,.inl ⟨rfl,rfl⟩⟩
 .show ((l.drop (18*i)).take 18).length<=27
  grind
 .exact zqe (zIk h1 _) _
 .rw[zgK];refine⟨zoN h2 _ _,fun p hp hq=>?_⟩;obtain⟨j,_,hj⟩:=hm p hp;have:=h3 p (zAI9 hj);have hq:p.2=9223372036854775808:=zBI9.1 hq;omega
 .obtain⟨j,hjk,hj⟩:=hm p hp;have:=h3 p (zAI9 hj);have hl:(zdm l i).low<=p.1:=by
   show (if 0<i then(l.getD (18*i) (0,0)).1 else 0)<=p.1
   split
   .have hlen:=(zAC9.1 hj).1
    match j with
    | 0=>rw[zDC9]at hj;rw[getD_some hj];exact zAE9 _
    | j+1=>exact Nat.le_of_lt (zho h1 j _ _ _ (get_lt l zo) hj)
   omega
  unfold zdu;rw[if_pos (show (zdm l i).level=0 from rfl)]
  grind
theorem zjm(l:LJ):zcA l=(List.range (max 1 ((l.length+17)/18))).map (zdm l):=by
 unfold zcA
 split
 .rename_i h;subst h;rfl
 .rename_i h;have:0<l.length:=zCC9.2 h;rw[zdT,Nat.max_eq_right zo]
theorem zf9(l:LJ):(zcA l).length=max 1 ((l.length+17)/18):=by rw[zjm];simp
theorem zge{n:Nat}{f:Nat->zq}{x:zq}(h:((List.range n).map f)[i]?=some x):i<n/\x=f i:=by grind
theorem zy3(h:okP l=true):zDu 0 (zcA l)/\levP (zcA l)=l:=by
 have h':=(zrB l).1 h;obtain⟨h1,h2,h3⟩:=h';rw[zjm];have hsm:∀i,i<max 1 ((l.length+17)/18)->18*i<l.length\/i=0:=fun i hi=>by omega
 have hbelow:∀(i:Nat) (n m:zq),((List.range (max 1 ((l.length+17)/18))).map (zdm l))[i]?=some n->((List.range (max 1 ((l.length+17)/18))).map (zdm l))[i+1]?=some m->∀p∈n.pairs,p.1<m.low:=by
  intro i n m hn hm p hp;obtain⟨hi,rfl⟩:=zge hn;obtain⟨hj,rfl⟩:=zge hm;obtain⟨j,hjk,hj⟩:=zng hp;show p.1<(if 0<i+1 then(l.getD (18*(i+1)) (0,0)).1 else 0);rw[if_pos (zCU9 _)];exact zho h1 (17-j) _ _ _ hj (by rw[show 18*i+j+(17-j)+1=18*(i+1) by omega];grind)
 refine⟨⟨?_,?_,?_,?_,hbelow⟩,?_⟩
 .simp_all
 .intro n hn;obtain⟨i,hi,rfl⟩:=zAH9.1 hn;exact⟨zAN h i (hsm i (zCL9.1 hi)),rfl,rfl⟩
 .intro n hn;obtain⟨_,rfl⟩:=zge hn;rfl
 .intro i n m hn hm;obtain⟨hi,rfl⟩:=zge hn;obtain⟨hj,rfl⟩:=zge hm;show (if 0<i then(l.getD (18*i) (0,0)).1 else 0)<(if 0<i+1 then(l.getD (18*(i+1)) (0,0)).1 else 0);rw[if_pos (zCU9 _)];have hlt:18*(i+1)<l.length:=zo
  split
  .exact zho h1 17 _ _ _ (get_lt l zo) (get_lt l hlt)
  .exact zHJ9 (zAJ9 _) ((zfH l).1 h1 (18*(i+1)-1) _ _ (get_lt l zo) (by grind))
 .rw[zkF _ hbelow,List.flatMap_map];have:=zkP 18 l (max 1 ((l.length+17)/18));rw[zBR9 zo]at this;refine Eq.trans ?_ this;rw[List.flatMap_def];rfl
theorem zo1(ks:LJ)(i:Nat)(hi:19*i<ks.length):(ks.drop (19*i)).take 19=ks.getD (19*i) (0,0)::((ks.drop (19*i)).take 19).drop 1:=by
 have hd:ks.drop (19*i)=ks[19*i]::ks.drop (19*i+1):=zAM9 hi
 grind
theorem zy5(hi:19*i<ks.length):zdF (zdK lv ks i)=(ks.drop (19*i)).take 19:=by
 rw[zo1 ks i hi];rfl
theorem zy8(h1:1<=lv/\lv<=12)(hr:zbV ks=true)(hn:(ks.map Prod.snd).Nodup)(hb:∀x∈ks,1<=x.2/\x.2<2048)(i:Nat)(hi:19*i<ks.length):zd0 (zdK lv ks i):=by
 have hc:=zo1 ks i hi;have hrc:zbV ((ks.drop (19*i)).take 19)=true:=zqe (zIk hr _) _;have hnc:=zoN hn (19*i) 19;rw[hc]at hnc;rw[zBY9,zEX9]at hnc;have hm:∀p∈(zdK lv ks i).pairs,p∈(ks.drop (19*i)).take 19:=fun p hp=>zBX9 hp;have hbk:∀p∈(ks.drop (19*i)).take 19,1<=p.2/\p.2<2048:=fun p hp=>hb p (zBX9 (zBP9 hp));refine⟨h1.2,show 0<2048 by decide,zAJ9 _,?_,?_,?_,fun p hp=>?_,.inr ⟨h1.1,?_⟩⟩
 .show (((ks.drop (19*i)).take 19).drop 1).length<=27
  grind
 .exact zIk hrc 1
 .rw[zgK];refine⟨hnc.2,fun p hp hq=>?_⟩;have hq:p.2=(ks.getD (19*i) (0,0)).2:=zBI9.1 hq;exact hnc.1 (zAH9.2 ⟨p,hp,hq⟩)
 .unfold zdu;rw[if_neg (show ¬(zdK lv ks i).level=0 from by show ¬lv=0;omega),zAO9,ze4,decide_eq_true_eq];refine⟨hbk p (hm p hp),?_⟩;obtain⟨j,hj⟩:=zEH9.1 hp;have hj:(((ks.drop (19*i)).take 19).drop 1)[j]?=some p:=hj;rw[zCP9]at hj;exact zho hrc j 0 _ p (by grind) (by grind)
 .rw[ze4];exact hb _ (zAI9 (get_lt ks hi))
theorem zfS(lv:Nat)(ks:LJ):(zc5 lv ks).length=(ks.length+18)/19:=by unfold zc5;rw[zAP9,List.length_range,zdT]
theorem zsV(h1:1<=lv/\lv<=12)(hne:ks ≠ [])(hr:zbV ks=true)(h0:(ks.getD 0 (0,0)).1=0)(hn:(ks.map Prod.snd).Nodup)(hb:∀x∈ks,1<=x.2/\x.2<2048):zDu lv (zc5 lv ks)/\(zc5 lv ks).flatMap zdF=ks:=by
 have hpos:0<ks.length:=zCC9.2 hne;unfold zc5;rw[zdT];have hlt:∀i,i<(ks.length+(19-1))/19->19*i<ks.length:=fun i hi=>by omega
 refine⟨⟨?_,?_,?_,?_,?_⟩,?_⟩
 .simp;omega
 .intro n hn';obtain⟨i,hi,rfl⟩:=zAH9.1 hn';exact⟨zy8 h1 hr hn hb i (hlt i (zCL9.1 hi)),rfl,rfl⟩
 .intro n hn';obtain⟨_,rfl⟩:=zge hn';exact h0
 .intro i n m hn' hm;obtain⟨hi,rfl⟩:=zge hn';obtain⟨hj,rfl⟩:=zge hm;exact zho hr 18 _ _ _ (get_lt ks (hlt i hi)) (get_lt ks (hlt _ hj))
 .intro i n m hn' hm p hp;obtain⟨hi,rfl⟩:=zge hn';obtain⟨hj,rfl⟩:=zge hm;obtain⟨j,hjk,hpj⟩:=zng (zBX9 (i:=1) hp);show p.1<(ks.getD (19*(i+1)) (0,0)).1;exact zho hr (18-j) _ _ _ hpj (by rw[show 19*i+j+(18-j)+1=19*(i+1) by omega];grind)
 .have:=zkP 19 ks ((ks.length+(19-1))/19);rw[zBR9 zo]at this;rw[List.flatMap_map,List.flatMap_def];rw[<- this]
  congr 1
  .rw[this];refine zEB9 fun i hi=>?_;exact zy5 (hlt i (zCL9.1 hi))
def zjd(free:LN):Nat->LB->Nat->LD->Option (LD)
 | 0,_,_,_=>none
 | k+1,l,used,T=>if free.length<used+l.length then none else
  if l.length=1 then some (((free.drop used).take l.length,zbY ((free.drop used).take l.length) l)::T)else
  zjd free k (zc5 (T.length+1) ((l.map zq.low).zip ((free.drop used).take l.length))) (used+l.length) (((free.drop used).take l.length,zbY ((free.drop used).take l.length) l)::T)
def bndL:Nat->Nat
 | 0=>28
 | 1=>2
 | _=>1
def zmV(free:LN):Bool:=free.all (fun b=>decide (1<=b)&&decide (b<2048))&&decide free.Nodup
theorem zfQ(free:LN):zmV free=true↔(∀b∈free,1<=b/\b<2048)/\free.Nodup:=by
 unfold zmV
 grind
structure zl6(p:LJ)(free:LN)(l:LB)(used:Nat)(T:LD):Prop where
 ok:zDu T.length l
 st:match T with | []=>levP l=p|M::T'=>l.flatMap zdF=zd1 M/\zIj (M::T')
 last:∀M,T.getLast?=some M->levP M.2=p
 len:∀M∈T,M.1.length=M.2.length
 blocks:T.reverse.flatMap Prod.fst=free.take used
 used:used<=free.length
 bndL:l.length<=bndL T.length
 lvl:T.length<=2
structure zzn(p:LJ)(free:LN)(T:LD):Prop where
 st:zIj T
 one:∃b n T',T=([b],[n])::T'/\n.sib=0
 last:∀M,T.getLast?=some M->levP M.2=p
 len:∀M∈T,M.1.length=M.2.length
 blocks:∃used,used<=free.length/\T.reverse.flatMap Prod.fst=free.take used
 few:T.length<=3
section
variable {p:LJ}{free:LN}(hf:zmV free=true)
include hf
theorem zl6.level{l:LB}{used:Nat}{T:LD}(h:zl6 p free l used T)(hu:¬free.length<used+l.length) :
  ((free.drop used).take l.length).length=l.length/\zkg T.length none ((free.drop used).take l.length) (zbY ((free.drop used).take l.length) l)/\zbY ((free.drop used).take l.length) l ≠ []/\(∀b∈(free.drop used).take l.length,1<=b/\b<2048)/\((free.drop used).take l.length).Nodup /\
  (((free.drop used).take l.length,zbY ((free.drop used).take l.length) l)::T).reverse.flatMap Prod.fst=free.take (used+l.length)/\zIj (((free.drop used).take l.length,zbY ((free.drop used).take l.length) l)::T) /\
  (∀M,(((free.drop used).take l.length,zbY ((free.drop used).take l.length) l)::T).getLast?=some M->levP M.2=p):=by
 rw[zfQ]at hf;have hbl:((free.drop used).take l.length).length=l.length:=by rw[zAT9,zBJ9];omega
 have hbb:∀b∈(free.drop used).take l.length,1<=b/\b<2048:=fun b hb=>hf.1 b (zBX9 (zBP9 hb));have hnd:((free.drop used).take l.length).Nodup:=hf.2.sublist ((zGF9 _ _).trans (List.drop_sublist _ _));have hch:zkg T.length none ((free.drop used).take l.length) (zbY ((free.drop used).take l.length) l) :=
  zvH _ _ _ _ hbl hbb (fun n hn=>⟨(h.ok.each n hn).1,(h.ok.each n hn).2.1⟩) (fun n hn=>h.ok.low0 n hn) h.ok.rise h.ok.below
 have hne:=zBf hbl h.ok.ne;obtain⟨k1,k2,k3⟩:=zgu _ _ hbl;refine⟨hbl,hch,hne,hbb,hnd,?_,?_,?_⟩
 .rw[zFM9,zCI9,h.blocks,List.take_add];simp
 .have hst:=h.st
  cases T with
  | nil=>exact⟨hch,hne⟩
  | cons M T=>exact⟨hch,hne,by grind,hst.2⟩
 .intro M hM;have hst:=h.st
  cases hT:T with
  | nil =>
   subst hT
   cases hM
   have hr:∀(i:Nat) (n m:zq),(zbY ((free.drop used).take l.length) l)[i]?=some n->(zbY ((free.drop used).take l.length) l)[i+1]?=some m->∀q∈n.pairs,q.1<m.low:=by
    intro i n m hn hm;have hi:i+1<l.length:=by have:=(zAC9.1 hm).1;rw[zeN _ _ hbl]at this;exact this
    have e1:=zfZ _ _ i _ hbl (zAA9 (show i<l.length by omega));have e2:=zfZ _ _ (i+1) _ hbl (zAA9 hi);rw[hn]at e1;rw[hm]at e2;injection e1 with e1;injection e2 with e2;subst e1 e2;exact h.ok.below i (l[i]'zo) (l[i+1]'hi) (zAA9 (show i<l.length by omega)) (zAA9 hi)
   have e1:=zkF _ hr;have e2:=zkF _ h.ok.below
   grind
  | cons K T' =>
   refine h.last M ?_
   grind
theorem zp5:∀(k:Nat) (l:LB) (used:Nat) (T T':LD),zl6 p free l used T->zjd free k l used T=some T'->zzn p free T'
 | 0,l,used,T,T',_,h=>by cases h
 | k+1,l,used,T,T',hi,h=>by
  rw[zjd]at h
  by_cases hu:free.length<used+l.length
  .grind
  rw[if_neg hu]at h;obtain⟨h1,h2,h3,h4,h5,h6,h7,h8⟩:=hi.level hf hu;have hbd:=hi.bndL;have hlvl:=hi.lvl
  by_cases ho:l.length=1
  .rw[if_pos ho]at h
   cases h
   refine⟨h7,?_,h8,?_,⟨used+l.length,by omega,h6⟩,?_⟩
   .obtain⟨n,hn⟩:=zEC9.1 ho;obtain⟨b,hb⟩:=zEC9.1 (h1.trans ho);rw[hb,hn];exact⟨b,{ n with sib:=0 },T,rfl,rfl⟩
   .intro M hM;rcases zBA9.1 hM with rfl|hM
    .exact h1.trans (zeN _ _ h1).symm
    .exact hi.len M hM
   grind
  .rw[if_neg ho]at h;refine zp5 k _ _ _ _ ?_ h;have hne0:0<l.length:=zCC9.2 hi.ok.ne;have hT1:T.length<=1:=by
    rcases zCX9 T.length 2 with h|h
    .omega
    .have e:T.length=2:=zo;rw[e]at hbd;simp[bndL]at hbd;omega
   obtain⟨k1,k2,k3⟩:=zgu _ _ h1;generalize hbs:(free.drop used).take l.length=bs at *
   have hzl:((l.map zq.low).zip bs).length=l.length:=by simp[h1]
   have hms:((l.map zq.low).zip bs).map Prod.snd=bs:=List.map_snd_zip (by simp[h1]);have hg:∀(i:Nat) (x:Pr),((l.map zq.low).zip bs)[i]?=some x->∃n,l[i]?=some n/\x.1=n.low:=by
    intro i x hx;rw[zDW9]at hx
    grind
   have hz0:(((l.map zq.low).zip bs).getD 0 (0,0)).1=0:=by
    obtain⟨n,hn,e⟩:=hg 0 _ (get_lt _ zo);rw[e];exact hi.ok.low0 n hn
   have hrz:zbV ((l.map zq.low).zip bs)=true:=by
    rw[zfH];intro i x y hx hy;obtain⟨n,hn,e⟩:=hg i x hx;obtain⟨m,hm,e2⟩:=hg _ y hy;rw[e,e2];exact hi.ok.rise i n m hn hm
   have hab:=zsV (lv:=T.length+1) (ks:=(l.map zq.low).zip bs) ⟨by omega,by omega⟩ (by grind) hrz hz0 (by grind) (fun x hx=>h4 x.2 (zEK9 hx).2);refine⟨hab.1,⟨?_,h7⟩,h8,?_,h6,by omega,?_,by grind⟩
   .rw[hab.2];unfold zd1;rw[k2]
   .intro M hM;rcases zBA9.1 hM with rfl|hM
    .grind
    .exact hi.len M hM
   .rw[zfS,hzl];show _<=bndL (T.length+1)
    match hT:T.length,hT1 with
    | 0,_=>rw[hT]at hbd;simp[bndL]at hbd⊢;omega
    | 1,_=>rw[hT]at hbd;simp[bndL]at hbd⊢;omega
end
theorem zlA{p:LJ}(free:LN)(hp:okP p=true)(hl:p.length<=500):zl6 p free (zcA p) 0 []:=by
 have h:=zy3 hp;refine⟨h.1,h.2,fun M hM=>by grind,fun M hM=>by grind,rfl,zAJ9 _,?_,zAJ9 _⟩;rw[zf9];simp[bndL];omega
def zhq:Nat->Nat->Nat
 | 0,n=>n
 | k+1,n=>n+if n=1 then 0 else zhq k ((n+18)/19)
def zes(n:Nat):Nat:=zhq 4 (max 1 ((n+17)/18))
theorem zs0(free:LN):∀(k:Nat) (l:LB) (used:Nat) (T:LD),3<=k+T.length->1<=k->1<=l.length->l.length<=bndL T.length->(zjd free k l used T=none↔free.length<used+zhq k l.length)
 | 0,_,_,_,_,h,_,_=>by omega
 | k+1,l,used,T,h1,_,h3,h4=>by
  rw[zjd,zhq]
  by_cases hu:free.length<used+l.length
  .grind
  rw[if_neg hu]
  by_cases ho:l.length=1
  .grind
  rw[if_neg ho,if_neg ho];have hT1:T.length<=1:=by
   rcases zCX9 T.length 2 with h|h
   .omega
   .obtain⟨m,e⟩:∃m,T.length=m+2:=⟨T.length-2,by omega⟩
    rw[e]at h4;simp[bndL]at h4;omega
  have hzl:((l.map zq.low).zip ((free.drop used).take l.length)).length=l.length:=by simp;omega
  rw[zs0 free k _ _ _ (by grind) zo (by rw[zfS,hzl];omega) ?_,zfS,hzl]
  .omega
  .rw[zfS,hzl];show _<=bndL (T.length+1)
   match hT:T.length,hT1 with
   | 0,_=>rw[hT]at h4;simp[bndL]at h4⊢;omega
   | 1,_=>rw[hT]at h4;simp[bndL]at h4⊢;omega
def zeV(p:LJ)(free:LN):Option (LD):=zjd free 4 (zcA p) 0 []
variable {free:LN}{p:LJ}
theorem zkL(hl:p.length<=500):zeV p free=none↔free.length<zes p.length:=by
 unfold zeV zes;rw[zs0 free 4 _ _ _ zy zy (by rw[zf9];omega) (by rw[zf9];simp[bndL];omega),zf9,zBS9]
theorem zmU{T:LD}(hp:okP p=true)(hf:zmV free=true)(hl:p.length<=500)(h:zeV p free=some T):zzn p free T:=zp5 hf 4 _ _ _ _ (zlA free hp hl) h
def zez(n:zq)(z:Option zq):Bool:=match n.pairs.getLast?,z with
 | some p,some m=>decide (p.1<m.low)
 | _,_=>true
def zdr(w:LN):LN->LB->Bool
 | b::bs,n::ns=>decide (zbZ (zap w b)=0)&&zez n ns.head? && zdr w bs ns
 | _,_=>true
def zcO(w:LN):LD->Bool
 | []=>true
 | [L]=>zdr w L.1 L.2
 | L::M::T=>zdr w L.1 L.2&&decide (L.2.flatMap zdF=zd1 M)&&zcO w (M::T)
def zv8:LD->Bool
 | (_,n::_)::_=>decide (n.sib=0)
 | _=>false
def zgh(w:LN)(T:LD):Bool:=zv8 T&&zcO w T
def zi6(T:LD):Nat:=match T with
 | L::_=>L.1.headD 0
 | []=>0
theorem zkW{l:LN}(h:headB l=true):(headN l).level<=12/\(headN l).sib<2048/\(headN l).way<=2:=by
 unfold headB at h;rw[zAO9,zBV9]at h;have h0:=h.2 0 zy;have h1:=h.2 1 zy;have h4:=h.2 4 zy;rw[zdV,zAO9,decide_eq_true_eq,decide_eq_true_eq]at h0;rw[zdV,decide_eq_true_eq]at h1;have h4:decide (l.getD 4 0<=2)=true:=h4;rw[decide_eq_true_eq]at h4;refine⟨?_,h1,h4⟩;have:(headN l).level=zhp (l.getD 0 0):=by unfold headN;rfl
 rw[this,zn5];omega
theorem zvI{ns ms:LB}(h:ns ≠ []):(ns++ms).head?=ns.head?:=by
 cases ns with
 | nil=>grind
 | cons a l=>rfl
theorem zjn(l:LN):(headN l).pairs.length<=28:=by unfold headN;exact zfG _ _
structure LvF(w:LN)(bs:LN)(ns:LB):Prop where
 is:ns=bs.map fun b=>headN (zap w b)
 each:∀b∈bs,b<w.length/64/\headB (zap w b)=true
 same:∀n∈ns,∀z,ns.head?=some z->n.level=z.level
variable {bs:LN}{ns:LB}{w:LN}
theorem LvF.len(h:LvF w bs ns):bs.length=ns.length:=by rw[h.is,zAP9]
theorem LvF.node(h:LvF w bs ns){n:zq}(hn:n∈ns):n.pairs.length<=28/\n.level<=12/\n.sib<2048:=by
 rw[h.is]at hn;obtain⟨b,hb,rfl⟩:=zAH9.1 hn;have:=zkW (h.each b hb).2;exact⟨zjn _,this.1,this.2.1⟩
theorem LvF.nil(w:LN):LvF w [] []:=⟨rfl,fun b hb=>by grind,fun n hn=>by simp at hn⟩
theorem zgO{lv:Int}{N:Nat}:∀(k:Nat) (seen bs:LN) (ns:LB) (b:Nat) (r:LN×LN×LB),zb5 w lv k seen bs ns b=some r->LvF w bs ns->(∀n,ns.head?=some n->lv<0\/(n.level:Int)=lv)->bs.length+k<=N->LvF w r.2.1 r.2.2/\(∀n,r.2.2.head?=some n->lv<0\/(n.level:Int)=lv)/\r.2.1.length<=N
 | 0,seen,bs,ns,b,r,h,hF,hh,hN=>by
  rw[zb5]at h
  grind
 | k+1,seen,bs,ns,b,r,h,hF,hh,hN=>by
  rw[zb5]at h
  split at h
  .grind
  .split at h
   .cases h
   .rename_i hb
    split at h
    .rename_i hg;rw[zAO9]at hg;have hbl:b<w.length/64:=by grind
     refine zgO k _ _ _ _ r h ⟨by rw[hF.is];simp,fun c hc=>?_,fun n hn z hz=>?_⟩ (fun n hn=>?_) (by grind)
     .rcases zBG9.1 hc with hc|hc
      .exact hF.each c hc
      grind
     .have hgo:=hg.2;unfold zcy at hgo
      cases hl:ns.getLast? with
      | none =>
       simp_all
      | some y =>
       rw[hl]at hgo;simp only[zAO9,decide_eq_true_eq]at hgo;have hne:ns ≠ []:=by intro e;rw[e]at hl;simp at hl
       rw[zvI hne]at hz;rcases zBG9.1 hn with hn|hn
       .exact hF.same n hn z hz
       .simp at hn;rw[hn,hgo.2];exact hF.same y (List.mem_of_getLast? hl) z hz
     .have hgo:=hg.2;unfold zcy at hgo
      cases hl:ns.getLast? with
      | none =>
       simp_all
      | some y =>
       have hne:ns ≠ []:=by intro e;rw[e]at hl;simp at hl
       rw[zvI hne]at hn
       grind
    grind
structure zjZ(w:LN)(L:Lev):Prop where
 lv:LvF w L.1 L.2
 ne:L.2 ≠ []
 few:L.2.length<=2048
def zjT(L:Lev):Prop:=∀n∈L.2,0<n.level
theorem zg9(hw:w.length<=131072):∀(d:Nat) (seen:LN) (acc:LD) (b:Nat) (lv:Int),(∀L∈acc,zjZ w L/\zjT L) ->
  (∀L∈(zcb w d seen acc b lv).1,zjZ w L)/\(∀L∈(zcb w d seen acc b lv).1.dropLast,zjT L)/\((zcb w d seen acc b lv).2=true->(zcb w d seen acc b lv).1 ≠ []/\∀M,(zcb w d seen acc b lv).1.getLast?=some M->zbV (levP M.2)=true)
 | 0,seen,acc,b,lv,h=>⟨fun L hL=>(h L hL).1,fun L hL=>(h L (zGX9 _ hL)).2,fun e=>by cases e⟩
 | d+1,seen,acc,b,lv,h=>by
  rw[zcb]
  cases hr:zb5 w lv (w.length/64) seen [] [] b with
  | none=>exact⟨fun L hL=>(h L hL).1,fun L hL=>(h L (zGX9 _ hL)).2,fun e=>by cases e⟩
  | some r =>
   obtain⟨s',bs,ns⟩:=r;obtain⟨k1,k2,k3⟩:=zgO (N:=2048) _ _ _ _ _ _ hr (LvF.nil w) (fun n hn=>by grind) (by grind)
   cases ns with
   | nil=>exact⟨fun L hL=>(h L hL).1,fun L hL=>(h L (zGX9 _ hL)).2,fun e=>by cases e⟩
   | cons n ns =>
    have hF:zjZ w (bs,n::ns):=⟨k1,by simp,by rw[<- k1.len];exact k3⟩
    simp only
    split
    .refine⟨fun L hL=>?_,fun L hL=>?_,fun e=>⟨by simp,fun M hM=>?_⟩⟩
     .rcases zBG9.1 hL with hL|hL
      .exact(h L hL).1
      .simp at hL;subst hL;exact hF
     .rw[zEL9]at hL;exact(h L hL).2
     grind
    .rename_i hlv;refine zg9 hw d _ _ _ _ fun L hL=>?_;rcases zBG9.1 hL with hL|hL
     .grind
     .simp at hL;subst hL;exact⟨hF,fun m hm=>by have:=k1.same m hm n rfl;omega⟩
theorem zhl:∀(L:LB),(∀n∈L,n.pairs.length<=28)->(levP L).length<=28*L.length
 | [],_=>zAJ9 _
 | n::L,h=>by
  have h1:=zhl L fun m hm=>h m (zAQ9 _ hm);have h2:=h n (zAR9 ..);have h3:=List.length_filter_le (zeI L.head?) n.pairs;rw[levP,zAB9,zAG9];omega
theorem zl6.next{p:LJ}{free:LN}(hf:zmV free=true){l:LB}{used:Nat}{T:LD}(hi:zl6 p free l used T)(hu:¬free.length<used+l.length)(ho:¬l.length=1) :
  zl6 p free (zc5 (T.length+1) ((l.map zq.low).zip ((free.drop used).take l.length))) (used+l.length) (((free.drop used).take l.length,zbY ((free.drop used).take l.length) l)::T):=by
 obtain⟨h1,h2,h3,h4,h5,h6,h7,h8⟩:=hi.level hf hu;have hbd:=hi.bndL;have hlvl:=hi.lvl;have hne0:0<l.length:=zCC9.2 hi.ok.ne;have hT1:T.length<=1:=by
  rcases zCX9 T.length 2 with h|h
  .omega
  .have e:T.length=2:=zo;rw[e]at hbd;simp[Fv.bndL]at hbd;omega
 obtain⟨k1,k2,k3⟩:=zgu _ _ h1;generalize hbs:(free.drop used).take l.length=bs at *
 have hzl:((l.map zq.low).zip bs).length=l.length:=by simp[h1]
 have hms:((l.map zq.low).zip bs).map Prod.snd=bs:=List.map_snd_zip (by simp[h1]);have hg:∀(i:Nat) (x:Pr),((l.map zq.low).zip bs)[i]?=some x->∃n,l[i]?=some n/\x.1=n.low:=by
  intro i x hx;rw[zDW9]at hx
  grind
 have hz0:(((l.map zq.low).zip bs).getD 0 (0,0)).1=0:=by
  obtain⟨n,hn,e⟩:=hg 0 _ (get_lt _ zo);rw[e];exact hi.ok.low0 n hn
 have hrz:zbV ((l.map zq.low).zip bs)=true:=by
  rw[zfH];intro i x y hx hy;obtain⟨n,hn,e⟩:=hg i x hx;obtain⟨m,hm,e2⟩:=hg _ y hy;rw[e,e2];exact hi.ok.rise i n m hn hm
 have hab:=zsV (lv:=T.length+1) (ks:=(l.map zq.low).zip bs) ⟨by omega,by omega⟩ (by intro e;rw[e]at hzl;simp at hzl;omega) hrz hz0 (by rw[hms];exact h5) (fun x hx=>h4 x.2 (zEK9 hx).2);refine⟨hab.1,⟨?_,h7⟩,h8,?_,h6,by omega,?_,by simp;omega⟩
 .rw[hab.2];unfold zd1;rw[k2]
 .intro M hM;rcases zBA9.1 hM with rfl|hM
  .grind
  .exact hi.len M hM
 .rw[zfS,hzl];show _<=Fv.bndL (T.length+1)
  match hT:T.length,hT1 with
  | 0,_=>rw[hT]at hbd;simp[Fv.bndL]at hbd⊢;omega
  | 1,_=>rw[hT]at hbd;simp[Fv.bndL]at hbd⊢;omega
def zix(r:Nat)(b:LN):Nat:=b.foldl zl5 r
def ziC(l:LN):Nat:=18446744073709551615-zix 18446744073709551615 (zcK l)
def zdD(b d:Nat):LQ:=[iv 48,iv 8,iv 64,iv b,uv 3,uv 5,iv 9,iv 11,iv 27,iv d]
@[reducible] def zb7 (b d:Nat):PV:=.agg (zdD b d)
structure zfm where
 ino:Nat
 name:LN
@[reducible] def zgn (r:zfm):PV:=.agg [iv r.ino,.str r.name]
def zeZ(r:zfm):Bool:=decide (1<=r.ino)&&decide (r.ino<=256)&&decide (zb1 r.name=0)
def zeM(r:zfm):LN:=(r.ino+65536*r.name.length)::zdQ r.name++List.replicate (15-(r.name.length+7)/8) 0
def zh1(w:LN):Option zfm :=
 let r:zfm:=⟨w.getD 0 0%65536,(zcK (w.drop 1)).take (w.getD 0 0/65536%256)⟩
 if w.getD 0 0/65536%256<=120/\zeZ r=true/\zeM r=w then some r else none
def ze0(b:Nat)(name:LN):Nat:=zgX 3 5 name/2 ^ (64-b)%2 ^ b
structure zcR where
 key:Nat
 num:Nat
 ino:Nat
 name:LN
 deriving DecidableEq
abbrev AQ:=List zcR
@[reducible] def zdj (x:zcR):PV:=.agg [uv x.key,iv x.num,iv x.ino,.str x.name]
@[reducible] def esv (p:Nat) (l:AQ):PV:=.list p 4 (l.map zdj)
def zeL(w:LN)(n:Nat):LN:=(w.drop (704+16*(n-1))).take 16
def ze3(w:LN)(b:Nat)(p:Pr):Option zcR :=
 if 1<=p.2/\p.2<=64 then match zh1 (zeL w p.2)with
  | some r=>if ze0 b r.name=p.1/65536 then some ⟨p.1,p.2,r.ino,r.name⟩else none
  | none=>none
 else none
def zkn(acc:AQ)(x:zcR):Bool:=acc.any fun y=>decide (y.name=x.name)||decide (y.num=x.num)
def zdN(w:LN)(b:Nat):AQ->LJ->Option (AQ)
 | acc,[]=>some acc
 | acc,p::l=>match ze3 w b p with
  | some x=>if zkn acc x=true then none else zdN w b (acc++[x]) l
  | none=>none


def rdH(p:Nat)(w:LN)(mo:zc)(vs:LQ)(G:LP):LP :=
 .row 26 1 0 0 [wv p w]::.row 192 1 0 0 [.sl 5 vs.length 0 vs.length (2*vs.length) 2]::mo::.row 209 1 0 0 [.map 2]::.row 323 1 0 0 [.fn 224 [.ptr 0 0 0 0 1,.ptr 3 0 0 0 1,.ptr 1 0 0 0 1,.ptr 4 0 0 0 1]]::.row 195 2 vs.length 0 vs::G
def znc(mo:zc)(seen:LN):Prop:=(mo=.map0/\seen=[])\/∃mm:Int->LX,mo=.mapI .u64 mm/\∀q:Nat,mm q=if seen.contains q=true then some (iv 1)else none
theorem zHl{α:Type}(G l:List α)(x y z:α):(G++x::y::z::l)[G.length+2]?=some z:=by grind
def zt1(H:LP)(v:PV)(l:Lev):Prop:=∃i j:Nat,v=.agg [.sl (i+6) l.1.length 0 l.1.length (2*l.1.length) 1,.sl (j+6) l.2.length 0 l.2.length (2*l.2.length) 6] /\
 H[i]?=some (.row 3 1 l.1.length 0 (l.1.map fun(b:Nat)=>iv (b:Int)))/\H[j]?=some (.row 143 6 l.2.length 0 (l.2.map (zbr 0)))
def zgr(H:LP)(vs:LQ)(ls:LD):Prop:=vs.length=ls.length/\∀(k:Nat) (v:PV) (l:Lev),vs[k]?=some v->ls[k]?=some l->zt1 H v l
variable {G':LP}{acc:LD}{b d:Nat}{ls:LD}{lv:Int}{mo2:zc}{p:Nat}{seen:LN}{vs:LQ}{α:Type}(G:List α)(n:Nat)(G2:List α)
def zBp(b:Nat)(lv:Int):LQ:=[uv b,iv lv,.ptr 0 0 0 0 1,.ptr 3 0 0 0 1,.ptr 1 0 0 0 1,.ptr 4 0 0 0 1]
def zlL(p:Nat)(w:LN)(mo2:zc)(vs:LQ)(G:LP)(bs:LN)(ns:LB)(G2:LP):LP :=
 .row 26 1 0 0 [wv p w]::.row 192 1 0 0 [.sl 5 vs.length 0 vs.length (2*vs.length) 2]::mo2::.row 209 1 0 0 [.map 2]::.row 323 1 0 0 [.fn 224 [.ptr 0 0 0 0 1,.ptr 3 0 0 0 1,.ptr 1 0 0 0 1,.ptr 4 0 0 0 1]]::.row 195 2 vs.length 0 vs ::
   (G++.row 195 2 0 0 [.agg [.sl (G.length+7) bs.length 0 bs.length (2*bs.length) 1,.sl (G.length+8) ns.length 0 ns.length (2*ns.length) 6]]::.row 3 1 bs.length 0 (bs.map fun(b:Nat)=>iv (b:Int))::.row 143 6 ns.length 0 (ns.map (zbr 0))::G2)
theorem zt1.mono{G:LP}{v:PV}{l:Lev}(h:zt1 G v l):zt1 (G++G') v l:=by
 obtain⟨i,j,h1,h2,h3⟩:=h;exact⟨i,j,h1,by grind,by grind⟩
theorem zgr.mono{G:LP}(h:zgr G vs ls):zgr (G++G') vs ls:=⟨h.1,fun k v l hv hl=>(h.2 k v l hv hl).mono⟩
theorem zgr.snoc{G:LP}(h:zgr G vs ls)(r:zc)(bs:LN)(ns:LB)(X:LP)(k:Nat)(hk:k=ns.length):zgr (G++r::.row 3 1 bs.length 0 (bs.map fun(b:Nat)=>iv (b:Int))::.row 143 6 k 0 (ns.map (zbr 0))::X) (vs++[.agg [.sl (G.length+7) bs.length 0 bs.length (2*bs.length) 1,.sl (G.length+8) k 0 k (2*k) 6]]) (ls++[(bs,ns)]):=by
 subst hk;refine⟨by simp[h.1],fun q v l hv hl=>?_⟩;rcases zCX9 q vs.length with hq|hq
 .rw[zAX9 hq]at hv;rw[zAX9 (by rw[<- h.1];exact hq)]at hl;exact(h.2 q v l hv hl).mono
 .rw[zBC9 hq]at hv;rw[zBC9 (by rw[<- h.1];exact hq)]at hl;obtain rfl:=zBI9.1 (zAI9 hv);obtain rfl:=zBI9.1 (zAI9 hl);exact⟨G.length+1,G.length+2,rfl,hm0 G _ _ _,zHl G _ _ _ _⟩
def zn4(p:Nat)(w:LN)(r:LD×Bool)(e:FE)(H':LP):Prop:=e=.ret (.bool r.2)/\∃mo' vs' G',H'=rdH p w mo' vs' G'/\zgr G' vs' r.1
theorem znp(hd:(0<=lv/\lv+1<=d)\/14<=d)(h:zb5 w lv (w.length/64) seen [] [] b=none):zcb w d seen acc b lv=(acc,false):=by
 match d,hd with
 | 0,hd=>omega
 | d+1,_=>rw[zcb,h]
theorem zFi{G:LP}{bs:LN}{ns:LB}{G2:LP}(hd:(0<=lv/\lv+1<=d)\/14<=d)(h:zb5 w lv (w.length/64) seen [] [] b=none)(hv:zgr G vs acc):zn4 p w (zcb w d seen acc b lv) (.ret (.bool false)) (zlL p w mo2 vs G bs ns G2):=by
 rw[znp hd h];exact⟨rfl,mo2,vs,_,rfl,hv.mono⟩
theorem zvz{G:LP}(hd:(0<=lv/\lv+1<=d)\/14<=d)(h:zb5 w lv (w.length/64) seen [] [] b=none)(hv:zgr G vs acc):zn4 p w (zcb w d seen acc b lv) (.ret (.bool false)) (rdH p w mo2 vs G):=by
 rw[znp hd h];exact⟨rfl,mo2,vs,_,rfl,hv⟩
theorem zcC:(n==n+1)=false:=by simp
theorem zcE:(n+1==n)=false:=by simp
theorem zcF:(n==n+1+1)=false:=by grind
theorem zcD:(n+1+1==n)=false:=by grind
theorem zrp:(n+6==n+7)=false:=by simp
theorem zrG:(n+7==n+6)=false:=by simp
theorem zsy:(n+6==n+8)=false:=by simp
theorem zrx:(n+8==n+6)=false:=by simp
theorem zrr:(n+7==n+8)=false:=by simp
theorem zsk:(n+8==n+7)=false:=by simp
theorem zrE(a b c:α):((G++a::b::c::G2).length==G.length)=false:=by grind
theorem zrs(a b c:α):(G.length==(G++a::b::c::G2).length)=false:=by grind
theorem zrZ(a b c x0:α):((G++a::b::c::G2++[x0]).length==G.length)=false:=by grind
theorem zrn(a b c x0:α):(G.length==(G++a::b::c::G2++[x0]).length)=false:=by grind
theorem zrT(a b c x0 x1:α):((G++a::b::c::G2++[x0]++[x1]).length==G.length)=false:=by grind
theorem zrj(a b c x0 x1:α):(G.length==(G++a::b::c::G2++[x0]++[x1]).length)=false:=by grind
theorem zsf(a b c x0 x1 x2:α):((G++a::b::c::G2++[x0]++[x1]++[x2]).length==G.length)=false:=by grind
theorem zsg(a b c x0 x1 x2:α):(G.length==(G++a::b::c::G2++[x0]++[x1]++[x2]).length)=false:=by grind
theorem zrN(a b c:α):((G++a::b::c::G2).length==G.length+1)=false:=by grind
theorem zrk(a b c:α):(G.length+1==(G++a::b::c::G2).length)=false:=by grind
theorem zsd(a b c x0:α):((G++a::b::c::G2++[x0]).length==G.length+1)=false:=by grind
theorem zrt(a b c x0:α):(G.length+1==(G++a::b::c::G2++[x0]).length)=false:=by grind
theorem zsx(a b c x0 x1:α):((G++a::b::c::G2++[x0]++[x1]).length==G.length+1)=false:=by grind
theorem zrm(a b c x0 x1:α):(G.length+1==(G++a::b::c::G2++[x0]++[x1]).length)=false:=by grind
theorem zrF(a b c x0 x1 x2:α):((G++a::b::c::G2++[x0]++[x1]++[x2]).length==G.length+1)=false:=by grind
theorem zri(a b c x0 x1 x2:α):(G.length+1==(G++a::b::c::G2++[x0]++[x1]++[x2]).length)=false:=by grind
theorem zrd(a b c:α):((G++a::b::c::G2).length==G.length+2)=false:=by grind
theorem zsw(a b c:α):(G.length+2==(G++a::b::c::G2).length)=false:=by grind
theorem zsc(a b c x0:α):((G++a::b::c::G2++[x0]).length==G.length+2)=false:=by grind
theorem zsj(a b c x0:α):(G.length+2==(G++a::b::c::G2++[x0]).length)=false:=by grind
theorem zr1(a b c x0 x1:α):((G++a::b::c::G2++[x0]++[x1]).length==G.length+2)=false:=by grind
theorem zre(a b c x0 x1:α):(G.length+2==(G++a::b::c::G2++[x0]++[x1]).length)=false:=by grind
theorem zrJ(a b c x0 x1 x2:α):((G++a::b::c::G2++[x0]++[x1]++[x2]).length==G.length+2)=false:=by grind
theorem zst(a b c x0 x1 x2:α):(G.length+2==(G++a::b::c::G2++[x0]++[x1]++[x2]).length)=false:=by grind
theorem gl2(a b b' c p q z:α):(G++a::b'::c::G2++[p]++[q]++[z])[(G++a::b::c::G2++[p]++[q]).length]?=some z:=by simp_all
theorem zrO:(n+1==n+2)=false:=by simp
theorem zrR:(n+2==n+1)=false:=by simp
theorem zss:(n==n+2)=false:=by simp
theorem zrl:(n+2==n)=false:=by simp
section
variable {α:Type}(G l m n o:List α)(x y z u:α)
theorem gm3:(G++x::l++m++n++o)[G.length]?=some x:=by grind
theorem hm3:(G++x::y::l++m++n++o)[G.length+1]?=some y:=by simp_all
theorem km3:(G++x::y::z::l++m++n++o)[G.length+2]?=some z:=by simp_all
theorem sm3:(G++x::l++m++n++o).set G.length u=G++u::l++m++n++o:=by grind
theorem tm3:(G++x::y::l++m++n++o).set (G.length+1) u=G++x::u::l++m++n++o:=by simp_all
theorem um3:(G++x::y::z::l++m++n++o).set (G.length+2) u=G++x::y::u::l++m++n++o:=by simp_all
theorem km0:(G++x::y::z::l)[G.length+2]?=some z:=by grind
theorem km1:(G++x::y::z::l++m)[G.length+2]?=some z:=by simp_all
theorem km2:(G++x::y::z::l++m++n)[G.length+2]?=some z:=by simp_all
end
variable {T:LD}(p:Nat)(w:LN)(a:Int)
def zyD:=And.intro (@gm0 zc) (And.intro (@gm1 zc) (And.intro (@gm2 zc) (And.intro (@gm3 zc) (And.intro (@hm0 zc) (And.intro (@hm1 zc) (And.intro (@hm2 zc) (And.intro (@hm3 zc) (And.intro (@km0 zc) (And.intro (@km1 zc) (And.intro (@km2 zc) (And.intro (@km3 zc) (And.intro (@sm0 zc) (And.intro (@sm1 zc) (And.intro (@sm2 zc) (And.intro (@sm3 zc) (And.intro (@tm0 zc) (And.intro (@tm1 zc) (And.intro (@tm2 zc) (And.intro (@tm3 zc) (@um3 zc))))))))))))))))))))
theorem zhn{l:LN}:∀v∈(l.map fun(b:Nat)=>iv (b:Int)).flatMap PV.cells,Id0 v:=fun v hv=>by
 obtain⟨x,hx,hv⟩:=zAU9.1 hv;obtain⟨n,_,rfl⟩:=zAH9.1 hx;simp[PV.cells]at hv;subst hv;exact .int _ _
theorem zCQ(hw:64<=w.length/\w.length<=131072/\w.length%64=0):∀(d:Nat) (seen:LN) (acc:LD) (b:Nat) (lv:Int) (mo:zc) (vs:LQ) (G:LP) (hd:(0<=lv/\lv+1<=d)\/14<=d) (hs:znc mo seen) (hv:zgr G vs acc) (hva:acc.length+d<=100),
  FO ET 224 (zBp b lv) (rdH p w mo vs G) false (zn4 p w (zcb w d seen acc b lv)):=by
 intro d
 induction d with
 | zero=>intro seen acc b lv mo vs G hd;omega
 | succ d ih =>
 intro seen acc b lv mo vs G hd hs hv hva;refine zro (eG T224 func224) ?_;unfold zBp rdH;refine zG ?_;refine zfF 3 1 (id:=G.length+6) (v:=.agg [.nilsl,.nilsl]) (v':=.agg [.sl (G.length+7) 0 0 0 0 1,.nilsl]) (e0:=195) (z0:=2) (G:=0) (M:=0) (by simp_all) rfl (fun k x y hx hy=>?_) ?_
 .match k with
  | 0=>injection hx with hx;injection hy with hy;subst hx hy;exact .inr ⟨rfl,by simp[lzy]⟩
  | 1=>injection hx with hx;injection hy with hy;grind
  | k+2=>simp[PV.cells]at hx
 simp only[zCR9,zb,zAS9,zAD9,zAV9];refine zfF 143 6 (id:=G.length+6) (v:=.agg [.sl (G.length+7) 0 0 0 0 1,.nilsl]) (v':=.agg [.sl (G.length+7) 0 0 0 0 1,.sl (G.length+8) 0 0 0 0 6]) (e0:=195) (z0:=2) (G:=0) (M:=0) (by simp_all) rfl (fun k x y hx hy=>?_) ?_
 .match k with
  | 0=>injection hx with hx;injection hy with hy;grind
  | 1=>injection hx with hx;injection hy with hy;subst hx hy;exact .inr ⟨rfl,by simp[lzy]⟩
  | k+2=>simp[PV.cells]at hx
 simp only[zCR9,sm0,zAS9,zAD9,zAV9];have hnb:w.length/64<=2048:=zo;refine ze (zbk (fun m s=>∃(k:Nat) (seen2:LN) (bs:LN) (ns:LB) (b2:Nat) (mo2:zc) (G2:LP),m=k/\zeH (w.length/64) seen2<=k/\zb5 w lv (w.length/64) seen [] [] b=zb5 w lv k seen2 bs ns b2/\bs.length=ns.length/\bs.length+k<=2048/\znc mo2 seen2/\s.tm 0=uv b2/\s.tm 1=iv lv/\s.tm 2=.ptr 0 0 0 0 1/\s.tm 3=.ptr 3 0 0 0 1/\s.tm 4=.ptr 1 0 0 0 1/\s.tm 5=.ptr 4 0 0 0 1/\s.tm 9=.ptr (G.length+6) 0 0 0 2/\s.df=[] /\
  s.H=zlL p w mo2 vs G bs ns G2) (n:=w.length/64) ?_ ?_)
 .exact⟨_,seen,[],[],b,mo,[],rfl,zjr _ _,rfl,rfl,by grind,hs,zt,zt,zt,zt,zt,zt,zt,rfl,rfl⟩
 .rintro m ⟨tm,df,H⟩ ⟨k,seen2,bs,ns,b2,mo2,G2,rfl,hun,hrd,hbn,hbk,hs2,h0,h1,h2,h3,h4,h5,h9,rfl,rfl⟩;dsimp only at *
  unfold zlL;refine zLh h0 ?_ ?_
  .intro hb0;have hb0:¬b2=0:=by simpa using hb0
   have q1:IntKind.i64.wrap ((w.length:Int).tdiv 64)=((w.length/64:Nat):Int):=by rw[IntWalk.i64_quo _ _ zo];omega
   refine zBb ?_;refine zB ?_;refine zcJ (Q:=fun y s'=>y=.norm/\s'.tm 0=uv b2/\s'.tm 1=iv lv/\s'.tm 2=.ptr 0 0 0 0 1/\s'.tm 3=.ptr 3 0 0 0 1/\s'.tm 4=.ptr 1 0 0 0 1/\s'.tm 5=.ptr 4 0 0 0 1/\s'.tm 9=.ptr (G.length+6) 0 0 0 2/\s'.tm 38=.bool (decide (w.length/64<=b2)||seen2.contains b2)/\s'.df=[]/\s'.H=zlL p w mo2 vs G bs ns G2) (zae ?_) ?_
   .by_cases hge:w.length/64<=b2
    .have g1:((w.length/64:Nat):Int)<=b2:=zo;refine zKF (zr5 h0 h2 h3 q1 g1) ?_;exact⟨zt,h0,h1,h2,h3,h4,h5,h9,by simp[upd,hge],rfl,rfl⟩
    .have g1:¬((w.length/64:Nat):Int)<=b2:=zo;rcases hs2 with⟨rfl,rfl⟩|⟨mm,rfl,hmm⟩
     .refine zKF (zr5 h0 h2 h3 q1 g1) ?_;exact⟨zt,h0,h1,h2,h3,h4,h5,h9,by simp[upd,hge],rfl,rfl⟩
     .have hq:=hmm b2
      by_cases hc:seen2.contains b2=true
      .rw[if_pos hc]at hq;refine zKF (zr6 h0 h2 h3 q1 g1 hq) ?_;exact⟨zt,h0,h1,h2,h3,h4,h5,h9,by rw[hc];simp[upd],rfl,rfl⟩
      .rw[if_neg hc]at hq;refine zKF (zr6 h0 h2 h3 q1 g1 hq) ?_;have hc:seen2.contains b2=false:=by simpa using hc
       exact⟨zt,h0,h1,h2,h3,h4,h5,h9,by rw[hc];simp[upd,hge],rfl,rfl⟩
   .clear h0 h1 h2 h3 h4 h5 h9;rintro y ⟨tm,df,H⟩ ⟨rfl,h0,h1,h2,h3,h4,h5,h9,h38,rfl,rfl⟩;dsimp only at *
    by_cases hbad:(decide (w.length/64<=b2)||seen2.contains b2)=true
    .refine zIe h38 ?_ ?_
     .intro _;refine zO ?_;refine zFi hd ?_ hv;rw[hrd]
      cases m with
      | zero=>rw[zb5,if_neg hb0]
      | succ m=>rw[zb5,if_neg hb0,if_pos hbad]
     .rw[hbad];intro h;cases h
    have hbad:(decide (w.length/64<=b2)||seen2.contains b2)=false:=by simpa using hbad
    refine zIe h38 ?_ ?_
    .rw[hbad];intro h;cases h
    intro _;refine zSk ?_;have hbl:b2<w.length/64:=by
     cases h:decide (w.length/64<=b2)with
     | true=>grind
     | false=>grind
    have hbs:¬seen2.contains b2=true:=by intro h;rw[h,Bool.or_true]at hbad;cases hbad
    refine zHW (zcJ (Q:=fun y s'=>y=.norm/\s'.tm 0=uv b2/\s'.tm 1=iv lv/\s'.tm 2=.ptr 0 0 0 0 1/\s'.tm 3=.ptr 3 0 0 0 1/\s'.tm 4=.ptr 1 0 0 0 1/\s'.tm 5=.ptr 4 0 0 0 1/\s'.tm 9=.ptr (G.length+6) 0 0 0 2/\s'.df=[]/\∃mo3,znc mo3 (b2::seen2)/\s'.H=zlL p w mo3 vs G bs ns G2) (zae ?_) ?_)
    .unfold zlL;rcases hs2 with⟨rfl,rfl⟩|⟨mm,rfl,hmm⟩
     .refine zKF (zr2 h0 h3) ?_;refine⟨zt,h0,h1,h2,h3,h4,h5,h9,zt,_,.inr ⟨_,rfl,fun q=>?_⟩,rfl⟩
      by_cases hq:q=b2
      .grind
      .have:¬(q:Int)=b2:=zo;simp[hq,this]
     .refine zKF (zr2 h0 h3) ?_;refine⟨zt,h0,h1,h2,h3,h4,h5,h9,zt,_,.inr ⟨_,rfl,fun q=>?_⟩,rfl⟩
      by_cases hq:q=b2
      .subst hq;simp
      .have:¬(q:Int)=b2:=zo;rw[if_neg this,hmm q];simp[hq]
    .clear h0 h1 h2 h3 h4 h5 h9 h38 hs2;rintro y ⟨tm,df,H⟩ ⟨rfl,h0,h1,h2,h3,h4,h5,h9,rfl,mo3,hs3,rfl⟩;dsimp only at *
     unfold zlL;have hm1:∃m',m=m'+1:=by
      cases m with
      | zero=>exact absurd (zk4 _ b2 seen2 zo hbl) hbs
      | succ m=>exact⟨m,rfl⟩
     obtain⟨m',rfl⟩:=hm1;rw[zb5,if_neg hb0,if_neg (by rw[hbad];decide)]at hrd;have hof:=znZ p w b2 zo zo;have hOf:=zyf p (zap w b2) (by unfold zap;simp;omega);refine zBr ?_;refine zb2 (zr2 h0 h2) ?_;refine zcp hof ?_
     by_cases hh:headB (zap w b2)=true
     rotate_left
     .have hh:headB (zap w b2)=false:=by simpa using hh
      have he:zft (zap w b2)=.ret (.tuple [zbr 0 zfq,iv 210]):=by unfold zft;rw[if_neg (by rw[hh];decide)]
      rw[he]at hOf;rw[hh,zDZ9,if_neg zy]at hrd;refine zfx ?_;refine zCN hOf ?_;refine zG ?_;refine zfc ?_ ?_
      .intro _;refine zO ?_;refine zvz (G:=_) hd hrd ?_;exact hv.mono.mono
      .intro h;cases h
     obtain⟨b12,b2048,bw⟩:=zkW hh;rw[zil _ hh]at hOf;rw[hh,zCB9]at hrd;generalize headN (zap w b2)=nd at hOf hrd b12 b2048 bw;refine zfx ?_;refine zCN hOf ?_;refine zBr ?_;refine zb2 (zr3 h1 h9 zyD) ?_;refine zcl (zFK 1 0 0 bs ns nd lv zo) ?_ ?_;(repeat(first|exact trivial|refine And.intro ?_ ?_|exact .int _ _|exact .bool _|exact .list _ _ _|exact .elem _|exact .nilsl|exact .nil _ _|exact .str _|refine Frz.aggL ?_|refine Frz.fnL ?_|refine Frz.tL ?_|refine .iface ?_|exact zdq rfl rfl (by assumption)))
     .exact Frz.wh (e:=3) (z':=1) (G:=bs.length) (l:=bs.map fun(b:Nat)=>iv (b:Int)) (by simp only[zBO9,hm1]<;>rfl) rfl (by simp) (by simp) zmm zhn
     .refine⟨Frz.wh (e:=143) (z':=6) (G:=ns.length) (l:=ns.map (zbr 0)) (by simp only[zBO9,km1]<;>rfl) rfl (by simp) (by simp) zmm zht,trivial⟩
     .exact zLf
     by_cases hg:zcy ns nd lv=true
     rotate_left
     .have hg:zcy ns nd lv=false:=by simpa using hg
      rw[hg]at hrd⊢;rw[if_neg zy]at hrd;refine zN ?_;refine zfc ?_ ?_
      .intro _;refine zO ?_;refine zvz (G:=_) hd hrd ?_;exact hv.mono.mono
      .intro h;cases h
     rw[hg]at hrd⊢;rw[if_pos rfl]at hrd;refine zN ?_;refine zcf ?_;refine zSk ?_;have hba:(bs.length+1)*9<=140737488355328:=zo;have hbb:(ns.length+1)*65<=140737488355328:=zo;refine zBd ?_;refine zcs (zr5 h0 h9 hba hbb zyD) ?_;refine zda ?_ (by simp(disch:=omega)only[go_sem,h9,zrE,zrs,zrZ,zrn,zrT,zrj,zsf,zsg,zrN,zrk,zsd,zrt,zsx,zrm,zrF,zri,zrd,zsw,zsc,zsj,zr1,zre,zrJ,zst,zcC,zcE,zcF,zcD,zrO,zrR,zss,zrl,zrp,zrG,zsy,zrx,zrr,zsk,gm0,gm1,gm2,hm0,hm1,hm2,km0,km1,km2,gm3,hm3,km3,sm3,tm3,um3,hba,hbb,gl2]<;>rfl) (by first|exact trivial|simp only[go_sem,h9,zrE,zrs,zrZ,zrn,zrT,zrj,zsf,zsg,zrN,zrk,zsd,zrt,zsx,zrm,zrF,zri,zrd,zsw,zsc,zsj,zr1,zre,zrJ,zst,zcC,zcE,zcF,zcD,zrO,zrR,zss,zrl,zrp,zrG,zsy,zrx,zrr,zsk,gm0,gm1,gm2,hm0,hm1,hm2,km0,km1,km2,gm3,hm3,km3,sm3,tm3,um3,hba,hbb,gl2]);refine zda ?_ (by simp(disch:=omega)only[go_sem,h9,zrE,zrs,zrZ,zrn,zrT,zrj,zsf,zsg,zrN,zrk,zsd,zrt,zsx,zrm,zrF,zri,zrd,zsw,zsc,zsj,zr1,zre,zrJ,zst,zcC,zcE,zcF,zcD,zrO,zrR,zss,zrl,zrp,zrG,zsy,zrx,zrr,zsk,gm0,gm1,gm2,hm0,hm1,hm2,km0,km1,km2,gm3,hm3,km3,sm3,tm3,um3,hba,hbb,gl2]<;>rfl) (by first|exact trivial|simp only[go_sem,h9,zrE,zrs,zrZ,zrn,zrT,zrj,zsf,zsg,zrN,zrk,zsd,zrt,zsx,zrm,zrF,zri,zrd,zsw,zsc,zsj,zr1,zre,zrJ,zst,zcC,zcE,zcF,zcD,zrO,zrR,zss,zrl,zrp,zrG,zsy,zrx,zrr,zsk,gm0,gm1,gm2,hm0,hm1,hm2,km0,km1,km2,gm3,hm3,km3,sm3,tm3,um3,hba,hbb,gl2]);refine zda ?_ (by simp(disch:=omega)only[go_sem,h9,zrE,zrs,zrZ,zrn,zrT,zrj,zsf,zsg,zrN,zrk,zsd,zrt,zsx,zrm,zrF,zri,zrd,zsw,zsc,zsj,zr1,zre,zrJ,zst,zcC,zcE,zcF,zcD,zrO,zrR,zss,zrl,zrp,zrG,zsy,zrx,zrr,zsk,gm0,gm1,gm2,hm0,hm1,hm2,km0,km1,km2,gm3,hm3,km3,sm3,tm3,um3,hba,hbb,gl2]<;>rfl) (by first|exact trivial|simp only[go_sem,h9,zrE,zrs,zrZ,zrn,zrT,zrj,zsf,zsg,zrN,zrk,zsd,zrt,zsx,zrm,zrF,zri,zrd,zsw,zsc,zsj,zr1,zre,zrJ,zst,zcC,zcE,zcF,zcD,zrO,zrR,zss,zrl,zrp,zrG,zsy,zrx,zrr,zsk,gm0,gm1,gm2,hm0,hm1,hm2,km0,km1,km2,gm3,hm3,km3,sm3,tm3,um3,hba,hbb,gl2]);refine zQF h9 ?_;have hlb:(bs++[b2]).length=bs.length+1:=by simp
     have hln:(ns++[nd]).length=ns.length+1:=by simp
     have hgl:(List.map (zbr 0) ns++[zbr 0 nd])[ns.length]?=some (zbr 0 nd):=by simp
     have hgs:IntKind.i64.wrap ((ns.length+1:Nat)-1)=ns.length:=by rw[show ((ns.length+1:Nat):Int)-1=(ns.length:Nat) by omega];exact wrap_i64 zo zo
     have hil:ns.length<ns.length+1:=zCS9 _;refine zBr ?_;refine zb2 (zr5 h9 hgl hgs hil zyD) ?_;refine zcr ?_;refine⟨m',zCS9 _,m',b2::seen2,bs++[b2],ns++[nd],nd.sib,mo3,?G,rfl,?hu,hrd,by rw[hlb,hln,hbn],by rw[hlb];omega,hs3,?h0,zu h1,zu h2,zu h3,zu h4,zu h5,zu h9,zt,?H⟩
     case hu=>have:=zkp _ _ _ hbl hbs;omega
     case h0=>simp[upd]
     case H =>
      (try dsimp only);rw[hlb,hln,zBE9,zBE9];simp only[zAD9,zAS9,zAV9];rfl
  .intro hb0;have hb0:b2=0:=by simpa using hb0
   subst hb0;have hrd2:zb5 w lv (w.length/64) seen [] [] b=some (seen2,bs,ns):=by rw[hrd];cases m<;>simp[zb5]
   clear hrd;obtain⟨hF,hfst,_⟩:=zgO (N:=2048) _ _ _ _ _ _ hrd2 (LvF.nil w) (fun n hn=>by simp at hn) (by simp;omega);dsimp only at hF hfst
   cases ns with
   | nil =>
    (repeat(first|refine zHW ?_|refine zbj (zr2 h9 zyD) ?_));refine zfc ?_ ?_
    .intro _;refine zO ?_;have:zcb w (d+1) seen acc b lv=(acc,false):=by rw[zcb,hrd2]
     rw[this];exact⟨rfl,mo2,vs,_,rfl,hv.mono⟩
    .intro h;cases h
   | cons nd ns =>
    have g0:¬((ns.length+1:Nat):Int)=0:=zo;(repeat(first|refine zHW ?_|refine zbj (zr3 h9 g0 zyD) ?_));refine zcf ?_;refine zSk ?_;have hvl:=hv.1;have hbv:(vs.length+1)*49<=140737488355328:=zo;refine zB ?_;refine zbj (zr4 h4 h9 hbv zyD) ?_;have hg0:(List.map (zbr 0) (nd::ns))[0]?=some (zbr 0 nd):=rfl;have hi0:0<ns.length+1:=zCU9 _;obtain⟨hpp,b12,b2048⟩:=hF.node (zAR9 ..);refine zB ?_;refine zbj (zr4 h9 hg0 hi0 zyD) ?_;have hX:=fun X=>hv.snoc (.row 195 2 0 0 [.agg [.sl (G.length+7) bs.length 0 bs.length (2*bs.length) 1,.sl (G.length+8) (ns.length+1) 0 (ns.length+1) (2*(ns.length+1)) 6]]) bs (nd::ns) X (ns.length+1) rfl
    by_cases hlv:nd.level=0
    .have g1:(nd.level:Int)=0:=zo;refine zB ?_;refine zbj (zr2 g1 zyD) ?_;refine zfc ?_ ?_
     .intro _;have hnl:(nd::ns).length<=2048:=by rw[<- hF.len];omega
      have hll:=zhl (nd::ns) fun n hn=>(hF.node hn).1;have hra:zcb w (d+1) seen acc b lv=(acc++[(bs,nd::ns)],zbV (levP (nd::ns))):=by rw[zcb,hrd2];simp only;rw[if_pos hlv]
      have hlp:=zkX 1 0 bs (nd::ns) zo (fun n hn=>(hF.node hn).1) zo;unfold zic at hlp
      by_cases hri:zbV (levP (nd::ns))=true
      .rw[if_pos hri]at hlp;refine zBr ?_;refine zb2 (zr2 h9 zyD) ?_;refine zcl hlp ?_ ?_;(repeat(first|exact trivial|refine And.intro ?_ ?_|exact .int _ _|exact .bool _|exact .list _ _ _|exact .elem _|exact .nilsl|exact .nil _ _|exact .str _|refine Frz.aggL ?_|refine Frz.fnL ?_|refine Frz.tL ?_|refine .iface ?_|exact zdq rfl rfl (by assumption)))
       .exact Frz.wh (e:=3) (z':=1) (G:=bs.length) (l:=bs.map fun(b:Nat)=>iv (b:Int)) (by simp only[zBO9,hm2]<;>rfl) rfl (by simp) (by simp) zmm zhn
       .exact⟨Frz.wh (e:=143) (z':=6) (G:=ns.length+1) (l:=(nd::ns).map (zbr 0)) (by simp only[zBO9,km2]<;>rfl) rfl (by simp) (by simp) zmm zht,trivial⟩
       .exact zLf
       refine zN ?_;refine zO ?_;rw[hra,hri];refine⟨rfl,mo2,_,_,?e1,hX ?X1⟩
       case e1 =>
        unfold rdH;simp only[zAB9,zAG9,zAN9,zBS9,zAD9,zAS9];rfl
      .rw[if_neg hri]at hlp;have hri:zbV (levP (nd::ns))=false:=by simpa using hri
       refine zBr ?_;refine zb2 (zr2 h9 zyD) ?_;refine zcl hlp ?_ ?_;(repeat(first|exact trivial|refine And.intro ?_ ?_|exact .int _ _|exact .bool _|exact .list _ _ _|exact .elem _|exact .nilsl|exact .nil _ _|exact .str _|refine Frz.aggL ?_|refine Frz.fnL ?_|refine Frz.tL ?_|refine .iface ?_|exact zdq rfl rfl (by assumption)))
       .exact Frz.wh (e:=3) (z':=1) (G:=bs.length) (l:=bs.map fun(b:Nat)=>iv (b:Int)) (by simp only[zBO9,hm2]<;>rfl) rfl (by simp) (by simp) zmm zhn
       .exact⟨Frz.wh (e:=143) (z':=6) (G:=ns.length+1) (l:=(nd::ns).map (zbr 0)) (by simp only[zBO9,km2]<;>rfl) rfl (by simp) (by simp) zmm zht,trivial⟩
       .exact zLf
       refine zN ?_;refine zO ?_;rw[hra,hri];refine⟨rfl,mo2,_,_,?e2,hX ?X2⟩
       case e2 =>
        unfold rdH;simp only[zAB9,zAG9,zAN9,zBS9,zAD9,zAS9];rfl
     .intro h;cases h
    .have g1:¬(nd.level:Int)=0:=zo;refine zB ?_;refine zbj (zr2 g1 zyD) ?_;refine zcf ?_;refine zSk ?_;have hra:zcb w (d+1) seen acc b lv=zcb w d seen2 (acc++[(bs,nd::ns)]) nd.left ((nd.level:Int)-1):=by rw[zcb,hrd2];simp only;rw[if_neg hlv]
     have hfl:=hfst nd rfl;have ihc:=fun X=>ih seen2 (acc++[(bs,nd::ns)]) nd.left ((nd.level:Int)-1) mo2 _ _ zo hs2 (hX X) (by simp;omega);unfold rdH at ihc;simp only[show ∀v:PV,(vs++[v]).length=vs.length+1 from fun v=>by simp]at ihc;rw[<- hra]at ihc;refine zBr ?_;refine zb2 (zr2 h5 zyD) ?_;simp only[zAD9,zAS9,zAV9];refine zns (caps:=?caps) (vs:=?vs) ?g1 ?g2 (ihc ?X3) ?g3 ?g4 ?g5
     case g1=>first|rfl|(simp only[zaA,zaF,go_sem]<;>rfl)
     case g2=>simp only[go_sem,h5]<;>rfl
     case g3=>rfl
     case g4=>rfl
     rintro e H' ⟨rfl,mo',vs',G',rfl,hv'⟩;refine zP ?_;exact⟨rfl,mo',vs',G',rfl,hv'⟩


theorem f108:ET.funcs.get 108=some T108:=eG _ func108
@[reducible] def zcB (T:LD):PV:=.list 0 2 (T.map fun L=>zb9 0 0 L.1 L.2)
theorem Lb.ivn(l:LN):Lb (.list 0 z (l.map fun(b:Nat)=>iv (b:Int))):=.list fun x hx=>by
 obtain⟨y,hy,hx⟩:=zAU9.1 hx;obtain⟨n,_,rfl⟩:=zAH9.1 hy;simp[PV.cells]at hx;subst hx;exact .int _ _
theorem Lb.nodes(l:LB):Lb (.list 0 z (l.map (zbr 0))):=.list fun x hx=>by
 obtain⟨y,hy,hx⟩:=zAU9.1 hx;obtain⟨n,_,rfl⟩:=zAH9.1 hy;have:=Lb.node n
 cases this with
 | agg h=>exact h x hx
theorem zoq(T:LD):Lb (zcB T):=.list fun x hx=>by
 obtain⟨y,hy,hx⟩:=zAU9.1 hx;obtain⟨L,_,rfl⟩:=zAH9.1 hy;simp[PV.cells]at hx;rcases hx with rfl|rfl
 .exact Lb.ivn _
 .exact Lb.nodes _
theorem zDO{p:Nat}{w:LN}{mo:zc}{vs:LQ}{G:LP}(h:zgr G vs T):Frz (rdH p w mo vs G) 0 (.sl 5 vs.length 0 vs.length (2*vs.length) 2) (zcB T):=by
 have hf:LF (rdH p w mo vs G) 0 (vs.flatMap PV.cells) ((T.map fun L=>zb9 0 0 L.1 L.2).flatMap PV.cells):=LF.flat h.1 fun q L hL=>by
  have hq:q<vs.length:=by rw[h.1];exact(zAC9.1 hL).1
  obtain⟨i,j,e1,e2,e3⟩:=h.2 q _ L (zAA9 hq) hL;refine⟨_,(zAA9 hq).trans (congrArg some e1),?_,?_,trivial⟩
  .exact Frz.wh (e:=3) (z':=1) (G:=L.1.length) (l:=L.1.map fun(b:Nat)=>iv (b:Int)) e2 rfl (by simp) (by simp) zmm zhn
  .exact Frz.wh (e:=143) (z':=6) (G:=L.2.length) (l:=L.2.map (zbr 0)) e3 rfl (by simp) (by simp) zmm zht
 have ht:(vs.drop 0).take vs.length=vs:=by rw[zER9,zBF9]
 have hl:=h.1;refine .sl (e:=195) (M:=0) (G:=vs.length) (l:=vs) rfl (zAJ9 _) (zAE9 _) zo (zAE9 _) (by simp[hl]) zmm ?_ ?_
 .rw[ht];exact zy7 hf
 .rw[ht];exact fun i x y hx hy=>hf.get hx hy
theorem zxW(hw:64<=w.length/\w.length<=131072/\w.length%64=0)(a:Nat)(ha:a<w.length):FR 166 [wv p w,iv a] (.tuple [zcB (zaL w a).1,.bool (zaL w a).2]):=by
 refine zfn (eG T166 func166) (Lb.two (zoq _) (.bool _)) ?_;have hwa:(w.map uv)[a]?=some (uv (w.getD a 0)):=by rw[zAF9,zAA9 ha,zAK9,zAA9 ha];rfl
 refine zG ?_;refine zhB 195 2 (id:=1) rfl ?_;simp only[lzy,zAG9,zAN9,zCR9,zCE9,zAS9,zAV9];have hc:=zCQ p w hw 14 [] [] (w.getD a 0) (-1) .map0 [] [] (.inr (zAE9 _)) (.inl ⟨rfl,rfl⟩) ⟨rfl,fun k v l hv _=>by simp at hv⟩ zy;change FO ET 224 _ _ _ (zn4 p w (zaL w a))at hc;generalize zaL w a=r at hc;refine zBd ?_;refine zDk (zr2 hwa ha) hc ?_;rintro e H' ⟨rfl,mo',vs',G',rfl,hv'⟩;refine⟨_,by simp only[go_sem]<;>rfl,?_⟩;refine zQF hwa ?_;unfold rdH;refine zOF hwa ?_;exact Frz.tL ⟨zDO hv',.bool _,trivial⟩
def zih(w:LN)(a:Int):FE:=if zci w.length a=true then if(zaL w a.toNat).2=true then .ret (zcB (zaL w a.toNat).1)else .panic (zck 220)else .panic (zck 2)
theorem zep(n:Nat)(a:Int):zci n a=true↔(64<=n/\n%64=0/\n<=131072/\0<=a/\a<n):=by unfold zci;grind
theorem zki(hs:zbQ w.length):FN ET 108 [wv p w,iv a] (zih w a):=by
 have hr:=znN p w a hs;unfold zih
 by_cases h:zci w.length a=true
 rotate_left
 .rw[if_neg h]at hr⊢;refine zfn f108 (.iface (.int _ _)) ?_;refine zGI ?_;refine zcx hr ?_;(try(refine .iface ?_;exact .int _ _))
 rw[if_pos h]at hr⊢;have hb:=(zep _ _).1 h;obtain⟨n,rfl⟩:∃n:Nat,a=n:=⟨a.toNat,by omega⟩
 have hrd:=zxW p w ⟨hb.1,hb.2.2.1,hb.2.1⟩ n zo;rw[zCO9];generalize zaL w n=r at hrd;obtain⟨T,b⟩:=r
 cases b with
 | true =>
  rw[if_pos rfl];refine zfn f108 (zoq _) ?_;refine zMG hr ?_;refine zM hrd ?_;refine zM (zek 220) ?_;refine zO ?_;exact Frz.list _ _ _
 | false =>
  rw[if_neg (show ¬(T,false).2=true from zEV9)];refine zfn f108 (.iface (.int _ _)) ?_;refine zMG hr ?_;refine zM hrd ?_;refine zI ?_;refine zcx (zdk 220) ?_;(try(refine .iface ?_;exact .int _ _))


theorem c35:ET.caught.get 91=some ():=by kernel_rfl
def zdb(T:LD):Lev:=T.getLastD ([],[])
theorem zga(h:T ≠ []):T[T.length-1]?=some (zdb T)/\T.getLast?=some (zdb T):=by
 have:T.getLast?=some (zdb T):=by unfold zdb;rw[List.getLastD_eq_getLast?];cases T with
  | nil=>exact absurd rfl h
  | cons a l=>rw[List.getLast?_eq_some_getLast (by simp)];rfl
 grind
theorem ziU(w:LN):∀(d:Nat) (seen:LN) (acc:LD) (b:Nat) (lv:Int),(zcb w d seen acc b lv).1.length<=acc.length+d
 | 0,_,acc,_,_=>zAE9 _
 | d+1,seen,acc,b,lv=>by
  rw[zcb]
  split
  .simp
  .simp
  .split
   .simp
   .refine zBW9 (ziU w d _ _ _ _) ?_;simp;omega
theorem zc4{w:LN}(hw:w.length<=131072)(a:Nat)(h:zaL w a=(T,true)):(∀L∈T,zjZ w L)/\(∀L∈T.dropLast,zjT L)/\T ≠ []/\zbV (levP (zdb T).2)=true/\T.length<=14:=by
 have hle:=ziU w 14 [] [] (w.getD a 0) (-1);change (zaL w a).1.length<=0+14 at hle;have hf:=zg9 hw 14 [] [] (w.getD a 0) (-1) (fun L hL=>by simp at hL);change (∀L∈(zaL w a).1,zjZ w L)/\(∀L∈(zaL w a).1.dropLast,zjT L)/\((zaL w a).2=true->(zaL w a).1 ≠ []/\∀M,(zaL w a).1.getLast?=some M->zbV (levP M.2)=true)at hf;rw[h]at hf hle;obtain⟨h1,h2,h3⟩:=hf;obtain⟨h3,h4⟩:=h3 rfl;exact⟨h1,h2,h3,h4 _ (zga h3).2,by simpa using hle⟩
def zia(w:LN)(a:Int):FE:=if zci w.length a=true then if(zaL w a.toNat).2=true then .ret (.tuple [psv 0 (levP (zdb (zaL w a.toNat).1).2),iv 0])else .ret (.tuple [psv 0 [],iv 220])else .ret (.tuple [psv 0 [],iv 2])
theorem zFt:FO ET 127 [.ptr 0 0 0 0 1] [.row 87 1 0 0 [.nilsl],.row 38 1 0 0 [iv 0]] false fun e H'=>e=.ret (.tuple [])/\H'=[.row 87 1 0 0 [.nilsl],.row 38 1 0 0 [iv 0]]:=by
 refine zro (eG T127 func127) ?_;refine zJ ?_;exact⟨[],rfl,rfl,rfl⟩
theorem zF8(hs:zbQ w.length):FN ET 79 [wv p w,iv a] (zia w a):=by
 have hl:=zki p w a hs;have hlb:LbE (zia w a):=by
  unfold zia
  split
  .split
   .exact Lb.two (Lb.pvs _) (.int _ _)
   .exact Lb.two (Lb.pvs _) (.int _ _)
  .exact Lb.two (Lb.pvs _) (.int _ _)
 refine zfn (eG T79 func79) hlb ?_;refine zGI ?_;refine zgt (f:=91) (p:=.ptr 1 0 0 0 1) (cl:=.fn 127 [.ptr 0 0 0 0 1]) ?_ ?_ c35 ?_
 .rfl
 .simp only[go_sem]<;>rfl
 refine zN ?_;refine zI ?_;have bad:∀(tm:Nat->PV) (n:Nat),zia w a=.ret (.tuple [psv 0 [],iv n])->tm 4=.ptr 0 0 0 0 1->tm 5=.ptr 1 0 0 0 1->zev ET T79 (fun e' H=>zbp H 0 e' (zia w a)) (.panic (zck n)) ⟨tm,[.caught (.ptr 1 0 0 0 1) (.fn 127 [.ptr 0 0 0 0 1])],[.row 87 1 0 0 [.nilsl],.row 38 1 0 0 [iv 0]]⟩:=fun tm n hn h4 h5=>by
  refine⟨n,127,[.ptr 0 0 0 0 1],false,1,0,1,rfl,rfl,rfl,zFt.mono fun e H he=>?_⟩;obtain⟨rfl,rfl⟩:=he;refine⟨rfl,_,rfl,[.nilsl,iv n],?_,?_⟩
  .simp[T79,xT,zaS,okv,h4,h5,zaz,zbl,zbo,zay];rfl
  .rw[hn];exact zLF
 unfold zih at hl
 by_cases hr:zci w.length a=true
 rotate_left
 .rw[if_neg hr]at hl;refine zcx hl ?_;exact bad _ 2 (by unfold zia;rw[if_neg hr];rfl) rfl rfl
 rw[if_pos hr]at hl;have hb:=(zep _ _).1 hr
 by_cases ht:(zaL w a.toNat).2=true
 rotate_left
 .rw[if_neg ht]at hl;refine zcx hl ?_;exact bad _ 220 (by unfold zia;rw[if_pos hr,if_neg ht];rfl) rfl rfl
 rw[if_pos ht]at hl;have hall:zia w a=.ret (.tuple [psv 0 (levP (zdb (zaL w a.toNat).1).2),iv 0]):=by unfold zia;rw[if_pos hr,if_pos ht]
 obtain⟨f1,f2,f3,f4,f5⟩:=zc4 (w:=w) (T:=(zaL w a.toNat).1) zo a.toNat (by rw[<- ht]);rw[hall];clear bad;generalize (zaL w a.toNat).1=T at hl f1 f2 f3 f4 f5;obtain⟨g1,g2⟩:=zga f3;have hlen:T.length≠0:=fun h=>f3 (zBZ9 h);have hLF:=f1 _ (zAI9 g1);have hget:(T.map fun L=>zb9 0 0 L.1 L.2)[T.length-1]?=some (zb9 0 0 (zdb T).1 (zdb T).2):=zmg g1;have hll:=zhl (zdb T).2 fun n hn=>(hLF.lv.node hn).1;have hfew:=hLF.few;have hlp:=zkX 0 0 (zdb T).1 (zdb T).2 zo (fun n hn=>(hLF.lv.node hn).1) zo;unfold zic at hlp;rw[if_pos f4]at hlp;refine zCN hl ?_;have hq:IntKind.i64.wrap ((T.length:Int)-1)=((T.length-1:Nat):Int):=zwi;have hi:T.length-1<T.length:=zo;refine zIF (zr3 hq hget hi) ?_;refine zCN hlp ?_;refine zG ?_;refine zbN ?_;exact⟨[psv 0 (levP (zdb T).2),iv 0],rfl,Frz.tL ⟨.list _ _ _,.int _ _,trivial⟩⟩


@[reducible] def cvI (x:Pr):PV:=.agg [uv x.1,.int .i64 (IntKind.i64.wrap (x.2:Int))]
theorem zGk{x:Pr}(h:x.2<9223372036854775808):cvI x=cv x:=by
 unfold cvI cv;rw[wrap_i64 zo zo]
theorem zAA(G:LP)(r r2:zc)(V0:LQ)(ps:LJ)(hb:V0.length+ps.length<1000000)(tm:Nat->PV)(G3:LP)(h8:tm 8=.sl (G.length+1) V0.length 0 V0.length (2*V0.length) 2)(h93:tm 93=psv 0 ps)(h94:tm 94=iv ps.length)(h95:tm 95=iv 0){Q:FX->FSt->Prop}
  (hQ:∀(tm':Nat->PV) (V:LQ) (G4:LP),V=V0++ps.map cvI->(∀k,k≠8->k≠14->(k<95\/108<k)->tm' k=tm k)->tm' 8=.sl (G.length+1) V.length 0 V.length (2*V.length) 2->Q .norm ⟨tm',[],G++r::.row 265 2 V.length 0 V::r2::G4⟩) :
  W ET ET.caught none c137_4 ⟨tm,[],G++r::.row 265 2 V0.length 0 V0::r2::G3⟩ Q:=by
 unfold c137_4 xC;refine ze (zbk (fun m s=>∃(j:Nat) (V:LQ) (G4:LP),m=ps.length-j/\j<=ps.length/\V=V0++(ps.take j).map cvI/\(∀k,k≠8->k≠14->k≠95->(k<95\/108<k)->s.tm k=tm k)/\s.tm 8=.sl (G.length+1) V.length 0 V.length (2*V.length) 2/\s.tm 95=iv j/\s.df=[]/\s.H=G++r::.row 265 2 V.length 0 V::r2::G4) (n:=ps.length) ?_ ?_)
 .exact⟨0,V0,G3,rfl,zAJ9 _,by simp,fun k _ _ _ _=>rfl,h8,h95,rfl,rfl⟩
 .rintro m ⟨tn,df,H⟩ ⟨j,V,G4,rfl,hj,hV,hf,h8',h95',rfl,rfl⟩;dsimp only at hf h8' h95';have h93':=(hf 93 zy zy zy zy).trans h93;have h94':=(hf 94 zy zy zy zy).trans h94;have hVl:V.length=V0.length+j:=by rw[hV];simp;omega
  refine zLh (zr3 h93' h94' h95') ?_ ?_
  .intro hlt;have hlt:j<ps.length:=ztd hlt;obtain⟨q,hq⟩:=zex (l:=ps) hlt;have hqv:(ps.map pv)[j]?=some (pv q):=zmg hq;have hb2:(V.length+1)*17<=140737488355328:=zo;have hV2:V++[cvI q]=V0++(ps.take (j+1)).map cvI:=by rw[zBB9,hq,hV];simp
   refine zBb ?_;(repeat(first|refine zHW ?_|refine zgo ?_ (by simp(disch:=omega)only[go_sem,h93',h95',hqv,gm0,tm2]<;>rfl)));refine zB ?_;refine zrg ?_ (by simp(disch:=omega)only[go_sem,h8',hb2,gm0,hm2,tm2]<;>rfl);refine zcr ?_;refine zJF h95' ?_;refine⟨_,?m,j+1,V++[cvI q],?G4,rfl,hlt,hV2,?f,?h8,zu h95',zt,?H⟩
   case m=>omega
   case f=>intro k k1 k2 k3 k4;simp(disch:=omega)only[zbW];grind
   case h8=>simp[upd]
   case H =>
    (try dsimp only);rw[zAB9];simp only[zAD9,zAS9,zAV9];rfl
  .intro hlt;have hlt:¬j<ps.length:=zfd hlt;obtain rfl:j=ps.length:=zo;refine hQ _ V G4 (by grind) (fun k k1 k2 k3=>?_) (by simp[upd,h8']);simp(disch:=omega)only[zbW]
   grind
section
variable {α:Type}(G l m n o:List α)(x y z u:α)
theorem um2:(G++x::y::z::l++m++n).set (G.length+2) u=G++x::y::u::l++m++n:=by simp_all
end
variable {Q:FX->FSt->Prop}(G:List α)(p:Nat)(l:List α)(w:LN)(q:List α)
theorem zBD{M:Lev}{j:Nat}{x:zq}{b:Nat}(hx:M.2[j]?=some x)(hb:M.1[j]?=some b):(zd1 M).take (j+1)=(zd1 M).take j++[(x.low,b)]:=by
 have:(zd1 M)[j]?=some (x.low,b):=by
  unfold zd1
  grind
 rw[zBB9,this];rfl
theorem zAs(G:LP)(r r1:zc)(T:LD)(M:Lev)(n:Nat)(hn:n<1000000)(hM:T[n+1]?=some M)(hlen:M.1.length=M.2.length)(hfew:M.2.length<=2048)(tm:Nat->PV)(G3:LP)(h5:tm 5=zcB T)(h6:tm 6=iv n)(h9:tm 9=.sl (G.length+2) 0 0 0 0 2)(h120:tm 120=.list 0 6 (M.2.map (zbr 0)))(h121:tm 121=iv M.2.length)(h122:tm 122=iv 0)(hQ:∀(tm':Nat->PV) (V:LQ) (G4:LP),V=(zd1 M).map cv->(∀k,k≠9->k≠15->k≠16->(k<122\/142<k)->tm' k=tm k)->tm' 9=.sl (G.length+2) V.length 0 V.length (2*V.length) 2->Q .norm ⟨tm',[],G++r::r1::.row 265 2 V.length 0 V::G4⟩):
  W ET ET.caught none c137_6 ⟨tm,[],G++r::r1::.row 265 2 0 0 []::G3⟩ Q:=by
 unfold c137_6 xC;have hLT:(T.map fun L=>zb9 0 0 L.1 L.2)[n+1]?=some (zb9 0 0 M.1 M.2):=zmg hM;have hnT:n+1<T.length:=(zAC9.1 hM).1;have e1:((n:Int)+1)=((n+1:Nat):Int):=zo;have hll:(zd1 M).length=M.2.length:=by unfold zd1;simp[hlen]
 refine ze (zbk (fun m s=>∃(j:Nat) (V:LQ) (G4:LP),m=M.2.length-j/\j<=M.2.length/\V=((zd1 M).take j).map cv/\(∀k,k≠9->k≠15->k≠16->k≠122->(k<122\/142<k)->s.tm k=tm k)/\s.tm 9=.sl (G.length+2) V.length 0 V.length (2*V.length) 2/\s.tm 122=iv j/\s.df=[]/\s.H=G++r::r1::.row 265 2 V.length 0 V::G4) (n:=M.2.length) ?_ ?_)
 .exact⟨0,[],G3,rfl,zAJ9 _,by simp,fun k _ _ _ _ _=>rfl,h9,h122,rfl,rfl⟩
 .rintro m ⟨tn,df,H⟩ ⟨j,V,G4,rfl,hj,hV,hf,h9',h122',rfl,rfl⟩;dsimp only at hf h9' h122';have h5':=(hf 5 zy zy zy zy zy).trans h5;have h6':=(hf 6 zy zy zy zy zy).trans h6;have h120':=(hf 120 zy zy zy zy zy).trans h120;have h121':=(hf 121 zy zy zy zy zy).trans h121;have hVl:V.length=j:=by rw[hV];simp;omega
  refine zLh (zr3 h120' h121' h122') ?_ ?_
  .intro hlt;have hlt:j<M.2.length:=ztd hlt;have hlt1:j<M.1.length:=zo;obtain⟨x,hx⟩:=zex (l:=M.2) hlt;obtain⟨b,hb⟩:=zex (l:=M.1) hlt1;have hxv:(M.2.map (zbr 0))[j]?=some (zbr 0 x):=zmg hx;have hbv:(M.1.map fun(b:Nat)=>iv (b:Int))[j]?=some (iv b):=zmg hb;have hb2:(V.length+1)*17<=140737488355328:=zo;have hV2:V++[cv (x.low,b)]=((zd1 M).take (j+1)).map cv:=by rw[zBD hx hb,hV];simp
   refine zBb ?_;refine zGF (zr3 h120' h122' hxv) ?_;refine zaB ?_;refine zda ?_ (by simp(disch:=omega)only[go_sem,h9',h5',h6',hLT,e1,hbv,hb2,km2,um2]<;>rfl);refine zQF h5' ?_;refine zJF h122' ?_;refine⟨_,?m,j+1,V++[cv (x.low,b)],?G4,rfl,hlt,hV2,?f,?h9,zu h122',zt,?H⟩
   case m=>omega
   case f=>intro k k1 k2 k3 k4 k5;simp(disch:=omega)only[zbW];exact hf k k1 k2 k3 k4 k5
   case h9=>simp[upd]
   case H =>
    (try dsimp only);rw[zAB9];simp only[zAD9,zAS9,zAV9];rfl
  .intro hlt;have hlt:¬j<M.2.length:=zfd hlt;obtain rfl:j=M.2.length:=zo;refine hQ _ V G4 (by grind) (fun k k1 k2 k3 k4=>?_) (by simp[upd,h9']);simp(disch:=omega)only[zbW]
   grind


def zue(w:LN)(L:Lev):LD->Bool
 | []=>true
 | M::T=>decide (L.2.flatMap zdF=zd1 M)&&zcO w (M::T)
theorem zvS(L:Lev)(R:LD):zcO w (L::R)=(zdr w L.1 L.2&&zue w L R):=by
 cases R with
 | nil=>rw[zcO,zue,zFH9]
 | cons M R=>rw[zcO,zue,Bool.and_assoc]
theorem zmA(bs:LN)(ns:LB)(i:Nat)(b:Nat)(n:zq)(hb:bs[i]?=some b)(hn:ns[i]?=some n):zdr w (bs.drop i) (ns.drop i)=(decide (zbZ (zap w b)=0)&&zez n ns[i+1]? && zdr w (bs.drop (i+1)) (ns.drop (i+1))):=by
 obtain⟨h1,rfl⟩:=zAC9.1 hb;obtain⟨h2,rfl⟩:=zAC9.1 hn;rw[zAM9 h1,zAM9 h2,zdr,List.head?_drop]
theorem zB0(ns:LB)(i:Nat)(n:zq)(hn:ns[i]?=some n):(ns.take (i+1)).flatMap zdF=(ns.take i).flatMap zdF++zdF n:=by
 rw[zBB9,hn,zCI9];simp
theorem zuE{ns:LB}(h:∀n∈ns,n.pairs.length<=28):(ns.flatMap zdF).length<=29*ns.length:=by
 induction ns with
 | nil=>grind
 | cons n ns ih =>
  have h1:=h n (zAR9 ..);have h2:=ih fun m hm=>h m (zAQ9 _ hm);rw[zBQ9,zAB9,zAG9];have:(zdF n).length=n.pairs.length+1:=rfl;omega
theorem gp1(a b b' p:α):(G++a::b'::l++[p]++q)[(G++a::b::l).length]?=some p:=by simp_all
theorem gp2(a b b' p:α):(G++a::b'::(l++p::q))[(G++a::b::l).length]?=some p:=by grind
theorem zAJ(hs:zbQ w.length)(G:LP)(r2:zc)(L:Lev)(hLF:zjZ w L)(tm:Nat->PV)(G3:LP)(h0:tm 0=wv p w)(h7:tm 7=.ptr G.length 0 0 0 2)(h8:tm 8=.sl (G.length+1) 0 0 0 0 2)(h37:tm 37=.list 0 6 (L.2.map (zbr 0)))(h38:tm 38=iv L.2.length)(h39:tm 39=iv 0)(hP:zdr w L.1 L.2=false->∀tm' H,Q (.panic (zck 220)) ⟨tm',[],H⟩)(hQ:∀(tm':Nat->PV) (V:LQ) (G4:LP),zdr w L.1 L.2=true->V=(L.2.flatMap zdF).map cvI->(∀(j b:Nat),L.1[j]?=some b->zbZ (zap w b)=0)->(∀k,k≠8->k≠10->k≠11->k≠12->k≠14->(k<39\/109<k)->tm' k=tm k)->tm' 8=.sl (G.length+1) V.length 0 V.length (2*V.length) 2->Q .norm ⟨tm',[],G++.row 195 2 0 0 [zb9 0 0 L.1 L.2]::.row 265 2 V.length 0 V::r2::G4⟩):
  W ET ET.caught none c137_2 ⟨tm,[],G++.row 195 2 0 0 [zb9 0 0 L.1 L.2]::.row 265 2 0 0 []::r2::G3⟩ Q:=by
 unfold c137_2 xC;have hbl:=hLF.lv.len;have hfew:=hLF.few;refine ze (zbk (fun m s=>∃(i:Nat) (V:LQ) (G4:LP),m=L.2.length-i/\i<=L.2.length/\V=((L.2.take i).flatMap zdF).map cvI/\zdr w L.1 L.2=zdr w (L.1.drop i) (L.2.drop i)/\(∀(j b:Nat),j<i->L.1[j]?=some b->zbZ (zap w b)=0)/\(∀k,k≠8->k≠10->k≠11->k≠12->k≠14->(k<39\/109<k)->s.tm k=tm k)/\s.tm 8=.sl (G.length+1) V.length 0 V.length (2*V.length) 2/\s.tm 39=iv i/\s.df=[]/\s.H=G++.row 195 2 0 0 [zb9 0 0 L.1 L.2]::.row 265 2 V.length 0 V::r2::G4) (n:=L.2.length) ?_ ?_)
 .exact⟨0,[],G3,rfl,zAJ9 _,rfl,rfl,fun j b h=>absurd h (Nat.not_lt_zero _),fun k _ _ _ _ _ _=>rfl,h8,h39,rfl,rfl⟩
 .rintro m ⟨tn,df,H⟩ ⟨i,V,G4,rfl,hi,hV,hls,hck,hf,h8',h39',rfl,rfl⟩;dsimp only at hf h8' h39';have h0':=(hf 0 zy zy zy zy zy zy).trans h0;have h7':=(hf 7 zy zy zy zy zy zy).trans h7;have h37':=(hf 37 zy zy zy zy zy zy).trans h37;have h38':=(hf 38 zy zy zy zy zy zy).trans h38;refine zLh (zr3 h37' h38' h39') ?_ ?_;rotate_left
  .intro hlti;have hlti:¬i<L.2.length:=zfd hlti;obtain rfl:i=L.2.length:=zo;refine hQ _ V G4 (by rw[hls,<- hbl,zBH9];rfl) (by rw[hV,zBF9]) (fun j b hb=>hck j b (by have:=(zAC9.1 hb).1;omega) hb) (fun k k1 k2 k3 k4 k5 k6=>?_) (by simp[upd,h8']);simp(disch:=omega)only[zbW]
   grind
  intro hlti;have hlti:i<L.2.length:=ztd hlti;obtain⟨x,hx⟩:=zex (l:=L.2) hlti;obtain⟨b,hb⟩:∃b,L.1[i]?=some b:=⟨_,zAA9 zo⟩
  have hbl':i<L.1.length:=zo;have hxv:(L.2.map (zbr 0))[i]?=some (zbr 0 x):=zmg hx;have hbv:(L.1.map fun(b:Nat)=>iv (b:Int))[i]?=some (iv b):=zmg hb;have hbw:=(hLF.lv.each b (zAI9 hb)).1;have hof:=znZ p w b hs zo;have hch:=zny p (zap w b) (by unfold zap;simp;omega);rw[zmA w L.1 L.2 i b x hb hx]at hls;have hKl:=zuE (ns:=L.2.take i) fun n hn=>(hLF.lv.node (zBP9 hn)).1;rw[zAT9]at hKl;have hVl:V.length<=29*L.2.length:=by rw[hV,zAP9];omega
  have hKt:=zB0 L.2 i x hx;have hxl:=(hLF.lv.node (zAI9 hx)).1;refine zBb ?_;refine zGF (zr3 h37' h39' hxv) ?_;refine zB ?_;refine zrg ?_ (by simp(disch:=omega)only[go_sem,h0',h7',gm0,gm1,gm2,hbv,hbl']<;>rfl);refine zcp hof ?_;refine zfx ?_;refine zca hch ?_
  by_cases hc0:zbZ (zap w b)=0
  rotate_left
  .have g:¬((zbZ (zap w b):Nat):Int)=0:=zo;refine zb2 g ?_;refine zcx (zdk 220) ?_;exact hP (by rw[hls];simp[hc0]) _ _
  have g:((zbZ (zap w b):Nat):Int)=0:=zo;refine zb2 g ?_;refine zCN (zek 220) ?_;refine zB ?_;refine zB ?_;refine zgo ?_;have e1:((i:Int)+1)=((i+1:Nat):Int):=zo;generalize hH0:G++zc.row 195 2 0 0 [zb9 0 0 L.1 L.2]::.row 265 2 V.length 0 V::r2::G4=H0;refine zcJ (Q:=fun y s'=>(y=.norm/\zez x L.2[i+1]?=true/\(∀k,k≠8->k≠10->k≠11->k≠12->k≠14->(k<39\/109<k)->s'.tm k=tm k)/\s'.tm 8=.sl (G.length+1) V.length 0 V.length (2*V.length) 2/\s'.tm 11=.ptr H0.length 0 0 0 6/\s'.tm 39=iv i/\s'.df=[]/\s'.H=H0++[.row 143 6 0 0 [zbr 0 x]])\/(y=.panic (zck 220)/\zez x L.2[i+1]?=false/\s'.df=[])) ?_ ?_
  .have hfr:∀(t:Nat->PV),(∀k,k≠8->k≠10->k≠11->k≠12->k≠14->(k<39\/109<k)->t k=tn k)->∀k,k≠8->k≠10->k≠11->k≠12->k≠14->(k<39\/109<k)->t k=tm k:=fun t ht k k1 k2 k3 k4 k5 k6=>(ht k k1 k2 k3 k4 k5 k6).trans (hf k k1 k2 k3 k4 k5 k6)
   by_cases hp0:x.pairs.length=0
   .have g0:¬(0:Int)<(x.pairs.length:Nat):=zo;refine zB ?_;refine zB ?_;refine zbj g0 ?_;refine zcf ?_;refine zr (.inl ⟨rfl,?_,hfr _ (fun k k1 k2 k3 k4 k5 k6=>by simp(disch:=omega)only[zbW]),h8',zt,h39',rfl,rfl⟩);unfold zez;rw[zBZ9 hp0];rfl
   have g0:(0:Int)<(x.pairs.length:Nat):=zo;subst hH0
   by_cases hi1:i+1<L.2.length
   rotate_left
   .have g1:¬((i+1:Nat):Int)<(L.2.length:Nat):=zo;refine zB ?_;refine zB ?_;refine zgo ?_ (by simp(disch:=omega)only[go_sem,g0,g1,e1,h7',gm0,gm1,gm2]<;>rfl);refine zcf ?_;refine zr (.inl ⟨rfl,?_,hfr _ (fun k k1 k2 k3 k4 k5 k6=>by simp(disch:=omega)only[zbW]),h8',zt,h39',rfl,rfl⟩);unfold zez;rw[zBL9 (show L.2.length<=i+1 by omega)];split
    .rename_i h;cases h
    .rfl
   have g1:((i+1:Nat):Int)<(L.2.length:Nat):=zo;obtain⟨z,hz⟩:∃z,L.2[i+1]?=some z:=⟨_,zAA9 hi1⟩
   have hzv:(L.2.map (zbr 0))[i+1]?=some (zbr 0 z):=zmg hz;obtain⟨y,hy⟩:∃y,x.pairs[x.pairs.length-1]?=some y:=⟨_,zAA9 zo⟩
   have hyv:(x.pairs.map pv)[x.pairs.length-1]?=some (pv y):=zmg hy;have hq:IntKind.i64.wrap ((x.pairs.length:Int)-1)=((x.pairs.length-1:Nat):Int):=zwi;have hq1:x.pairs.length-1<x.pairs.length:=zo;have hll:zez x L.2[i+1]?=decide (y.1<z.low):=by unfold zez;rw[zCF9,hy,hz]
   refine zB ?_;refine zB ?_;refine zgo ?_ (by simp(disch:=omega)only[go_sem,g0,g1,e1,h7',gm0,gm1,gm2]<;>rfl);refine zct ?_;refine zaB ?_
   by_cases hlow:y.1<z.low
   .have g2:(y.1:Int)<(z.low:Nat):=zo;refine zdn (zek 220) ?_ (by simp(disch:=omega)only[go_sem,h7',gm0,gm1,gm2,hq,hyv,hq1,e1,hzv,hi1,g2]<;>rfl);refine zrX h7' ?_;refine zb4 ?_;refine .inl ⟨rfl,by rw[hll];simp[hlow],hfr _ (fun k k1 k2 k3 k4 k5 k6=>?_),h8',?_,h39',rfl,rfl⟩
    .simp(disch:=first|omega|simp)only[zaD,zbW]
    .simp[zaD,upd]
   .have g2:¬(y.1:Int)<(z.low:Nat):=zo;refine zdx (zdk 220) ?_ (by simp(disch:=omega)only[go_sem,h7',gm0,gm1,gm2,hq,hyv,hq1,e1,hzv,hi1,g2]<;>rfl);exact .inr ⟨rfl,by rw[hll];simp[hlow],rfl⟩
  rintro y ⟨tq,df,H⟩ (⟨rfl,hlow,hf2,h8'',h11,h39'',rfl,rfl⟩|⟨rfl,hlow,rfl⟩);rotate_left
  .exact hP (by rw[hls];simp[hlow]) _ _
  dsimp only at hf2 h8'' h11 h39'';subst hH0;have hbK:(V.length+1)*17<=140737488355328:=zo;refine zB ?_;refine zgo ?_ (by simp(disch:=omega)only[go_sem,h8'',h11,gm0,gm1,gm2,hm0,hm1,hm2,tm0,tm1,tm2,hbK]<;>rfl);refine zB ?_;refine zB ?_;refine zgo ?_ (by simp(disch:=omega)only[go_sem,h11,gp1,gp2]<;>rfl);simp only[zAD9,zAS9,zAV9];obtain⟨V1,hV1⟩:∃V1,V1=V++[cvI (x.low,x.left)]:=⟨_,rfl⟩
  have hV1l:V.length+1=V1.length:=by rw[hV1];simp
  rw[<- hV1,hV1l];refine zAA G _ r2 V1 x.pairs zo _ _ (by simp[upd]) (by simp[upd]) (by simp[upd]) (by simp[upd]) (fun tm' V2 G5 hV2 hfr h8=>?_);have h39x:tm' 39=iv i:=(hfr 39 zy zy zy).trans (by simp[upd,h39'']);refine zJF h39x ?_;refine⟨_,?m,i+1,V2,?G6,rfl,hlti,?hV,?hls,?hck,?hf,zu h8,by simp[upd,h39x],zt,?H⟩
  case m=>omega
  case hV=>rw[hV2,hV1,hV,hKt];simp[zdF]
  case hls=>rw[hls,hlow];simp[hc0]
  case hck =>
   intro j c hj hc;rcases zCX9 j i with h|h
   .exact hck j c h hc
   .obtain rfl:j=i:=zo;rw[hb]at hc;cases hc;exact hc0
  case hf =>
   intro k k1 k2 k3 k4 k5 k6;simp(disch:=omega)only[zbW];rw[hfr k k1 k5 zo];simp(disch:=omega)only[zbW];exact hf2 k k1 k2 k3 k4 k5 k6
  case H=>rfl


theorem f137:ET.funcs.get 137=some T137:=eG _ func137
theorem zhX{l:LN}(h:zbZ l=0)(hl:0<(headN l).level):∀x∈zdF (headN l),x.2<2048:=by
 have hh:=zg5 h;unfold zbZ at h;rw[if_pos hh]at h;have hp:zfO l=true:=by grind
 unfold zfO at hp;rw[zAO9,zDD9,List.any_eq_false]at hp;intro x hx;rcases zBA9.1 hx with rfl|hx
 .unfold headB at hh;rw[zAO9,zBV9]at hh;have h3:=hh.2 3 zy;have e1:(headN l).level=zhp (l.getD 0 0):=by unfold headN;rfl
  have e2:(headN l).left=l.getD 3 0:=by unfold headN;rfl
  rw[zdV,<- e1,<- e2]at h3;simp only[zEA9,zAO9,decide_eq_true_eq]at h3;rcases h3 with⟨h3,_⟩|⟨_,h3⟩
  .omega
  .exact((ze4 _).1 h3).2
 .have:=hp.2 x hx;have hm:zdu (headN l) x=true:=by simpa using this
  unfold zdu at hm;rw[if_neg zo,zAO9]at hm;exact((ze4 _).1 hm.1).2
def zko(w:LN)(a:Int):FE:=if zci w.length a=true then if(zaL w a.toNat).2=true then if zgh w (zaL w a.toNat).1=true then .ret (zcB (zaL w a.toNat).1)else .panic (zck 220)else .panic (zck 220)else .panic (zck 2)
theorem zwU(a:Int)(hs:zbQ w.length)(hwl:w.length<=131072)(T:LD)(hl:FR 108 [wv p w,iv a] (zcB T))(f1:∀L∈T,zjZ w L)(f2:∀L∈T.dropLast,zjT L)(f3:T ≠ [])(f5:T.length<=14):
  FN ET 137 [wv p w,iv a] (if zgh w T=true then .ret (zcB T)else .panic (zck 220)):=by
 refine zfn f137 ?_ ?_
 .split
  .exact zoq _
  .exact .iface (.int _ _)
 have bad:zgh w T=false->(if zgh w T=true then FE.ret (zcB T)else .panic (zck 220))=.panic (zck 220):=fun h=>by grind
 obtain⟨L0,R,rfl⟩:∃L0 R,T=L0::R:=by
  cases T with
  | nil=>grind
  | cons a l=>grind
 have hT0:(List.map (fun L=>zb9 0 0 L.1 L.2) (L0::R))[0]?=some (zb9 0 0 L0.1 L0.2):=rfl;obtain⟨n0,hn0⟩:∃n0:zq,(L0.2.map (zbr 0))[0]?=some (zbr 0 n0)/\zv8 (L0::R)=decide (n0.sib=0):=by
  have:=(f1 L0 (zAR9 ..)).ne;obtain⟨bs,ns⟩:=L0
  cases ns with
  | nil=>grind
  | cons n ns=>exact⟨n,rfl,rfl⟩
 obtain⟨hn0,hsb⟩:=hn0;refine zMG hl ?_;have hnl:0<L0.2.length:=zCC9.2 (f1 L0 (zAR9 ..)).ne;have hrl:0<R.length+1:=zCU9 _
 by_cases hsib:n0.sib=0
 rotate_left
 .have g:¬(n0.sib:Int)=0:=zo;refine zIF (zr5 hT0 hn0 hnl hrl g) ?_;refine zcx (zdk 220) ?_;exact zcz (by rw[bad (by unfold zgh;grind)])
 have g:(n0.sib:Int)=0:=zo;refine zIF (zr5 hT0 hn0 hnl hrl g) ?_;refine zCN (zek 220) ?_;refine zGF hT0 ?_;have hset:zgh w (L0::R)=zcO w (L0::R):=by unfold zgh;rw[hsb,hsib];rfl
 rw[hset]at bad⊢;clear hset hsb hT0 hn0 hnl hrl g hsib f3;have hTl:(L0::R).length=R.length+1:=rfl;generalize L0::R=T at *
 refine ze (zbk (fun m s=>∃(n:Nat) (G:LP),m=T.length-n/\n<=T.length/\zcO w T=zcO w (T.drop n)/\s.tm 0=wv p w/\s.tm 5=zcB T/\s.tm 29=zcB T/\s.tm 30=iv T.length/\s.tm 31=iv n/\s.df=[]/\s.H=G) (n:=T.length) ?_ ?_)
 .exact⟨0,_,rfl,by omega,rfl,zt,zt,zt,by simp[upd];omega,zt,rfl,rfl⟩
 .rintro m ⟨tm,df,G⟩ ⟨n,G',rfl,hn,hls,h0,h5,h29,h30,h31,rfl,rfl⟩;dsimp only at *
  refine zLh (zr3 h29 h30 h31) ?_ ?_;rotate_left
  .intro hlt;have hlt:¬n<T.length:=zfd hlt;obtain rfl:n=T.length:=zo;refine zOF h5 ?_;rw[zBH9]at hls;rw[hls];exact Frz.list _ _ _
  intro hlt;have hlt:n<T.length:=ztd hlt;obtain⟨L,hL⟩:=zex (l:=T) hlt;have hLT:(T.map fun L=>zb9 0 0 L.1 L.2)[n]?=some (zb9 0 0 L.1 L.2):=zmg hL;have hLF:=f1 L (zAI9 hL);have hdr:T.drop n=L::T.drop (n+1):=zdc hL;rw[hdr,zvS]at hls;have hbl:=hLF.lv.len;have hfew:=hLF.few;refine zBb ?_;refine zGF (zr3 h29 h31 hLT) ?_;refine zcL 265 2 (i:=8) rfl ?_;refine zcL 265 2 (i:=9) rfl ?_;simp only[lzy,zAB9,zAG9,zAN9,zBS9,zAD9,zAS9,zAV9];(repeat(first|refine zHW ?_|refine zgo ?_ (by simp(disch:=omega)only[go_sem,gm0]<;>rfl)));refine zAJ p w hs G _ L hLF _ [] (by simp[upd,h0]) (by simp[upd]) (by simp[upd]) (by simp[upd]) (by simp[upd]) (by simp[upd]) (fun hf tm' H=>?_) (fun tm' V G4 hns hV hck hfr h8=>?_)
  .exact zcz (by grind)
  rw[hns,zCB9]at hls;have h0':tm' 0=wv p w:=(hfr 0 zy zy zy zy zy zy).trans (by simp[upd,h0]);have h5':tm' 5=zcB T:=(hfr 5 zy zy zy zy zy zy).trans (by simp[upd,h5]);have h6':tm' 6=iv n:=(hfr 6 zy zy zy zy zy zy).trans (by simp[upd]);have h9':tm' 9=.sl (G.length+2) 0 0 0 0 2:=(hfr 9 zy zy zy zy zy zy).trans (by simp[upd]);have h29':tm' 29=zcB T:=(hfr 29 zy zy zy zy zy zy).trans (by simp[upd,h29]);have h30':tm' 30=iv T.length:=(hfr 30 zy zy zy zy zy zy).trans (by simp[upd,h30]);have h31':tm' 31=iv n:=(hfr 31 zy zy zy zy zy zy).trans (by simp[upd,h31]);have hq:IntKind.i64.wrap ((T.length:Int)-1)=((T.length-1:Nat):Int):=zwi
  by_cases hlast:n+1=T.length
  .have g:((n:Nat):Int)=(T.length-1:Nat):=zo;have hd0:T.drop (n+1)=[]:=zDF9 zo;rw[hd0]at hls;refine zB ?_;refine zB ?_;refine zbj (zr4 h5' h6' hq g) ?_;refine zfc ?_ ?_;rotate_left
   .intro h;simp at h
   intro _;refine zh9 ?_;refine zOF h5' ?_;rw[hls];exact Frz.list _ _ _
  have g:¬((n:Nat):Int)=(T.length-1:Nat):=zo;obtain⟨M,hM⟩:∃M,T[n+1]?=some M:=⟨_,zAA9 zo⟩
  have hdM:T.drop (n+1)=M::T.drop (n+1+1):=by rw[zAM9 (show n+1<T.length by omega)];obtain⟨_,e⟩:=zAC9.1 hM;rw[e]
  have hMF:=f1 M (zAI9 hM);have hMT:(T.map fun L=>zb9 0 0 L.1 L.2)[n+1]?=some (zb9 0 0 M.1 M.2):=zmg hM;have hMn:n+1<T.length:=zo;have e1:((n:Int)+1)=((n+1:Nat):Int):=zo;have hLp:zjT L:=f2 L (by
   have:T.dropLast[n]?=some L:=by rw[List.getElem?_dropLast,if_pos zo];exact hL
   exact zAI9 this)
  have hsm:∀x∈L.2.flatMap zdF,x.2<2048:=fun x hx=>by
   obtain⟨y,hy,hx⟩:=zAU9.1 hx;have hy0:=hLp y hy;rw[hLF.lv.is]at hy;obtain⟨b,hb,rfl⟩:=zAH9.1 hy;obtain⟨j,hj⟩:=zEH9.1 hb;exact zhX (hck j b hj) hy0 x hx
  have hVc:V=(L.2.flatMap zdF).map cv:=by
   rw[hV];exact zEB9 fun x hx=>zGk (by have:=hsm x hx;omega)
  rw[hdM,zue]at hls;refine zB ?_;refine zB ?_;refine zbj (zr4 h5' h6' hq g) ?_;refine zfc ?_ ?_
  .intro h;simp at h
  intro _;refine zSk ?_;refine zB ?_;refine zB ?_;refine zbj (zr5 h5' h6' e1 hMT hMn) ?_;refine zAs G _ _ T M n zo hM hMF.lv.len hMF.few _ _ (by simp[upd,h5']) (by simp[upd,h6']) (by simp[upd,h9']) (by simp[upd]) (by simp[upd]) (by simp[upd]) (fun tm2 V2 G5 hV2 hfr2 h9=>?_);have h8x:tm2 8=.sl (G.length+1) V.length 0 V.length (2*V.length) 2:=(hfr2 8 zy zy zy zy).trans (by simp[upd,h8]);have hk1:=zuE (ns:=L.2) fun n hn=>(hLF.lv.node hn).1;have hfew:=hLF.few;have hMfew:=hMF.few;have hml:(zd1 M).length=M.2.length:=by unfold zd1;simp[hMF.lv.len]
  have heq:=zwV 1 1 (L.2.flatMap zdF) (zd1 M) zo zo;have hflat:∀l:LJ,∀v∈(l.map cv).flatMap PV.cells,Id0 v:=fun l v hv=>by
   obtain⟨x,hx,hv⟩:=zAU9.1 hv;obtain⟨y,_,rfl⟩:=zAH9.1 hx;simp[PV.cells]at hv;rcases hv with rfl|rfl<;>exact .int _ _
  have fz1:Frz (G++zc.row 195 2 0 0 [zb9 0 0 L.1 L.2]::.row 265 2 V.length 0 V::.row 265 2 V2.length 0 V2::G5) 1 (.sl (G.length+1) V.length 0 V.length (2*V.length) 2) (csv 1 (L.2.flatMap zdF)):=by
   rw[hVc];exact Frz.wh (hm0 G _ _ _) rfl (by simp) (by simp) zmm (hflat _)
  have fz2:Frz (G++zc.row 195 2 0 0 [zb9 0 0 L.1 L.2]::.row 265 2 V.length 0 V::.row 265 2 V2.length 0 V2::G5) 1 (.sl (G.length+2) V2.length 0 V2.length (2*V2.length) 2) (csv 1 (zd1 M)):=by
   rw[hV2];exact Frz.wh (km0 G _ _ _ _) rfl (by simp) (by simp) zmm (hflat _)
  refine zBr ?_;refine zb2 (zr2 h8x h9) ?_;refine zeA (caps:=?_) (vs:=?_) ?_ ?_ heq ?_ ?_;rotate_left 2;(first|rfl|(simp only[zaA,zaF,go_sem]<;>rfl));(simp only[go_sem]<;>rfl)
  .exact⟨fz1,fz2,trivial⟩
  by_cases hke:L.2.flatMap zdF=zd1 M
  rotate_left
  .rw[decide_eq_false hke];refine zfx ?_;refine zcx (zdk 220) ?_;exact zcz (by rw[bad (by rw[hls];simp[hke])])
  rw[decide_eq_true hke,zCB9]at hls;rw[decide_eq_true hke];refine zfx ?_;refine zca (zek 220) ?_;refine zK ?_;have hx5:tm2 5=zcB T:=(hfr2 5 zy zy zy zy).trans (by simp[upd,h5']);have hx0:tm2 0=wv p w:=(hfr2 0 zy zy zy zy).trans (by simp[upd,h0']);have hx29:tm2 29=zcB T:=(hfr2 29 zy zy zy zy).trans (by simp[upd,h29']);have hx30:tm2 30=iv T.length:=(hfr2 30 zy zy zy zy).trans (by simp[upd,h30']);have hx31:tm2 31=iv n:=(hfr2 31 zy zy zy zy).trans (by simp[upd,h31']);refine zJF (zr2 hx31 e1) ?_;refine⟨_,?m,n+1,_,rfl,hlt,by rw[hls,hdM],by simp[upd,hx0],by simp[upd,hx5],by simp[upd,hx29],by simp[upd,hx30],zt,rfl,rfl⟩
  case m=>omega
theorem zw9(a:Int)(hs:zbQ w.length):FN ET 137 [wv p w,iv a] (zko w a):=by
 have hl:=zki p w a hs;unfold zih at hl;unfold zko
 by_cases hr:zci w.length a=true
 rotate_left
 .rw[if_neg hr]at hl⊢;refine zfn f137 (.iface (.int _ _)) ?_;refine zGI ?_;refine zcx hl ?_;(try(refine .iface ?_;exact .int _ _))
 rw[if_pos hr]at hl⊢;have hb:=(zep _ _).1 hr
 by_cases ht:(zaL w a.toNat).2=true
 rotate_left
 .rw[if_neg ht]at hl⊢;refine zfn f137 (.iface (.int _ _)) ?_;refine zGI ?_;refine zcx hl ?_;(try(refine .iface ?_;exact .int _ _))
 rw[if_pos ht]at hl⊢;obtain⟨f1,f2,f3,f4,f5⟩:=zc4 (w:=w) (T:=(zaL w a.toNat).1) zo a.toNat (by grind);exact zwU p w a hs zo _ hl f1 f2 f3 f5
def zll(w:LN)(a:Int):Nat:=if zci w.length a=true then if(zaL w a.toNat).2=true then if zgh w (zaL w a.toNat).1=true then 0 else 220 else 220 else 2
end Fv
end Go.Proofs.YtkeknmgnoceogaaGreat
