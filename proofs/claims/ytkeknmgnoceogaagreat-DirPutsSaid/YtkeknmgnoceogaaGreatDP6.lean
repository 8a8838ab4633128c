/- part 6 of the proof of dir_puts. -/
import Derived.Test.YtkeknmgnoceogaaGreatDP5
import Derived.KernelRfl
set_option linter.unusedSimpArgs false
set_option linter.unusedVariables false
set_option linter.defProp false
set_option maxRecDepth 100000
set_option maxHeartbeats 4000000
namespace Go.Proofs.YtkeknmgnoceogaaGreat
open Tryz
namespace Fv
open Tw
variable {F:zd}{f:Func}{n:Nat}{t:AF}
def rK:LN:=[11,200,185,244,352,194,336,172]
noncomputable def cy:LN->AF->AF
 | [],t=>t
 | n::l,t=>(cy l t).set n none
theorem Ng:∀{l:LN},l.contains n=false->(cy l t).get n=t.get n
 | [],_=>rfl
 | m::l,h=>by
  rw[zEL9,Bool.or_eq_false_iff]at h;show ((cy l t).set m none).get n=_;rw[Tr.get_set,if_neg (by simpa using h.1)];exact Ng h.2
theorem Ni:∀{l:LN},(cy l t).get n=some F->t.get n=some F
 | [],h=>h
 | m::l,h=>by
  have h:((cy l t).set m none).get n=some F:=h;rw[Tr.get_set]at h
  split at h
  .cases h
  .exact Ni h
theorem Nh:∀{l:LN},l.contains n=true->(cy l t).get n=none
 | m::l,h=>by
  show ((cy l t).set m none).get n=_;rw[Tr.get_set]
  split
  .rfl
  .rename_i hn;rw[zEL9]at h;have a:(n==m)=false:=by simpa using hn
   rw[a,zCS9]at h;exact Nh h
noncomputable def Yc (f:Nat):Option (LK->TH->Option (TE×TH)):=bif Nat.beq f 11 then some si else bif Nat.beq f 172 then some (BS 3)else sg f
noncomputable def ET:vZ:=⟨cy rK fx,Yc,Fh,MO,0⟩
abbrev FR(f:Nat)(a:List PV)(v:PV):Prop:=FN ET f a (.ret v)
theorem cW(h:prog.funcs[n]?=some f)(hF:nY prog f=some F:=by kernel_rfl)(hn:rK.contains n=false:=by decide):ET.funcs.get n=some F:=by
 show (cy rK fx).get n=some F;rw[Ng hn];exact Q7 h hF
theorem eG(F:zd)(h:prog.funcs[n]?=some f)(hF:nY prog f=some F:=by kernel_rfl)(hn:rK.contains n=false:=by decide):ET.funcs.get n=some F:=cW h hF hn
theorem oK(hn:rK.contains n=true:=by decide):ET.funcs.get n=none:=Nh hn
abbrev Pr:=Nat×Nat
abbrev LJ:=List Pr
variable {z:Nat}(l:LN)
def w9(left n:Nat):Bool:=decide (left≠0)&&decide (n%2=0)&&decide (2<=n/2)&&decide (n/2<=28)
def vV:LN->Nat
 | _::p::l=>if p=0 then 0 else vV l+1
 | _=>0
def vG:Nat->LN->LJ
 | prev,k::p::l=>if p=0 then[]else if p=prev then vG p l else(k,p)::vG p l
 | _,_=>[]
def wO(left:Nat)(l:LN):LJ:=if w9 left l.length=true then vG left l else[]
def wh:LJ->Bool
 | a::b::l=>decide (a.1<b.1)&&wh (b::l)
 | _=>true
def xE:LN->LJ->Bool
 | seen,p::l=>!seen.contains p.2&&xE (p.2::seen) l
 | _,[]=>true
def kF:LN->Bool
 | _::p::l=>decide (p=0)&&kF l
 | _=>true
def kE(left:Nat)(l:LN):Bool :=
 wh (wO left l)&&xE [left] (wO left l)&&decide ((wO left l).length=vV l)&&decide ((wO left l).length<l.length/2)&&kF (l.drop (2*(wO left l).length))
def uf(left:Nat)(l:LN):Nat:=if w9 left l.length=true then if kE left l=true then 0 else 190 else 2
def xF(left:Nat)(l:LN)(j:Nat):Nat:=if j=0 then left else l.getD (2*(j-1)+1) 0
theorem oI(j:Nat)(h:2*j+1<l.length):l.drop (2*j)=l[2*j]::l[2*j+1]::l.drop (2*(j+1)):=by
 rw[Zs (i:=2*j) zo,Zs (i:=2*j+1) h];rfl
theorem E1:∀l:LN,2*vV l<=l.length
 | []=>by simp[vV]
 | [_]=>by simp[vV]
 | _::p::l=>by
  have:=E1 l;rw[vV]
  grind
theorem Lz{l:LN}(h:l.length<2):vV l=0:=by
 match l,h with
 | [],_=>rfl
 | [_],_=>rfl
@[reducible] def wv (p:Nat) (l:LN):PV:=.list p 1 (l.map uv)
@[reducible] def pv (x:Pr):PV:=.agg [uv x.1,uv x.2]
@[reducible] def vJ (p:Nat) (l:LJ):PV:=.list p 2 (l.map pv)
theorem Lb.uvs:Lb (.list 0 z (l.map uv)):=.list fun x a=>by
 obtain⟨y,b,a⟩:=ZF.1 a;obtain⟨n,_,rfl⟩:=Zu.1 b;simp[PV.cells]at a;subst a;exact .int _ _
theorem Lb.ivs(l:LG):Lb (.list 0 z (l.map iv)):=.list fun x a=>by
 obtain⟨y,b,a⟩:=ZF.1 a;obtain⟨n,_,rfl⟩:=Zu.1 b;simp[PV.cells]at a;subst a;exact .int _ _
theorem Lb.pvs(l:LJ):Lb (.list 0 z (l.map pv)):=.list fun x a=>by
 obtain⟨y,b,a⟩:=ZF.1 a;obtain⟨n,_,rfl⟩:=Zu.1 b;simp[PV.cells]at a;rcases a with rfl|rfl<;>exact .int _ _
structure zi where
 level:Nat
 sib:Nat
 low:Nat
 left:Nat
 way:Nat
 pairs:LJ
deriving DecidableEq
abbrev LB:=List zi
def xN(p:Nat):Bool:=decide (1<=p)&&decide (p<2048)
def uO:Nat->Nat->Nat->Bool
 | 0,_,w=>decide (7522529147838689024<=w)&&decide (w<=7522529147838689024+12)
 | 1,_,w=>decide (w<2048)
 | 2,_,_=>true
 | 3,lv,w=>(decide (lv=0)&&decide (w=9223372036854775808))||(decide (0<lv)&&xN w)
 | _,_,w=>decide (w<=2)
@[irreducible] def pM (x:Nat):Nat:=x - 7522529147838689024
theorem Ax(x:Nat):pM x=x-7522529147838689024:=by unfold pM;rfl
def headB(l:LN):Bool:=decide (l.length=64)&&((l.take 8).drop 5).all (fun x=>decide (x=0))&&(List.range 5).all fun i=>uO i (pM (l.getD 0 0)) (l.getD i 0)
def headN(l:LN):zi:=⟨pM (l.getD 0 0),l.getD 1 0,l.getD 2 0,l.getD 3 0,l.getD 4 0,wO (l.getD 3 0) (l.drop 8)⟩
def kN:zi:=⟨0,0,0,0,0,[]⟩
def lS:Nat->zi->Nat
 | 0,n=>7522529147838689024+n.level
 | 1,n=>n.sib
 | 2,n=>n.low
 | 3,n=>n.left
 | _,n=>n.way
def wR(n:zi)(p:Pr):Bool:=if n.level=0 then decide (1<=p.2)&&decide (p.2<=1099511627776)&&decide (n.low<=p.1)else xN p.2&&decide (n.low<p.1)
def gL(l:LN):Bool:=decide (uf (headN l).left (l.drop 8)=0) && !((headN l).pairs.any fun q=>!wR (headN l) q)
def wd(l:LN):Nat:=if headB l=true then if gL l=true then 0 else 190 else 210
def rz(n:zi):LN:=[7522529147838689024+n.level,n.sib,n.low,n.left,n.way,0,0,0]
def w7(l:LJ):LN:=l.flatMap fun x=>[x.1,x.2]
@[reducible] def vl (p:Nat) (n:zi):PV:=.agg [iv n.level,iv n.sib,uv n.low,uv n.left,iv n.way,vJ p n.pairs]
def JG:Nat->Nat
 | 0=>261|1=>264|2=>267|3=>270|_=>273
def Me:Nat->Nat
 | 0=>262|1=>265|2=>268|3=>271|_=>274
def Ix:Nat->Nat
 | 0=>263|1=>266|2=>269|3=>272|_=>275
@[reducible] def Kx (i:Nat):PV:=.agg [.fn (JG i) [],.fn (Me i) [],.fn (Ix i) []]
def dz:LQ:=(List.range 5).map Kx
def wM:LN->Nat
 | []=>0
 | x::l=>x+256*wM l
def uU(b:LN):LN:=(List.range ((b.length+7)/8)).map fun i=>wM ((b.drop (8*i)).take 8)
def xh(w:Nat):LN:=(List.range 8).map fun k=>w/2 ^ (8*k)%256
def uS(l:LN):LN:=l.flatMap xh
def wu(b:LN):Prop:=∀x∈b,x<256
variable {b:LN}{x y:Nat}(l:LN)(n w:Nat)
theorem B3:∀{b:LN},wu b->wM b<256 ^ b.length
 | [],_=>by simp[wM]
 | x::l,h=>by
  have h1:=h x (by simp);have h2:=B3 (b:=l) fun y a=>h y (Zo _ a);rw[wM,Zp,Nat.pow_succ];omega
theorem Fo:∀(b:LN) (x:Nat),wM (b++[x])=wM b+256 ^ b.length*x
 | [],x=>by simp[wM]
 | y::l,x=>by
  rw[Zv,wM,Fo l x,wM,Zp,Nat.pow_succ,zEG9,<- Nat.mul_assoc,zCX9 256 (256 ^ l.length)];omega
theorem KC:256 ^ n=2 ^ (8*n):=by rw[Nat.pow_mul]
theorem Y8(hb:wu b)(x:Nat):Nat.lor (wM b) (x*2 ^ (8*b.length))=wM (b++[x]):=by
 have h:=B3 hb;rw[KC]at h;rw[Fo,KC];have:=Nat.two_pow_add_eq_or_of_lt h x;show wM b ||| x*2 ^ (8*b.length)=_;rw[Nat.or_comm,zCX9 x,<- this];omega
theorem sn(hb:wu b)(hl:b.length<=8):wM b<18446744073709551616:=by
 have h:=B3 hb;have h2:256 ^ b.length<=256 ^ 8:=zBB9 zo hl;omega
theorem wu.sub{c:LN}(h:wu b)(hs:∀x∈c,x∈b):wu c:=fun x a=>h x (hs x a)
theorem wu.take(h:wu b)(n:Nat):wu (b.take n):=h.sub fun _=>ZU
theorem wu.drop(h:wu b)(n:Nat):wu (b.drop n):=h.sub fun _=>ZQ
theorem gH(b:LN):(uU b).length=(b.length+7)/8:=by simp[uU]
theorem Af{i:Nat}(h:8*i<b.length):(uU b)[i]?=some (wM ((b.drop (8*i)).take 8)):=by
 have:i<(b.length+7)/8:=zo;simp[uU,this]
theorem Tp(h:b.length%8=0):uU (b++[x])=uU b++[x]:=by
 obtain⟨n,a⟩:∃n,b.length=8*n:=⟨b.length/8,by omega⟩
 unfold uU;rw[Zl,zCY9,a,show (8*n+1+7)/8=n+1 by omega,show (8*n+7)/8=n by omega,zAQ9,ZG]
 congr 1
 .refine zBP9 fun i c=>?_;rw[zAL9]at c;rw[zCA9 zo,zAT9 (by rw[ZX];omega)]
 .simp[<- a,wM]
theorem To(hb:wu b)(h:¬b.length%8=0):uU (b++[x])=(uU b).set (b.length/8) (Nat.lor ((uU b).getD (b.length/8) 0) (x*2 ^ (8*(b.length%8)))):=by
 have j:(b.length+1+7)/8=(b.length+7)/8:=zo;have c:8*(b.length/8)<b.length:=zo;have d:(uU b).getD (b.length/8) 0=wM (b.drop (8*(b.length/8))):=by
  rw[Zq,Af c,zDR9,ZO (by rw[ZX];omega)]
 have f:(b.drop (8*(b.length/8))).length=b.length%8:=by rw[ZX];omega
 rw[d,<- f,Y8 (hb.drop _)];refine zBD9 fun i=>?_;rw[zDN9,gH]
 by_cases a:i<(b.length+7)/8
 .have g:8*i<(b++[x]).length:=by rw[Zl,zCY9];omega
  rw[Af g]
  by_cases e:b.length/8=i
  .subst e;rw[if_pos rfl,if_pos a,zCA9 zo,ZO (by rw[Zl,ZX,zCY9];omega)]
  .rw[if_neg e,Af zo,zCA9 zo,zAT9 (by rw[ZX];omega)]
 .rw[zAB9 (by rw[gH,Zl,zCY9];omega)];rw[if_neg zo,zAB9 (by rw[gH];omega)]
theorem Dz(hb:wu b):∀w∈uU b,w<18446744073709551616:=fun w a=>by
 unfold uU at a;rw[Zu]at a;obtain⟨i,_,rfl⟩:=a;exact sn ((hb.drop _).take _) (by rw[ZC];omega)
theorem Pm:wu (xh w):=fun x a=>by
 unfold xh at a;rw[Zu]at a;obtain⟨i,_,rfl⟩:=a;omega
theorem tu:wu (uS l):=fun x a=>by
 obtain⟨w,_,h⟩:=ZF.1 a;exact Pm w x h
theorem ec:(uS l).length=8*l.length:=by
 unfold uS;rw[List.length_flatMap];simp[xh,List.map_const',List.sum_replicate_nat];omega
theorem GS:uS (l++[w])=uS l++xh w:=by unfold uS;rw[zBC9];simp
def bl(b:LN):LQ:=b.map fun n:Nat=>.int .u8 n
theorem yj(b:LN):(bl b).length=b.length:=ZB ..
theorem ti(b:LN)(i:Nat):(bl b)[i]?=b[i]?.map fun n:Nat=>PV.int .u8 n:=Zt ..
def wC(s:LN):Nat:=if s=[]\/s=[46]\/s=[46,46]\/0∈s\/47∈s then 140 else if 120<s.length then 141 else 0
def bO(r x:Nat):Nat:=Tw.oE (Nat.xor r x)
def mF(w n:Nat):Nat:=Nat.lor (w*2 ^ n%18446744073709551616) (w/2 ^ (64-n))
structure vi where
 a:Nat
 b:Nat
 c:Nat
 d:Nat
def xL(x y:Nat):Nat:=(x+y)%18446744073709551616
def vi.h1(v:vi):vi:=⟨mF (xL v.a v.b) 32,Nat.xor (mF v.b 13) (xL v.a v.b),v.c,v.d⟩
def vi.h2(v:vi):vi:=⟨v.a,v.b,xL v.c v.d,Nat.xor (mF v.d 16) (xL v.c v.d)⟩
def vi.h3(v:vi):vi:=⟨xL v.a v.d,v.b,v.c,Nat.xor (mF v.d 21) (xL v.a v.d)⟩
def vi.h4(v:vi):vi:=⟨v.a,Nat.xor (mF v.b 17) (xL v.c v.b),mF (xL v.c v.b) 32,v.d⟩
def vi.rnd(v:vi):vi:=v.h1.h2.h3.h4
def vi.rnds(v:vi):Nat->vi
 | 0=>v
 | n+1=>(v.rnd).rnds n
def vi.low(v:vi)(m:Nat):vi:=⟨Nat.xor v.a m,v.b,v.c,v.d⟩
def vi.into(v:vi)(m:Nat):vi:=(vi.rnds ⟨v.a,v.b,v.c,Nat.xor v.d m⟩ 2).low m
def vi.new(k0 k1:Nat):vi:=⟨Nat.xor k0 8317987319222330741,Nat.xor k1 7237128888997146477,Nat.xor k0 7816392313619706465,Nat.xor k1 8387220255154660723⟩
def vi.words(v:vi)(l:LN):vi:=l.foldl vi.into v
def vi.fin(v:vi):Nat :=
 let v:=vi.rnds ⟨v.a,v.b,Nat.xor v.c 255,v.d⟩ 4
 Nat.xor (Nat.xor (Nat.xor v.a v.b) v.c) v.d
def xW(b:LN):LN:=uU (b.take (8*(b.length/8)))
def dh(b:LN):Nat:=wM (b.drop (8*(b.length/8)))+b.length%256*2 ^ 56
def pH(k0 k1:Nat)(b:LN):Nat:=(((vi.new k0 k1).words (xW b)).into (dh b)).fin
structure vi.ok(v:vi):Prop where
 a:v.a<18446744073709551616
 b:v.b<18446744073709551616
 c:v.c<18446744073709551616
 d:v.d<18446744073709551616
theorem uB(hx:x<18446744073709551616)(hy:y<18446744073709551616):Nat.xor x y<18446744073709551616:=zCE9 (n:=64) hx hy
theorem Vw(hx:x<18446744073709551616)(hy:y<18446744073709551616):Nat.lor x y<18446744073709551616:=Nat.or_lt_two_pow (n:=64) hx hy
theorem pw(x y:Nat):xL x y<18446744073709551616:=by unfold xL;omega
theorem dD(hx:x<18446744073709551616):mF x n<18446744073709551616:=Vw zo (zEN9 (zDI9 _ _) hx)
section
variable {v:vi}
variable {m:Nat}
theorem vi.h1_ok(h:v.ok):v.h1.ok:=by
 unfold vi.h1;exact⟨dD 32 (pw _ _),uB (dD 13 h.b) (pw _ _),h.c,h.d⟩
theorem vi.h2_ok(h:v.ok):v.h2.ok:=by
 unfold vi.h2;exact⟨h.a,h.b,pw _ _,uB (dD 16 h.d) (pw _ _)⟩
theorem vi.h3_ok(h:v.ok):v.h3.ok:=by
 unfold vi.h3;exact⟨pw _ _,h.b,h.c,uB (dD 21 h.d) (pw _ _)⟩
theorem vi.h4_ok(h:v.ok):v.h4.ok:=by
 unfold vi.h4;exact⟨h.a,uB (dD 17 h.b) (pw _ _),dD 32 (pw _ _),h.d⟩
theorem vi.rnd_ok(h:v.ok):v.rnd.ok:=by
 unfold vi.rnd;exact vi.h4_ok (vi.h3_ok (vi.h2_ok (vi.h1_ok h)))
theorem vi.rnds_ok:∀{n:Nat} {v:vi},v.ok->(v.rnds n).ok
 | 0,_,h=>h
 | n+1,_,h=>vi.rnds_ok (n:=n) (vi.rnd_ok h)
theorem vi.low_ok(h:v.ok)(hm:m<18446744073709551616):(v.low m).ok:=by
 unfold vi.low;exact⟨uB h.a hm,h.b,h.c,h.d⟩
theorem vi.into_ok(h:v.ok)(hm:m<18446744073709551616):(v.into m).ok:=by
 have h2:vi.ok ⟨v.a,v.b,v.c,Nat.xor v.d m⟩:=⟨h.a,h.b,h.c,uB h.d hm⟩
 unfold vi.into;exact vi.low_ok (vi.rnds_ok h2) hm
end
@[reducible] def vd (x:Pr):PV:=.agg [iv x.1,uv x.2]
attribute [go_sem] qN qp xT jc qC zr T3 T4 T5 T10 T11 T12 T13 T14 T15 T16 T17 T18 T19 T20 T21 T22 T23 T26 T27 T30 T31 T32 T33 T34 T35 T36 T37 T39 T40 T41 T42 T43 T44 T45 T46 T47 T48 T49 T50 T51 T52 T53 T54 T55 T56 T57 T58 T59 T60 T61 T63 T68 T69 T70 T71 T72 T73 T74 T75 T76 T77 T78 T79 T80 T81 T82 T83 T84 T85 T86 T87 T88 T89 T90 T92 T93 T94 T95 T96 T97 T98 T99 T100 T101 T102 T103 T104 T105 T106 T107 T108 T109 T110 T111 T112 T115 T116 T120 T121 T122 T123 T124 T125 T126 T127 T128 T129 T130 T131 T132 T133 T134 T135 T136 T137 T138 T139 T140 T141 T142 T143 T144 T145 T146 T147 T148 T149 T150 T151 T152 T153 T154 T155 T156 T157 T158 T159 T160 T161 T162 T163 T164 T165 T166 T167 T168 T169 T170 T171 T172 T173 T175 T179 T180 T181 T182 T183 T184 T186 T187 T188 T189 T190 T191 T192 T193 T195 T196 T197 T198 T199 T202 T203 T204 T205 T206 T207 T208 T209 T210 T211 T212 T213 T214 T215 T216 T217 T218 T219 T220 T221 T222 T223 T224 T225 T226 T227 T228 T229 T230 T231 T234 T235 T236 T237 T238 T239 T240 T241 T242 T243 T245 T246 T247 T248 T249 T250 T251 T252 T253 T254 T256 T257 T258 T259 T260 T261 T262 T263 T264 T265 T266 T267 T268 T269 T270 T271 T272 T273 T274 T275 T276 T277 T278 T279 T280 T281 T282 T283 T284 T285 T286 T287 T288 T289 T290 T291 T292 T293 T294 T295 T296 T297 T298 T299 T300 T301 T302 T303 T304 T305 T306 T307 T308 T309 T310 T311 T312 T313 T314 T315 T316 T317 T318 T319 T321 T322 T323 T324 T325 T326 T327 T328 T329 T330 T331 T332 T333 T334 T335 T337 T338 T339 T340 T341 T342 T343 T344 T346 T347 T348 T349 T350 T351 T353 T354 T355 T356 T357 T359 T360 T361

@[reducible] def wy (n:Int):PV:=.iface 38 (.int .i64 n)
variable (e:Int)
theorem mB:FR 97 [.bool true,.int .i64 e] (.tuple []):=by
 refine zn (eG T97 func97) Lb.unit ?_;refine vq (um ?_);refine wn ?_ ?_
 .intro h;cases h
 .intro _;refine wK ?_;exact⟨[],rfl,ze.tL trivial⟩
theorem pD:FN ET 97 [.bool false,.int .i64 e] (.panic (wy e)):=by
 refine zn (eG T97 func97) (.iface (.int _ _)) ?_;refine vq (um ?_);refine wn ?_ ?_
 .intro _;refine wa ?_;refine wq ?_;refine Cd (ty:=38) (v:=.int .i64 e) rfl (by simp[zY,ev,zC,zb]) ?_;exact ze.iface (.int _ _)
 .intro h;cases h
theorem cq:FR 204 [.bool true,.int .i64 e] (.tuple []):=by
 refine zn (eG T204 func204) Lb.unit ?_;refine vq (um ?_);refine wn ?_ ?_
 .intro h;cases h
 .intro _;refine wK ?_;exact⟨[],rfl,ze.tL trivial⟩
theorem nB:FN ET 204 [.bool false,.int .i64 e] (.panic (wy e)):=by
 refine zn (eG T204 func204) (.iface (.int _ _)) ?_;refine vq (um ?_);refine wn ?_ ?_
 .intro _;refine wa ?_;refine wq ?_;refine Cd (ty:=38) (v:=.int .i64 e) rfl (by simp[zY,ev,zC,zb]) ?_;exact ze.iface (.int _ _)
 .intro h;cases h
theorem tY(p:Nat)(l:LG)(n:Int)(hl:l.length<4611686018427387904):FR 123 [.list p 1 (l.map iv),.int .i64 n] (.bool (l.contains n)):=by
 refine zn (eG T123 func123) (.bool _) ?_;refine vq (um ?_);refine vq ?_;refine vq (um ?_);refine vm (vy (fun m s=>∃i:Nat,m=l.length-i/\i<=l.length/\(l.take i).contains n=false/\s.tm 0=.list p 1 (l.map iv)/\s.tm 1=.int .i64 n/\s.tm 5=.int .i64 i/\s.df=[]/\s.H=[]) (n:=l.length) ?_ ?_)
 .exact⟨0,by simp[zb,zq]⟩
 .rintro m ⟨tm,df,H⟩ ⟨i,rfl,hi,hc,h0,h1,h5,rfl,rfl⟩;dsimp only at h0 h1 h5;refine fM ?_;refine vq (vC (vh h0 h1 h5) ?_);refine fE ?_ ?_
  .intro a;have a:i<l.length:=vM a;refine vq (vm ?_);refine vq (vC (vz h0 h1 h5 (Zg a)) ?_);refine wn ?_ ?_
   .intro b;have b:=of_decide_eq_true b;refine vq (um ?_);refine vw (wo ?_);have:l.contains n=true:=by
     rw[zDV9];rw[<- b];exact ZV a
    rw[this];exact ze.bool _
   .intro b;have b:=of_decide_eq_false b;refine wK ?_;refine wa ?_;refine wA (vh h0 h1 h5) ?_;refine⟨_,?_,i+1,rfl,a,?_,?_⟩
    .omega
    .rw[List.take_succ_eq_append_getElem a]
     grind
    .have:IntKind.i64.wrap ((i:Int)+1)=((i+1:Nat):Int):=by rw[wrap_i64 zo zo];omega
     simp[zb,h0,h1]
  .intro a;have a:¬i<l.length:=vL a;obtain rfl:i=l.length:=zo;refine vq (um ?_);refine vw (wo ?_);rw[ZL]at hc;rw[hc];exact ze.bool _
abbrev vE(n:Nat):Prop:=n<4611686018427387904
variable (p:Nat)(w:LN)(left j:Nat)
theorem iG(hw:vE w.length):FR 205 [wv p w] (.int .i64 (w.length/2:Nat)):=by
 refine zn (eG T205 func205) (.int _ _) ?_;refine vq (um ?_);have a:IntKind.i64.wrap ((w.length:Int).tdiv 2)=((w.length/2:Nat):Int):=by
  rw[IntWalk.i64_quo _ _ zo];omega
 refine vq (wa ?_);refine xf a ?_;exact ze.int _ _
theorem S7(hw:vE w.length)(h:2*j<w.length):FR 285 [wv p w,.int .i64 j] (uv w[2*j]):=by
 refine zn (eG T285 func285) (.int _ _) ?_;refine vq (um ?_);have a:IntKind.i64.wrap (2*(j:Int))=2*(j:Int):=wx;have b:(2*(j:Int)).toNat=2*j:=zo;have c:(0:Int)<=2*(j:Int):=zo;refine vq (vC (vz a b c (Zg h)) ?_);refine vw (wo ?_);exact ze.int _ _
theorem rP(hw:vE w.length)(h:2*j+1<w.length):FR 259 [wv p w,.int .i64 j] (uv w[2*j+1]):=by
 refine zn (eG T259 func259) (.int _ _) ?_;refine vq (um ?_);have a:IntKind.i64.wrap (2*(j:Int))=2*(j:Int):=wx;have b:IntKind.i64.wrap (2*(j:Int)+1)=2*(j:Int)+1:=wx;have c:(2*(j:Int)+1).toNat=2*j+1:=zo;have d:(0:Int)<=2*(j:Int)+1:=zo;refine vq (vC (vX a c d b (Zg h)) ?_);refine vw (wo ?_);exact ze.int _ _
@[reducible] def pQ (p:Nat) (w:LN) (left:Nat):PV:=.agg [wv p w,uv left]
theorem EK(hw:vE w.length):FR 257 [pQ p w left] (.bool (w9 left w.length)):=by
 refine zn (eG T257 func257) (.bool _) ?_;refine vq (um ?_);refine vq (wa ?_)
 by_cases h1:left=0
 .subst h1;refine zP ?_;exact ze.bool _
 .have c:¬(left:Int)=0:=zo
  by_cases h2:w.length%2=0
  .have a:(w.length:Int).tmod 2=0:=by rw[IntWalk.rem_in _ _ zo];omega
   refine vS (zj c a) ?_;refine vo (iG p w hw) ?_
   by_cases h3:2<=w.length/2
   .have b:(2:Int)<=((w.length/2:Nat):Int):=zo;refine vS b ?_;refine vo (iG p w hw) ?_;refine zP ?_;have:w9 left w.length=decide (((w.length/2:Nat):Int)<=28):=by simp[w9,h1,h2,h3];omega
    rw[this];exact ze.bool _
   .have b:¬(2:Int)<=((w.length/2:Nat):Int):=zo;refine xf b ?_;have:w9 left w.length=false:=by simp[w9,h1,h2,h3]
    rw[this];exact ze.bool _
  .have a:¬(w.length:Int).tmod 2=0:=by rw[IntWalk.rem_in _ _ zo];omega
   refine xf (zj c a) ?_;have:w9 left w.length=false:=by simp[w9,h1,h2]
   rw[this];exact ze.bool _


theorem Gc(hw:vE w.length)(h:2*j<w.length+1):FR 209 [pQ p w left,.int .i64 j] (uv (xF left w j)):=by
 refine zn (eG T209 func209) (.int _ _) ?_;refine zG ?_;refine wn ?_ ?_
 .intro a;obtain rfl:j=0:=vM a;refine zO ?_;exact ze.int _ _
 .intro a;have a:¬j=0:=vL a;refine vY ?_;refine zI ?_;have b:(j:Int)-1=((j-1:Nat):Int):=zo;rw[b];refine vo (rP p w (j-1) hw zo) ?_;refine zP ?_;have:xF left w j=w[2*(j-1)+1]'zo:=by
   unfold xF;rw[if_neg a,Zq,Zg zo];rfl
  rw[this];exact ze.int _ _
theorem KS(hw:vE w.length):FR 282 [pQ p w left] (.int .i64 (vV w:Nat)):=by
 refine zn (eG T282 func282) (.int _ _) ?_;refine zG ?_;refine vm (vy (fun m s=>∃i:Nat,m=w.length-i/\2*i<=w.length/\vV w=i+vV (w.drop (2*i))/\s.tm 1=.ptr 0 0 0 0 2/\s.tm 2=.int .i64 i/\s.df=[]/\s.H=[.row 299 2 0 0 [pQ p w left]]) (n:=w.length) ?_ ?_)
 .exact⟨0,by simp[zb,zq]⟩
 .rintro m ⟨tm,df,H⟩ ⟨i,rfl,hi,hc,h1,h2,rfl,rfl⟩;dsimp only at h1 h2;refine fM ?_;refine vK (zj h1 h2) ?_;refine vo (iG p w hw) ?_;have stop:∀b,vV (w.drop (2*i))=0->b 2=.int .i64 i->b8 (fun m s=>∃i:Nat,m=w.length-i/\2*i<=w.length/\vV w=i+vV (w.drop (2*i))/\s.tm 1=.ptr 0 0 0 0 2/\s.tm 2=.int .i64 i/\s.df=[]/\s.H=[.row 299 2 0 0 [pQ p w left]]) (w.length-i)
    (gY 0 (xU (fun f=>W ET ET.caught none (.seq (.region [⟨some 17,.mov,[.tmp 2],none⟩,⟨some 2,.mov,[.tmp 17],none⟩]) .ret) f (yG ET T282 fun c H=>ve H 0 c (.ret (.int .i64 (vV w:Nat))))) (yG ET T282 fun c H=>ve H 0 c (.ret (.int .i64 (vV w:Nat)))))) (.exit 0) ⟨b,[],[.row 299 2 0 0 [pQ p w left]]⟩:=fun b g j=>by
   refine wm j ?_;rw[hc,g];exact ze.int _ _
  by_cases k:i<w.length/2
  .have d:(i:Int)<((w.length/2:Nat):Int):=zo;refine vS (vh d h1 h2) ?_;refine wD (rP p w i hw zo) ?_;have e:=oI w i zo;refine fE ?_ ?_
   .intro a;have a:¬w[2*i+1]'zo=0:=by simpa using a
    refine vm ?_;refine vp h2 ?_;refine⟨_,?_,i+1,rfl,?_,?_,?_⟩
    .omega
    .omega
    .rw[hc,e,vV,if_neg a];omega
    .simp[zb,h1]
   .intro a;have a:w[2*i+1]'zo=0:=by simpa using a
    refine stop _ ?_ (by simp[zb,h2]);rw[e,vV,if_pos a]
  .have d:¬(i:Int)<((w.length/2:Nat):Int):=zo;refine wN (vh d h1 h2) ?_;refine fE ?_ ?_
   .intro h;cases h
   .intro _;refine stop _ ?_ (by simp[zb,h2]);exact Lz (by simp;omega)


theorem Ud(a b:Pr):FR 281 [pv a,pv b] (.bool (decide (a.1<b.1))):=by
 refine zn (eG T281 func281) (.bool _) ?_;refine zO ?_;have:decide ((a.1:Int)<(b.1:Int))=decide (a.1<b.1):=by simp
 rw[this];exact ze.bool _
theorem Qu{α:Type}(l:List α)(i:Nat)(h:i+1<l.length):l.drop i=l[i]::l[i+1]::l.drop (i+2):=by simp_all
theorem Xa{l:LJ}(h:l.length<2):wh l=true:=by
 match l,h with
 | [],_=>rfl
 | [_],_=>rfl
theorem Xc(l:LJ)(hl:vE l.length):FR 280 [vJ p l,.fn 281 []] (.bool (wh l)):=by
 refine zn (eG T280 func280) (.bool _) ?_;refine zG ?_;refine vm (vy (fun m s=>∃i:Nat,m=l.length+1-i/\i<=l.length/\wh l=wh (l.drop i)/\s.tm 0=vJ p l/\s.tm 1=.fn 281 []/\s.tm 5=.int .i64 (i+1:Nat)/\s.df=[]/\s.H=[]) (n:=l.length+1) ?_ ?_)
 .exact⟨0,by simp[zb,zq]⟩
 .rintro m ⟨tm,df,H⟩ ⟨i,rfl,hi,hc,h0,h1,h5,rfl,rfl⟩;dsimp only at h0 h1 h5;refine vu (vh h0 h1 h5) ?_ ?_
  .intro a;have a:i+1<l.length:=vM a;refine vq (vm ?_);refine vq ?_;refine wV ?_;have d:((i+1:Nat):Int)-1=(i:Int):=zo;refine wF (wQ h0 h1 h5 d (Zg a) (Zg (show i<l.length by omega))) (Ud l[i] l[i+1]) ?_;refine vj h0 ?_;have c:=Qu l i a;refine wn ?_ ?_
   .intro b;have b:¬(l[i].1<l[i+1].1):=by simpa using b
    refine zO ?_;rw[hc,c,wh];simp only[b,decide_false,zEE9];exact ze.bool _
   .intro b;have b:l[i].1<l[i+1].1:=by simpa using b
    refine wK ?_;refine vp h5 ?_;refine⟨_,?_,i+1,rfl,by omega,?_,?_⟩
    .omega
    .rw[hc,c,wh,Zs a];simp[b]
    .simp[zb,h0,h1]
  .intro a;have a:¬i+1<l.length:=vL a;refine zO ?_;rw[hc,Xa (by grind)];exact ze.bool _
def yC:Nat->Nat->LN->List (Nat×Pr)
 | i,prev,k::p::l=>if p=0 then[]else if p=prev then yC (i+1) p l else(i,(k,p))::yC (i+1) p l
 | _,_,_=>[]
def pg(left:Nat)(l:LN):List (Nat×Pr):=if w9 left l.length=true then yC 0 left l else[]
theorem rW:∀(l:LN) (i prev:Nat),(yC i prev l).map (·.2)=vG prev l
 | [],_,_=>by simp[yC,vG]
 | [_],_,_=>by simp[yC,vG]
 | k::p::l,i,prev=>by
  rw[yC,vG]
  split
  .rfl
  .split
   .exact rW l (i+1) p
   .simp[rW l (i+1) p]
theorem Ls(left:Nat)(l:LN):(pg left l).map (·.2)=wO left l:=by
 unfold pg wO
 split
 .exact rW l 0 left
 .rfl


theorem Qy(id p:Nat)(w:LN)(left:Nat)(hw:vE w.length)(P:Nat->LP)(hlen:∀k,(P k).length=(P 0).length)(hnr:∀(k i:Nat) (o:za),(P k)[i]?=some o->xu (P 0).length o)
  (hy:∀(k j:Nat) (x:Pr) (G:LP),(pg left w)[k]?=some (j,x)->FY ET id [.int .i64 j,pv x] (P k++G) fun r H'=>r=true/\H'=P (k+1)++G) :
  FO ET 324 [.yield id,.elem [wv p w],.elem [uv left]] (P 0) false fun e H'=>e=.ret (.tuple [])/\H'=P (pg left w).length:=by
 refine FO.gc (wS (eG T324 func324) ?_);have c:∀k (x:za),(P k++[x])[(P 0).length]?=some x:=fun k x=>by grind
 have I:∀k (x y:za),(P k++[x]).set (P 0).length y=P k++[y]:=fun k x y=>by grind
 have fin:∀(tm:Nat->PV) (k:Nat),k=(pg left w).length->yG ET T324 (fun e H'=>∃H'' G,nG (P 0) H' H'' G/\FI (P 0).length e/\e=.ret (.tuple [])/\H''=P (pg left w).length) .ret ⟨tm,[],P k++[.row 299 2 0 0 [pQ p w left]]⟩:=fun tm k u=>by
  subst u;refine yd (vs:=[]) rfl ⟨P (pg left w).length,_,⟨rfl,hlen _,fun i o J=>.inr (hnr _ i o J)⟩,.tuple (fun x h=>by cases h),rfl,rfl⟩
 refine sU ?_;refine zB ?_;refine vC (zj (c 0) (I 0)) ?_;refine vK (c 0) ?_;refine wD (EK p w left hw) ?_
 by_cases f:w9 left w.length=true
 .have N:w.length%2=0:=by simp[w9]at f;omega
  have B:pg left w=yC 0 left w:=by unfold pg;rw[if_pos f]
  refine wn ?_ ?_
  .rw[f];intro h;cases h
  .intro _;refine vY ?_;refine vq (wK ?_);refine vK (c 0) ?_;refine wD (KS p w left hw) ?_;refine vm (vy (fun m s=>∃j k:Nat,m=w.length-j/\j<=vV w/\vV w=j+vV (w.drop (2*j))/\k<=(pg left w).length/\(pg left w).drop k=yC j (xF left w j) (w.drop (2*j))/\s.tm 0=.yield id/\s.tm 4=.ptr (P 0).length 0 0 0 2/\s.tm 13=.int .i64 (vV w:Nat)/\s.tm 14=.int .i64 j/\s.df=[]/\s.H=P k++[.row 299 2 0 0 [pQ p w left]]) (n:=w.length) ?_ ?_)
   .exact⟨0,0,by simp,by omega,by simp,by omega,by simp[B,xF],zt,zt,zt,zt,rfl,rfl⟩
   .rintro m ⟨tm,df,H⟩ ⟨j,k,rfl,hj,hraw,u,hdk,h0,h4,h13,h14,rfl,rfl⟩;dsimp only at *
    have O:=E1 w;refine vu (vz h0 h4 h13 h14) ?_ ?_
    .intro g;have g:j<vV w:=vM g;have v:=oI w j zo;have z:¬w[2*j+1]'zo=0:=by
      intro e;rw[v,vV,if_pos e]at hraw;omega
     rw[v,yC,if_neg z]at hdk;rw[v,vV,if_neg z]at hraw;have Q:xF left w (j+1)=w[2*j+1]'zo:=by
      unfold xF;rw[if_neg zo,Zq];simp only[zEO9];rw[Zg zo];rfl
     refine vq (vm ?_);refine zB ?_;refine vC h14 ?_;refine vq ?_;refine wV ?_;refine wF (vz h0 h4 h14 (c k)) (rP p w j hw zo) ?_;refine wF (vz h0 h4 h14 (c k)) (Gc p w left j hw zo) ?_
     by_cases t:w[2*j+1]'zo=xF left w j
     .have d:((w[2*j+1]'zo:Nat):Int)=((xF left w j:Nat):Int):=by rw[t]
      rw[if_pos t]at hdk;refine nO (by first|exact trivial|simp only[go_sem,d,h0,h4,h14,c k]) (by simp(disch:=omega)only[go_sem,d,c k]<;>rfl) rfl (by simp only[go_sem,c k]<;>rfl) (by simp only[go_sem]<;>rfl) ?_;refine nO (by first|exact trivial|simp only[go_sem,c k]) (by simp(disch:=omega)only[go_sem,c k]<;>rfl) rfl (by simp only[go_sem,c k]<;>rfl) (by simp only[go_sem]<;>rfl) ?_;refine nO (by first|exact trivial|simp only[go_sem,c k]) (by simp(disch:=omega)only[go_sem,c k]<;>rfl) rfl (by simp only[go_sem,c k]<;>rfl) (by simp only[go_sem]<;>rfl) ?_;refine vj (vX d h0 h4 h14 (c k)) ?_;refine wn ?_ ?_
      .intro h;cases h
      .intro _;refine wK ?_;refine vp h14 ?_;refine⟨_,?_,j+1,k,rfl,by omega,by omega,u,?_,?_⟩
       .omega
       .grind
       .simp[zb,h0,h4,h13]
     .have d:¬((w[2*j+1]'zo:Nat):Int)=((xF left w j:Nat):Int):=zo;rw[if_neg t]at hdk;have A:(pg left w)[k]?=some (j,(w[2*j]'zo,w[2*j+1]'zo)):=by
       have:=congrArg List.head? hdk;rw[List.head?_drop]at this;simpa using this
      have C:k<(pg left w).length:=(Zh.1 A).1;have M:(pg left w).drop (k+1)=yC (j+1) (w[2*j+1]'zo) (w.drop (2*(j+1))):=by
       rw[<- zBU9,hdk];rfl
      refine wF (vX d h0 h4 h14 (c k)) (S7 p w j hw zo) ?_;refine wF (vX d h0 h4 h14 (c k)) (rP p w j hw zo) ?_;refine FW (s1:=?_) (id:=?_) (vs:=?_) ?_ ?_ rfl rfl ?_ ?_ ?_;rotate_left 3;(first|exact trivial|(simp only[go_sem,c k]));(simp(disch:=omega)only[go_sem,c k]<;>rfl);(first|rfl|(simp only[go_sem,d,h0,h4,h14,c k]<;>rfl));(simp only[go_sem,c k]<;>rfl);refine FY.mono (hy k j _ _ A) fun r H' K=>?_;obtain⟨rfl,rfl⟩:=K;refine⟨_,by simp only[go_sem]<;>rfl,?_⟩;generalize ql _ _=K0;refine vj d ?_;refine wn ?_ ?_
      .intro h;cases h
      .intro _;refine wK ?_;refine vp h14 ?_;refine⟨_,?_,j+1,k+1,rfl,by omega,by omega,C,?_,?_⟩
       .omega
       .grind
       .simp[zb,h0,h4,h13]
    .intro g;have g:¬j<vV w:=vL g;obtain rfl:j=vV w:=zo;have L:yC (vV w) (xF left w (vV w)) (w.drop (2*vV w))=[]:=by
      have q:vV (w.drop (2*vV w))=0:=zo
      revert q
      generalize w.drop (2*vV w)=l
      match l with
      | []=>intro _;simp[yC]
      | [_]=>intro _;simp[yC]
      | a::b::l =>
       intro q;rw[vV]at q
       split at q
       .rename_i c;rw[yC,if_pos c]
       .omega
     rw[L]at hdk;have D:k=(pg left w).length:=by
      have:=congrArg List.length hdk;simp at this;omega
     exact fin _ _ D
 .have f:w9 left w.length=false:=by simpa using f
  refine wn ?_ ?_
  .intro _;refine vw ?_;exact fin _ 0 (by simp[pg,f])
  .rw[f];intro h;cases h
theorem Nw(p:Nat)(w:LN)(left:Nat):FP ET 276 [uv left,wv p w] (.ret (.fn 324 [.elem [wv p w],.elem [uv left]])):=by
 refine mO (eG T276 func276) ?_;refine zO ?_;refine ze.fnL ⟨.ptr (w:=wv p w) rfl (Zi _) rfl fun j x y b a=>?_,.ptr (w:=uv left) rfl (Zi _) rfl fun j x y b a=>?_,trivial⟩
 .cases j with
  | zero=>simp[PV.cells]at b a;subst b;subst a;exact ze.list _ _ _
  | succ j=>simp at a
 .cases j with
  | zero=>simp[PV.cells]at b a;subst b;subst a;exact ze.int _ _
  | succ j=>simp at a


def EG:vP:=.region [⟨some 6,.alloc 92 [.int .u64 (.ofNat 0),.int .u64 (.ofNat 0)],[],none⟩,⟨none,.store 2,[.tmp 6,.tmp 11],none⟩]
def EI:vP:=.block 1 (.region [⟨some 12,.load false 1,[.tmp 4],none⟩,⟨some 13,.load true 2,[.tmp 6],none⟩,⟨some 14,.bslice 92 2 1 [.int .u64 (.ofNat 0),.int .u64 (.ofNat 0)] [(0,2)],[.tmp 13],none⟩,⟨some 15,.append 92 2 16,[.tmp 12,.tmp 14],none⟩,⟨none,.store 1,[.tmp 4,.tmp 15],none⟩])
def an(tm:Nat->PV)(L:LJ)(k:Nat):LP:=[.row 87 1 0 0 [.sl 1 k 0 k (2*k) 2],.row 92 2 k 0 ((L.take k).map pv),.dfr false,.loop .ready .norm tm [10,11] EG EI 2]
variable {H:LP}{L:LJ}{e:FE}{k:IntKind}{n:Int}{tm:Nat->PV}(p:Nat)(cs:LQ)(w:LN)(i x left:Nat)
theorem bS{l:LJ}:∀v∈(l.map pv).flatMap PV.cells,vg v:=fun v a=>by
 obtain⟨x,b,a⟩:=ZF.1 a;obtain⟨n,_,rfl⟩:=Zu.1 b;simp[PV.cells]at a;rcases a with rfl|rfl<;>exact .int _ _
theorem KZ(hnr:∀i,tm i=.bad\/NR 4 (tm i))(k i:Nat)(o:za)(ho:(an tm L k)[i]?=some o):xu 4 o:=by
 match i with
 | 0=>cases ho;intro x a;simp[PV.cells]at a;subst a;exact .sl _ _ _ _ _ zo
 | 1=>cases ho;exact Vc bS
 | 2=>cases ho;trivial
 | 3=>cases ho;exact⟨by omega,hnr,trivial⟩
 | i+4=>simp[an]at ho
theorem WX(hnr:∀i,tm i=.bad\/NR 4 (tm i))(k:Nat)(G G':LP):nG (an tm L k++G) (an tm L (k+1)++G++G') (an tm L (k+1)++G) G' :=
 nG.front rfl fun id o a=>KZ hnr (k+1) id o a
theorem cn(w:LN):(wO left w).length<=28:=by
 unfold wO
 split
 .rename_i h;have h1:∀(a:Nat) (l:LN),2*(vG a l).length<=l.length:=by
   intro a l
   induction a,l using vG.induct<;>rw[vG]<;>simp_all<;>omega
  have h2:=h1 left w;simp[w9]at h;omega
 .simp
theorem WY(tm:Nat->PV)(h4:tm 4=.ptr 0 0 0 0 1)(hnr:∀i,tm i=.bad\/NR 4 (tm i))(L:LJ)(k j:Nat)(x:Pr)(hx:L[k]?=some x)(hL:L.length<1000000)(G:LP) :
  FY ET 3 [.int .i64 j,pv x] (an tm L k++G) fun r H'=>r=true/\H'=an tm L (k+1)++G:=by
 have e:k<L.length:=(Zh.1 hx).1;have d:L[k]=x:=(Zh.1 hx).2;have a:(L.take k).length=k:=by simp;omega
 refine FY.gc (sy (tm:=tm) (ps:=[10,11]) (aS:=EG) (bo:=EI) rfl rfl ?_);refine wa ?_;refine wq ?_ (by simp(disch:=omega)only[go_sem,an]<;>rfl);refine yR ?_;refine⟨rfl,_,_,_,_,_,_,rfl,?_⟩;refine vm (wa ?_);have c:(k+1)*17<=140737488355328:=zo;refine wA (vh h4 a c) ?_;have b:(L.take k).map pv++[PV.agg [uv x.1,uv x.2]]=(L.take (k+1)).map pv:=by
  rw[ZE,hx];simp
 rw[b,ZK];exact⟨rfl,.busy,.norm,tm,[10,11],EG,EI,2,rfl,an tm L (k+1)++G,[za.row 92 2 0 0 [pv x]]++[za.row 92 2 0 0 [PV.agg [uv x.1,uv x.2]]],WX hnr k G _,rfl,rfl⟩
theorem FJ(hw:vE w.length):FR 214 [uv left,wv p w] (vJ 0 (wO left w)):=by
 refine zn (eG T214 func214) (Lb.pvs _) ?_;refine wI ?_;refine fD (Nw p w left) ?_;refine zN ?_;refine vm ?_;refine F1 92 2 (id:=0) rfl ?_;simp only[uF,Zp,Zz,zAH9,Zv,ZA];refine sS (g:=324) (cap:=[.elem [wv p w],.elem [uv left]]) (b:=false) (by simp only[go_sem]) ?_;have f:(pg left w).length=(wO left w).length:=by rw[<- Ls];simp
 have r:=cn left w;have c:∀i,(zb (zb (zb (zb (zq [uv left,wv p w]) 4 (PV.ptr 0 0 0 0 1)) 7 (uv left)) 8 (wv p w)) 9 (PV.fn 324 [PV.elem [wv p w],PV.elem [uv left]])) i=.bad\/NR 4 ((zb (zb (zb (zb (zq [uv left,wv p w]) 4 (PV.ptr 0 0 0 0 1)) 7 (uv left)) 8 (wv p w)) 9 (PV.fn 324 [PV.elem [wv p w],PV.elem [uv left]])) i) :=
  eY (eY (eY (eY (U9 fun v a=>by simp at a;rcases a with rfl|rfl<;>constructor) (.ptr _ _ _ _ zo)) (.int _ _)) (.list _ _ _)) (.fn fun x d=>by simp at d;rcases d with rfl|rfl<;>constructor)
 have h:=Qy 3 p w left hw (an _ (wO left w)) (fun _=>rfl) (fun k i o m=>KZ c k i o m) fun k j x G n =>
  WY _ rfl c (wO left w) k j x (by rw[<- Ls];simp[n]) zo G
 refine FO.mono (fun e s q=>?_) h;obtain⟨rfl,rfl⟩:=q;refine⟨⟨_,rfl⟩,.ready,.norm,_,_,_,_,_,by simp,rfl,?_⟩;rw[f];refine vq (wa ?_);refine wq ?_ (by simp(disch:=omega)only[go_sem,an]<;>rfl);refine uH ?_;refine vw ?_;refine C7 (vs:=[.sl 1 (wO left w).length 0 (wO left w).length (2*(wO left w).length) 2]) rfl rfl ?_;refine ze.wh (e:=92) (z':=2) (G:=(wO left w).length) (l:=(wO left w).map pv) ?_ rfl (by simp) (by simp) (fun v a=>?_) bS
 .grind
 .obtain⟨x,_,rfl⟩:=Zu.1 a;rfl


def xS(left:Nat)(w:LN):FE:=if w9 left w.length=true then if kE left w=true then .ret (vJ 0 (wO left w))else .panic (wy 190)else .panic (wy 2)
theorem uy(h:e=.panic (wy n)):ve H 0 (.panic (wy n)) e:=by subst h;exact ze.iface (.int _ _)
theorem KG(seen:LN)(L:LJ)(i:Nat)(h:i<L.length):xE seen (L.drop i)=(!seen.contains L[i].2&&xE (L[i].2::seen) (L.drop (i+1))):=by
 rw[Zs h];rfl
theorem L9(h:2*i+1<w.length):kF (w.drop (2*i))=(decide (w[2*i+1]=0)&&kF (w.drop (2*(i+1)))):=by
 rw[oI w i h];rfl
theorem L7(h:w.length<=2*i+1):kF (w.drop (2*i))=true:=by
 match h2:w.drop (2*i)with
 | []=>rfl
 | [_]=>rfl
 | a::b::l=>have:=congrArg List.length h2;grind
theorem Mi(hw:vE w.length):FN ET 221 [pQ p w left] (xS left w):=by
 refine zn (eG T221 func221) ?_ ?_
 .unfold xS;split
  .split
   .exact Lb.pvs _
   .exact .iface (.int _ _)
  .exact .iface (.int _ _)
 refine wI ?_;refine vo (EK p w left hw) ?_
 by_cases b:w9 left w.length=true
 rotate_left
 .have b:w9 left w.length=false:=by simpa using b
  rw[b];refine wq ?_;refine wE (nB 2) ?_;exact uy (by simp[xS,b])
 rw[b];refine wq ?_;refine wD (cq 2) ?_;refine zM (FJ p w left hw) ?_;have z:=cn left w;refine zI ?_;refine vo (Xc 0 (wO left w) zo) ?_
 by_cases c:wh (wO left w)=true
 rotate_left
 .have c:wh (wO left w)=false:=by simpa using c
  rw[c];refine wq ?_;refine wE (nB 190) ?_;exact uy (by simp[xS,b,kE,c])
 rw[c];refine wq ?_;refine wD (cq 190) ?_;refine zG ?_;generalize o:wO left w=L at *
 have l:kE left w=(xE [left] L&&decide (L.length=vV w)&&decide (L.length<w.length/2)&&kF (w.drop (2*L.length))):=by simp[kE,o,c]
 refine vm (vy (fun m s=>∃(i:Nat) (seen:LN) (mm:Int->LO) (G:LP),m=L.length-i/\i<=L.length/\xE [left] L=xE seen (L.drop i)/\(∀q:Nat,mm q=if seen.contains q=true then some (iv 1)else none)/\s.tm 1=.ptr 0 0 0 0 2/\s.tm 3=vJ 0 L/\s.tm 4=.map 1/\s.tm 23=vJ 0 L/\s.tm 24=iv L.length/\s.tm 25=iv i/\s.df=[]/\s.H=.row 299 2 0 0 [pQ p w left]::.mapI .u64 mm::G) (n:=L.length) ?_ ?_)
 .refine⟨0,[left],_,[],by simp,by omega,rfl,?_,zt,zt,zt,zt,zt,zt,rfl,rfl⟩;intro q
  grind
 .rintro m ⟨tm,u,H⟩ ⟨i,seen,mm,G,rfl,v,d,hmm,h1,h3,h4,h23,h24,h25,rfl,rfl⟩;dsimp only at *
  refine vu (wQ h1 h3 h4 h23 h24 h25) ?_ ?_
  .intro a;have a:i<L.length:=vM a;have g:=hmm L[i].2;refine vq (vm ?_);refine vA (ww h1 h3 h4 h23 h24 h25 (Zg a)) ?_
   by_cases e:seen.contains L[i].2=true
   .rw[if_pos e]at g;refine vK (ww h1 h3 h4 h23 h24 h25 g) ?_;refine wE (nB 190) ?_;exact uy (by unfold xS;rw[if_pos b,l,d,KG _ _ _ a,e];simp)
   .rw[if_neg e]at g;have e:seen.contains L[i].2=false:=by simpa using e
    refine vK (ww h1 h3 h4 h23 h24 h25 g) ?_;refine wD (cq 190) ?_;refine wa ?_;refine wA (wQ h1 h3 h4 h23 h24 h25) ?_;refine vp h25 ?_;refine⟨_,?_,i+1,L[i].2::seen,_,_,rfl,by omega,?_,?_,zu h1,zu h3,zu h4,zu h23,zu h24,zu h25,rfl,rfl⟩
    .omega
    .rw[d,KG _ _ _ a,e];simp
    .intro q
     by_cases g:q=L[i].2
     .grind
     .have:¬(q:Int)=(L[i].2:Nat):=zo
      grind
  .intro a;have a:¬i<L.length:=vL a;obtain rfl:i=L.length:=zo;rw[ZS]at d;have d:xE [left] L=true:=by rw[d];rfl
   refine vK (zj h1 h3) ?_;refine vo (KS p w left hw) ?_;have y:2*(w.length/2)=w.length:=by simp[w9]at b;omega
   by_cases r:L.length=vV w
   rotate_left
   .have f:¬(L.length:Int)=(vV w:Nat):=zo;refine vS (vh h1 h3 f) ?_;refine wE (nB 190) ?_;exact uy (by unfold xS;grind)
   have f:(L.length:Int)=(vV w:Nat):=zo;refine vS (vh h1 h3 f) ?_;refine vo (iG p w hw) ?_
   by_cases t:L.length<w.length/2
   rotate_left
   .have j:¬((vV w:Nat):Int)<((w.length/2:Nat):Int):=zo;refine vS (vz h1 h3 f j) ?_;refine wE (nB 190) ?_;exact uy (by unfold xS;grind)
   have j:((vV w:Nat):Int)<((w.length/2:Nat):Int):=zo;refine vS (vz h1 h3 f j) ?_;refine wD (cq 190) ?_;refine vA (zj h1 h3) ?_;refine vm (vy (fun m s=>∃i:Nat,m=w.length-i/\2*i<=w.length/\kF (w.drop (2*L.length))=kF (w.drop (2*i))/\s.tm 1=.ptr 0 0 0 0 2/\s.tm 3=vJ 0 L/\s.tm 7=iv i/\s.df=[]/\s.H=.row 299 2 0 0 [pQ p w left]::.mapI .u64 mm::G) (n:=w.length-L.length) ?_ ?_)
   .exact⟨L.length,rfl,by omega,rfl,zu h1,zu h3,by simp[zb,f],rfl,rfl⟩
   .clear h1 h3 h4 h23 h24 h25;rintro m ⟨tm,u,H⟩ ⟨i,rfl,v,x,h1,h3,h,rfl,rfl⟩;dsimp only at h1 h3 h;refine fM ?_;refine vK (vh h1 h3 h) ?_;refine wD (iG p w hw) ?_;refine fE ?_ ?_
    .intro a;have a:i<w.length/2:=vM a;refine vq (vm ?_);refine wa ?_;refine vS (vh h1 h3 h) ?_;refine vo (rP p w i hw zo) ?_;have A:=L9 w i zo
     by_cases B:w[2*i+1]'zo=0
     .have k:((w[2*i+1]'zo:Nat):Int)=0:=zo;refine vS k ?_;refine vo (cq 190) ?_;refine zK ?_;refine vp h ?_;refine⟨_,?_,i+1,rfl,by omega,?_,zu h1,zu h3,zu h,zt,zt⟩
      .omega
      grind
     .have k:¬((w[2*i+1]'zo:Nat):Int)=0:=zo;refine vS k ?_;refine wE (nB 190) ?_;exact uy (by unfold xS;grind)
    .intro a;have a:¬i<w.length/2:=vL a;refine wm (zj h1 h3) ?_;have:xS left w=.ret (vJ 0 L):=by unfold xS;rw[if_pos b,l,d,x,L7 w i zo,o,decide_eq_true r,decide_eq_true t];rfl
     rw[this];exact ze.list _ _ _


theorem GV:ET.caught.get 201=some ():=by kernel_rfl
theorem Sa:FR 321 [] (.tuple []):=by
 refine zn (eG T321 func321) Lb.unit ?_;refine wK ?_;exact⟨[],rfl,ze.tL trivial⟩
theorem ve.int(h:e=.ret (.int k n)):ve H 0 (.ret (.int k n)) e:=by subst h;exact ze.int _ _
theorem Xu(hw:vE w.length):FR 249 [uv left,wv p w] (.int .i64 (uf left w:Nat)):=by
 refine zn (eG T249 func249) (.int _ _) ?_;refine wI ?_;refine fK (f:=201) (p:=.ptr 0 0 0 0 1) (cl:=.fn 321 []) ?_ ?_ GV ?_
 .rfl
 .simp only[go_sem]<;>rfl
 refine zN ?_;refine zI ?_;have b:=Mi p w left hw;have bad:∀(tm:Nat->PV) (n:Nat),uf left w=n->tm 4=.ptr 0 0 0 0 1->yG ET T249 (fun d H=>ve H 0 d (.ret (.int .i64 (uf left w:Nat)))) (.panic (wy n)) ⟨tm,[.caught (.ptr 0 0 0 0 1) (.fn 321 [])],[.row 38 1 0 0 [.int .i64 0]]⟩:=fun tm n g h4=>by
  refine⟨n,321,[],true,0,0,1,rfl,rfl,rfl,(FN.FO (args:=[]) Sa trivial).mono fun e H a=>?_⟩;obtain⟨rfl,rfl⟩:=a;refine⟨rfl,_,rfl,[.int .i64 n],?_,ve.int (by rw[g])⟩;simp[T249,xT,zr,zC,h4,zR,zF,zW];rfl
 by_cases c:w9 left w.length=true
 rotate_left
 .have a:xS left w=.panic (wy 2):=by simp[xS,c]
  rw[a]at b;refine wE b ?_;exact bad _ 2 (by simp[uf,c]) rfl
 by_cases h2:kE left w=true
 rotate_left
 .have a:xS left w=.panic (wy 190):=by simp[xS,c,h2]
  rw[a]at b;refine wE b ?_;exact bad _ 190 (by simp[uf,c,h2]) rfl
 have a:xS left w=.ret (vJ 0 (wO left w)):=by simp[xS,c,h2]
 rw[a]at b;refine wD b ?_;refine zG ?_;refine vw ?_;have:uf left w=0:=by simp[uf,c,h2]
 rw[this];exact⟨[.int .i64 0],rfl,ze.int _ _⟩


theorem ve.bool{b b':Bool}(h:b=b'):ve H 0 (.ret (.bool b)) (.ret (.bool b')):=by subst h;exact ze.bool _
theorem ve.uv{b b':Int}(h:b=b'):ve H 0 (.ret (.int k b)) (.ret (.int k b')):=by subst h;exact ze.int _ _
theorem GL:FR 252 [uv x] (.bool (xN x)):=by
 refine zn (eG T252 func252) (.bool _) ?_;refine zG ?_;refine wa ?_
 by_cases h:1<=x
 .have g:(1:Int)<=x:=zo;refine xf g ?_;exact ve.bool (by simp[xN,h];omega)
 .have g:¬(1:Int)<=x:=zo;refine xf g ?_;exact ve.bool (by simp[xN,h])
@[reducible] def pJ (a b c d e:Nat):LQ:=[iv a,iv b,uv c,uv d,iv e,.nilsl]
theorem UE:FR 261 [.elem cs,uv x] (.bool (decide (7522529147838689024<=x)&&decide (x<=7522529147838689024+12))):=by
 refine zn (eG T261 func261) (.bool _) ?_;refine zG ?_;refine wa ?_
 by_cases h:7522529147838689024<=x
 .have g:(7522529147838689024:Int)<=x:=zo;refine xf g ?_;exact ve.bool (by grind)
 .have g:¬(7522529147838689024:Int)<=x:=zo;refine xf g ?_;exact ve.bool (by simp[h])
theorem UF:FR 264 [.elem cs,uv x] (.bool (decide (x<2048))):=by
 refine zn (eG T264 func264) (.bool _) ?_;refine zO ?_;exact ve.bool (by grind)
theorem UG:FR 267 [.elem cs,uv x] (.bool true):=by
 refine zn (eG T267 func267) (.bool _) ?_;refine zO ?_;exact ve.bool rfl
theorem UI:FR 273 [.elem cs,uv x] (.bool (decide (x<=2))):=by
 refine zn (eG T273 func273) (.bool _) ?_;refine zO ?_;exact ve.bool (by grind)
theorem UH(a b c d e x:Nat):FR 270 [.elem (pJ a b c d e),uv x] (.bool (uO 3 a x)):=by
 refine zn (eG T270 func270) (.bool _) ?_;refine zG ?_;refine wa ?_
 by_cases h:a=0
 .have f:(a:Int)=0:=zo
  by_cases h2:x=9223372036854775808
  .have g:(x:Int)=9223372036854775808:=zo;refine xf (zj f g) ?_;exact ve.bool (by simp[uO,h,h2])
  .have g:¬(x:Int)=9223372036854775808:=zo;refine xf (zj f g) ?_;exact ve.bool (by simp[uO,h,h2])
 .have g:¬(a:Int)=0:=zo;have i:(0:Int)<a:=zo;have h2:0<a:=zo;refine vS (zj g i) ?_;refine vo (GL x) ?_;refine zP ?_;exact ve.bool (by simp[uO,h,h2])
theorem KA:FR 213 [] (.list 0 3 dz):=by
 refine zn (eG T213 func213) ?_ ?_
 .refine .list fun x a=>?_;simp[dz,List.range,List.range.loop,PV.cells]at a;rcases a with h|h|h|h|h|h|h|h|h|h|h|h|h|h|h<;>subst h<;>exact .fn fun _ h=>by cases h
 refine zO ?_;refine ze.wh rfl rfl rfl zy ?_ ?_
 .intro v hv;simp[dz,List.range,List.range.loop]at hv;rcases hv with h|h|h|h|h<;>subst h<;>rfl
 .intro v hv;simp[dz,List.range,List.range.loop,PV.cells]at hv;rcases hv with h|h|h|h|h|h|h|h|h|h|h|h|h|h|h<;>subst h<;>exact .fn fun _ h=>by cases h


@[reducible] def pK (cs:LQ):za:=.row 143 6 0 0 [.agg cs]
theorem c9{F:zd}{R:FE->LP->Prop}(h:F.res=[])(k:R (.ret (.tuple [])) H):yG ET F R .norm ⟨tm,[],H⟩:=eo (vs:=[]) (by rw[h];rfl) k
section
variable (a b c d e x:Nat)(G:LP)
theorem XM(k:Nat)(h2:k<=12)(e1:IntKind.u64.wrap ((x:Int)-7522529147838689024)=(k:Int)):FO ET 262 [.ptr 0 0 0 0 6,uv x] (pK (pJ a b c d e)::G) false fun e' H'=>e'=.ret (.tuple [])/\H'=pK (pJ k b c d e)::G:=by
 refine wS (eG T262 func262) ?_;refine wa ?_;refine vS e1 ?_;refine cK (c9 rfl ⟨rfl,rfl⟩)
theorem Ht(h1:7522529147838689024<=x)(h2:x<=7522529147838689024+12)(k:Nat)(hk:k=x-7522529147838689024):k<=12/\IntKind.u64.wrap ((x:Int)-7522529147838689024)=(k:Int):=by rw[wrap_u64 zo zo];omega
theorem set0(h1:7522529147838689024<=x)(h2:x<=7522529147838689024+12)(k:Nat)(hk:k=x-7522529147838689024):FO ET 262 [.ptr 0 0 0 0 6,uv x] (pK (pJ a b c d e)::G) false fun e' H'=>e'=.ret (.tuple [])/\H'=pK (pJ k b c d e)::G :=
 XM a b c d e x G k (Ht x h1 h2 k hk).1 (Ht x h1 h2 k hk).2
theorem XN(h1:x<2048):FO ET 265 [.ptr 0 0 0 0 6,uv x] (pK (pJ a b c d e)::G) false fun e' H'=>e'=.ret (.tuple [])/\H'=pK (pJ a x c d e)::G:=by
 refine wS (eG T265 func265) ?_;refine wa ?_;refine wq ?_;refine cK (c9 rfl ⟨rfl,rfl⟩)
theorem XO:FO ET 268 [.ptr 0 0 0 0 6,uv x] (pK (pJ a b c d e)::G) false fun e' H'=>e'=.ret (.tuple [])/\H'=pK (pJ a b x d e)::G:=by
 refine wS (eG T268 func268) ?_;refine wa ?_;refine wq ?_;refine cK (c9 rfl ⟨rfl,rfl⟩)
theorem set3:FO ET 271 [.ptr 0 0 0 0 6,uv x] (pK (pJ a b c d e)::G) false fun e' H'=>e'=.ret (.tuple [])/\H'=pK (pJ a b c x e)::G:=by
 refine wS (eG T271 func271) ?_;refine wa ?_;refine wq ?_;refine cK (c9 rfl ⟨rfl,rfl⟩)
theorem XP(h1:x<=2):FO ET 274 [.ptr 0 0 0 0 6,uv x] (pK (pJ a b c d e)::G) false fun e' H'=>e'=.ret (.tuple [])/\H'=pK (pJ a b c d x)::G:=by
 refine wS (eG T274 func274) ?_;refine wa ?_;refine wq ?_;refine cK (c9 rfl ⟨rfl,rfl⟩)
end
section
variable (p:Nat)(n:zi)
theorem Rr(k:Nat)(h:n.level<=12)(e1:IntKind.u64.wrap (7522529147838689024+(n.level:Int))=(k:Int)):FR 263 [vl p n] (uv k):=by
 refine zn (eG T263 func263) (.int _ _) ?_;refine wm e1 ?_;exact ze.int _ _
theorem Qw(h:n.level<=12)(k:Nat)(hk:k=7522529147838689024+n.level):IntKind.u64.wrap (7522529147838689024+(n.level:Int))=(k:Int):=by rw[wrap_u64 zo zo];omega
theorem Rq(h:n.level<=12)(k:Nat)(hk:k=7522529147838689024+n.level):FR 263 [vl p n] (uv k):=Rr p n k h (Qw n h k hk)
theorem Rs(h:n.sib<2048):FR 266 [vl p n] (uv n.sib):=by
 refine zn (eG T266 func266) (.int _ _) ?_;refine zO ?_;exact ze.int _ _
theorem Rt:FR 269 [vl p n] (uv n.low):=by
 refine zn (eG T269 func269) (.int _ _) ?_;refine zO ?_;exact ze.int _ _
theorem Ru:FR 272 [vl p n] (uv n.left):=by
 refine zn (eG T272 func272) (.int _ _) ?_;refine zO ?_;exact ze.int _ _
theorem Rv(h:n.way<=2):FR 275 [vl p n] (uv n.way):=by
 refine zn (eG T275 func275) (.int _ _) ?_;refine zO ?_;exact ze.int _ _
end
variable {k:Int}(p lv:Nat)(w:LN)(n:zi)(l:LJ)(q:Pr)(i x:Nat)
def m6(lv:Nat)(w:LN)(i:Nat):LQ :=
 pJ (if 0<i then lv else 0) (if 1<i then w.getD 1 0 else 0) (if 2<i then w.getD 2 0 else 0) (if 3<i then w.getD 3 0 else 0) (if 4<i then w.getD 4 0 else 0)
theorem UL(hi:i<5):FN ET (JG i) [.elem (m6 lv w i),uv x] (.ret (.bool (uO i lv x))):=by
 match i,hi with
 | 0,_=>exact UE _ x
 | 1,_=>exact UF _ x
 | 2,_=>exact UG _ x
 | 3,_=>exact UH _ _ _ _ _ x
 | 4,_=>exact UI _ x
theorem XS(hlv:lv=w.getD 0 0-7522529147838689024)(i:Nat)(hi:i<5)(hm:uO i lv (w.getD i 0)=true)(G:LP):FO ET (Me i) [.ptr 0 0 0 0 6,uv (w.getD i 0)] (pK (m6 lv w i)::G) false fun e H'=>e=.ret (.tuple [])/\H'=pK (m6 lv w (i+1))::G:=by
 match i,hi with
 | 0,_=>rw[uO,Zm,decide_eq_true_eq,decide_eq_true_eq]at hm;exact set0 _ _ _ _ _ _ _ hm.1 hm.2 lv hlv
 | 1,_=>rw[uO,decide_eq_true_eq]at hm;exact XN _ _ _ _ _ _ _ hm
 | 2,_=>exact XO _ _ _ _ _ _ _
 | 3,_=>exact set3 _ _ _ _ _ _ _
 | 4,_=>rw[uO,decide_eq_true_eq]at hm<;>first|exact XP _ _ _ _ _ _ _ hm|simp
theorem Rz(k:Nat)(hi:i<5)(h1:n.level<=12)(h2:n.sib<2048)(h3:n.way<=2)(hk:k=lS i n):FN ET (Ix i) [vl p n] (.ret (uv k)):=by
 match i,hi with
 | 0,_=>exact Rq p n h1 k hk
 | 1,_=>subst hk;exact Rs p n h2
 | 2,_=>subst hk;exact Rt p n
 | 3,_=>subst hk;exact Ru p n
 | 4,_=>subst hk;exact Rv p n h3
theorem Ky(hi:i<5):dz[i]?=some (Kx i):=by
 match i,hi with
 | 0,_=>rfl
 | 1,_=>rfl
 | 2,_=>rfl
 | 3,_=>rfl
 | 4,_=>rfl
theorem Kz:dz.length=5:=rfl


def kX{α:Type}(pr:α->Bool)(l:List α):Int:=match l.findIdx? pr with|some i=>(i:Int)|none=>-1
theorem IN{α:Type}(pr:α->Bool)(l:List α):decide (0<=kX pr l)=l.any pr:=by
 unfold kX
 grind
theorem rg{lab:Nat}:∀l:LQ,(∀v∈l,vg v)->LF H lab l l
 | [],_=>trivial
 | x::l,h=>⟨(h x Zr).frz,rg l fun v a=>h v (Zo _ a)⟩
theorem Sh(l:LN)(hl:vE l.length)(g:Nat)(caps:LQ)(hc:∀v∈caps,vg v)(pr:Nat->Bool)(hg:∀x∈l,FN ET g (uv x::caps) (.ret (.bool (pr x)))):FR 260 [wv p l,.fn g caps] (iv (kX pr l)):=by
 refine zn (eG T260 func260) (.int _ _) ?_;refine zG ?_;refine vm (vy (fun m s=>∃i:Nat,m=l.length-i/\i<=l.length/\l.findIdx? pr=((l.drop i).findIdx? pr).map (· + i)/\s.tm 0=wv p l/\s.tm 1=.fn g caps/\s.tm 7=iv l.length/\s.tm 8=iv i/\s.df=[]/\s.H=[]) (n:=l.length) ?_ ?_)
 .exact⟨0,by simp[zb,zq]⟩
 .rintro m ⟨tm,df,H⟩ ⟨i,rfl,hi,hf,h0,h1,h7,h8,rfl,rfl⟩;dsimp only at *
  refine vu (vz h0 h1 h7 h8) ?_ ?_
  .intro a;have a:i<l.length:=vM a;refine vq (vm ?_);refine vA h8 ?_;refine vK (vh h0 h1 (Zg a)) ?_;refine pt (caps:=caps) (vs:=[uv l[i]]) rfl ?_ (hg _ (ZV a)) (rg _ (fun v c=>?_)) ?_
   .simp only[go_sem,h1]
   .rcases ZD.1 c with rfl|c
    .exact .int _ _
    .exact hc v c
   refine zN ?_;rw[Zs a,zCF9]at hf;refine wn ?_ ?_
   .intro b;have b:pr l[i]=true:=b;refine zO ?_;rw[if_pos b]at hf;exact ve.uv (by simp[kX,hf])
   .intro b;have b:pr l[i]=false:=b;refine wK ?_;refine vp h8 ?_;refine⟨_,?_,i+1,rfl,a,?_,zu h0,zu h1,zu h7,zt,zt,zt⟩
    .omega
    .rw[hf,b]
     cases (l.drop (i+1)).findIdx? pr with
     | none=>rfl
     | some j=>simp;omega
  .intro a;have a:¬i<l.length:=vL a;obtain rfl:i=l.length:=zo;refine zO ?_;rw[ZS]at hf;exact ve.uv (by simp[kX,hf])
theorem Qe(l:LN)(hl:vE l.length)(g:Nat)(caps:LQ)(hc:∀v∈caps,vg v)(pr:Nat->Bool)(hg:∀x∈l,FN ET g (uv x::caps) (.ret (.bool (pr x)))):FR 211 [wv p l,.fn g caps] (.bool (l.any pr)):=by
 refine zn (eG T211 func211) (.bool _) ?_;refine wI ?_;refine pt (caps:=[]) (vs:=[wv p l,.fn g caps]) rfl ?_ (Sh p l hl g caps hc pr hg) ?_ ?_
 .simp only[go_sem]
 .refine⟨.list _ _ _,⟨vg.frz (.fn hc),trivial⟩⟩
 refine zP ?_;exact ve.bool (IN _ _)
theorem Si(hl:vE l.length)(g:Nat)(caps:LQ)(hc:∀v∈caps,vg v)(pr:Pr->Bool)(hg:∀x∈l,FN ET g (pv x::caps) (.ret (.bool (pr x)))):FR 322 [vJ p l,.fn g caps] (iv (kX pr l)):=by
 refine zn (eG T322 func322) (.int _ _) ?_;refine zG ?_;refine vm (vy (fun m s=>∃i:Nat,m=l.length-i/\i<=l.length/\l.findIdx? pr=((l.drop i).findIdx? pr).map (· + i)/\s.tm 0=vJ p l/\s.tm 1=.fn g caps/\s.tm 7=iv l.length/\s.tm 8=iv i/\s.df=[]/\s.H=[]) (n:=l.length) ?_ ?_)
 .exact⟨0,by simp[zb,zq]⟩
 .rintro m ⟨tm,df,H⟩ ⟨i,rfl,hi,hf,h0,h1,h7,h8,rfl,rfl⟩;dsimp only at *
  refine vu (vz h0 h1 h7 h8) ?_ ?_
  .intro a;have a:i<l.length:=vM a;refine vq (vm ?_);refine vA h8 ?_;refine vK (vh h0 h1 (Zg a)) ?_;refine pt (caps:=caps) (vs:=[pv l[i]]) rfl ?_ (hg _ (ZV a)) (rg _ (fun v c=>?_)) ?_
   .simp only[go_sem,h1]
   .rcases ZD.1 c with rfl|c
    .exact .agg fun y d=>by simp at d;rcases d with rfl|rfl<;>exact .int _ _
    .exact hc v c
   refine zN ?_;rw[Zs a,zCF9]at hf;refine wn ?_ ?_
   .intro b;have b:pr l[i]=true:=b;refine zO ?_;rw[if_pos b]at hf;exact ve.uv (by simp[kX,hf])
   .intro b;have b:pr l[i]=false:=b;refine wK ?_;refine vp h8 ?_;refine⟨_,?_,i+1,rfl,a,?_,zu h0,zu h1,zu h7,zt,zt,zt⟩
    .omega
    .rw[hf,b]
     cases (l.drop (i+1)).findIdx? pr with
     | none=>rfl
     | some j=>simp;omega
  .intro a;have a:¬i<l.length:=vL a;obtain rfl:i=l.length:=zo;refine zO ?_;rw[ZS]at hf;exact ve.uv (by simp[kX,hf])
theorem Hk(hl:vE l.length)(g:Nat)(caps:LQ)(hc:∀v∈caps,vg v)(pr:Pr->Bool)(hg:∀x∈l,FN ET g (pv x::caps) (.ret (.bool (pr x)))):FR 250 [vJ p l,.fn g caps] (.bool (l.any pr)):=by
 refine zn (eG T250 func250) (.bool _) ?_;refine wI ?_;refine pt (caps:=[]) (vs:=[vJ p l,.fn g caps]) rfl ?_ (Si p l hl g caps hc pr hg) ?_ ?_
 .simp only[go_sem]
 .refine⟨.list _ _ _,⟨vg.frz (.fn hc),trivial⟩⟩
 refine zP ?_;exact ve.bool (IN _ _)


theorem Vk:FR 212 [uv x] (.bool (decide (x≠0))):=by
 refine zn (eG T212 func212) (.bool _) ?_;refine zO ?_;exact ve.bool (by grind)
theorem Lb.node:Lb (vl 0 n):=.agg fun v a=>by
 simp at a;rcases a with h|h|h|h|h|h<;>subst h
 .exact .int _ _
 .exact .int _ _
 .exact .int _ _
 .exact .int _ _
 .exact .int _ _
 .exact Lb.pvs _
theorem Lb.two{a b:PV}(ha:Lb a)(hb:Lb b):Lb (.tuple [a,b]):=.tuple fun v c=>by grind
def xD(w:LN):FE:=if headB w=true then .ret (.tuple [vl 0 (headN w),iv 0])else .ret (.tuple [vl 0 kN,iv 210])
theorem RJ:∀v∈m6 lv w i,vg v:=fun v a=>by
 simp[m6]at a;rcases a with h|h|h|h|h|h<;>subst h<;>constructor
@[reducible] def nq:PV:=.agg [iv 0,iv 0,uv 0,uv 0,iv 0,.nilsl]
theorem Dg:ze H 0 (.tuple [nq,iv 210]) (.tuple [vl 0 kN,iv 210]):=by
 refine ze.tL ⟨ze.aggL ⟨.int _ _,.int _ _,.int _ _,.int _ _,.int _ _,.nil _ _,trivial⟩,.int _ _,trivial⟩
theorem Cq{w:LN}(h:headB w=false):ve H 0 (.ret (ct [nq,iv 210])) (xD w):=by
 unfold xD;rw[if_neg (by grind)];exact Dg
theorem IG(hl:w.length=64)(lv:Nat)(hlv:lv=pM (w.getD 0 0)):headB w=(!(((w.take 8).drop 5).any fun x=>decide (x≠0))&&(List.range 5).all fun i=>uO i lv (w.getD i 0)):=by
 subst hlv;unfold headB
 grind
theorem II(lv:Nat)(hlv:lv=pM (w.getD 0 0)):headN w=⟨lv,w.getD 1 0,w.getD 2 0,w.getD 3 0,w.getD 4 0,wO (w.getD 3 0) (w.drop 8)⟩:=by
 subst hlv;unfold headN;rfl
theorem DK:∃lv,lv=pM (w.getD 0 0):=⟨_,rfl⟩
theorem sF(hw:vE w.length):FN ET 148 [wv p w] (xD w):=by
 refine zn (eG T148 func148) ?_ ?_
 .unfold xD;split
  .exact Lb.two (Lb.node _) (.int _ _)
  .exact Lb.two (Lb.node _) (.int _ _)
 refine vq (wa ?_);refine zN ?_;refine sU ?_;refine yv ?_;have h2:(1:Nat)=1:=rfl
 by_cases k:w.length=64
 rotate_left
 .have g:¬(w.length:Int)=64:=zo;refine wN g ?_;refine wn ?_ ?_
  .intro _;refine fL ⟨rfl,?_⟩;refine vq (wK ?_);simp only[xU,reduceIte];refine vK h2 ?_;refine uH ?_;refine vw ⟨(fun l h=>FX.noConfusion h),?_⟩;refine yd (vs:=[nq,iv 210]) ?_ ?_
   .simp only[T148,zr,go_sem];rfl
   .exact Cq (by simp[headB,k])
  .intro h;cases h
 have g:(w.length:Int)=64:=zo;have ye:List.drop 5 (List.take 8 (List.map uv w))=((w.take 8).drop 5).map uv:=by simp[Z1,zAK9]
 refine vS (zj k ye) ?_;refine wD (Qe p ((w.take 8).drop 5) (by simp;omega) 212 [] (fun _ h=>by cases h) (fun x=>decide (x≠0)) fun x _=>Vk x) ?_;obtain⟨lv,o⟩:=DK w;have d:=IG w k lv o;refine wn ?_ ?_
 .intro b;have b:(((w.take 8).drop 5).any fun x=>decide (x≠0))=true:=b;refine fL ⟨rfl,?_⟩;refine vq (wK ?_);simp only[xU,reduceIte];refine vK h2 ?_;refine uH ?_;refine vw ⟨(fun l h=>FX.noConfusion h),?_⟩;refine yd (vs:=[nq,iv 210]) ?_ ?_
  .simp only[T148,zr,go_sem];rfl
  .exact Cq (by grind)
 intro b;have b:(((w.take 8).drop 5).any fun x=>decide (x≠0))=false:=b;rw[b]at d;refine vY ?_;refine zI ?_;refine vo KA ?_;refine wq ?_ (by simp(disch:=omega)only[go_sem,Kz]<;>rfl);refine uH ?_;have d:headB w=(List.range 5).all fun i=>uO i lv (w.getD i 0):=by simpa using d
 clear ye h2;refine vm (vy (fun m s=>∃(i:Nat) (G:LP),m=5-i/\i<=5/\(∀j,j<i->uO j lv (w.getD j 0)=true)/\s.tm 0=wv p w/\s.tm 2=.ptr 0 0 0 0 6/\s.tm 14=.list 0 3 dz/\s.tm 15=iv 5/\s.tm 16=iv i/\s.df=[]/\s.H=pK (m6 lv w i)::G) (n:=5) ?_ ?_)
 .exact⟨0,[],rfl,by omega,(fun j q=>by omega),zt,zt,zt,zt,zt,rfl,rfl⟩
 .rintro m ⟨tm,df,H⟩ ⟨i,G,rfl,hi,hmay,h0,h2,h14,h15,h16,rfl,rfl⟩;dsimp only at *
  refine vu (vX h0 h2 h14 h15 h16) ?_ ?_
  .intro a;have a:i<5:=vM a;have f:w[i]?=some (w.getD i 0):=by rw[Zq,Zg zo];rfl
   have hid:=RJ lv w i;refine vD ?_;refine vA (vX h0 h2 h14 h16 (Ky i a)) ?_;refine vR ?_;refine wF (vh h0 h2 f) (UL lv w i (w.getD i 0) a) ?_;refine vj h0 ?_
   by_cases c:uO i lv (w.getD i 0)=true
   rotate_left
   .have c:uO i lv (w.getD i 0)=false:=by simpa using c
    refine wn ?_ ?_
    .intro _;refine fL ⟨rfl,?_⟩;refine vq (wK ?_);simp only[xU,reduceIte];refine vK h2 ?_;refine uH ?_;refine vw ⟨(fun l h=>FX.noConfusion h),?_⟩;refine yd (vs:=[nq,iv 210]) ?_ ?_
     .simp only[zr,go_sem,h2];rfl
     .exact Cq (by grind)
    .rw[c];intro h;cases h
   refine wn ?_ ?_
   .rw[c];intro h;cases h
   intro _;refine vY ?_;refine wV ?_;refine FU (s1:=?_) (caps:=?_) (vs:=?_) ?_ ?_ rfl rfl ?_ ?_ (XS lv w (by rw[o,Ax]) i a c ?_) ?_ ?_ ?_;rotate_left 3;(first|exact trivial|(simp only[go_sem,h0,h2,f]));(simp(disch:=omega)only[go_sem,h0,f]<;>rfl);(first|rfl|(simp only[go_sem,h0,h2,f]<;>rfl));(simp only[go_sem,h2]<;>rfl);rotate_left 1;rfl;rfl;rintro e v t;obtain⟨rfl,rfl⟩:=t;refine⟨_,by simp only[go_sem]<;>rfl,?_⟩;refine vj h0 ?_;refine vp h16 ?_;refine⟨_,?_,i+1,_,rfl,a,?_,zu h0,zu h2,zu h14,zu h15,zu h16,rfl,rfl⟩
   .omega
   .intro j q
    grind
  .intro a;have a:¬i<5:=vL a;obtain rfl:i=5:=zo;have r:headB w=true:=by rw[d,ZN];intro j q;exact hmay j (zAL9.1 q)
   have u:m6 lv w 5=pJ lv (w.getD 1 0) (w.getD 2 0) (w.getD 3 0) (w.getD 4 0):=rfl;have yz:List.drop 8 (List.map uv w)=(w.drop 8).map uv:=by simp[Z1]
   rw[u];refine vq (wV ?_);refine wF (vz h0 h2 k yz) (FJ p (w.drop 8) (w.getD 3 0) (by simp;omega)) ?_;refine vW (zj h0 h2) ?_;refine vj h0 ?_;refine vA h2 ?_;refine vw (wo ?_ (by simp only[go_sem,h2]<;>rfl));unfold xD;rw[if_pos r];rw[II w lv o];exact vN


theorem JI:FR 198 [vl p n,pv q] (.bool (wR n q)):=by
 obtain⟨lv,f,low,left,g,i⟩:=n;obtain⟨k,x⟩:=q;refine zn (eG T198 func198) (.bool _) ?_;refine zG ?_
 by_cases b:lv=0
 .have d:(lv:Int)=0:=zo;refine wn ?_ ?_
  .intro _;refine vq (wa ?_)
   by_cases h1:1<=x
   .have c:(1:Int)<=x:=zo
    by_cases h2:x<=1099511627776
    .have e:(x:Int)<=1099511627776:=zo;refine xf (zj c e) ?_;exact ve.bool (by simp[wR,b,h1,h2];try omega)
    .have e:¬(x:Int)<=1099511627776:=zo;refine xf (zj c e) ?_;exact ve.bool (by simp[wR,b,h1,h2])
   .have c:¬(1:Int)<=x:=zo;refine xf c ?_;exact ve.bool (by simp[wR,b,h1])
  .intro h;exact absurd d (of_decide_eq_false h)
 .have d:¬(lv:Int)=0:=zo;refine wn ?_ ?_
  .intro h;exact absurd (of_decide_eq_true h) d
  .intro _;refine vY ?_;refine zI ?_;refine vo (GL x) ?_
   by_cases a:xN x=true
   .rw[a];refine zP ?_;exact ve.bool (by simp[wR,b,a])
   .have a:xN x=false:=by simpa using a
    rw[a];refine zP ?_;exact ve.bool (by simp[wR,b,a])
@[reducible] def D6 (p:Nat) (n:zi):LQ:=[iv n.level,iv n.sib,uv n.low,uv n.left,iv n.way,vJ p n.pairs]
theorem XT:FR 251 [pv q,.elem (D6 p n)] (.bool (!wR n q)):=by
 refine zn (eG T251 func251) (.bool _) ?_;refine wI ?_;refine vo (JI p n q) ?_;refine zP ?_;exact ve.bool rfl
theorem JZ:∀v∈D6 p n,vg v:=fun v a=>by
 simp at a;rcases a with h|h|h|h|h|h<;>subst h<;>constructor
def bd(w:LN):FE:=if wd w=0 then .ret (.tuple [vl 0 (headN w),iv 0])else .ret (.tuple [vl 0 kN,iv (wd w:Nat)])
theorem RU{w:LN}(h:headB w=true):w.length=64:=by
 unfold headB at h
 grind
theorem Rk{n:zi}:ze H 0 (.tuple [vl 0 n,iv k]) (.tuple [vl 0 n,iv k]):=by
 refine ze.tL ⟨ze.aggL ⟨.int _ _,.int _ _,.int _ _,.int _ _,.int _ _,.list _ _ _,trivial⟩,.int _ _,trivial⟩
theorem Dh:ze H 0 (.tuple [nq,iv k]) (.tuple [vl 0 kN,iv k]):=by
 refine ze.tL ⟨ze.aggL ⟨.int _ _,.int _ _,.int _ _,.int _ _,.int _ _,.nil _ _,trivial⟩,.int _ _,trivial⟩
def bc(n:zi)(w:LN):FE:=if(decide (uf n.left (w.drop 8)=0) && !(n.pairs.any fun q=>!wR n q))=true then .ret (.tuple [vl 0 n,iv 0])else .ret (.tuple [vl 0 kN,iv 190])
theorem XU(hOf:FR 148 [wv p w] (.tuple [vl 0 n,iv 0]))(hl:w.length=64)(hps:n.pairs.length<=28):FN ET 197 [wv p w] (bc n w):=by
 refine zn (eG T197 func197) ?_ ?_
 .unfold bc;split
  .exact Lb.two (Lb.node _) (.int _ _)
  .exact Lb.two (Lb.node _) (.int _ _)
 refine wl hOf ?_;refine zT ?_;refine vY ?_;have yz:List.drop 8 (List.map uv w)=(w.drop 8).map uv:=by simp[Z1]
 have b:=Xu p (w.drop 8) n.left (by simp;omega);refine vR ?_;have hid:=JZ 0 n
 by_cases h1:uf n.left (w.drop 8)=0
 rotate_left
 .have c:¬((uf n.left (w.drop 8):Nat):Int)=0:=zo;refine wF (zj hl yz) b ?_;refine nO (by first|exact trivial|simp only[go_sem,c]) (by simp(disch:=omega)only[go_sem,c]<;>rfl) rfl (by simp only[go_sem]<;>rfl) (by simp only[go_sem]<;>rfl) ?_;refine vj c ?_;refine wn ?_ ?_
  .intro _;refine zO ?_;have a:bc n w=.ret (.tuple [vl 0 kN,iv 190]):=by unfold bc;rw[decide_eq_false h1];rfl
   rw[a];exact Dh
  .intro h;cases h
 rw[h1]at b;refine wF (zj hl yz) b ?_;refine wF hl (Hk 0 n.pairs zo 251 [.elem (D6 0 n)] (fun v d=>by simp at d;subst d;exact .elem _) (fun q=>!wR n q) fun q _=>XT 0 n q) ?_;refine vj hl ?_
 by_cases h2:(n.pairs.any fun q=>!wR n q)=true
 .refine wn ?_ ?_
  .intro _;refine zO ?_;have a:bc n w=.ret (.tuple [vl 0 kN,iv 190]):=by unfold bc;rw[h2,decide_eq_true h1];rfl
   rw[a];exact Dh
  .rw[h2];intro h;cases h
 .have h2:(n.pairs.any fun q=>!wR n q)=false:=by simpa using h2
  refine wn ?_ ?_
  .rw[h2];intro h;cases h
  .intro _;refine vY ?_;refine zO ?_;have a:bc n w=.ret (.tuple [vl 0 n,iv 0]):=by unfold bc;rw[h2,decide_eq_true h1];rfl
   rw[a];exact Rk
theorem ba(hh:headB w=true):xD w=.ret (.tuple [vl 0 (headN w),iv 0]):=by unfold xD;grind
theorem U4(hh:headB w=true):bc (headN w) w=bd w:=by
 have a:gL w=(decide (uf (headN w).left (w.drop 8)=0) && !((headN w).pairs.any fun q=>!wR (headN w) q)):=by unfold gL;rfl
 unfold bc bd wd
 grind
theorem BN(hw:vE w.length):FN ET 197 [wv p w] (bd w):=by
 have b:=sF p w hw
 by_cases a:headB w=true
 .rw[ba w a]at b;have h1:=XU p w (headN w) b (RU a) (cn _ _);rw[U4 w a]at h1;exact h1
 have a:headB w=false:=by simpa using a
 have c:xD w=.ret (.tuple [vl 0 kN,iv 210]):=by unfold xD;rw[if_neg (by omega)]
 have d:wd w=210:=by unfold wd;rw[if_neg (by omega)]
 have e:bd w=.ret (.tuple [vl 0 kN,iv 210]):=by unfold bd;rw[d];rfl
 rw[c]at b;rw[e];refine zn (eG T197 func197) (Lb.two (Lb.node _) (.int _ _)) ?_;refine wl b ?_;refine zG ?_;refine wn ?_ ?_
 .intro _;refine zO ?_;exact Dh
 .intro h;cases h
theorem G7(c:Nat)(hs:FR 197 [wv p w] (.tuple [vl 0 n,iv c])):FR 162 [wv p w] (iv c):=by
 refine zn (eG T162 func162) (.int _ _) ?_;refine wl hs ?_;refine zO ?_;exact ze.int _ _
theorem DX(h:wd w=0):bd w=.ret (.tuple [vl 0 (headN w),iv ((0:Nat):Int)]):=by unfold bd;grind
theorem DY(h:¬wd w=0):bd w=.ret (.tuple [vl 0 kN,iv (wd w:Nat)]):=by unfold bd;grind
theorem G9(hw:vE w.length):FR 162 [wv p w] (iv (wd w:Nat)):=by
 have a:=BN p w hw
 by_cases b:wd w=0
 .rw[DX w b]at a;rw[b];exact G7 p w _ 0 a
 .rw[DY w b]at a;exact G7 p w _ _ a


def uA(n:zi):Nat->LN
 | 0=>List.replicate 64 0
 | i+1=>(uA n i).set i (lS i n)
theorem tW(n:zi):∀i,(uA n i).length=64
 | 0=>by simp[uA]
 | i+1=>by simp[uA,tW n i]
def yp(n:zi):Nat->LN
 | 0=>uA n 5
 | j+1=>((yp n j).set (8+2*j) (n.pairs.getD j (0,0)).1).set (8+2*j+1) (n.pairs.getD j (0,0)).2
theorem af(n:zi):∀j,(yp n j).length=64
 | 0=>tW n 5
 | j+1=>by simp[yp,af n j]
theorem I3(h1:n.level<=12)(h2:n.sib<2048)(h3:n.way<=2)(hp:n.pairs.length<=28):FR 210 [vl p n] (wv 0 (yp n n.pairs.length)):=by
 refine zn (eG T210 func210) (Lb.uvs _) ?_;refine vq (wa ?_);refine zN ?_;refine vq (wa ?_);refine zN ?_;refine zI ?_;refine vo KA ?_;refine wq ?_ (by simp(disch:=omega)only[go_sem,Kz]<;>rfl);refine uH ?_;refine vm (vy (fun m s=>∃(i:Nat) (G:LP),m=5-i/\i<=5/\s.tm 1=.ptr 0 0 0 0 6/\s.tm 3=.sl 1 0 0 64 128 1/\s.tm 9=.list 0 3 dz/\s.tm 10=iv 5/\s.tm 11=iv i/\s.df=[]/\s.H=.row 143 6 0 0 [vl p n]::.row 29 1 0 0 ((uA n i).map uv)::G) (n:=5) ?_ ?_)
 .exact⟨0,[],rfl,by omega,zt,zt,zt,zt,zt,rfl,by simp[uA]⟩
 .rintro m ⟨tm,g,H⟩ ⟨i,G,rfl,hi,t1,t3,t9,t10,t11,rfl,rfl⟩;dsimp only at t1 t3 t9 t10 t11;refine vu (zj t10 t11) ?_ ?_
  .intro a;have a:i<5:=vM a;obtain⟨b,c⟩:∃b,(uA n i)[i]?=some b:=⟨_,Zg (by rw[tW];omega)⟩
   have h:i<64:=zo;refine vD ?_;(repeat(first|refine vq ?_|refine vC (vh t9 t11 (Ky i a)) ?_));refine wa ?_;refine vS (vh t1 t3 t11) ?_;refine vo (Rz p n i (lS i n) a h1 h2 h3 rfl) ?_;refine vS (zj c h) ?_;refine yR ?_;refine zB ?_;refine xr t11 ?_;refine yR ?_;refine⟨_,?m,i+1,?G,rfl,a,by simp[zb,t1],by simp[zb,t3],by simp[zb,t9],by simp[zb,t10],by simp[zb],zt,?H⟩
   case m=>omega
   case H=>(try dsimp only);rw[show uA n (i+1)=(uA n i).set i (lS i n)from rfl,zBR9]
  .intro a;have a:¬i<5:=vL a;obtain rfl:i=5:=zo;refine vA t1 ?_;refine vm (vy (fun m s=>∃(j:Nat) (G:LP),m=n.pairs.length-j/\j<=n.pairs.length/\s.tm 3=.sl 1 0 0 64 128 1/\s.tm 25=vJ p n.pairs/\s.tm 26=iv n.pairs.length/\s.tm 27=iv j/\s.df=[]/\s.H=.row 143 6 0 0 [vl p n]::.row 29 1 0 0 ((yp n j).map uv)::G) (n:=n.pairs.length) ?_ ?_)
   .exact⟨0,_,rfl,by omega,by simp[zb,t3],zt,zt,zt,rfl,rfl⟩
   .clear t1 t3 t9 t10 t11;rintro m ⟨tm,g,H⟩ ⟨j,G,rfl,C,t3,t25,t26,t27,rfl,rfl⟩;dsimp only at t3 t25 t26 t27;refine vu (zj t26 t27) ?_ ?_
    .intro a;have a:j<n.pairs.length:=vM a;have d:n.pairs[j]?=some (n.pairs.getD j (0,0)):=by rw[Zq,Zg a];rfl
     obtain⟨D,e⟩:∃b,(yp n j)[8+2*j]?=some b:=⟨_,Zg (by rw[af];omega)⟩
     obtain⟨I,f⟩:∃b,((yp n j).set (8+2*j) (n.pairs.getD j (0,0)).1)[8+2*j+1]?=some b:=⟨_,Zg (by rw[Z2,af];omega)⟩
     have k:(8+2*(j:Int)).toNat=8+2*j:=zo;have o:(8+2*(j:Int)+1).toNat=8+2*j+1:=zo;have r:(0:Int)<=8+2*(j:Int):=zo;have t:(0:Int)<=8+2*(j:Int)+1:=zo;have u:8+2*j<64:=zo;have w:8+2*j+1<64:=zo;generalize y:n.pairs.getD j (0,0)=q at *
     refine vD ?_;(repeat(first|refine vq ?_|refine vC (vh t25 t27 d) ?_));refine wV ?_;refine vW (vX t3 k r u e) ?_;refine aA ?_ (by simp(disch:=omega)only[go_sem,o,t,w,<- zBR9,f]<;>rfl);refine bH ?_ (by simp(disch:=omega)only[go_sem]<;>rfl);refine wY ?_;simp only[go_sem];refine zB ?_;refine xr t27 ?_;refine yR ?_;refine⟨_,?z,j+1,?G2,rfl,a,by simp[zb,t3],by simp[zb,t25],by simp[zb,t26],by simp[zb],zt,?A⟩
     case z=>omega
     case A=>(try dsimp only);rw[show yp n (j+1)=((yp n j).set (8+2*j) q.1).set (8+2*j+1) q.2 from by rw[<- y];rfl,zBR9]
    .intro a;have a:¬j<n.pairs.length:=vL a;obtain rfl:j=n.pairs.length:=zo;(repeat(first|refine vq ?_|refine vC t3 ?_));refine vw (wo ?_);refine ze.wh (l:=(yp n n.pairs.length).map uv) rfl rfl (by simp[af]) (by simp[af]) (fun v B=>?_) tQ;obtain⟨x,_,rfl⟩:=Zu.1 B;rfl


theorem CY(k k':IntKind)(x y x' y':Int):yS [1,1] [.int k x,.int k' y] [.int k x',.int k' y']=some (decide (x=x')&&decide (y=y')):=by
 by_cases h:x=x'<;>by_cases h2:y=y'<;>simp[yS,fm,kB,h,h2]
theorem QN(q:Nat)(a b:LJ)(ha:vE a.length)(hb:vE b.length):FR 227 [vJ p a,vJ q b] (.bool (decide (a=b))):=by
 refine zn (eG T227 func227) (.bool _) ?_;refine zG ?_
 by_cases o:a.length=b.length
 rotate_left
 .have g:¬(a.length:Int)=b.length:=zo;have f:¬a=b:=fun h=>o (by rw[h]);refine wn ?_ ?_
  .intro _;refine zO ?_;exact ve.bool (decide_eq_false f).symm
  .intro h;simp[g]at h
 have g:(a.length:Int)=b.length:=zo;refine wn ?_ ?_
 .intro h;simp[g]at h
 intro _;refine vY ?_;refine zG ?_;refine vm (vy (fun m s=>∃i:Nat,m=a.length-i/\i<=a.length/\decide (a=b)=decide (a.drop i=b.drop i)/\s.tm 0=vJ p a/\s.tm 1=vJ q b/\s.tm 12=iv a.length/\s.tm 13=iv i/\s.df=[]/\s.H=[]) (n:=a.length) ?_ ?_)
 .exact⟨0,by simp[zb,zq]⟩
 .rintro m ⟨tm,df,H⟩ ⟨i,rfl,hi,hd,h0,h1,h12,h13,rfl,rfl⟩;dsimp only at *
  refine vu (vz h0 h1 h12 h13) ?_ ?_
  .intro c;have c:i<a.length:=vM c;have e:i<b.length:=zo;refine vD ?_;refine vA h13 ?_;refine vR ?_;refine bH ?_ (by simp(disch:=omega)only[go_sem,h0,h1,Zg c,Zg e,CY]<;>rfl);refine wY ?_;simp only[go_sem];have j:a.drop i=a[i]::a.drop (i+1):=Zs c;have k:b.drop i=b[i]::b.drop (i+1):=Zs e;rw[j,k]at hd;have l:(decide (((a[i].1:Nat):Int)=(b[i].1:Nat))&&decide (((a[i].2:Nat):Int)=(b[i].2:Nat)))=decide (a[i]=b[i]):=by
    rw[<- Bool.decide_and]
    congr 1
    rw[Prod.ext_iff];simp only[Int.natCast_inj]
   rw[l]
   by_cases d:a[i]=b[i]
   .refine wn ?_ ?_
    .rw[decide_eq_true d];intro h;cases h
    .intro _;refine wK ?_;refine vp h13 ?_;refine⟨_,?_,i+1,rfl,c,?_,zu h0,zu h1,zu h12,zu h13,zt,zt⟩
     .omega
     .rw[hd];simp only[d,List.cons.injEq,true_and]
   .refine wn ?_ ?_
    .intro _;refine zO ?_;exact ve.bool (by grind)
    .rw[decide_eq_false d];intro h;cases h
  .intro c;have c:¬i<a.length:=vL c;obtain rfl:i=a.length:=zo;refine zO ?_;refine ve.bool ?_
   grind


@[reducible] def J4:FE:=.ret (.tuple [wv 0 [],iv 210])
theorem ik:ze H 0 (.tuple [.nilsl,iv k]) (.tuple [wv 0 [],iv k]):=ze.tL ⟨.nil _ _,.int _ _,trivial⟩
theorem Rl{l:LN}:ze H 0 (.tuple [wv 0 l,iv k]) (.tuple [wv 0 l,iv k]):=ze.tL ⟨.list _ _ _,.int _ _,trivial⟩
theorem Uz(h:¬(n.level<=12/\n.sib<2048/\n.way<=2/\n.pairs.length<=27))(hs:vE n.pairs.length):FN ET 169 [vl p n] J4:=by
 refine zn (eG T169 func169) (Lb.two (Lb.uvs _) (.int _ _)) ?_;refine zG ?_;refine yv ?_;have b:¬(n.level:Int)<0:=zo;have d:¬(n.sib:Int)<0:=zo;have f:¬(n.way:Int)<0:=zo
 by_cases i:n.level<=12
 rotate_left
 .have a:(12:Int)<n.level:=zo;refine wN (zj b a) ?_;refine wn ?_ ?_
  .intro _;refine zO ?_;exact ik
  .intro h;cases h
 have a:¬(12:Int)<n.level:=zo
 by_cases j:n.sib<2048
 rotate_left
 .have c:(2048:Int)<=n.sib:=zo;refine wN (vz b a d c) ?_;refine wn ?_ ?_
  .intro _;refine zO ?_;exact ik
  .intro h;cases h
 have c:¬(2048:Int)<=n.sib:=zo
 by_cases k:n.way<=2
 rotate_left
 .have e:(2:Int)<n.way:=zo;refine wN (wQ b a d c f e) ?_;refine wn ?_ ?_
  .intro _;refine zO ?_;exact ik
  .intro h;cases h
 have e:¬(2:Int)<n.way:=zo;have g:(27:Int)<n.pairs.length:=zo;refine wN (ww b a d c f e g) ?_;refine wn ?_ ?_
 .intro _;refine zO ?_;exact ik
 .intro h;cases h
def Ay(ws:LN)(ok:Bool):FE:=if ok=true then .ret (.tuple [wv 0 ws,iv 0])else J4
theorem UA(n':zi)(ws:LN)(c:Nat)(hlaid:FR 210 [vl p n] (wv 0 ws))(hck:FR 162 [wv 0 ws] (iv (c:Nat)))(hOf:c=0->FR 148 [wv 0 ws] (.tuple [vl 0 n',iv 0]))(hl:n'.pairs.length<=28)(h:n.level<=12/\n.sib<2048/\n.way<=2/\n.pairs.length<=27):FN ET 169 [vl p n] (Ay ws (decide (c=0)&&decide (n'.pairs=n.pairs))):=by
 refine zn (eG T169 func169) ?_ ?_
 .unfold Ay;split
  .exact Lb.two (Lb.uvs _) (.int _ _)
  .exact Lb.two (Lb.uvs _) (.int _ _)
 obtain⟨l,m,o,q⟩:=h;refine zG ?_;refine yv ?_;have b:¬(n.level:Int)<0:=zo;have d:¬(n.sib:Int)<0:=zo;have e:¬(n.way:Int)<0:=zo;have f:¬(12:Int)<n.level:=zo;have i:¬(2048:Int)<=n.sib:=zo;have j:¬(2:Int)<n.way:=zo;have k:¬(27:Int)<n.pairs.length:=zo;refine wN (ww b f d i e j k) ?_;refine uq ?_;refine vY ?_;refine zM hlaid ?_;refine zI ?_;refine vo hck ?_
 by_cases a:c=0
 rotate_left
 .have g:¬(c:Int)=0:=zo;refine wN g ?_;refine wn ?_ ?_
  .intro _;refine zO ?_;rw[decide_eq_false a];exact ik
  .intro h;cases h
 subst a;refine zN ?_;refine uq ?_;refine vY ?_;refine zM (hOf rfl) ?_;refine zM (QN 0 p n'.pairs n.pairs zo zo) ?_
 by_cases h1:n'.pairs=n.pairs
 .rw[decide_eq_true h1];refine uq ?_;refine vY ?_;refine zO ?_;exact Rl
 .rw[decide_eq_false h1];refine wn ?_ ?_
  .intro _;refine zO ?_;exact ik
  .intro h;cases h
def vI(n:zi):LN:=yp n n.pairs.length
def oP(n:zi):Bool:=decide (n.level<=12)&&decide (n.sib<2048)&&decide (n.way<=2)&&decide (n.pairs.length<=27)
def eP(n:zi):Bool:=oP n&&(decide (wd (vI n)=0)&&decide ((headN (vI n)).pairs=n.pairs))
theorem C9:oP n=true↔(n.level<=12/\n.sib<2048/\n.way<=2/\n.pairs.length<=27):=by
 unfold oP;grind
theorem n8{w:LN}(h:wd w=0):headB w=true:=by
 unfold wd at h
 grind
theorem NI(hs:vE n.pairs.length):FN ET 169 [vl p n] (Ay (vI n) (eP n)):=by
 by_cases hf:oP n=true
 .have h:=(C9 n).1 hf;have a:vE (vI n).length:=by unfold vI;rw[af];decide
  have k:=UA p n (headN (vI n)) (vI n) (wd (vI n)) (I3 p n h.1 h.2.1 h.2.2.1 zo) (G9 0 _ a)
   (fun b=>by have:=sF 0 (vI n) a;rw[ba _ (n8 b)]at this;exact this) (cn _ _) h
  have:eP n=(decide (wd (vI n)=0)&&decide ((headN (vI n)).pairs=n.pairs)):=by unfold eP;rw[hf,Z9]
  grind
 .have h:¬(n.level<=12/\n.sib<2048/\n.way<=2/\n.pairs.length<=27):=fun h=>hf ((C9 n).2 h);have hf:oP n=false:=by simpa using hf
  have:eP n=false:=by unfold eP;rw[hf,zEE9]
  rw[this];exact Uz p n h hs


def fU(k:Nat)(l:LJ):List (LJ):=(List.range ((l.length+(k-1))/k)).map fun i=>(l.drop (k*i)).take k
theorem oD(k:Nat)(l:LJ):(fU k l).length=(l.length+(k-1))/k:=by simp[fU]
theorem m7(f:Nat)(a b:LQ):vg (.fn f [.elem a,.elem b]):=.fn fun x c=>by simp at c;rcases c with rfl|rfl<;>exact .elem _
@[reducible] def cv (x:Pr):PV:=.agg [uv x.1,iv x.2]
@[reducible] def fV (p:Nat) (l:LJ):PV:=.list p 2 (l.map cv)


def gI(l:LJ)(i:Nat):zi:=⟨0,0,if 0<i then(l.getD (18*i) (0,0)).1 else 0,9223372036854775808,0,(l.drop (18*i)).take 18⟩
def yZ(l:LJ):LB:=if l=[]then[⟨0,0,0,9223372036854775808,0,[]⟩]else(List.range (fU 18 l).length).map (gI l)
theorem oR{p:Nat}{L:LB}:∀v∈(L.map (vl p)).flatMap PV.cells,vg v:=fun v a=>by
 obtain⟨x,b,a⟩:=ZF.1 a;obtain⟨n,_,rfl⟩:=Zu.1 b;exact JZ p n v a


theorem f96:ET.funcs.get 96=some T96:=eG _ func96
def zc(w:LN)(b:Nat):LN:=(w.take (64*b+64)).drop (64*b)
theorem lF(b:Nat)(hw:vE w.length)(hb:64*b+64<=w.length):FP ET 96 [wv p w,iv b] (.ret (wv p (zc w b))):=by
 refine mO f96 ?_;refine zG ?_;have a:(64:Int)*(b:Int)=((64*b:Nat):Int):=zo;have c:((64*b:Nat):Int)+64=((64*b+64:Nat):Int):=zo;have d:64*b<=64*b+64:=zo;have e:0<w.length:=zo;have f:List.drop (64*b) (List.take (64*b+64) (List.map uv w))=(zc w b).map uv:=by simp[zc,Z1,zAK9]
 refine wm (wQ a c d e hb f) ?_;exact ze.list _ _ _
def uK(n:Nat)(a:Int):Bool:=decide (64<=n)&&decide (n%64=0)&&decide (n<=131072)&&decide (0<=a)&&decide (a<n)
theorem M6(a:Int)(hw:vE w.length):FN ET 165 [wv p w,iv a] (if uK w.length a=true then .ret (.tuple [])else .panic (wy 2)):=by
 refine zn (eG T165 func165) ?_ ?_
 .split
  .exact Lb.unit
  .exact .iface (.int _ _)
 refine wa ?_
 by_cases h1:64<=w.length
 rotate_left
 .have b:¬(64:Int)<=w.length:=zo;refine vS b ?_;refine wE (pD 2) ?_;exact uy (by simp[uK,h1])
 have b:(64:Int)<=w.length:=zo
 by_cases h2:w.length%64=0
 rotate_left
 .have c:¬(w.length:Int).tmod 64=0:=by rw[IntWalk.rem_in _ _ zo];omega
  refine vS (zj b c) ?_;refine wE (pD 2) ?_;exact uy (by simp[uK,h1,h2])
 have c:(w.length:Int).tmod 64=0:=by rw[IntWalk.rem_in _ _ zo];omega
 by_cases h3:w.length<=131072
 rotate_left
 .have d:¬(w.length:Int)<=131072:=zo;refine vS (vh b c d) ?_;refine wE (pD 2) ?_;exact uy (by simp[uK,h1,h2,h3])
 have d:(w.length:Int)<=131072:=zo
 by_cases h4:(0:Int)<=a
 rotate_left
 .refine vS (vz b c d h4) ?_;refine wE (pD 2) ?_;exact uy (by simp[uK,h1,h2,h3,h4])
 by_cases e:a<(w.length:Int)
 rotate_left
 .refine vS (vX b c d h4 e) ?_;refine wE (pD 2) ?_;exact uy (by simp[uK,h1,h2,h3,h4,e])
 refine vS (vX b c d h4 e) ?_;refine vo (mB 2) ?_;refine wq ?_;have:uK w.length a=true:=by simp[uK,h1,h2,h3,h4,e]
 rw[if_pos this];exact cK (c9 rfl (ze.tL trivial))


section
variable {α:Type}(G l m n:List α)(x y z:α)
theorem pz:(G++x::l)[G.length]?=some x:=by simp
theorem mh:(G++x::l++m)[G.length]?=some x:=by simp
theorem mi:(G++x::l++m++n)[G.length]?=some x:=by simp
theorem xB:(G++x::y::l)[G.length+1]?=some y:=by grind
theorem ye:(G++x::y::l++m)[G.length+1]?=some y:=by grind
theorem yz:(G++x::y::l++m++n)[G.length+1]?=some y:=by simp_all
theorem Mm:(G++x::l).set G.length z=G++z::l:=by grind
theorem X5:(G++x::l++m).set G.length z=G++z::l++m:=by grind
theorem X6:(G++x::l++m++n).set G.length z=G++z::l++m++n:=by grind
theorem MU:(G++x::y::l).set (G.length+1) z=G++x::z::l:=by simp_all
theorem ar:(G++x::y::l++m).set (G.length+1) z=G++x::z::l++m:=by simp_all
theorem yW:(G++x::y::l++m++n).set (G.length+1) z=G++x::z::l++m++n:=by simp_all
end
variable {lab:Nat}(p q:Nat)
def mR(lv:Nat)(ks:LJ)(i:Nat):zi:=⟨lv,0,(ks.getD (19*i) (0,0)).1,(ks.getD (19*i) (0,0)).2,0,((ks.drop (19*i)).take 19).drop 1⟩
def xx(lv:Nat)(ks:LJ):LB:=(List.range (fU 19 ks).length).map (mR lv ks)
theorem LF.append:∀{a b c d:LQ},LF H lab a b->LF H lab c d->LF H lab (a++c) (b++d)
 | [],[],_,_,_,h=>h
 | _::_,_::_,_,_,h,k=>⟨h.1,LF.append h.2 k⟩
theorem LF.get:∀{a b:LQ} {i:Nat} {x y:PV},LF H lab a b->a[i]?=some x->b[i]?=some y->ze H lab x y
 | [],_,_,_,_,_,c,_=>by simp at c
 | _::_,[],_,_,_,h,_,_=>h.elim
 | _::_,_::_,0,_,_,h,c,d=>by injection c with c;injection d with d;subst c d;exact h.1
 | _::_,_::_,i+1,_,_,h,c,d=>LF.get h.2 c d
theorem Jp:∀{a b:LQ},LF H lab a b->a.length=b.length
 | [],[],_=>rfl
 | _::_,_::_,h=>by simp[Jp h.2]
theorem LF.flat{α:Type}{f:α->PV}:∀{vs:LQ} {L:List α},vs.length=L.length->(∀(q:Nat) (n:α),L[q]?=some n->∃v,vs[q]?=some v/\LF H lab v.cells (f n).cells)->LF H lab (vs.flatMap PV.cells) ((L.map f).flatMap PV.cells)
 | [],[],_,_=>trivial
 | v::vs,n::L,a,h=>by
  have b:=h 0 n rfl;obtain⟨g,c,d⟩:=b
  cases c
  exact LF.append d (LF.flat (by grind) fun q m e=>h (q+1) m e)
 | [],_::_,a,_=>by simp at a
 | _::_,[],a,_=>by simp at a


theorem QM(a b:LJ)(ha:vE a.length)(hb:vE b.length):FR 196 [fV p a,fV q b] (.bool (decide (a=b))):=by
 refine zn (eG T196 func196) (.bool _) ?_;refine zG ?_
 by_cases f:a.length=b.length
 rotate_left
 .have g:¬(a.length:Int)=b.length:=zo;have j:¬a=b:=fun h=>f (by rw[h]);refine wn ?_ ?_
  .intro _;refine zO ?_;exact ve.bool (decide_eq_false j).symm
  .intro h;simp[g]at h
 have g:(a.length:Int)=b.length:=zo;refine wn ?_ ?_
 .intro h;simp[g]at h
 intro _;refine vY ?_;refine zG ?_;refine vm (vy (fun m s=>∃i:Nat,m=a.length-i/\i<=a.length/\decide (a=b)=decide (a.drop i=b.drop i)/\s.tm 0=fV p a/\s.tm 1=fV q b/\s.tm 12=iv a.length/\s.tm 13=iv i/\s.df=[]/\s.H=[]) (n:=a.length) ?_ ?_)
 .exact⟨0,by simp[zb,zq]⟩
 .rintro m ⟨tm,df,H⟩ ⟨i,rfl,hi,hd,h0,h1,h12,h13,rfl,rfl⟩;dsimp only at h0 h1 h12 h13;refine vu (vz h0 h1 h12 h13) ?_ ?_
  .intro c;have c:i<a.length:=vM c;have e:i<b.length:=zo;refine vD ?_;refine vA h13 ?_;refine vR ?_;refine bH ?_ (by simp(disch:=omega)only[go_sem,h0,h1,h13,Zg c,Zg e,CY]<;>rfl);refine wY ?_;simp only[go_sem];have k:a.drop i=a[i]::a.drop (i+1):=Zs c;have l:b.drop i=b[i]::b.drop (i+1):=Zs e;rw[k,l]at hd;have o:(decide (((a[i].1:Nat):Int)=(b[i].1:Nat))&&decide (((a[i].2:Nat):Int)=(b[i].2:Nat)))=decide (a[i]=b[i]):=by
    rw[<- Bool.decide_and]
    congr 1
    rw[Prod.ext_iff];simp only[Int.natCast_inj]
   rw[o]
   by_cases d:a[i]=b[i]
   .refine wn ?_ ?_
    .rw[decide_eq_true d];intro h;cases h
    .intro _;refine wK ?_;refine vp h13 ?_;refine⟨_,?_,i+1,rfl,c,?_,zu h0,zu h1,zu h12,zu h13,zt,zt⟩
     .omega
     .rw[hd];simp only[d,List.cons.injEq,true_and]
   .refine wn ?_ ?_
    .intro _;refine zO ?_;exact ve.bool (by rw[hd];simp only[List.cons.injEq,d,false_and,decide_false,Bool.not_false])
    .rw[decide_eq_false d];intro h;cases h
  .intro c;have c:¬i<a.length:=vL c;obtain rfl:i=a.length:=zo;refine zO ?_;refine ve.bool ?_;rw[hd,ZS,f,ZS];rfl
def uE(L:LB)(n:zi)(lv:Int):Bool:=match L.getLast? with
 | none=>decide (n.low=0)&&(decide (lv<0)||decide ((n.level:Int)=lv))
 | some z=>decide (z.low<n.low)&&decide (n.level=z.level)
@[reducible] def wG (p q:Nat) (bs:LN) (L:LB):PV:=.agg [.list p 1 (bs.map fun (b:Nat)=>iv (b:Int)),.list p 6 (L.map (vl q))]
theorem RB(q':Nat)(bs:LN)(L:LB)(n:zi)(lv:Int)(hl:vE L.length):FR 225 [wG p q bs L,vl q' n,iv lv] (.bool (uE L n lv)):=by
 obtain⟨d,ns,a,j,l,m⟩:=n;refine zn (eG T225 func225) (.bool _) ?_;refine vq (wa ?_);refine zN ?_;refine zG ?_
 by_cases e:L.length=0
 .have f:(L.length:Int)=0:=zo;obtain rfl:L=[]:=Z6 e;refine wn ?_ ?_
  .intro _;refine vq (wa ?_)
   by_cases h1:a=0
   .have b:(a:Int)=0:=zo
    by_cases h2:lv<0
    .refine xf (zj b h2) ?_;exact ve.bool (by simp[uE,h1,h2])
    .refine xf (zj b h2) ?_;exact ve.bool (by simp[uE,h1,h2])
   .have b:¬(a:Int)=0:=zo;refine xf b ?_;exact ve.bool (by simp[uE,h1])
  .intro h;cases h
 .have f:¬(L.length:Int)=0:=zo;refine wn ?_ ?_
  .intro h;exact absurd (of_decide_eq_true h) f
  .intro _;refine vY ?_;obtain⟨z,g⟩:∃z,L.getLast?=some z:=by
    cases i:L.getLast? with
    | none=>rw[List.getLast?_eq_none_iff]at i;subst i;simp at e
    | some z=>exact⟨z,rfl⟩
   have k:L[L.length-1]?=some z:=by rw[<- zAF9];exact g
   have o:(L.length:Int)-1=((L.length-1:Nat):Int):=zo;have r:uE L ⟨d,ns,a,j,l,m⟩ lv=(decide (z.low<a)&&decide (d=z.level)):=by unfold uE;rw[g]
   rw[r];obtain⟨t,u,c,s,v,w⟩:=z;refine vA (zj o k) ?_;refine wa ?_
   by_cases h1:c<a
   .have b:(c:Int)<a:=zo;refine xf b ?_;exact ve.bool (by simp[h1];try omega)
   .have b:¬(c:Int)<a:=zo;refine xf b ?_;exact ve.bool (by simp[h1])


def pA(z:Option zi)(x:Pr):Bool:=match z with
 | some z=>!decide (z.low<=x.1)
 | none=>true
def wU:LB->LJ
 | []=>[]
 | n::M=>n.pairs.filter (pA M.head?)++wU M
theorem Ji(L:LB)(i:Nat)(h:i<L.length):wU (L.drop i)=L[i].pairs.filter (pA L[i+1]?)++wU (L.drop (i+1)):=by
 rw[Zs h,wU,List.head?_drop]
theorem EM:∀(a:LJ) (x:Pr),wh (a++[x])=(wh a&&(match a.getLast? with|some y=>decide (y.1<x.1)|none=>true))
 | [],_=>rfl
 | [a],x=>by simp[wh]
 | a::b::l,x=>by
  have:=EM (b::l) x;rw[Zv,Zv,wh,<- Zv,this,wh,zCR9,Bool.and_assoc]
theorem EL:∀(a b:LJ),wh (a++b)=true->wh a=true
 | [],_,_=>rfl
 | [_],_,_=>rfl
 | a::c::l,b,h=>by
  rw[Zv,Zv,wh,<- Zv,Zm]at h;rw[wh,h.1,Z9];exact EL (c::l) b h.2
def nh(L:LB):FE:=if wh (wU L)=true then .ret (.tuple [vJ 0 (wU L),.bool true])else .ret (.tuple [vJ 0 [],.bool false])
theorem Gq{H:LP}{L:LB}{acc:LJ}{x:Pr}{r:LJ}(hall:wU L=acc++x::r)(hx:∃y,acc.getLast?=some y/\¬y.1<x.1):ve H 0 (.ret (.tuple [.nilsl,.bool false])) (nh L):=by
 have:wh (wU L)=false:=by
  cases h:wh (wU L)with
  | false=>rfl
  | true =>
   rw[hall,<- List.singleton_append,<- ZK]at h;have h2:=EL _ _ h;obtain⟨y,a,b⟩:=hx;rw[EM,a]at h2
   grind
 unfold nh;rw[this];exact vN
def ng(acc:LJ)(x:Pr):Bool:=match acc.getLast? with
 | some y=>decide (x.1<=y.1)
 | none=>false
variable {acc:LJ}{x:Pr}(a:Pr)(n:zi)(p:Nat)(l:LJ)
theorem I6(h:ng acc x=true):∃y,acc.getLast?=some y/\¬y.1<x.1:=by
 unfold ng at h
 grind
theorem Li(h:wh acc=true)(hb:ng acc x=false):wh (acc++[x])=true:=by
 rw[EM,h,Z9];unfold ng at hb
 grind
theorem Jk(q:Nat)(bs:LN)(L:LB)(hl:L.length<1000000)(hp:∀n∈L,n.pairs.length<=28)(hall:(wU L).length<1000000):FN ET 109 [wG p q bs L] (nh L):=by
 refine zn (eG T109 func109) ?_ ?_
 .unfold nh;split
  .exact Lb.two (Lb.pvs _) (.bool _)
  .exact Lb.two (Lb.pvs _) (.bool _)
 refine vq (wa ?_);refine zN ?_;refine zG ?_;refine yD 92 2 (i:=2) rfl ?_;simp only[uF,Zp,Zz,Zv,ZA];refine vm (vy (fun m s=>∃(i:Nat) (acc:LJ) (G:LP),m=L.length-i/\i<=L.length/\wU L=acc++wU (L.drop i)/\wh acc=true/\s.tm 1=.ptr 0 0 0 0 2/\s.tm 2=.sl 1 acc.length 0 acc.length (2*acc.length) 2/\s.tm 10=.list p 6 (L.map (vl q))/\s.tm 11=iv L.length/\s.tm 12=iv i/\s.df=[]/\s.H=.row 195 2 0 0 [wG p q bs L]::.row 92 2 acc.length 0 (acc.map pv)::G) (n:=L.length) ?_ ?_)
 .exact⟨0,[],[],rfl,by omega,rfl,rfl,zt,zt,zt,zt,zt,rfl,rfl⟩
 .rintro m ⟨tm,I,H⟩ ⟨i,acc,G,rfl,hi,d,t,h1,h2,c,e,b,rfl,rfl⟩;dsimp only at *
  refine vu (vX h1 h2 c e b) ?_ ?_
  .intro r;have r:i<L.length:=vM r;have M:=Zg r;rw[Ji L i r]at d;have Z:=hp _ (ZV r);generalize L[i]=n at *
   refine vD ?_;refine vA (vh c b M) ?_;generalize U:wU (List.drop (i+1) L)=R at d;refine vm (vy (fun m s=>∃(j:Nat) (acc:LJ) (G:LP),m=n.pairs.length-j/\j<=n.pairs.length/\wU L=acc++((n.pairs.drop j).filter (pA L[i+1]?)++R)/\wh acc=true/\s.tm 1=.ptr 0 0 0 0 2/\s.tm 2=.sl 1 acc.length 0 acc.length (2*acc.length) 2/\s.tm 4=iv i/\s.tm 10=.list p 6 (L.map (vl q))/\s.tm 11=iv L.length/\s.tm 12=iv i/\s.tm 18=vJ q n.pairs/\s.tm 19=iv n.pairs.length/\s.tm 20=iv j/\s.df=[]/\s.H=.row 195 2 0 0 [wG p q bs L]::.row 92 2 acc.length 0 (acc.map pv)::G) (n:=n.pairs.length) ?_ ?_)
   .exact⟨0,acc,_,rfl,by omega,d,t,zu h1,zu h2,zt,zu c,zu e,zu b,zt,zt,zt,rfl,rfl⟩
   .clear h1 h2 c e b d t;rintro m ⟨tm,I,H⟩ ⟨j,acc,G,rfl,hj,d,t,h1,h2,h4,c,e,b,g,k,f,rfl,rfl⟩;dsimp only at *
    refine vu (vh g k f) ?_ ?_
    .intro o;have o:j<n.pairs.length:=vM o;have N:=Zg o;rw[Zs o,List.filter_cons]at d;generalize n.pairs[j]=x at *
     refine vD ?_;refine vA (vh g f N) ?_;refine zB ?_;refine ur (Q:=fun y a=>y=.norm/\a.tm 1=.ptr 0 0 0 0 2/\a.tm 2=.sl 1 acc.length 0 acc.length (2*acc.length) 2/\a.tm 4=iv i/\a.tm 10=.list p 6 (L.map (vl q))/\a.tm 11=iv L.length/\a.tm 12=iv i/\a.tm 18=vJ q n.pairs/\a.tm 19=iv n.pairs.length/\a.tm 20=iv j/\a.tm 41=.bool (!pA L[i+1]? x)/\a.tm 7=.ptr (G.length+1+1) 0 0 0 2/\a.df=[]/\a.H=.row 195 2 0 0 [wG p q bs L]::.row 92 2 acc.length 0 (acc.map pv)::(G++[.row 92 2 0 0 [pv x]])) (wV ?_) ?_
     .have C:((i:Int)+1)=((i+1:Nat):Int):=zo
      by_cases O:i+1<L.length
      .have u:((i+1:Nat):Int)<(L.length:Nat):=zo;have B:=Zg O;rw[B];generalize L[i+1]=z at *
       refine vj (vX h1 h4 C u B) ?_;exact⟨h1,h2,h4,c,e,b,g,k,f,by simp[pA]⟩
      .have u:¬((i+1:Nat):Int)<(L.length:Nat):=zo;have B:L[i+1]?=none:=zAB9 zo;rw[B];refine vj (vX h1 h4 C u B) ?_;exact⟨h1,h2,h4,c,e,b,g,k,f,by simp[pA]⟩
     .clear h1 h2 h4 c e b g k f;rintro y ⟨tm,I,H⟩ ⟨rfl,h1,h2,h4,c,e,b,g,k,f,D,w,rfl,rfl⟩;dsimp only at *
      by_cases A:pA L[i+1]? x=true
      rotate_left
      .rw[if_neg A]at d;have A:pA L[i+1]? x=false:=by simpa using A
       refine pY D ?_ ?_
       .intro _;refine bL ?_;refine vp f ?_;refine⟨_,?m1,j+1,acc,_,rfl,o,d,t,zu h1,zu h2,zu h4,zu c,zu e,zu b,zu g,zu k,zu f,rfl,rfl⟩;omega
       .rw[A];intro h;cases h
      rw[if_pos A]at d;refine pY D ?_ ?_
      .rw[A];intro h;cases h
      intro _;refine vY ?_;refine vA h2 ?_;have ab:acc.length<1000000:=by have:=congrArg List.length d;simp only[Zl]at this;omega
      have hH:∀G2:LP,True:=fun _=>trivial;refine ur (Q:=fun y a=>y=.norm/\a.tm 1=.ptr 0 0 0 0 2/\a.tm 2=.sl 1 acc.length 0 acc.length (2*acc.length) 2/\a.tm 4=iv i/\a.tm 10=.list p 6 (L.map (vl q))/\a.tm 11=iv L.length/\a.tm 12=iv i/\a.tm 18=vJ q n.pairs/\a.tm 19=iv n.pairs.length/\a.tm 20=iv j/\a.tm 56=.bool (ng acc x)/\a.tm 7=.ptr (G.length+1+1) 0 0 0 2/\a.df=[]/\a.H=.row 195 2 0 0 [wG p q bs L]::.row 92 2 acc.length 0 (acc.map pv)::(G++[.row 92 2 0 0 [pv x]])) (wV ?_) ?_
      .by_cases P:acc.length=0
       .have u:¬(0:Int)<(acc.length:Nat):=zo;refine vj (zj h2 u) ?_;obtain rfl:acc=[]:=Z6 P;exact⟨h1,h2,h4,c,e,b,g,k,f,rfl,w⟩
       .have u:(0:Int)<(acc.length:Nat):=zo;have C:(acc.length:Int)-1=((acc.length-1:Nat):Int):=zo;have V:acc.length-1<acc.length:=zo;obtain⟨y,K⟩:∃y,acc.getLast?=some y:=by
         grind
        have S:acc[acc.length-1]?=some y:=by rw[<- zAF9];exact K
        refine vj (wQ h2 w u C V S) ?_;exact⟨h1,h2,h4,c,e,b,g,k,f,by simp[ng,K],w⟩
      .clear h1 h2 h4 c e b g k f D w;rintro y ⟨tm,I,H⟩ ⟨rfl,h1,h2,h4,c,e,b,g,k,f,J,w,rfl,rfl⟩;dsimp only at *
       by_cases v:ng acc x=true
       .refine pY J ?_ ?_
        .intro _;refine zO ?_;exact Gq d (I6 v)
        .rw[v];intro h;cases h
       have v:ng acc x=false:=by simpa using v
       refine pY J ?_ ?_
       .rw[v];intro h;cases h
       intro _;refine wK ?_;have T:(acc.length+1)*17<=140737488355328:=zo;refine vp (vh h2 w T) ?_;refine vp f ?_;refine⟨_,?X,j+1,acc++[x],?G3,rfl,o,by grind,Li t v,zu h1,zt,zu h4,zu c,zu e,zu b,zu g,zu k,zu f,zt,?Y⟩
       case X=>omega
       case Y=>(try dsimp only);rw[ZG,Zl];rfl
    .intro o;have o:¬j<n.pairs.length:=vL o;obtain rfl:j=n.pairs.length:=zo;refine vp b ?_;rw[ZS,List.filter_nil,ZA,<- U]at d;refine⟨_,?m9,i+1,acc,G,rfl,r,d,t,zu h1,zu h2,zu c,zu e,zu b,rfl,rfl⟩;omega
  .intro r;have r:¬i<L.length:=vL r;obtain rfl:i=L.length:=zo;refine wm h2 ?_;rw[ZS,wU,zAG9]at d;unfold nh;rw[d,if_pos t];refine ze.tL ⟨?_,.bool _,trivial⟩;exact ze.wh (l:=acc.map pv) rfl rfl (by simp) (by simp) uG bS
def pU:Nat->LN->Nat
 | 0,_=>0
 | n+1,s=>pU n s+if s.contains n=true then 0 else 1
theorem M7:∀(n b:Nat) (s:LN),pU n (b::s)<=pU n s
 | 0,_,_=>Zi _
 | n+1,b,s=>by
  have:=M7 n b s;rw[pU,pU]
  grind
theorem Fj:∀(n b:Nat) (s:LN),b<n->¬s.contains b=true->pU n (b::s)<pU n s
 | 0,_,_,h,_=>by omega
 | n+1,b,s,h,a=>by
  rw[pU,pU]
  by_cases c:b=n
  .subst c;have:=M7 b b s
   grind
  .have:=Fj n b s zo a
   grind
theorem Fl:∀(n b:Nat) (s:LN),pU n s=0->b<n->s.contains b=true
 | 0,_,_,_,h=>by omega
 | n+1,b,s,h,c=>by
  rw[pU]at h
  by_cases h3:s.contains n=true
  .by_cases a:b=n
   .grind
   .exact Fl n b s zo zo
  grind
theorem Fk:∀(n:Nat) (s:LN),pU n s<=n
 | 0,_=>Zi _
 | n+1,s=>by have:=Fk n s;rw[pU];grind
abbrev vO:=LN×LB
def uP(w:LN)(lv:Int):Nat->LN->LN->LB->Nat->Option (LN×LN×LB)
 | 0,seen,bs,ns,b=>if b=0 then some (seen,bs,ns)else none
 | k+1,seen,bs,ns,b=>if b=0 then some (seen,bs,ns)else
  if decide (w.length/64<=b)||seen.contains b then none else
  if headB (zc w b)&&uE ns (headN (zc w b)) lv then uP w lv k (b::seen) (bs++[b]) (ns++[headN (zc w b)]) (headN (zc w b)).sib else none
def yg(w:LN):Nat->LN->List vO->Nat->Int->List vO×Bool
 | 0,_,acc,_,_=>(acc,false)
 | d+1,seen,acc,b,lv=>match uP w lv (w.length/64) seen [] [] b with
  | none=>(acc,false)
  | some (_,_,[])=>(acc,false)
  | some (seen',bs,n::ns)=>if n.level=0 then(acc++[(bs,n::ns)],wh (wU (n::ns)))else yg w d seen' (acc++[(bs,n::ns)]) n.left ((n.level:Int)-1)
def wg(w:LN)(a:Nat):List vO×Bool:=yg w 14 [] [] (w.getD a 0) (-1)
structure uM(n:zi):Prop where
 level:n.level<=12
 sib:n.sib<2048
 way:n.way<=2
 few:n.pairs.length<=27
 rise:wh n.pairs=true
 ptrs:xE [n.left] n.pairs=true
 may:∀p∈n.pairs,wR n p=true
 left:(n.level=0/\n.left=9223372036854775808)\/(0<n.level/\xN n.left=true)
theorem nS:xN p=true↔(1<=p/\p<2048):=by unfold xN;simp
theorem rt{n:zi}{p:Pr}(h:wR n p=true):p.2≠0:=by
 unfold wR at h
 split at h
 .grind
 .rw[Zm,nS]at h;omega
theorem eq:∀l:LJ,(w7 l).length=2*l.length
 | []=>rfl
 | a::l=>by have:=eq l;simp only[w7,ZZ,Zl,Zp,Zz]at this⊢;omega
theorem ii:w7 (a::l)=a.1::a.2::w7 l:=by simp[w7]
theorem Da:w7 (l++[a])=w7 l++[a.1,a.2]:=by simp[w7]
theorem Xz:∀(m prev:Nat),vG prev (List.replicate m 0)=[]
 | 0,_=>rfl
 | 1,_=>rfl
 | m+2,prev=>by rw[zAY9,zAY9,vG,if_pos rfl]
theorem Lt(m:Nat):∀(ps:LJ) (seen:LN) (prev:Nat),xE seen ps=true->prev∈seen->(∀p∈ps,p.2≠0)->vG prev (w7 ps++List.replicate m 0)=ps
 | [],_,prev,_,_,_=>by rw[show w7 []=[]from rfl,ZA];exact Xz m prev
 | a::ps,seen,prev,h,d,b=>by
  rw[xE,Zm,zAZ9]at h;have h1:¬a.2=prev:=by grind
  rw[ii,Zv,Zv,vG,if_neg (b a (Zr ..)),if_neg h1];rw[Lt m ps (a.2::seen) a.2 h.2 (Zr ..) fun p c=>b p (Zo _ c)]
theorem Lx(m:Nat):∀ps:LJ,(∀p∈ps,p.2≠0)->vV (w7 ps++List.replicate m 0)=ps.length
 | [],_=>by
  rw[show w7 []=[]from rfl,ZA]
  match m with
  | 0=>rfl
  | 1=>rfl
  | m+2=>rw[zAY9,zAY9,vV,if_pos rfl];rfl
 | a::ps,b=>by
  rw[ii,Zv,Zv,vV,if_neg (b a (Zr ..)),Lx m ps fun p c=>b p (Zo _ c)];rfl
theorem L8:∀m,kF (List.replicate m 0)=true
 | 0=>rfl
 | 1=>rfl
 | m+2=>by rw[zAY9,zAY9,kF,L8 m];rfl
theorem XQ(A B:LN)(k x y a b:Nat)(hk:k=A.length):((A++x::y::B).set k a).set (k+1) b=A++a::b::B:=by simp_all
theorem RK:uA n 5=rz n++List.replicate 56 0:=rfl
theorem Kq(n:zi)(h:n.pairs.length<=28):∀j,j<=n.pairs.length->yp n j=rz n++w7 (n.pairs.take j)++List.replicate (56-2*j) 0
 | 0,_=>by rw[yp,RK];rfl
 | j+1,d=>by
  have a:List.replicate (56-2*j) 0=0::0::List.replicate (56-2*(j+1)) 0:=by
   rw[show 56-2*j=(56-2*(j+1))+1+1 by omega,zAY9,zAY9]
  have b:(rz n++w7 (n.pairs.take j)).length=8+2*j:=by
   rw[Zl,eq,ZC];simp[rz];omega
  rw[yp,Kq n h j zo,a,XQ _ _ _ _ _ _ _ b.symm];have c:n.pairs.take (j+1)=n.pairs.take j++[n.pairs.getD j (0,0)]:=by
   rw[ZE,Zq,Zg zo];rfl
  rw[c,Da]
  grind
theorem Dy(h:n.pairs.length<=28):vI n=rz n++(w7 n.pairs++List.replicate (56-2*n.pairs.length) 0):=by
 unfold vI;rw[Kq n h _ (Zi _),ZL,ZK]
theorem kb:(vI n).length=64:=af n _
section
variable {n:zi}(h:uM n)
include h
theorem uM.rowL:(w7 n.pairs++List.replicate (56-2*n.pairs.length) 0).length=56:=by
 have:=h.few;rw[Zl,eq,zAP9];omega
theorem uM.left0:n.left≠0:=by
 rcases h.left with⟨_,e⟩|⟨_,e⟩
 .omega
 .rw[nS]at e;omega
theorem uM.row:w9 n.left (w7 n.pairs++List.replicate (56-2*n.pairs.length) 0).length=true:=by
 rw[h.rowL];unfold w9;simp[h.left0]
theorem uM.read:wO n.left (w7 n.pairs++List.replicate (56-2*n.pairs.length) 0)=n.pairs:=by
 unfold wO;rw[if_pos h.row];exact Lt _ _ [n.left] _ h.ptrs (Zr ..) fun p a=>rt (h.may p a)
theorem uM.drop8:(vI n).drop 8=w7 n.pairs++List.replicate (56-2*n.pairs.length) 0:=by
 rw[Dy n (by have:=h.few;omega)];rfl
theorem uM.parts:(vI n).getD 0 0=7522529147838689024+n.level/\(vI n).getD 1 0=n.sib/\(vI n).getD 2 0=n.low/\(vI n).getD 3 0=n.left/\(vI n).getD 4 0=n.way:=by
 rw[Dy n (by have:=h.few;omega)];exact⟨rfl,rfl,rfl,rfl,rfl⟩
omit h in
theorem Jz(k:Nat):pM (7522529147838689024+k)=k:=by rw[Ax,zCB9]
omit h in
theorem IJ{w:LN}{a b c d e:Nat}{ps:LJ}(h0:pM (w.getD 0 0)=a)(h1:w.getD 1 0=b)(h2:w.getD 2 0=c)(h3:w.getD 3 0=d)(h4:w.getD 4 0=e)(h5:wO d (w.drop 8)=ps):headN w=⟨a,b,c,d,e,ps⟩:=by
 unfold headN;grind
theorem uM.headN:headN (vI n)=n:=by
 obtain⟨a,b,c,d,e⟩:=h.parts;exact IJ (by rw[a];exact Jz n.level) b c d e (by rw[h.drop8];exact h.read)
theorem uM.headB:headB (vI n)=true:=by
 obtain⟨d,e,j,f,g⟩:=h.parts;unfold Fv.headB;rw[Zm,Zm,d,Jz];refine⟨⟨by rw[kb];rfl,by rw[Dy n (by have:=h.few;omega)];rfl⟩,?_⟩;rw[ZN];intro i a;have a:i<5:=zAL9.1 a
 match i,a with
 | 0,_=>rw[d,uO,Zm,decide_eq_true_eq,decide_eq_true_eq];exact⟨zDT9 _ _,Nat.add_le_add_left h.level _⟩
 | 1,_=>rw[e,uO,decide_eq_true_eq];exact h.sib
 | 2,_=>rfl
 | 3,_ =>
  rw[f,uO];rcases h.left with⟨b,c⟩|⟨b,c⟩
  .rw[b,c];rfl
  .rw[c,decide_eq_true b,zDQ9,Bool.or_true]
 | 4,_=>rw[g];show decide (n.way<=2)=true;rw[decide_eq_true_eq];exact h.way
theorem uM.slots:uf n.left ((vI n).drop 8)=0:=by
 have a:∀p∈n.pairs,p.2≠0:=fun p b=>rt (h.may p b);unfold uf;rw[h.drop8,if_pos h.row,if_pos];unfold kE;rw[h.read,h.rise,h.ptrs,Lx _ _ a,h.rowL];have c:(w7 n.pairs++List.replicate (56-2*n.pairs.length) 0).drop (2*n.pairs.length)=List.replicate (56-2*n.pairs.length) 0:=by
  rw[<- eq,zDL9]
 rw[c,L8];have:=h.few
 grind
theorem uM.check:wd (vI n)=0:=by
 unfold wd gL;rw[if_pos h.headB,if_pos];rw[h.headN,h.slots];simp only[decide_true,Z9,zAZ9,zEU9];intro p a;rw[h.may p a];simp
theorem uM.make:eP n=true:=by
 unfold eP;rw[h.check,h.headN,(C9 n).2 ⟨h.level,h.sib,h.way,h.few⟩];simp
end
structure B9(lv:Nat)(ns:LB):Prop where
 ne:ns ≠ []
 each:∀n∈ns,uM n/\n.level=lv/\n.sib=0
 low0:∀n,ns[0]?=some n->n.low=0
 rise:∀i n m,ns[i]?=some n->ns[i+1]?=some m->n.low<m.low
 below:∀i n m,ns[i]?=some n->ns[i+1]?=some m->∀p∈n.pairs,p.1<m.low
def ud:LN->LB->LB
 | _::bs,n::ns=>{ n with sib:=bs.headD 0 }::ud bs ns
 | _,_=>[]
theorem eM:∀(bs:LN) (ns:LB),bs.length=ns.length->(ud bs ns).length=ns.length
 | [],[],_=>rfl
 | _::bs,n::ns,h=>by rw[ud,Zp,Zp,eM bs ns (by grind)]
 | [],_::_,h=>by simp at h
 | _::_,[],h=>by simp at h
theorem iE:∀(bs:LN) (ns:LB) (i:Nat) (n:zi),bs.length=ns.length->ns[i]?=some n->(ud bs ns)[i]?=some { n with sib:=bs.getD (i+1) 0 }
 | [],[],i,n,_,h=>by simp at h
 | [],_::_,_,_,h,_=>by simp at h
 | _::_,[],_,_,h,_=>by simp at h
 | b::bs,n::ns,i,m,a,h=>by
  rw[ud]
  match i with
  | 0 =>
   rw[zCQ9]at h⊢
   cases h
   cases bs<;>rfl
  | i+1 =>
   rw[ZJ]at h⊢;rw[iE bs ns i m (by grind) h];rfl
theorem Ui{bs:LN}{ns:LB}(hl:bs.length=ns.length)(h:ns ≠ []):ud bs ns ≠ []:=by
 intro e;have:=eM bs ns hl
 grind
def after:LA->Nat->Prop
 | none,n=>n=0
 | some l,n=>l<n
def fG(lv:Nat):LA->LN->LB->Prop
 | _,[],[]=>True
 | pl,b::bs,n::ns=>1<=b/\b<2048/\uM n/\n.level=lv/\n.sib=bs.headD 0/\after pl n.low/\(∀m,ns.head?=some m->∀p∈n.pairs,p.1<m.low)/\fG lv (some n.low) bs ns
 | _,[],_::_=>False
 | _,_::_,[]=>False
theorem uM.setSib{n:zi}(h:uM n){s:Nat}(hs:s<2048):uM { n with sib:=s }:=⟨h.level,hs,h.way,h.few,h.rise,h.ptrs,h.may,h.left⟩
theorem GX(lv:Nat):∀(bs:LN) (ns:LB) (pl:LA),bs.length=ns.length->(∀b∈bs,1<=b/\b<2048)->(∀n∈ns,uM n/\n.level=lv)->(∀n,ns[0]?=some n->after pl n.low)->(∀i n m,ns[i]?=some n->ns[i+1]?=some m->n.low<m.low)->(∀i n m,ns[i]?=some n->ns[i+1]?=some m->∀p∈n.pairs,p.1<m.low)->fG lv pl bs (ud bs ns)
 | [],[],_,_,_,_,_,_,_=>trivial
 | [],_::_,_,h,_,_,_,_,_=>by simp at h
 | _::_,[],_,h,_,_,_,_,_=>by simp at h
 | b::bs,n::ns,pl,s,g,k,t,l,o=>by
  have u:bs.headD 0<2048:=by
   cases bs with
   | nil=>decide
   | cons c bs=>exact(g c (by simp)).2
  have r:bs.length=ns.length:=by simpa using s
  have q:=k n (Zr ..);refine⟨(g b (Zr ..)).1,(g b (Zr ..)).2,q.1.setSib u,q.2,rfl,t n rfl,?_,?_⟩
  .intro m f p hp
   cases ns with
   | nil=>cases bs<;>simp[ud]at f
   | cons c ns =>
    cases bs with
    | nil=>grind
    | cons d bs =>
     simp[ud]at f;subst f;exact o 0 n c rfl rfl p hp
  .refine GX lv bs ns (some n.low) r (fun c e=>g c (Zo _ e)) (fun c e=>k c (Zo _ e)) ?_ (fun i a c j e=>l (i+1) a c j e) (fun i a c j e=>o (i+1) a c j e);intro m f;exact l 0 n m rfl f
def yH(w:LN)(bs:LN)(ns:LB):Prop:=∀(i b:Nat) (n:zi),bs[i]?=some b->ns[i]?=some n->b<w.length/64/\zc w b=vI n
variable {l:LJ}(w ws:LN)(b:Nat)
theorem yH.tail{w:LN}{b:Nat}{bs:LN}{n:zi}{ns:LB}(h:yH w (b::bs) (n::ns)):yH w bs ns:=fun i c m a d=>h (i+1) c m a d
def wL(n:zi):LJ:=(n.low,n.left)::n.pairs
def uI(L:vO):LJ:=(L.2.map zi.low).zip L.1
def sL:List vO->Prop
 | []=>False
 | [L]=>fG 0 none L.1 L.2/\L.2 ≠ []
 | L::M::T=>fG (T.length+1) none L.1 L.2/\L.2 ≠ []/\L.2.flatMap wL=uI M/\sL (M::T)
def pb(b:Nat)(ws:LN):LJ:=(List.range ws.length).map fun k=>(64*b+k,ws.getD k 0)
def vH(w:LN)(l:LJ):LN:=l.foldl (fun w x=>w.set x.1 x.2) w
theorem ow(a b:LJ):vH w (a++b)=vH (vH w a) b:=List.foldl_append
theorem kw:∀(l:LJ) (w:LN),(vH w l).length=w.length
 | [],_=>rfl
 | x::l,w=>by show (vH (w.set x.1 x.2) l).length=_;rw[kw l,Z2]
theorem Gk(w ws:LN)(o:Nat):∀m,m<=ws.length->o+m<=w.length->vH w ((List.range m).map fun k=>(o+k,ws.getD k 0))=w.take o++ws.take m++w.drop (o+m)
 | 0,_,_=>by simp[vH]
 | m+1,h1,h2=>by
  have a:w.drop (o+m)=w[o+m]::w.drop (o+(m+1)):=Zs zo;have b:(w.take o++ws.take m).length=o+m:=by simp;omega
  have c:ws.take (m+1)=ws.take m++[ws.getD m 0]:=by
   rw[ZE,Zq,Zg zo];rfl
  rw[zAQ9,ZG,ow,Gk w ws o m zo zo,a];show List.set _ (o+m) (ws.getD m 0)=_;rw[zDW9 _ _ zo,b,zEA9,zAH9,c]
  grind
theorem Gj(h1:ws.length=64)(h2:64*b+64<=w.length):vH w (pb b ws)=w.take (64*b)++ws++w.drop (64*b+64):=by
 unfold pb;rw[Gk w ws (64*b) ws.length (Zi _) zo,ZL,h1]
theorem GJ(j:Nat):(zc w b)[j]?=if j<64 then w[64*b+j]? else none:=by
 unfold zc
 grind
theorem GK(h1:ws.length=64)(h2:64*b+64<=w.length):zc (vH w (pb b ws)) b=ws:=by
 rw[Gj w ws b h1 h2];unfold zc
 grind
theorem CB(c:Nat)(h1:ws.length=64)(h2:64*b+64<=w.length)(h3:¬c=b):zc (vH w (pb b ws)) c=zc w c:=by
 apply zBD9
 intro j;rw[GJ,GJ]
 split
 .rename_i hj;rw[Gj w ws b h1 h2]
  grind
 .rfl
def ni(bs:LN)(ns:LB):LJ:=(bs.zip ns).flatMap fun x=>pb x.1 (vI x.2)
theorem I4:∀(bs:LN) (ns:LB) (w:LN),bs.length=ns.length->bs.Nodup->(∀b∈bs,64*b+64<=w.length) ->
  (∀(i b:Nat) (n:zi),bs[i]?=some b->ns[i]?=some n->zc (vH w (ni bs ns)) b=vI n)/\(∀c,¬c∈bs->zc (vH w (ni bs ns)) c=zc w c)
 | [],[],w,_,_,_=>⟨fun i b n h=>by simp at h,fun c _=>rfl⟩
 | [],_::_,_,h,_,_=>by simp at h
 | _::_,[],_,h,_,_=>by simp at h
 | b::bs,n::ns,w,l,d,j=>by
  rw[zBM9]at d;have f:=j b (Zr ..);have g:=I4 bs ns (vH w (pb b (vI n))) (by grind) d.2 (fun c a=>by rw[kw];grind);have k:vH w (ni (b::bs) (n::ns))=vH (vH w (pb b (vI n))) (ni bs ns):=by
   rw[<- ow];rfl
  rw[k];refine⟨fun i c m a e=>?_,fun c a=>?_⟩
  .match i with
   | 0 =>
    injection a with a;injection e with e;subst a e;rw[g.2 b d.1,GK _ _ _ (kb n) f]
   | i+1=>grind
  .rw[ZD,not_or]at a;rw[g.2 c a.2,CB _ _ _ _ (kb n) f a.1]
def pj(T:List vO):LJ:=T.flatMap fun L=>ni L.1 L.2
theorem I5:∀(T:List vO) (w:LN),(∀L∈T,L.1.length=L.2.length)->(T.flatMap Prod.fst).Nodup->(∀b∈T.flatMap Prod.fst,64*b+64<=w.length) ->
  (∀L∈T,∀(i b:Nat) (n:zi),L.1[i]?=some b->L.2[i]?=some n->zc (vH w (pj T)) b=vI n)/\(∀c,¬c∈T.flatMap Prod.fst->zc (vH w (pj T)) c=zc w c)
 | [],w,_,_,_=>⟨fun L h=>by simp at h,fun c _=>rfl⟩
 | K::T,w,d,a,f=>by
  rw[ZZ,List.nodup_append]at a;have l:=I4 K.1 K.2 w (d K (Zr ..)) a.1 (fun b g=>f b (by grind));have m:=I5 T (vH w (ni K.1 K.2)) (fun L e=>d L (Zo _ e)) a.2.1 (fun c j=>by rw[kw];simp_all);have k:vH w (pj (K::T))=vH (vH w (ni K.1 K.2)) (pj T):=by
   rw[<- ow];rfl
  rw[k];refine⟨fun L e i b n g o=>?_,fun c j=>?_⟩
  all_goals grind
theorem bn:∀l:LJ,wh l=true↔∀(i:Nat) (x y:Pr),l[i]?=some x->l[i+1]?=some y->x.1<y.1
 | []=>⟨fun _ i x y h=>by simp at h,fun _=>rfl⟩
 | [a]=>⟨fun _ i x y _ h=>by simp at h,fun _=>rfl⟩
 | a::b::l=>by
  rw[wh,Zm,decide_eq_true_eq,bn (b::l)];refine⟨fun h i x y c d=>?_,fun h=>⟨h 0 a b rfl rfl,fun i x y c d=>h (i+1) x y c d⟩⟩
  match i with
  | 0=>injection c with c;injection d with d;subst c d;exact h.1
  | i+1=>exact h.2 i x y c d
theorem pO(h:wh l=true):∀(k i:Nat) (x y:Pr),l[i]?=some x->l[i+k+1]?=some y->x.1<y.1
 | 0,i,x,y,b,a=>(bn l).1 h i x y b a
 | k+1,i,x,y,b,a=>by
  have d:=(Zh.1 a).1;have c:l[i+k+1]?=some l[i+k+1]:=Zg zo;exact Nat.lt_trans (pO h k i x _ b c) ((bn l).1 h _ _ _ c a)
theorem lX(h:wh l=true)(k:Nat):wh (l.drop k)=true:=by
 rw[bn]at h⊢
 grind
theorem EO(h:wh l=true)(k:Nat):wh (l.take k)=true:=by
 have:wh (l.take k++l.drop k)=true:=by rw[zBV9];exact h
 exact EL _ _ this
theorem nv:∀(l:LJ) (seen:LN),xE seen l=true↔(l.map Prod.snd).Nodup/\∀p∈l,¬p.2∈seen
 | [],seen=>by simp[xE]
 | a::l,seen=>by
  rw[xE,Zm,zAZ9,nv l (a.2::seen),Z3,zBM9]
  grind
theorem CM(k:Nat)(l:LJ):∀m,((List.range m).map fun i=>(l.drop (k*i)).take k).flatten=l.take (k*m)
 | 0=>by simp
 | m+1=>by
  rw[zAQ9,ZG,List.flatten_append,CM k l m,Nat.mul_succ,List.take_add];simp
theorem Ao:∀L:LB,(∀(i:Nat) (n m:zi),L[i]?=some n->L[i+1]?=some m->∀p∈n.pairs,p.1<m.low)->wU L=L.flatMap zi.pairs
 | [],_=>rfl
 | n::L,h=>by
  rw[wU,ZZ,Ao L fun i a b d e=>h (i+1) a b d e]
  congr 1
  rw[List.filter_eq_self];intro p f;unfold pA
  cases c:L.head? with
  | none=>rfl
  | some m =>
   have:=h 0 n m rfl (by rw[zDP9]at c;exact c) p f
   grind
theorem rh:∀(bs:LN) (ns:LB),bs.length=ns.length->(ud bs ns).flatMap zi.pairs=ns.flatMap zi.pairs/\(ud bs ns).map zi.low=ns.map zi.low/\(ud bs ns).flatMap wL=ns.flatMap wL
 | [],[],_=>⟨rfl,rfl,rfl⟩
 | [],_::_,h=>by simp at h
 | _::_,[],h=>by simp at h
 | b::bs,n::ns,h=>by
  obtain⟨h1,h2,h3⟩:=rh bs ns (by grind);simp[ud,h1,h2,h3,wL]
open Go.RowKit
variable {c:Cx}{h:TH}
theorem tO:∀l:LJ,(l.map vd).flatMap PV.cells=l.flatMap fun x=>[.int .i64 x.1,.int .u64 x.2]
 | []=>rfl
 | x::l=>by rw[Z3,ZZ,tO l];rfl
theorem DJ:∀{l:LJ} {cs:LK},LR (VR c h) (l.flatMap fun x=>[PV.int .i64 x.1,.int .u64 x.2]) cs->cs=l.flatMap fun x=>[TV.int .i64 x.1,.int .u64 x.2]
 | [],cs,k=>k.oN
 | x::l,cs,k=>by
  obtain⟨y,b,rfl,h1,h2⟩:=LR.oc k;obtain⟨d,a,rfl,h3,h4⟩:=LR.oc h2;rw[DJ h4,h1.int_inv,h3.int_inv];rfl
theorem KL:∀l:LJ,LR (VR c h) (l.flatMap fun x=>[PV.int .i64 x.1,.int .u64 x.2]) (l.flatMap fun x=>[TV.int .i64 x.1,.int .u64 x.2])
 | []=>LR.nil
 | x::l=>LR.cons (.pure (.int _ _)) (LR.cons (.pure (.int _ _)) (KL l))
theorem Ez:∀l:LJ,∃r,am (l.flatMap fun x=>[TV.int .i64 x.1,.int .u64 x.2])=some r
 | []=>⟨[],rfl⟩
 | x::l=>by
  obtain⟨r,a⟩:=Ez l;refine⟨((x.1:Int),x.2)::r,?_⟩;show am (.int .i64 x.1::.int .u64 (.ofNat x.2)::l.flatMap _)=_;rw[am,a]
theorem HW{α:Type}(f g:Pr->α):∀l:LJ,(l.flatMap fun x=>[f x,g x]).length=l.length*2
 | []=>rfl
 | x::l=>by rw[ZZ,Zl,HW f g l,Zp];simp;omega
theorem Nz{E:vZ}{f e0:Nat}(hf:E.funcs.get f=none)(hg:E.spec f=some (eH e0)){H:LP}{id ix g M gx Mx:Nat}{L:LJ}{c:Pr}(hH:H[id]?=some (.row e0 2 g M (L.map vd)))(hM:M<=g)(hX:H[ix]?=some (.row e0 2 gx Mx [vd c]))(hMx:Mx<=gx)(hne:id≠ix)(hL:0<L.length)(hL2:L.length<=100000) :
  FO E f [.sl id g 0 L.length (2*L.length) 2,iv 0,.sl ix gx 0 1 2 2] H false fun e H'=>e=.ret (.sl id (g+1) 0 (L.length+1) (2*(L.length+1)) 2)/\H'=H.set id (.row e0 2 (g+1) (g+1) ((c::L).map vd)):=by
 intro B w h us k l;obtain⟨y,ad,rfl,h1,l⟩:=l.oc;obtain⟨y2,ah,rfl,h2,l⟩:=l.oc;obtain⟨y3,av,rfl,h3,l⟩:=l.oc;obtain rfl:=l.oN;obtain rfl:=h2.int_inv;rcases sl_inv h1 with⟨_,_,Y,_⟩|⟨b,d,j,r,a0,rfl⟩
 .omega
 rcases sl_inv h3 with⟨_,_,Y,_⟩|⟨s,dx,p,D,ab,rfl⟩
 .omega
 obtain⟨_,G',M',cells,cs,O,r2,r3,P,Z⟩:=dF k hH r;obtain⟨_,U,G,u,m,Q,x2,x3,z,x5⟩:=dF k hX D;obtain rfl:j=G':=by omega
 obtain rfl:p=U:=by omega
 have R:=Z.all;rw[tO]at R;have I:=DJ R;have S:=x5.all;rw[show ([vd c]:LQ)=[c].map vd from rfl,tO]at S;have A:=DJ S;rw[ZB]at O P;have z:u.getL 0 2=some m:=z;have V:b≠s:=fun e=>hne (k.inj _ _ _ _ r D e);obtain⟨rn,J⟩:=Ez [c];obtain⟨ro,K⟩:=Ez L;rw[<- A]at J;rw[<- I]at K;have C:m++cs=(c::L).flatMap fun x=>[TV.int .i64 x.1,.int .u64 x.2]:=by rw[I,A];rfl
 have T:(m++cs).length=(L.length+1)*2:=by rw[C,HW,Zp]
 obtain⟨m1,k1⟩:=k.set (o:=.row e0 2 (g+1) (g+1) ((c::L).map vd)) (x:=.row e0 (j+1) (j+1) ((L.length+1)*2) (Tr.putL .nil 0 (m++cs))) r (fun e=>by rw[hH]at e;cases e) fun mm =>
  .inr ⟨b,d,j+1,j+1,Tr.putL .nil 0 (m++cs),m++cs,r,by rw[TH.get_set _ _ _ _ (k.own _ _ r).2.1,if_pos rfl,ZB,Zp],by omega,by omega,by
   rw[ZB,Zp,<- T];exact Dk _,⟨fun v l=>by obtain⟨a,_,rfl⟩:=Zu.1 l;rfl,by rw[tO,C];exact KL _⟩⟩
 refine⟨.ret (.sl b (j+1) 0 (L.length+1) (2*(L.length+1)) 2),_,.ret (.sl id (g+1) 0 (L.length+1) (2*(L.length+1)) 2),_,w,⟨1,fun N hN t hd=>?_⟩,⟨rfl,rfl⟩,m1,k1,?_,fun h=>by cases h⟩
 .obtain⟨t,rfl⟩:∃i,t=i+1:=⟨t-1,by omega⟩
  show Tw.zV (EN E N) (xy (EN E N) t) f _ h=_;unfold Tw.zV;rw[show (EN E N).funcs.get f=none from hf];dsimp only;rw[show (EN E N).spec f=some (eH e0)from hg];show eH e0 [.sl b j (0*2) L.length (2*L.length) 2,.int .i64 (.ofNat 0),.sl s p (0*2) 1 2 2] h=_;rw[Nat.zero_mul];show Ab e0 h b j L.length (2*L.length) 2 s p 2=_;have X:ue h s p 0 2=some m:=by
   unfold ue;rw[Q];show ny p 0 2 (.row e0 p G (1*2) u)=_;unfold ny;dsimp only;rw[ux zo,ux (Zi _)];exact z
  unfold Ab;rw[Q,O,X];dsimp only;rw[show Lo e0 (.row e0 p G (List.length [vd c]*2) u)=true from wZ rfl,wZ (show 2=2 from rfl),wZ (show 2*L.length%2=0 by omega),ux (show 1<=L.length by omega),ux hL2,show Nat.beq b s=false from oA V];simp only[cond_true,cond_false];unfold Dn;dsimp only;rw[wZ rfl,wZ rfl,wZ rfl,P];simp only[cond_true];unfold Do;rw[J,K]
 .show VR w _ (.sl id (g+1) 0 (L.length+1) (2*(L.length+1)) 2) (.sl b (j+1) 0 (L.length+1) (2*(L.length+1)) 2);have:=VR.sl (c:=w) (h:=h.set b (.row e0 (j+1) (j+1) ((L.length+1)*2) (Tr.putL .nil 0 (m++cs)))) (g:=j+1) (o:=0) (n:=L.length+1) (q:=2*(L.length+1)) r
  grind
def kC(l:LJ):Bool:=wh l&&xE [] l&&l.all fun p=>decide (1<=p.2)&&decide (p.2<=1099511627776)
variable {i:Nat}{ks:LJ}{lv:Nat}
theorem D9(l:LJ):kC l=true↔wh l=true/\(l.map Prod.snd).Nodup/\∀p∈l,1<=p.2/\p.2<=1099511627776:=by
 unfold kC;rw[Zm,Zm,nv,ZN]
 grind
theorem DN{a k:Nat}{p:Pr}(h:p∈(l.drop a).take k):∃j,j<k/\l[a+j]?=some p:=by
 obtain⟨j,b,e⟩:=ZP.1 h;have:=Zg b
 grind
theorem J2(h:(l.map Prod.snd).Nodup)(a k:Nat):(((l.drop a).take k).map Prod.snd).Nodup :=
 h.sublist (((zEV9 k _).trans (zEW9 a l)).map _)
theorem getD_some{x:Pr}(h:l[i]?=some x):l.getD i (0,0)=x:=by grind
theorem get_lt(l:LJ)(h:i<l.length):l[i]?=some (l.getD i (0,0)):=by grind
theorem T7(h:kC l=true)(i:Nat)(hi:18*i<l.length\/i=0):uM (gI l i):=by
 rw[D9]at h;obtain⟨h1,h2,h3⟩:=h;have c:∀p∈(gI l i).pairs,∃j,j<18/\l[18*i+j]?=some p:=fun p b=>DN b;refine⟨Zn _,show 0<2048 by decide,Zn _,?_,?_,?_,fun p b=>?_,.inl ⟨rfl,rfl⟩⟩
 .show ((l.drop (18*i)).take 18).length<=27
  grind
 .exact EO (lX h1 _) _
 .rw[nv];refine⟨J2 h2 _ _,fun p b d=>?_⟩;obtain⟨j,_,a⟩:=c p b;have:=h3 p (Zj a);have d:p.2=9223372036854775808:=ZI.1 d;omega
 .obtain⟨j,hjk,a⟩:=c p b;have:=h3 p (Zj a);have f:(gI l i).low<=p.1:=by
   show (if 0<i then(l.getD (18*i) (0,0)).1 else 0)<=p.1
   split
   .have e:=(Zh.1 a).1
    match j with
    | 0=>rw[zBA9]at a;rw[getD_some a];exact Zi _
    | j+1=>exact Nat.le_of_lt (pO h1 j _ _ _ (get_lt l zo) a)
   omega
  unfold wR;rw[if_pos (show (gI l i).level=0 from rfl)]
  grind
theorem Am(l:LJ):yZ l=(List.range (max 1 ((l.length+17)/18))).map (gI l):=by
 unfold yZ
 split
 .rename_i h;subst h;rfl
 .rename_i h;have:0<l.length:=zAI9.2 h;rw[oD,Nat.max_eq_right zo]
theorem iB(l:LJ):(yZ l).length=max 1 ((l.length+17)/18):=by rw[Am];simp
theorem aZ{n:Nat}{f:Nat->zi}{x:zi}(h:((List.range n).map f)[i]?=some x):i<n/\x=f i:=by grind
theorem Uc(h:kC l=true):B9 0 (yZ l)/\wU (yZ l)=l:=by
 have k:=(D9 l).1 h;obtain⟨h1,h2,h3⟩:=k;rw[Am];have f:∀i,i<max 1 ((l.length+17)/18)->18*i<l.length\/i=0:=fun i b=>by omega
 have e:∀(i:Nat) (n m:zi),((List.range (max 1 ((l.length+17)/18))).map (gI l))[i]?=some n->((List.range (max 1 ((l.length+17)/18))).map (gI l))[i+1]?=some m->∀p∈n.pairs,p.1<m.low:=by
  intro i n m a c p o;obtain⟨b,rfl⟩:=aZ a;obtain⟨d,rfl⟩:=aZ c;obtain⟨j,q,d⟩:=DN o;show p.1<(if 0<i+1 then(l.getD (18*(i+1)) (0,0)).1 else 0);rw[if_pos (zAN9 _)];exact pO h1 (17-j) _ _ _ d (by rw[show 18*i+j+(17-j)+1=18*(i+1) by omega];grind)
 refine⟨⟨?_,?_,?_,?_,e⟩,?_⟩
 .simp_all
 .intro n a;obtain⟨i,b,rfl⟩:=Zu.1 a;exact⟨T7 h i (f i (zAL9.1 b)),rfl,rfl⟩
 .intro n a;obtain⟨_,rfl⟩:=aZ a;rfl
 .intro i n m a c;obtain⟨b,rfl⟩:=aZ a;obtain⟨d,rfl⟩:=aZ c;show (if 0<i then(l.getD (18*i) (0,0)).1 else 0)<(if 0<i+1 then(l.getD (18*(i+1)) (0,0)).1 else 0);rw[if_pos (zAN9 _)];have g:18*(i+1)<l.length:=zo
  split
  .exact pO h1 17 _ _ _ (get_lt l zo) (get_lt l g)
  .exact zEN9 (Zn _) ((bn l).1 h1 (18*(i+1)-1) _ _ (get_lt l zo) (by grind))
 .rw[Ao _ e,List.flatMap_map];have:=CM 18 l (max 1 ((l.length+17)/18));rw[ZO zo]at this;refine Eq.trans ?_ this;rw[List.flatMap_def];rfl
theorem F7(ks:LJ)(i:Nat)(hi:19*i<ks.length):(ks.drop (19*i)).take 19=ks.getD (19*i) (0,0)::((ks.drop (19*i)).take 19).drop 1:=by
 have a:ks.drop (19*i)=ks[19*i]::ks.drop (19*i+1):=Zs hi
 grind
theorem Oo(hi:19*i<ks.length):wL (mR lv ks i)=(ks.drop (19*i)).take 19:=by
 rw[F7 ks i hi];rfl
theorem On(h1:1<=lv/\lv<=12)(hr:wh ks=true)(hn:(ks.map Prod.snd).Nodup)(hb:∀x∈ks,1<=x.2/\x.2<2048)(i:Nat)(hi:19*i<ks.length):uM (mR lv ks i):=by
 have g:=F7 ks i hi;have e:wh ((ks.drop (19*i)).take 19)=true:=EO (lX hr _) _;have b:=J2 hn (19*i) 19;rw[g]at b;rw[Z3,zBM9]at b;have h:∀p∈(mR lv ks i).pairs,p∈(ks.drop (19*i)).take 19:=fun p a=>ZQ a;have f:∀p∈(ks.drop (19*i)).take 19,1<=p.2/\p.2<2048:=fun p a=>hb p (ZQ (ZU a));refine⟨h1.2,show 0<2048 by decide,Zn _,?_,?_,?_,fun p a=>?_,.inr ⟨h1.1,?_⟩⟩
 .show (((ks.drop (19*i)).take 19).drop 1).length<=27
  grind
 .exact lX e 1
 .rw[nv];refine⟨b.2,fun p a c=>?_⟩;have c:p.2=(ks.getD (19*i) (0,0)).2:=ZI.1 c;exact b.1 (Zu.2 ⟨p,a,c⟩)
 .unfold wR;rw[if_neg (show ¬(mR lv ks i).level=0 from by show ¬lv=0;omega),Zm,nS,decide_eq_true_eq];refine⟨f p (h p a),?_⟩;obtain⟨j,d⟩:=Z8.1 a;have d:(((ks.drop (19*i)).take 19).drop 1)[j]?=some p:=d;rw[zAA9]at d;exact pO e j 0 _ p (by grind) (by grind)
 .rw[nS];exact hb _ (Zj (get_lt ks hi))
theorem dY(lv:Nat)(ks:LJ):(xx lv ks).length=(ks.length+18)/19:=by unfold xx;rw[ZB,List.length_range,oD]
theorem F6(h1:1<=lv/\lv<=12)(hne:ks ≠ [])(hr:wh ks=true)(h0:(ks.getD 0 (0,0)).1=0)(hn:(ks.map Prod.snd).Nodup)(hb:∀x∈ks,1<=x.2/\x.2<2048):B9 lv (xx lv ks)/\(xx lv ks).flatMap wL=ks:=by
 have e:0<ks.length:=zAI9.2 hne;unfold xx;rw[oD];have b:∀i,i<(ks.length+(19-1))/19->19*i<ks.length:=fun i a=>by omega
 refine⟨⟨?_,?_,?_,?_,?_⟩,?_⟩
 .simp;omega
 .intro n hn';obtain⟨i,a,rfl⟩:=Zu.1 hn';exact⟨On h1 hr hn hb i (b i (zAL9.1 a)),rfl,rfl⟩
 .intro n hn';obtain⟨_,rfl⟩:=aZ hn';exact h0
 .intro i n m hn' hm;obtain⟨a,rfl⟩:=aZ hn';obtain⟨c,rfl⟩:=aZ hm;exact pO hr 18 _ _ _ (get_lt ks (b i a)) (get_lt ks (b _ c))
 .intro i n m hn' hm p hp;obtain⟨a,rfl⟩:=aZ hn';obtain⟨c,rfl⟩:=aZ hm;obtain⟨j,f,d⟩:=DN (ZQ (i:=1) hp);show p.1<(ks.getD (19*(i+1)) (0,0)).1;exact pO hr (18-j) _ _ _ d (by rw[show 19*i+j+(18-j)+1=19*(i+1) by omega];grind)
 .have:=CM 19 ks ((ks.length+(19-1))/19);rw[ZO zo]at this;rw[List.flatMap_map,List.flatMap_def];rw[<- this]
  congr 1
  .rw[this];refine zBP9 fun i a=>?_;exact Oo (b i (zAL9.1 a))
def aI(free:LN):Nat->LB->Nat->List vO->Option (List vO)
 | 0,_,_,_=>none
 | k+1,l,used,T=>if free.length<used+l.length then none else
  if l.length=1 then some (((free.drop used).take l.length,ud ((free.drop used).take l.length) l)::T)else
  aI free k (xx (T.length+1) ((l.map zi.low).zip ((free.drop used).take l.length))) (used+l.length) (((free.drop used).take l.length,ud ((free.drop used).take l.length) l)::T)
def bndL:Nat->Nat
 | 0=>28
 | 1=>2
 | _=>1
def dw(free:LN):Bool:=free.all (fun b=>decide (1<=b)&&decide (b<2048))&&decide free.Nodup
theorem lG(free:LN):dw free=true↔(∀b∈free,1<=b/\b<2048)/\free.Nodup:=by
 unfold dw
 grind
structure cD(p:LJ)(free:LN)(l:LB)(used:Nat)(T:List vO):Prop where
 ok:B9 T.length l
 st:match T with | []=>wU l=p|M::T'=>l.flatMap wL=uI M/\sL (M::T')
 last:∀M,T.getLast?=some M->wU M.2=p
 len:∀M∈T,M.1.length=M.2.length
 blocks:T.reverse.flatMap Prod.fst=free.take used
 used:used<=free.length
 bndL:l.length<=bndL T.length
 lvl:T.length<=2
structure B6(p:LJ)(free:LN)(T:List vO):Prop where
 st:sL T
 one:∃b n T',T=([b],[n])::T'/\n.sib=0
 last:∀M,T.getLast?=some M->wU M.2=p
 len:∀M∈T,M.1.length=M.2.length
 blocks:∃used,used<=free.length/\T.reverse.flatMap Prod.fst=free.take used
 few:T.length<=3
section
variable {p:LJ}{free:LN}(hf:dw free=true)
include hf
theorem cD.level{l:LB}{used:Nat}{T:List vO}(h:cD p free l used T)(hu:¬free.length<used+l.length) :
  ((free.drop used).take l.length).length=l.length/\fG T.length none ((free.drop used).take l.length) (ud ((free.drop used).take l.length) l)/\ud ((free.drop used).take l.length) l ≠ []/\(∀b∈(free.drop used).take l.length,1<=b/\b<2048)/\((free.drop used).take l.length).Nodup /\
  (((free.drop used).take l.length,ud ((free.drop used).take l.length) l)::T).reverse.flatMap Prod.fst=free.take (used+l.length)/\sL (((free.drop used).take l.length,ud ((free.drop used).take l.length) l)::T) /\
  (∀M,(((free.drop used).take l.length,ud ((free.drop used).take l.length) l)::T).getLast?=some M->wU M.2=p):=by
 rw[lG]at hf;have a:((free.drop used).take l.length).length=l.length:=by rw[ZC,ZX];omega
 have k:∀b∈(free.drop used).take l.length,1<=b/\b<2048:=fun b t=>hf.1 b (ZQ (ZU t));have s:((free.drop used).take l.length).Nodup:=hf.2.sublist ((zEV9 _ _).trans (zEW9 _ _));have f:fG T.length none ((free.drop used).take l.length) (ud ((free.drop used).take l.length) l) :=
  GX _ _ _ _ a k (fun n c=>⟨(h.ok.each n c).1,(h.ok.each n c).2.1⟩) (fun n c=>h.ok.low0 n c) h.ok.rise h.ok.below
 have g:=Ui a h.ok.ne;obtain⟨w,x,y⟩:=rh _ _ a;refine⟨a,f,g,k,s,?_,?_,?_⟩
 .rw[zCV9,zBC9,h.blocks,List.take_add];simp
 .have o:=h.st
  cases T with
  | nil=>exact⟨f,g⟩
  | cons M T=>exact⟨f,g,by grind,o.2⟩
 .intro M hM;have o:=h.st
  cases u:T with
  | nil =>
   subst u
   cases hM
   have v:∀(i:Nat) (n m:zi),(ud ((free.drop used).take l.length) l)[i]?=some n->(ud ((free.drop used).take l.length) l)[i+1]?=some m->∀q∈n.pairs,q.1<m.low:=by
    intro i n m c r;have j:i+1<l.length:=by have:=(Zh.1 r).1;rw[eM _ _ a]at this;exact this
    have d:=iE _ _ i _ a (Zg (show i<l.length by omega));have e:=iE _ _ (i+1) _ a (Zg j);rw[c]at d;rw[r]at e;injection d with d;injection e with e;subst d e;exact h.ok.below i (l[i]'zo) (l[i+1]'j) (Zg (show i<l.length by omega)) (Zg j)
   have d:=Ao _ v;have e:=Ao _ h.ok.below
   grind
  | cons K z =>
   refine h.last M ?_
   grind
theorem GF:∀(k:Nat) (l:LB) (used:Nat) (T T':List vO),cD p free l used T->aI free k l used T=some T'->B6 p free T'
 | 0,l,used,T,T',_,h=>by cases h
 | k+1,l,used,T,T',a,h=>by
  rw[aI]at h
  by_cases r:free.length<used+l.length
  .grind
  rw[if_neg r]at h;obtain⟨h1,h2,h3,h4,P,s,t,u⟩:=a.level hf r;have d:=a.bndL;have K:=a.lvl
  by_cases j:l.length=1
  .rw[if_pos j]at h
   cases h
   refine⟨t,?_,u,?_,⟨used+l.length,by omega,s⟩,?_⟩
   .obtain⟨n,f⟩:=zCU9.1 j;obtain⟨b,C⟩:=zCU9.1 (h1.trans j);rw[C,f];exact⟨b,{ n with sib:=0 },T,rfl,rfl⟩
   .intro M c;rcases ZD.1 c with rfl|c
    .exact h1.trans (eM _ _ h1).symm
    .exact a.len M c
   grind
  .rw[if_neg j]at h;refine GF k _ _ _ _ ?_ h;have L:0<l.length:=zAI9.2 a.ok.ne;have w:T.length<=1:=by
    rcases zAO9 T.length 2 with h|h
    .omega
    .have e:T.length=2:=zo;rw[e]at d;simp[bndL]at d;omega
   obtain⟨Q,D,R⟩:=rh _ _ h1;generalize N:(free.drop used).take l.length=bs at *
   have z:((l.map zi.low).zip bs).length=l.length:=by simp[h1]
   have O:((l.map zi.low).zip bs).map Prod.snd=bs:=List.map_snd_zip (by simp[h1]);have o:∀(i:Nat) (x:Pr),((l.map zi.low).zip bs)[i]?=some x->∃n,l[i]?=some n/\x.1=n.low:=by
    intro i x g;rw[zBN9]at g
    grind
   have A:(((l.map zi.low).zip bs).getD 0 (0,0)).1=0:=by
    obtain⟨n,f,e⟩:=o 0 _ (get_lt _ zo);rw[e];exact a.ok.low0 n f
   have B:wh ((l.map zi.low).zip bs)=true:=by
    rw[bn];intro i x y g G;obtain⟨n,f,e⟩:=o i x g;obtain⟨m,I,J⟩:=o _ y G;rw[e,J];exact a.ok.rise i n m f I
   have q:=F6 (lv:=T.length+1) (ks:=(l.map zi.low).zip bs) ⟨by omega,by omega⟩ (by grind) B A (by grind) (fun x g=>h4 x.2 (zCH9 g).2);refine⟨q.1,⟨?_,t⟩,u,?_,s,by omega,?_,by grind⟩
   .rw[q.2];unfold uI;rw[D]
   .intro M c;rcases ZD.1 c with rfl|c
    .grind
    .exact a.len M c
   .rw[dY,z];show _<=bndL (T.length+1)
    match v:T.length,w with
    | 0,_=>rw[v]at d;simp[bndL]at d⊢;omega
    | 1,_=>rw[v]at d;simp[bndL]at d⊢;omega
end
theorem Gn{p:LJ}(free:LN)(hp:kC p=true)(hl:p.length<=500):cD p free (yZ p) 0 []:=by
 have h:=Uc hp;refine⟨h.1,h.2,fun M a=>by grind,fun M a=>by grind,rfl,Zn _,?_,Zn _⟩;rw[iB];simp[bndL];omega
def fu:Nat->Nat->Nat
 | 0,n=>n
 | k+1,n=>n+if n=1 then 0 else fu k ((n+18)/19)
def dr(n:Nat):Nat:=fu 4 (max 1 ((n+17)/18))
theorem GG(free:LN):∀(k:Nat) (l:LB) (used:Nat) (T:List vO),3<=k+T.length->1<=k->1<=l.length->l.length<=bndL T.length->(aI free k l used T=none↔free.length<used+fu k l.length)
 | 0,_,_,_,_,h,_,_=>by omega
 | k+1,l,used,T,h1,_,h3,h4=>by
  rw[aI,fu]
  by_cases f:free.length<used+l.length
  .grind
  rw[if_neg f]
  by_cases b:l.length=1
  .grind
  rw[if_neg b,if_neg b];have d:T.length<=1:=by
   rcases zAO9 T.length 2 with h|h
   .omega
   .obtain⟨m,e⟩:∃m,T.length=m+2:=⟨T.length-2,by omega⟩
    rw[e]at h4;simp[bndL]at h4;omega
  have a:((l.map zi.low).zip ((free.drop used).take l.length)).length=l.length:=by simp;omega
  rw[GG free k _ _ _ (by grind) zo (by rw[dY,a];omega) ?_,dY,a]
  .omega
  .rw[dY,a];show _<=bndL (T.length+1)
   match c:T.length,d with
   | 0,_=>rw[c]at h4;simp[bndL]at h4⊢;omega
   | 1,_=>rw[c]at h4;simp[bndL]at h4⊢;omega
def aJ(p:LJ)(free:LN):Option (List vO):=aI free 4 (yZ p) 0 []
variable {free:LN}{p:LJ}
theorem GQ(hl:p.length<=500):aJ p free=none↔free.length<dr p.length:=by
 unfold aJ dr;rw[GG free 4 _ _ _ zy zy (by rw[iB];omega) (by rw[iB];simp[bndL];omega),iB,ZT]
theorem GR{T:List vO}(hp:kC p=true)(hf:dw free=true)(hl:p.length<=500)(h:aJ p free=some T):B6 p free T:=GF hf 4 _ _ _ _ (Gn free hp hl) h
def pC(n:zi)(z:Option zi):Bool:=match n.pairs.getLast?,z with
 | some p,some m=>decide (p.1<m.low)
 | _,_=>true
def xl(w:LN):LN->LB->Bool
 | b::bs,n::ns=>decide (wd (zc w b)=0)&&pC n ns.head? && xl w bs ns
 | _,_=>true
def yA(w:LN):List vO->Bool
 | []=>true
 | [L]=>xl w L.1 L.2
 | L::M::T=>xl w L.1 L.2&&decide (L.2.flatMap wL=uI M)&&yA w (M::T)
def Fi:List vO->Bool
 | (_,n::_)::_=>decide (n.sib=0)
 | _=>false
def kH(w:LN)(T:List vO):Bool:=Fi T&&yA w T
def rU(T:List vO):Nat:=match T with
 | L::_=>L.1.headD 0
 | []=>0
theorem eF{l:LN}(h:headB l=true):(headN l).level<=12/\(headN l).sib<2048/\(headN l).way<=2:=by
 unfold headB at h;rw[Zm,ZN]at h;have a:=h.2 0 zy;have h1:=h.2 1 zy;have h4:=h.2 4 zy;rw[uO,Zm,decide_eq_true_eq,decide_eq_true_eq]at a;rw[uO,decide_eq_true_eq]at h1;have h4:decide (l.getD 4 0<=2)=true:=h4;rw[decide_eq_true_eq]at h4;refine⟨?_,h1,h4⟩;have:(headN l).level=pM (l.getD 0 0):=by unfold headN;rfl
 rw[this,Ax];omega
theorem IK{ns ms:LB}(h:ns ≠ []):(ns++ms).head?=ns.head?:=by
 cases ns with
 | nil=>grind
 | cons a l=>rfl
theorem yM(l:LN):(headN l).pairs.length<=28:=by unfold headN;exact cn _ _
structure gV(w:LN)(bs:LN)(ns:LB):Prop where
 is:ns=bs.map fun b=>headN (zc w b)
 each:∀b∈bs,b<w.length/64/\headB (zc w b)=true
 same:∀n∈ns,∀z,ns.head?=some z->n.level=z.level
variable {bs:LN}{ns:LB}{w:LN}
theorem gV.len(h:gV w bs ns):bs.length=ns.length:=by rw[h.is,ZB]
theorem gV.node(h:gV w bs ns){n:zi}(hn:n∈ns):n.pairs.length<=28/\n.level<=12/\n.sib<2048:=by
 rw[h.is]at hn;obtain⟨b,a,rfl⟩:=Zu.1 hn;have:=eF (h.each b a).2;exact⟨yM _,this.1,this.2.1⟩
theorem gV.nil(w:LN):gV w [] []:=⟨rfl,fun b c=>by grind,fun n a=>by simp at a⟩
theorem rS{lv:Int}{N:Nat}:∀(k:Nat) (seen bs:LN) (ns:LB) (b:Nat) (r:LN×LN×LB),uP w lv k seen bs ns b=some r->gV w bs ns->(∀n,ns.head?=some n->lv<0\/(n.level:Int)=lv)->bs.length+k<=N->gV w r.2.1 r.2.2/\(∀n,r.2.2.head?=some n->lv<0\/(n.level:Int)=lv)/\r.2.1.length<=N
 | 0,seen,bs,ns,b,r,h,g,m,o=>by
  rw[uP]at h
  grind
 | k+1,seen,bs,ns,b,r,h,g,m,o=>by
  rw[uP]at h
  split at h
  .grind
  .split at h
   .cases h
   .rename_i hb
    split at h
    .rename_i hg;rw[Zm]at hg;have p:b<w.length/64:=by grind
     refine rS k _ _ _ _ r h ⟨by rw[g.is];simp,fun c i=>?_,fun n a z l=>?_⟩ (fun n a=>?_) (by grind)
     .rcases ZW.1 i with i|i
      .exact g.each c i
      grind
     .have f:=hg.2;unfold uE at f
      cases d:ns.getLast? with
      | none =>
       simp_all
      | some y =>
       rw[d]at f;simp only[Zm,decide_eq_true_eq]at f;have j:ns ≠ []:=by intro e;rw[e]at d;simp at d
       rw[IK j]at l;rcases ZW.1 a with a|a
       .exact g.same n a z l
       .simp at a;rw[a,f.2];exact g.same y (List.mem_of_getLast? d) z l
     .have f:=hg.2;unfold uE at f
      cases d:ns.getLast? with
      | none =>
       simp_all
      | some y =>
       have j:ns ≠ []:=by intro e;rw[e]at d;simp at d
       rw[IK j]at a
       grind
    grind
structure gU(w:LN)(L:vO):Prop where
 lv:gV w L.1 L.2
 ne:L.2 ≠ []
 few:L.2.length<=2048
def bK(L:vO):Prop:=∀n∈L.2,0<n.level
theorem Bu(hw:w.length<=131072):∀(d:Nat) (seen:LN) (acc:List vO) (b:Nat) (lv:Int),(∀L∈acc,gU w L/\bK L) ->
  (∀L∈(yg w d seen acc b lv).1,gU w L)/\(∀L∈(yg w d seen acc b lv).1.dropLast,bK L)/\((yg w d seen acc b lv).2=true->(yg w d seen acc b lv).1 ≠ []/\∀M,(yg w d seen acc b lv).1.getLast?=some M->wh (wU M.2)=true)
 | 0,seen,acc,b,lv,h=>⟨fun L a=>(h L a).1,fun L a=>(h L (zEB9 _ a)).2,fun e=>by cases e⟩
 | d+1,seen,acc,b,lv,h=>by
  rw[yg]
  cases g:uP w lv (w.length/64) seen [] [] b with
  | none=>exact⟨fun L a=>(h L a).1,fun L a=>(h L (zEB9 _ a)).2,fun e=>by cases e⟩
  | some r =>
   obtain⟨k,bs,ns⟩:=r;obtain⟨c,l,i⟩:=rS (N:=2048) _ _ _ _ _ _ g (gV.nil w) (fun n o=>by grind) (by grind)
   cases ns with
   | nil=>exact⟨fun L a=>(h L a).1,fun L a=>(h L (zEB9 _ a)).2,fun e=>by cases e⟩
   | cons n ns =>
    have f:gU w (bs,n::ns):=⟨c,by simp,by rw[<- c.len];exact i⟩
    simp only
    split
    .refine⟨fun L a=>?_,fun L a=>?_,fun e=>⟨by simp,fun M p=>?_⟩⟩
     .rcases ZW.1 a with a|a
      .exact(h L a).1
      .simp at a;subst a;exact f
     .rw[zBY9]at a;exact(h L a).2
     grind
    .rename_i hlv;refine Bu hw d _ _ _ _ fun L a=>?_;rcases ZW.1 a with a|a
     .grind
     .simp at a;subst a;exact⟨f,fun m j=>by have:=c.same m j n rfl;omega⟩
theorem iC:∀(L:LB),(∀n∈L,n.pairs.length<=28)->(wU L).length<=28*L.length
 | [],_=>Zn _
 | n::L,h=>by
  have h1:=iC L fun m a=>h m (Zo _ a);have h2:=h n (Zr ..);have h3:=List.length_filter_le (pA L.head?) n.pairs;rw[wU,Zl,Zp];omega
theorem cD.next{p:LJ}{free:LN}(hf:dw free=true){l:LB}{used:Nat}{T:List vO}(hi:cD p free l used T)(hu:¬free.length<used+l.length)(ho:¬l.length=1) :
  cD p free (xx (T.length+1) ((l.map zi.low).zip ((free.drop used).take l.length))) (used+l.length) (((free.drop used).take l.length,ud ((free.drop used).take l.length) l)::T):=by
 obtain⟨h1,h2,h3,h4,t,u,v,w⟩:=hi.level hf hu;have a:=hi.bndL;have D:=hi.lvl;have G:0<l.length:=zAI9.2 hi.ok.ne;have o:T.length<=1:=by
  rcases zAO9 T.length 2 with h|h
  .omega
  .have e:T.length=2:=zo;rw[e]at a;simp[Fv.bndL]at a;omega
 obtain⟨J,z,K⟩:=rh _ _ h1;generalize I:(free.drop used).take l.length=bs at *
 have c:((l.map zi.low).zip bs).length=l.length:=by simp[h1]
 have q:((l.map zi.low).zip bs).map Prod.snd=bs:=List.map_snd_zip (by simp[h1]);have d:∀(i:Nat) (x:Pr),((l.map zi.low).zip bs)[i]?=some x->∃n,l[i]?=some n/\x.1=n.low:=by
  intro i x b;rw[zBN9]at b
  grind
 have r:(((l.map zi.low).zip bs).getD 0 (0,0)).1=0:=by
  obtain⟨n,f,e⟩:=d 0 _ (get_lt _ zo);rw[e];exact hi.ok.low0 n f
 have s:wh ((l.map zi.low).zip bs)=true:=by
  rw[bn];intro i x y b A;obtain⟨n,f,e⟩:=d i x b;obtain⟨m,B,C⟩:=d _ y A;rw[e,C];exact hi.ok.rise i n m f B
 have j:=F6 (lv:=T.length+1) (ks:=(l.map zi.low).zip bs) ⟨by omega,by omega⟩ (by intro e;rw[e]at c;simp at c;omega) s r (by rw[q];exact t) (fun x b=>h4 x.2 (zCH9 b).2);refine⟨j.1,⟨?_,v⟩,w,?_,u,by omega,?_,by simp;omega⟩
 .rw[j.2];unfold uI;rw[z]
 .intro M g;rcases ZD.1 g with rfl|g
  .grind
  .exact hi.len M g
 .rw[dY,c];show _<=Fv.bndL (T.length+1)
  match k:T.length,o with
  | 0,_=>rw[k]at a;simp[Fv.bndL]at a⊢;omega
  | 1,_=>rw[k]at a;simp[Fv.bndL]at a⊢;omega
def me(r:Nat)(b:LN):Nat:=b.foldl bO r
def mI(l:LN):Nat:=18446744073709551615-me 18446744073709551615 (uS l)
def uu(b d:Nat):LQ:=[iv 48,iv 8,iv 64,iv b,uv 3,uv 5,iv 9,iv 11,iv 27,iv d]
@[reducible] def wc (b d:Nat):PV:=.agg (uu b d)
structure xw where
 ino:Nat
 name:LN
@[reducible] def pc (r:xw):PV:=.agg [iv r.ino,.str r.name]
def xp(r:xw):Bool:=decide (1<=r.ino)&&decide (r.ino<=256)&&decide (wC r.name=0)
def yU(r:xw):LN:=(r.ino+65536*r.name.length)::uU r.name++List.replicate (15-(r.name.length+7)/8) 0
def gQ(w:LN):Option xw :=
 let r:xw:=⟨w.getD 0 0%65536,(uS (w.drop 1)).take (w.getD 0 0/65536%256)⟩
 if w.getD 0 0/65536%256<=120/\xp r=true/\yU r=w then some r else none
def yr(b:Nat)(name:LN):Nat:=pH 3 5 name/2 ^ (64-b)%2 ^ b
structure ub where
 key:Nat
 num:Nat
 ino:Nat
 name:LN
 deriving DecidableEq
@[reducible] def ut (x:ub):PV:=.agg [uv x.key,iv x.num,iv x.ino,.str x.name]
@[reducible] def esv (p:Nat) (l:List ub):PV:=.list p 4 (l.map ut)
def kl(w:LN)(n:Nat):LN:=(w.drop (704+16*(n-1))).take 16
def gu(w:LN)(b:Nat)(p:Pr):Option ub :=
 if 1<=p.2/\p.2<=64 then match gQ (kl w p.2)with
  | some r=>if yr b r.name=p.1/65536 then some ⟨p.1,p.2,r.ino,r.name⟩else none
  | none=>none
 else none
def cR(acc:List ub)(x:ub):Bool:=acc.any fun y=>decide (y.name=x.name)||decide (y.num=x.num)
def kc(w:LN)(b:Nat):List ub->LJ->Option (List ub)
 | acc,[]=>some acc
 | acc,p::l=>match gu w b p with
  | some x=>if cR acc x=true then none else kc w b (acc++[x]) l
  | none=>none


def bi(p:Nat)(w:LN)(mo:za)(vs:LQ)(G:LP):LP :=
 .row 26 1 0 0 [wv p w]::.row 192 1 0 0 [.sl 5 vs.length 0 vs.length (2*vs.length) 2]::mo::.row 209 1 0 0 [.map 2]::.row 323 1 0 0 [.fn 224 [.ptr 0 0 0 0 1,.ptr 3 0 0 0 1,.ptr 1 0 0 0 1,.ptr 4 0 0 0 1]]::.row 195 2 vs.length 0 vs::G
def sJ(mo:za)(seen:LN):Prop:=(mo=.map0/\seen=[])\/∃mm:Int->LO,mo=.mapI .u64 mm/\∀q:Nat,mm q=if seen.contains q=true then some (iv 1)else none
theorem Ta{α:Type}(G l:List α)(x y z:α):(G++x::y::z::l)[G.length+2]?=some z:=by grind
def sD(H:LP)(v:PV)(l:vO):Prop:=∃i j:Nat,v=.agg [.sl (i+6) l.1.length 0 l.1.length (2*l.1.length) 1,.sl (j+6) l.2.length 0 l.2.length (2*l.2.length) 6] /\
 H[i]?=some (.row 3 1 l.1.length 0 (l.1.map fun(b:Nat)=>iv (b:Int)))/\H[j]?=some (.row 143 6 l.2.length 0 (l.2.map (vl 0)))
def nH(H:LP)(vs:LQ)(ls:List vO):Prop:=vs.length=ls.length/\∀(k:Nat) (v:PV) (l:vO),vs[k]?=some v->ls[k]?=some l->sD H v l
variable {G':LP}{acc:List vO}{b d:Nat}{ls:List vO}{lv:Int}{mo2:za}{p:Nat}{seen:LN}{vs:LQ}{α:Type}(G:List α)(n:Nat)(G2:List α)
def KU(b:Nat)(lv:Int):LQ:=[uv b,iv lv,.ptr 0 0 0 0 1,.ptr 3 0 0 0 1,.ptr 1 0 0 0 1,.ptr 4 0 0 0 1]
def eN(p:Nat)(w:LN)(mo2:za)(vs:LQ)(G:LP)(bs:LN)(ns:LB)(G2:LP):LP :=
 .row 26 1 0 0 [wv p w]::.row 192 1 0 0 [.sl 5 vs.length 0 vs.length (2*vs.length) 2]::mo2::.row 209 1 0 0 [.map 2]::.row 323 1 0 0 [.fn 224 [.ptr 0 0 0 0 1,.ptr 3 0 0 0 1,.ptr 1 0 0 0 1,.ptr 4 0 0 0 1]]::.row 195 2 vs.length 0 vs ::
   (G++.row 195 2 0 0 [.agg [.sl (G.length+7) bs.length 0 bs.length (2*bs.length) 1,.sl (G.length+8) ns.length 0 ns.length (2*ns.length) 6]]::.row 3 1 bs.length 0 (bs.map fun(b:Nat)=>iv (b:Int))::.row 143 6 ns.length 0 (ns.map (vl 0))::G2)
theorem sD.mono{G:LP}{v:PV}{l:vO}(h:sD G v l):sD (G++G') v l:=by
 obtain⟨i,j,h1,h2,h3⟩:=h;exact⟨i,j,h1,by grind,by grind⟩
theorem nH.mono{G:LP}(h:nH G vs ls):nH (G++G') vs ls:=⟨h.1,fun k v l a b=>(h.2 k v l a b).mono⟩
theorem nH.snoc{G:LP}(h:nH G vs ls)(r:za)(bs:LN)(ns:LB)(X:LP)(k:Nat)(hk:k=ns.length):nH (G++r::.row 3 1 bs.length 0 (bs.map fun(b:Nat)=>iv (b:Int))::.row 143 6 k 0 (ns.map (vl 0))::X) (vs++[.agg [.sl (G.length+7) bs.length 0 bs.length (2*bs.length) 1,.sl (G.length+8) k 0 k (2*k) 6]]) (ls++[(bs,ns)]):=by
 subst hk;refine⟨by simp[h.1],fun q v l c d=>?_⟩;rcases zAO9 q vs.length with a|a
 .rw[ZM a]at c;rw[ZM (by rw[<- h.1];exact a)]at d;exact(h.2 q v l c d).mono
 .rw[ZH a]at c;rw[ZH (by rw[<- h.1];exact a)]at d;obtain rfl:=ZI.1 (Zj c);obtain rfl:=ZI.1 (Zj d);exact⟨G.length+1,G.length+2,rfl,xB G _ _ _,Ta G _ _ _ _⟩
def sI(p:Nat)(w:LN)(r:List vO×Bool)(e:FE)(H':LP):Prop:=e=.ret (.bool r.2)/\∃mo' vs' G',H'=bi p w mo' vs' G'/\nH G' vs' r.1
theorem KY(hd:(0<=lv/\lv+1<=d)\/14<=d)(h:uP w lv (w.length/64) seen [] [] b=none):yg w d seen acc b lv=(acc,false):=by
 match d,hd with
 | 0,hd=>omega
 | d+1,_=>rw[yg,h]
theorem QU{G:LP}{bs:LN}{ns:LB}{G2:LP}(hd:(0<=lv/\lv+1<=d)\/14<=d)(h:uP w lv (w.length/64) seen [] [] b=none)(hv:nH G vs acc):sI p w (yg w d seen acc b lv) (.ret (.bool false)) (eN p w mo2 vs G bs ns G2):=by
 rw[KY hd h];exact⟨rfl,mo2,vs,_,rfl,hv.mono⟩
theorem HJ{G:LP}(hd:(0<=lv/\lv+1<=d)\/14<=d)(h:uP w lv (w.length/64) seen [] [] b=none)(hv:nH G vs acc):sI p w (yg w d seen acc b lv) (.ret (.bool false)) (bi p w mo2 vs G):=by
 rw[KY hd h];exact⟨rfl,mo2,vs,_,rfl,hv⟩
theorem y9:(n==n+1)=false:=by simp
theorem xj:(n+1==n)=false:=by simp
theorem xk:(n==n+1+1)=false:=by grind
theorem xa:(n+1+1==n)=false:=by grind
theorem iI:(n+6==n+7)=false:=by simp
theorem iJ:(n+7==n+6)=false:=by simp
theorem iK:(n+6==n+8)=false:=by simp
theorem iL:(n+8==n+6)=false:=by simp
theorem iM:(n+7==n+8)=false:=by simp
theorem iN:(n+8==n+7)=false:=by simp
theorem iT(a b c:α):((G++a::b::c::G2).length==G.length)=false:=by grind
theorem lg(a b c:α):(G.length==(G++a::b::c::G2).length)=false:=by grind
theorem iU(a b c x0:α):((G++a::b::c::G2++[x0]).length==G.length)=false:=by grind
theorem lh(a b c x0:α):(G.length==(G++a::b::c::G2++[x0]).length)=false:=by grind
theorem iV(a b c x0 x1:α):((G++a::b::c::G2++[x0]++[x1]).length==G.length)=false:=by grind
theorem li(a b c x0 x1:α):(G.length==(G++a::b::c::G2++[x0]++[x1]).length)=false:=by grind
theorem iX(a b c x0 x1 x2:α):((G++a::b::c::G2++[x0]++[x1]++[x2]).length==G.length)=false:=by grind
theorem lj(a b c x0 x1 x2:α):(G.length==(G++a::b::c::G2++[x0]++[x1]++[x2]).length)=false:=by grind
theorem iY(a b c:α):((G++a::b::c::G2).length==G.length+1)=false:=by grind
theorem lm(a b c:α):(G.length+1==(G++a::b::c::G2).length)=false:=by grind
theorem iZ(a b c x0:α):((G++a::b::c::G2++[x0]).length==G.length+1)=false:=by grind
theorem lp(a b c x0:α):(G.length+1==(G++a::b::c::G2++[x0]).length)=false:=by grind
theorem i6(a b c x0 x1:α):((G++a::b::c::G2++[x0]++[x1]).length==G.length+1)=false:=by grind
theorem lq(a b c x0 x1:α):(G.length+1==(G++a::b::c::G2++[x0]++[x1]).length)=false:=by grind
theorem i7(a b c x0 x1 x2:α):((G++a::b::c::G2++[x0]++[x1]++[x2]).length==G.length+1)=false:=by grind
theorem lu(a b c x0 x1 x2:α):(G.length+1==(G++a::b::c::G2++[x0]++[x1]++[x2]).length)=false:=by grind
theorem i9(a b c:α):((G++a::b::c::G2).length==G.length+2)=false:=by grind
theorem lw(a b c:α):(G.length+2==(G++a::b::c::G2).length)=false:=by grind
theorem la(a b c x0:α):((G++a::b::c::G2++[x0]).length==G.length+2)=false:=by grind
theorem lx(a b c x0:α):(G.length+2==(G++a::b::c::G2++[x0]).length)=false:=by grind
theorem lc(a b c x0 x1:α):((G++a::b::c::G2++[x0]++[x1]).length==G.length+2)=false:=by grind
theorem ly(a b c x0 x1:α):(G.length+2==(G++a::b::c::G2++[x0]++[x1]).length)=false:=by grind
theorem ld(a b c x0 x1 x2:α):((G++a::b::c::G2++[x0]++[x1]++[x2]).length==G.length+2)=false:=by grind
theorem lA(a b c x0 x1 x2:α):(G.length+2==(G++a::b::c::G2++[x0]++[x1]++[x2]).length)=false:=by grind
theorem ip(a b b' c p q z:α):(G++a::b'::c::G2++[p]++[q]++[z])[(G++a::b::c::G2++[p]++[q]).length]?=some z:=by simp_all
theorem iO:(n+1==n+2)=false:=by simp
theorem iQ:(n+2==n+1)=false:=by simp
theorem iR:(n==n+2)=false:=by simp
theorem iS:(n+2==n)=false:=by simp
section
variable {α:Type}(G l m n o:List α)(x y z u:α)
theorem eD:(G++x::l++m++n++o)[G.length]?=some x:=by grind
theorem bW:(G++x::y::l++m++n++o)[G.length+1]?=some y:=by simp_all
theorem eL:(G++x::y::z::l++m++n++o)[G.length+2]?=some z:=by simp_all
theorem fq:(G++x::l++m++n++o).set G.length u=G++u::l++m++n++o:=by grind
theorem nD:(G++x::y::l++m++n++o).set (G.length+1) u=G++x::u::l++m++n++o:=by simp_all
theorem fy:(G++x::y::z::l++m++n++o).set (G.length+2) u=G++x::y::u::l++m++n++o:=by simp_all
theorem de:(G++x::y::z::l)[G.length+2]?=some z:=by grind
theorem dg:(G++x::y::z::l++m)[G.length+2]?=some z:=by simp_all
theorem aX:(G++x::y::z::l++m++n)[G.length+2]?=some z:=by simp_all
end
variable {T:List vO}(p:Nat)(w:LN)(a:Int)
def zyD:=And.intro (@pz za) (And.intro (@mh za) (And.intro (@mi za) (And.intro (@eD za) (And.intro (@xB za) (And.intro (@ye za) (And.intro (@yz za) (And.intro (@bW za) (And.intro (@de za) (And.intro (@dg za) (And.intro (@aX za) (And.intro (@eL za) (And.intro (@Mm za) (And.intro (@X5 za) (And.intro (@X6 za) (And.intro (@fq za) (And.intro (@MU za) (And.intro (@ar za) (And.intro (@yW za) (And.intro (@nD za) (@fy za))))))))))))))))))))
theorem eu{l:LN}:∀v∈(l.map fun(b:Nat)=>iv (b:Int)).flatMap PV.cells,vg v:=fun v a=>by
 obtain⟨x,c,a⟩:=ZF.1 a;obtain⟨n,_,rfl⟩:=Zu.1 c;simp[PV.cells]at a;subst a;exact .int _ _
theorem WV(hw:64<=w.length/\w.length<=131072/\w.length%64=0):∀(d:Nat) (seen:LN) (acc:List vO) (b:Nat) (lv:Int) (mo:za) (vs:LQ) (G:LP) (hd:(0<=lv/\lv+1<=d)\/14<=d) (hs:sJ mo seen) (hv:nH G vs acc) (hva:acc.length+d<=100),
  FO ET 224 (KU b lv) (bi p w mo vs G) false (sI p w (yg w d seen acc b lv)):=by
 intro d
 induction d with
 | zero=>intro seen acc b lv mo vs G hd;omega
 | succ d ih =>
 intro seen acc b lv mo vs G hd hs hv hva;refine wS (eG T224 func224) ?_;unfold KU bi;refine zG ?_;refine cL 3 1 (id:=G.length+6) (v:=.agg [.nilsl,.nilsl]) (v':=.agg [.sl (G.length+7) 0 0 0 0 1,.nilsl]) (e0:=195) (z0:=2) (G:=0) (M:=0) (by simp_all) rfl (fun k x y i o=>?_) ?_
 .match k with
  | 0=>injection i with i;injection o with o;subst i o;exact .inr ⟨rfl,by simp[uF]⟩
  | 1=>injection i with i;injection o with o;grind
  | k+2=>simp[PV.cells]at i
 simp only[zAJ9,zg,Zv,ZK,ZA];refine cL 143 6 (id:=G.length+6) (v:=.agg [.sl (G.length+7) 0 0 0 0 1,.nilsl]) (v':=.agg [.sl (G.length+7) 0 0 0 0 1,.sl (G.length+8) 0 0 0 0 6]) (e0:=195) (z0:=2) (G:=0) (M:=0) (by simp_all) rfl (fun k x y i o=>?_) ?_
 .match k with
  | 0=>injection i with i;injection o with o;grind
  | 1=>injection i with i;injection o with o;subst i o;exact .inr ⟨rfl,by simp[uF]⟩
  | k+2=>simp[PV.cells]at i
 simp only[zAJ9,Mm,Zv,ZK,ZA];have b3:w.length/64<=2048:=zo;refine vm (vy (fun m s=>∃(k:Nat) (seen2:LN) (bs:LN) (ns:LB) (b2:Nat) (mo2:za) (G2:LP),m=k/\pU (w.length/64) seen2<=k/\uP w lv (w.length/64) seen [] [] b=uP w lv k seen2 bs ns b2/\bs.length=ns.length/\bs.length+k<=2048/\sJ mo2 seen2/\s.tm 0=uv b2/\s.tm 1=iv lv/\s.tm 2=.ptr 0 0 0 0 1/\s.tm 3=.ptr 3 0 0 0 1/\s.tm 4=.ptr 1 0 0 0 1/\s.tm 5=.ptr 4 0 0 0 1/\s.tm 9=.ptr (G.length+6) 0 0 0 2/\s.df=[] /\
  s.H=eN p w mo2 vs G bs ns G2) (n:=w.length/64) ?_ ?_)
 .exact⟨_,seen,[],[],b,mo,[],rfl,Fk _ _,rfl,rfl,by grind,hs,zt,zt,zt,zt,zt,zt,zt,rfl,rfl⟩
 .rintro m ⟨tm,df,H⟩ ⟨k,seen2,bs,ns,b2,mo2,G2,rfl,hun,hrd,hbn,hbk,hs2,f,h1,h2,h3,h4,j,c,rfl,rfl⟩;dsimp only at *
  unfold eN;refine vu f ?_ ?_
  .intro t;have t:¬b2=0:=by simpa using t
   have U:IntKind.i64.wrap ((w.length:Int).tdiv 64)=((w.length/64:Nat):Int):=by rw[IntWalk.i64_quo _ _ zo];omega
   refine vD ?_;refine zB ?_;refine ur (Q:=fun y g=>y=.norm/\g.tm 0=uv b2/\g.tm 1=iv lv/\g.tm 2=.ptr 0 0 0 0 1/\g.tm 3=.ptr 3 0 0 0 1/\g.tm 4=.ptr 1 0 0 0 1/\g.tm 5=.ptr 4 0 0 0 1/\g.tm 9=.ptr (G.length+6) 0 0 0 2/\g.tm 38=.bool (decide (w.length/64<=b2)||seen2.contains b2)/\g.df=[]/\g.H=eN p w mo2 vs G bs ns G2) (wa ?_) ?_
   .by_cases Z:w.length/64<=b2
    .have r:((w.length/64:Nat):Int)<=b2:=zo;refine wA (vX f h2 h3 U r) ?_;exact⟨zt,f,h1,h2,h3,h4,j,c,by simp[zb,Z],rfl,rfl⟩
    .have r:¬((w.length/64:Nat):Int)<=b2:=zo;rcases hs2 with⟨rfl,rfl⟩|⟨mm,rfl,ab⟩
     .refine wA (vX f h2 h3 U r) ?_;exact⟨zt,f,h1,h2,h3,h4,j,c,by simp[zb,Z],rfl,rfl⟩
     .have u:=ab b2
      by_cases I:seen2.contains b2=true
      .rw[if_pos I]at u;refine wA (wQ f h2 h3 U r u) ?_;exact⟨zt,f,h1,h2,h3,h4,j,c,by rw[I];simp[zb],rfl,rfl⟩
      .rw[if_neg I]at u;refine wA (wQ f h2 h3 U r u) ?_;have I:seen2.contains b2=false:=by simpa using I
       exact⟨zt,f,h1,h2,h3,h4,j,c,by rw[I];simp[zb,Z],rfl,rfl⟩
   .clear f h1 h2 h3 h4 j c;rintro y ⟨tm,df,H⟩ ⟨rfl,f,h1,h2,h3,h4,j,c,ad,rfl,rfl⟩;dsimp only at *
    by_cases z:(decide (w.length/64<=b2)||seen2.contains b2)=true
    .refine pY ad ?_ ?_
     .intro _;refine zO ?_;refine QU hd ?_ hv;rw[hrd]
      cases m with
      | zero=>rw[uP,if_neg t]
      | succ m=>rw[uP,if_neg t,if_pos z]
     .rw[z];intro h;cases h
    have z:(decide (w.length/64<=b2)||seen2.contains b2)=false:=by simpa using z
    refine pY ad ?_ ?_
    .rw[z];intro h;cases h
    intro _;refine vY ?_;have a1:b2<w.length/64:=by
     cases h:decide (w.length/64<=b2)with
     | true=>grind
     | false=>grind
    have a2:¬seen2.contains b2=true:=by intro h;rw[h,Bool.or_true]at z;cases z
    refine vq (ur (Q:=fun y g=>y=.norm/\g.tm 0=uv b2/\g.tm 1=iv lv/\g.tm 2=.ptr 0 0 0 0 1/\g.tm 3=.ptr 3 0 0 0 1/\g.tm 4=.ptr 1 0 0 0 1/\g.tm 5=.ptr 4 0 0 0 1/\g.tm 9=.ptr (G.length+6) 0 0 0 2/\g.df=[]/\∃R,sJ R (b2::seen2)/\g.H=eN p w R vs G bs ns G2) (wa ?_) ?_)
    .unfold eN;rcases hs2 with⟨rfl,rfl⟩|⟨mm,rfl,ab⟩
     .refine wA (zj f h3) ?_;refine⟨zt,f,h1,h2,h3,h4,j,c,zt,_,.inr ⟨_,rfl,fun q=>?_⟩,rfl⟩
      by_cases u:q=b2
      .grind
      .have:¬(q:Int)=b2:=zo;simp[u,this]
     .refine wA (zj f h3) ?_;refine⟨zt,f,h1,h2,h3,h4,j,c,zt,_,.inr ⟨_,rfl,fun q=>?_⟩,rfl⟩
      by_cases u:q=b2
      .subst u;simp
      .have:¬(q:Int)=b2:=zo;rw[if_neg this,ab q];simp[u]
    .clear f h1 h2 h3 h4 j c ad hs2;rintro y ⟨tm,df,H⟩ ⟨rfl,f,h1,h2,h3,h4,j,c,rfl,R,a6,rfl⟩;dsimp only at *
     unfold eN;have ye:∃V,m=V+1:=by
      cases m with
      | zero=>exact absurd (Fl _ b2 seen2 zo a1) a2
      | succ m=>exact⟨m,rfl⟩
     obtain⟨V,rfl⟩:=ye;rw[uP,if_neg t,if_neg (by rw[z];decide)]at hrd;have a7:=lF p w b2 zo zo;have J:=sF p (zc w b2) (by unfold zc;simp;omega);refine yv ?_;refine vS (zj f h2) ?_;refine fD a7 ?_
     by_cases C:headB (zc w b2)=true
     rotate_left
     .have C:headB (zc w b2)=false:=by simpa using C
      have he:xD (zc w b2)=.ret (.tuple [vl 0 kN,iv 210]):=by unfold xD;rw[if_neg (by rw[C];decide)]
      rw[he]at J;rw[C,zEE9,if_neg zy]at hrd;refine wq ?_;refine wD J ?_;refine zG ?_;refine wn ?_ ?_
      .intro _;refine zO ?_;refine HJ (G:=_) hd hrd ?_;exact hv.mono.mono
      .intro h;cases h
     obtain⟨a3,av,bw⟩:=eF C;rw[ba _ C]at J;rw[C,Z9]at hrd;generalize headN (zc w b2)=a at J hrd a3 av bw;refine wq ?_;refine wD J ?_;refine yv ?_;refine vS (vh h1 c zyD) ?_;refine mM (RB 1 0 0 bs ns a lv zo) ?_ ?_;(repeat(first|exact trivial|refine And.intro ?_ ?_|exact .int _ _|exact .bool _|exact .list _ _ _|exact .elem _|exact .nilsl|exact .nil _ _|exact .str _|refine ze.aggL ?_|refine ze.fnL ?_|refine ze.tL ?_|refine .iface ?_|exact gE rfl rfl (by assumption)))
     .exact ze.wh (e:=3) (z':=1) (G:=bs.length) (l:=bs.map fun(b:Nat)=>iv (b:Int)) (by simp only[ZJ,ye]<;>rfl) rfl (by simp) (by simp) uG eu
     .refine⟨ze.wh (e:=143) (z':=6) (G:=ns.length) (l:=ns.map (vl 0)) (by simp only[ZJ,dg]<;>rfl) rfl (by simp) (by simp) uG oR,trivial⟩
     .exact cz
     by_cases Y:uE ns a lv=true
     rotate_left
     .have Y:uE ns a lv=false:=by simpa using Y
      rw[Y]at hrd⊢;rw[if_neg zy]at hrd;refine zN ?_;refine wn ?_ ?_
      .intro _;refine zO ?_;refine HJ (G:=_) hd hrd ?_;exact hv.mono.mono
      .intro h;cases h
     rw[Y]at hrd⊢;rw[if_pos rfl]at hrd;refine zN ?_;refine uq ?_;refine vY ?_;have A:(bs.length+1)*9<=140737488355328:=zo;have B:(ns.length+1)*65<=140737488355328:=zo;refine vR ?_;refine vW (vX f c A B zyD) ?_;refine aA ?_ (by simp(disch:=omega)only[go_sem,c,iT,lg,iU,lh,iV,li,iX,lj,iY,lm,iZ,lp,i6,lq,i7,lu,i9,lw,la,lx,lc,ly,ld,lA,y9,xj,xk,xa,iO,iQ,iR,iS,iI,iJ,iK,iL,iM,iN,pz,mh,mi,xB,ye,yz,de,dg,aX,eD,bW,eL,fq,nD,fy,A,B,ip]<;>rfl) (by first|exact trivial|simp only[go_sem,c,iT,lg,iU,lh,iV,li,iX,lj,iY,lm,iZ,lp,i6,lq,i7,lu,i9,lw,la,lx,lc,ly,ld,lA,y9,xj,xk,xa,iO,iQ,iR,iS,iI,iJ,iK,iL,iM,iN,pz,mh,mi,xB,ye,yz,de,dg,aX,eD,bW,eL,fq,nD,fy,A,B,ip]);refine aA ?_ (by simp(disch:=omega)only[go_sem,c,iT,lg,iU,lh,iV,li,iX,lj,iY,lm,iZ,lp,i6,lq,i7,lu,i9,lw,la,lx,lc,ly,ld,lA,y9,xj,xk,xa,iO,iQ,iR,iS,iI,iJ,iK,iL,iM,iN,pz,mh,mi,xB,ye,yz,de,dg,aX,eD,bW,eL,fq,nD,fy,A,B,ip]<;>rfl) (by first|exact trivial|simp only[go_sem,c,iT,lg,iU,lh,iV,li,iX,lj,iY,lm,iZ,lp,i6,lq,i7,lu,i9,lw,la,lx,lc,ly,ld,lA,y9,xj,xk,xa,iO,iQ,iR,iS,iI,iJ,iK,iL,iM,iN,pz,mh,mi,xB,ye,yz,de,dg,aX,eD,bW,eL,fq,nD,fy,A,B,ip]);refine aA ?_ (by simp(disch:=omega)only[go_sem,c,iT,lg,iU,lh,iV,li,iX,lj,iY,lm,iZ,lp,i6,lq,i7,lu,i9,lw,la,lx,lc,ly,ld,lA,y9,xj,xk,xa,iO,iQ,iR,iS,iI,iJ,iK,iL,iM,iN,pz,mh,mi,xB,ye,yz,de,dg,aX,eD,bW,eL,fq,nD,fy,A,B,ip]<;>rfl) (by first|exact trivial|simp only[go_sem,c,iT,lg,iU,lh,iV,li,iX,lj,iY,lm,iZ,lp,i6,lq,i7,lu,i9,lw,la,lx,lc,ly,ld,lA,y9,xj,xk,xa,iO,iQ,iR,iS,iI,iJ,iK,iL,iM,iN,pz,mh,mi,xB,ye,yz,de,dg,aX,eD,bW,eL,fq,nD,fy,A,B,ip]);refine vj c ?_;have ah:(bs++[b2]).length=bs.length+1:=by simp
     have a4:(ns++[a]).length=ns.length+1:=by simp
     have a8:(List.map (vl 0) ns++[vl 0 a])[ns.length]?=some (vl 0 a):=by simp
     have a9:IntKind.i64.wrap ((ns.length+1:Nat)-1)=ns.length:=by rw[show ((ns.length+1:Nat):Int)-1=(ns.length:Nat) by omega];exact wrap_i64 zo zo
     have bb:ns.length<ns.length+1:=Z5 _;refine yv ?_;refine vS (vX c a8 a9 bb zyD) ?_;refine yR ?_;refine⟨V,Z5 _,V,b2::seen2,bs++[b2],ns++[a],a.sib,R,?G,rfl,?hu,hrd,by rw[ah,a4,hbn],by rw[ah];omega,a6,?f,zu h1,zu h2,zu h3,zu h4,zu j,zu c,zt,?H⟩
     case hu=>have:=Fj _ _ _ a1 a2;omega
     case f=>simp[zb]
     case H =>
      (try dsimp only);rw[ah,a4,ZG,ZG];simp only[ZK,Zv,ZA];rfl
  .intro t;have t:b2=0:=by simpa using t
   subst t;have P:uP w lv (w.length/64) seen [] [] b=some (seen2,bs,ns):=by rw[hrd];cases m<;>simp[uP]
   clear hrd;obtain⟨L,a0,_⟩:=rS (N:=2048) _ _ _ _ _ _ P (gV.nil w) (fun n O=>by simp at O) (by simp;omega);dsimp only at L a0
   cases ns with
   | nil =>
    (repeat(first|refine vq ?_|refine vC (zj c zyD) ?_));refine wn ?_ ?_
    .intro _;refine zO ?_;have:yg w (d+1) seen acc b lv=(acc,false):=by rw[yg,P]
     rw[this];exact⟨rfl,mo2,vs,_,rfl,hv.mono⟩
    .intro h;cases h
   | cons a ns =>
    have g0:¬((ns.length+1:Nat):Int)=0:=zo;(repeat(first|refine vq ?_|refine vC (vh c g0 zyD) ?_));refine uq ?_;refine vY ?_;have b4:=hv.1;have bm:(vs.length+1)*49<=140737488355328:=zo;refine zB ?_;refine vC (vz h4 c bm zyD) ?_;have bo:(List.map (vl 0) (a::ns))[0]?=some (vl 0 a):=rfl;have bp:0<ns.length+1:=zAN9 _;obtain⟨b5,a3,av⟩:=L.node (Zr ..);refine zB ?_;refine vC (vz c bo bp zyD) ?_;have hX:=fun X=>hv.snoc (.row 195 2 0 0 [.agg [.sl (G.length+7) bs.length 0 bs.length (2*bs.length) 1,.sl (G.length+8) (ns.length+1) 0 (ns.length+1) (2*(ns.length+1)) 6]]) bs (a::ns) X (ns.length+1) rfl
    by_cases a5:a.level=0
    .have r:(a.level:Int)=0:=zo;refine zB ?_;refine vC (zj r zyD) ?_;refine wn ?_ ?_
     .intro _;have b6:(a::ns).length<=2048:=by rw[<- L.len];omega
      have b7:=iC (a::ns) fun n O=>(L.node O).1;have S:yg w (d+1) seen acc b lv=(acc++[(bs,a::ns)],wh (wU (a::ns))):=by rw[yg,P];simp only;rw[if_pos a5]
      have K:=Jk 1 0 bs (a::ns) zo (fun n O=>(L.node O).1) zo;unfold nh at K
      by_cases D:wh (wU (a::ns))=true
      .rw[if_pos D]at K;refine yv ?_;refine vS (zj c zyD) ?_;refine mM K ?_ ?_;(repeat(first|exact trivial|refine And.intro ?_ ?_|exact .int _ _|exact .bool _|exact .list _ _ _|exact .elem _|exact .nilsl|exact .nil _ _|exact .str _|refine ze.aggL ?_|refine ze.fnL ?_|refine ze.tL ?_|refine .iface ?_|exact gE rfl rfl (by assumption)))
       .exact ze.wh (e:=3) (z':=1) (G:=bs.length) (l:=bs.map fun(b:Nat)=>iv (b:Int)) (by simp only[ZJ,yz]<;>rfl) rfl (by simp) (by simp) uG eu
       .exact⟨ze.wh (e:=143) (z':=6) (G:=ns.length+1) (l:=(a::ns).map (vl 0)) (by simp only[ZJ,aX]<;>rfl) rfl (by simp) (by simp) uG oR,trivial⟩
       .exact cz
       refine zN ?_;refine zO ?_;rw[S,D];refine⟨rfl,mo2,_,_,?e1,hX ?X1⟩
       case e1 =>
        unfold bi;simp only[Zl,Zp,Zz,ZT,ZK,Zv];rfl
      .rw[if_neg D]at K;have D:wh (wU (a::ns))=false:=by simpa using D
       refine yv ?_;refine vS (zj c zyD) ?_;refine mM K ?_ ?_;(repeat(first|exact trivial|refine And.intro ?_ ?_|exact .int _ _|exact .bool _|exact .list _ _ _|exact .elem _|exact .nilsl|exact .nil _ _|exact .str _|refine ze.aggL ?_|refine ze.fnL ?_|refine ze.tL ?_|refine .iface ?_|exact gE rfl rfl (by assumption)))
       .exact ze.wh (e:=3) (z':=1) (G:=bs.length) (l:=bs.map fun(b:Nat)=>iv (b:Int)) (by simp only[ZJ,yz]<;>rfl) rfl (by simp) (by simp) uG eu
       .exact⟨ze.wh (e:=143) (z':=6) (G:=ns.length+1) (l:=(a::ns).map (vl 0)) (by simp only[ZJ,aX]<;>rfl) rfl (by simp) (by simp) uG oR,trivial⟩
       .exact cz
       refine zN ?_;refine zO ?_;rw[S,D];refine⟨rfl,mo2,_,_,?e2,hX ?X2⟩
       case e2 =>
        unfold bi;simp only[Zl,Zp,Zz,ZT,ZK,Zv];rfl
     .intro h;cases h
    .have r:¬(a.level:Int)=0:=zo;refine zB ?_;refine vC (zj r zyD) ?_;refine uq ?_;refine vY ?_;have S:yg w (d+1) seen acc b lv=yg w d seen2 (acc++[(bs,a::ns)]) a.left ((a.level:Int)-1):=by rw[yg,P];simp only;rw[if_neg a5]
     have ca:=a0 a rfl;have T:=fun X=>ih seen2 (acc++[(bs,a::ns)]) a.left ((a.level:Int)-1) mo2 _ _ zo hs2 (hX X) (by simp;omega);unfold bi at T;simp only[show ∀v:PV,(vs++[v]).length=vs.length+1 from fun v=>by simp]at T;rw[<- S]at T;refine yv ?_;refine vS (zj j zyD) ?_;simp only[ZK,Zv,ZA];refine Cc (caps:=?caps) (vs:=?vs) ?r ?g2 (T ?X3) ?g3 ?g4 ?g5
     case r=>first|rfl|(simp only[qb,qo,go_sem]<;>rfl)
     case g2=>simp only[go_sem,j]<;>rfl
     case g3=>rfl
     case g4=>rfl
     rintro e H' ⟨rfl,bx,b0,G',rfl,b1⟩;refine zP ?_;exact⟨rfl,bx,b0,G',rfl,b1⟩


theorem f108:ET.funcs.get 108=some T108:=eG _ func108
@[reducible] def uV (T:List vO):PV:=.list 0 2 (T.map fun L=>wG 0 0 L.1 L.2)
theorem Lb.ivn(l:LN):Lb (.list 0 z (l.map fun(b:Nat)=>iv (b:Int))):=.list fun x a=>by
 obtain⟨y,c,a⟩:=ZF.1 a;obtain⟨n,_,rfl⟩:=Zu.1 c;simp[PV.cells]at a;subst a;exact .int _ _
theorem Lb.nodes(l:LB):Lb (.list 0 z (l.map (vl 0))):=.list fun x a=>by
 obtain⟨y,b,a⟩:=ZF.1 a;obtain⟨n,_,rfl⟩:=Zu.1 b;have:=Lb.node n
 cases this with
 | agg h=>exact h x a
theorem Ah(T:List vO):Lb (uV T):=.list fun x a=>by
 obtain⟨y,b,a⟩:=ZF.1 a;obtain⟨L,_,rfl⟩:=Zu.1 b;simp[PV.cells]at a;rcases a with rfl|rfl
 .exact Lb.ivn _
 .exact Lb.nodes _
theorem Rj{p:Nat}{w:LN}{mo:za}{vs:LQ}{G:LP}(h:nH G vs T):ze (bi p w mo vs G) 0 (.sl 5 vs.length 0 vs.length (2*vs.length) 2) (uV T):=by
 have hf:LF (bi p w mo vs G) 0 (vs.flatMap PV.cells) ((T.map fun L=>wG 0 0 L.1 L.2).flatMap PV.cells):=LF.flat h.1 fun q L a=>by
  have c:q<vs.length:=by rw[h.1];exact(Zh.1 a).1
  obtain⟨i,j,f,g,k⟩:=h.2 q _ L (Zg c) a;refine⟨_,(Zg c).trans (congrArg some f),?_,?_,trivial⟩
  .exact ze.wh (e:=3) (z':=1) (G:=L.1.length) (l:=L.1.map fun(b:Nat)=>iv (b:Int)) g rfl (by simp) (by simp) uG eu
  .exact ze.wh (e:=143) (z':=6) (G:=L.2.length) (l:=L.2.map (vl 0)) k rfl (by simp) (by simp) uG oR
 have d:(vs.drop 0).take vs.length=vs:=by rw[zCN9,ZL]
 have m:=h.1;refine .sl (e:=195) (M:=0) (G:=vs.length) (l:=vs) rfl (Zn _) (Zi _) zo (Zi _) (by simp[m]) uG ?_ ?_
 .rw[d];exact Jp hf
 .rw[d];exact fun i x y n o=>hf.get n o
theorem K3(hw:64<=w.length/\w.length<=131072/\w.length%64=0)(a:Nat)(ha:a<w.length):FR 166 [wv p w,iv a] (.tuple [uV (wg w a).1,.bool (wg w a).2]):=by
 refine zn (eG T166 func166) (Lb.two (Ah _) (.bool _)) ?_;have b:(w.map uv)[a]?=some (uv (w.getD a 0)):=by rw[Zt,Zg ha,Zq,Zg ha];rfl
 refine zG ?_;refine F1 195 2 (id:=1) rfl ?_;simp only[uF,Zp,Zz,zAJ9,zAH9,Zv,ZA];have c:=WV p w hw 14 [] [] (w.getD a 0) (-1) .map0 [] [] (.inr (Zi _)) (.inl ⟨rfl,rfl⟩) ⟨rfl,fun k v l f _=>by simp at f⟩ zy;change FO ET 224 _ _ _ (sI p w (wg w a))at c;generalize wg w a=r at c;refine vR ?_;refine cB (zj b ha) c ?_;rintro e i ⟨rfl,g,h,G',rfl,d⟩;refine⟨_,by simp only[go_sem]<;>rfl,?_⟩;refine vj b ?_;unfold bi;refine wm b ?_;exact ze.tL ⟨Rj d,.bool _,trivial⟩
def Ap(w:LN)(a:Int):FE:=if uK w.length a=true then if(wg w a.toNat).2=true then .ret (uV (wg w a.toNat).1)else .panic (wy 220)else .panic (wy 2)
theorem dC(n:Nat)(a:Int):uK n a=true↔(64<=n/\n%64=0/\n<=131072/\0<=a/\a<n):=by unfold uK;grind
theorem Jl(hs:vE w.length):FN ET 108 [wv p w,iv a] (Ap w a):=by
 have c:=M6 p w a hs;unfold Ap
 by_cases h:uK w.length a=true
 rotate_left
 .rw[if_neg h]at c⊢;refine zn f108 (.iface (.int _ _)) ?_;refine wI ?_;refine wE c ?_;(try(refine .iface ?_;exact .int _ _))
 rw[if_pos h]at c⊢;have e:=(dC _ _).1 h;obtain⟨n,rfl⟩:∃n:Nat,a=n:=⟨a.toNat,by omega⟩
 have d:=K3 p w ⟨e.1,e.2.2.1,e.2.1⟩ n zo;rw[Z4];generalize wg w n=r at d;obtain⟨T,b⟩:=r
 cases b with
 | true =>
  rw[if_pos rfl];refine zn f108 (Ah _) ?_;refine wl c ?_;refine zM d ?_;refine zM (mB 220) ?_;refine zO ?_;exact ze.list _ _ _
 | false =>
  rw[if_neg (show ¬(T,false).2=true from zCG9)];refine zn f108 (.iface (.int _ _)) ?_;refine wl c ?_;refine zM d ?_;refine zI ?_;refine wE (pD 220) ?_;(try(refine .iface ?_;exact .int _ _))


theorem CH:ET.caught.get 91=some ():=by kernel_rfl
def xP(T:List vO):vO:=T.getLastD ([],[])
theorem rb(h:T ≠ []):T[T.length-1]?=some (xP T)/\T.getLast?=some (xP T):=by
 have:T.getLast?=some (xP T):=by unfold xP;rw[List.getLastD_eq_getLast?];cases T with
  | nil=>exact absurd rfl h
  | cons a l=>rw[List.getLast?_eq_some_getLast (by simp)];rfl
 grind
theorem Bv(w:LN):∀(d:Nat) (seen:LN) (acc:List vO) (b:Nat) (lv:Int),(yg w d seen acc b lv).1.length<=acc.length+d
 | 0,_,acc,_,_=>Zi _
 | d+1,seen,acc,b,lv=>by
  rw[yg]
  split
  .simp
  .simp
  .split
   .simp
   .refine Z0 (Bv w d _ _ _ _) ?_;simp;omega
theorem dI{w:LN}(hw:w.length<=131072)(a:Nat)(h:wg w a=(T,true)):(∀L∈T,gU w L)/\(∀L∈T.dropLast,bK L)/\T ≠ []/\wh (wU (xP T).2)=true/\T.length<=14:=by
 have b:=Bv w 14 [] [] (w.getD a 0) (-1);change (wg w a).1.length<=0+14 at b;have hf:=Bu hw 14 [] [] (w.getD a 0) (-1) (fun L c=>by simp at c);change (∀L∈(wg w a).1,gU w L)/\(∀L∈(wg w a).1.dropLast,bK L)/\((wg w a).2=true->(wg w a).1 ≠ []/\∀M,(wg w a).1.getLast?=some M->wh (wU M.2)=true)at hf;rw[h]at hf b;obtain⟨h1,h2,h3⟩:=hf;obtain⟨h3,h4⟩:=h3 rfl;exact⟨h1,h2,h3,h4 _ (rb h3).2,by simpa using b⟩
def gm(w:LN)(a:Int):FE:=if uK w.length a=true then if(wg w a.toNat).2=true then .ret (.tuple [vJ 0 (wU (xP (wg w a.toNat).1).2),iv 0])else .ret (.tuple [vJ 0 [],iv 220])else .ret (.tuple [vJ 0 [],iv 2])
theorem PW:FO ET 127 [.ptr 0 0 0 0 1] [.row 87 1 0 0 [.nilsl],.row 38 1 0 0 [iv 0]] false fun e H'=>e=.ret (.tuple [])/\H'=[.row 87 1 0 0 [.nilsl],.row 38 1 0 0 [iv 0]]:=by
 refine wS (eG T127 func127) ?_;refine zJ ?_;exact⟨[],rfl,rfl,rfl⟩
theorem Nt(hs:vE w.length):FN ET 79 [wv p w,iv a] (gm w a):=by
 have b:=Jl p w a hs;have o:gh (gm w a):=by
  unfold gm
  split
  .split
   .exact Lb.two (Lb.pvs _) (.int _ _)
   .exact Lb.two (Lb.pvs _) (.int _ _)
  .exact Lb.two (Lb.pvs _) (.int _ _)
 refine zn (eG T79 func79) o ?_;refine wI ?_;refine fK (f:=91) (p:=.ptr 1 0 0 0 1) (cl:=.fn 127 [.ptr 0 0 0 0 1]) ?_ ?_ CH ?_
 .rfl
 .simp only[go_sem]<;>rfl
 refine zN ?_;refine zI ?_;have bad:∀(tm:Nat->PV) (n:Nat),gm w a=.ret (.tuple [vJ 0 [],iv n])->tm 4=.ptr 0 0 0 0 1->tm 5=.ptr 1 0 0 0 1->yG ET T79 (fun q H=>ve H 0 q (gm w a)) (.panic (wy n)) ⟨tm,[.caught (.ptr 1 0 0 0 1) (.fn 127 [.ptr 0 0 0 0 1])],[.row 87 1 0 0 [.nilsl],.row 38 1 0 0 [iv 0]]⟩:=fun tm n d h4 r=>by
  refine⟨n,127,[.ptr 0 0 0 0 1],false,1,0,1,rfl,rfl,rfl,PW.mono fun e H s=>?_⟩;obtain⟨rfl,rfl⟩:=s;refine⟨rfl,_,rfl,[.nilsl,iv n],?_,?_⟩
  .simp[T79,xT,zr,zC,h4,r,zR,zF,zW,qd];rfl
  .rw[d];exact vN
 unfold Ap at b
 by_cases c:uK w.length a=true
 rotate_left
 .rw[if_neg c]at b;refine wE b ?_;exact bad _ 2 (by unfold gm;rw[if_neg c];rfl) rfl rfl
 rw[if_pos c]at b;have z:=(dC _ _).1 c
 by_cases g:(wg w a.toNat).2=true
 rotate_left
 .rw[if_neg g]at b;refine wE b ?_;exact bad _ 220 (by unfold gm;rw[if_pos c,if_neg g];rfl) rfl rfl
 rw[if_pos g]at b;have l:gm w a=.ret (.tuple [vJ 0 (wU (xP (wg w a.toNat).1).2),iv 0]):=by unfold gm;rw[if_pos c,if_pos g]
 obtain⟨f1,f2,f3,f4,f5⟩:=dI (w:=w) (T:=(wg w a.toNat).1) zo a.toNat (by rw[<- g]);rw[l];clear bad;generalize (wg w a.toNat).1=T at b f1 f2 f3 f4 f5;obtain⟨k,A⟩:=rb f3;have v:T.length≠0:=fun h=>f3 (Z6 h);have i:=f1 _ (Zj k);have m:(T.map fun L=>wG 0 0 L.1 L.2)[T.length-1]?=some (wG 0 0 (xP T).1 (xP T).2):=vU k;have y:=iC (xP T).2 fun n d=>(i.lv.node d).1;have x:=i.few;have j:=Jk 0 0 (xP T).1 (xP T).2 zo (fun n d=>(i.lv.node d).1) zo;unfold nh at j;rw[if_pos f4]at j;refine wD b ?_;have t:IntKind.i64.wrap ((T.length:Int)-1)=((T.length-1:Nat):Int):=wx;have u:T.length-1<T.length:=zo;refine vK (vh t m u) ?_;refine wD j ?_;refine zG ?_;refine vw ?_;exact⟨[vJ 0 (wU (xP T).2),iv 0],rfl,ze.tL ⟨.list _ _ _,.int _ _,trivial⟩⟩


@[reducible] def aL (x:Pr):PV:=.agg [uv x.1,.int .i64 (IntKind.i64.wrap (x.2:Int))]
theorem Ql{x:Pr}(h:x.2<9223372036854775808):aL x=cv x:=by
 unfold aL cv;rw[wrap_i64 zo zo]
theorem Po(G:LP)(r r2:za)(V0:LQ)(ps:LJ)(hb:V0.length+ps.length<1000000)(tm:Nat->PV)(G3:LP)(h8:tm 8=.sl (G.length+1) V0.length 0 V0.length (2*V0.length) 2)(h93:tm 93=vJ 0 ps)(h94:tm 94=iv ps.length)(h95:tm 95=iv 0){Q:FX->vn->Prop}
  (hQ:∀(tm':Nat->PV) (V:LQ) (G4:LP),V=V0++ps.map aL->(∀k,k≠8->k≠14->(k<95\/108<k)->tm' k=tm k)->tm' 8=.sl (G.length+1) V.length 0 V.length (2*V.length) 2->Q .norm ⟨tm',[],G++r::.row 265 2 V.length 0 V::r2::G4⟩) :
  W ET ET.caught none c137_4 ⟨tm,[],G++r::.row 265 2 V0.length 0 V0::r2::G3⟩ Q:=by
 unfold c137_4 xC;refine vm (vy (fun m s=>∃(j:Nat) (V:LQ) (G4:LP),m=ps.length-j/\j<=ps.length/\V=V0++(ps.take j).map aL/\(∀k,k≠8->k≠14->k≠95->(k<95\/108<k)->s.tm k=tm k)/\s.tm 8=.sl (G.length+1) V.length 0 V.length (2*V.length) 2/\s.tm 95=iv j/\s.df=[]/\s.H=G++r::.row 265 2 V.length 0 V::r2::G4) (n:=ps.length) ?_ ?_)
 .exact⟨0,V0,G3,rfl,Zn _,by simp,fun k _ _ _ _=>rfl,h8,h95,rfl,rfl⟩
 .rintro m ⟨tn,df,H⟩ ⟨j,V,G4,rfl,hj,hV,hf,h8',h95',rfl,rfl⟩;dsimp only at hf h8' h95';have b:=(hf 93 zy zy zy zy).trans h93;have d:=(hf 94 zy zy zy zy).trans h94;have t:V.length=V0.length+j:=by rw[hV];simp;omega
  refine vu (vh b d h95') ?_ ?_
  .intro a;have a:j<ps.length:=vM a;obtain⟨q,c⟩:=wX (l:=ps) a;have e:(ps.map pv)[j]?=some (pv q):=vU c;have g:(V.length+1)*17<=140737488355328:=zo;have h:V++[aL q]=V0++(ps.take (j+1)).map aL:=by rw[ZE,c,hV];simp
   refine vD ?_;(repeat(first|refine vq ?_|refine um ?_ (by simp(disch:=omega)only[go_sem,b,h95',e,pz,yW]<;>rfl)));refine zB ?_;refine aB ?_ (by simp(disch:=omega)only[go_sem,h8',g,pz,yz,yW]<;>rfl);refine yR ?_;refine vp h95' ?_;refine⟨_,?m,j+1,V++[aL q],?G4,rfl,a,h,?f,?h8,zu h95',zt,?H⟩
   case m=>omega
   case f=>intro k i o p u;simp(disch:=omega)only[yO];grind
   case h8=>simp[zb]
   case H =>
    (try dsimp only);rw[Zl];simp only[ZK,Zv,ZA];rfl
  .intro a;have a:¬j<ps.length:=vL a;obtain rfl:j=ps.length:=zo;refine hQ _ V G4 (by grind) (fun k i o p=>?_) (by simp[zb,h8']);simp(disch:=omega)only[yO]
   grind
section
variable {α:Type}(G l m n o:List α)(x y z u:α)
theorem YN:(G++x::y::z::l++m++n).set (G.length+2) u=G++x::y::u::l++m++n:=by simp_all
end
variable {Q:FX->vn->Prop}(G:List α)(p:Nat)(l:List α)(w:LN)(q:List α)
theorem Ur{M:vO}{j:Nat}{x:zi}{b:Nat}(hx:M.2[j]?=some x)(hb:M.1[j]?=some b):(uI M).take (j+1)=(uI M).take j++[(x.low,b)]:=by
 have:(uI M)[j]?=some (x.low,b):=by
  unfold uI
  grind
 rw[ZE,this];rfl
theorem Pp(G:LP)(r r1:za)(T:List vO)(M:vO)(n:Nat)(hn:n<1000000)(hM:T[n+1]?=some M)(hlen:M.1.length=M.2.length)(hfew:M.2.length<=2048)(tm:Nat->PV)(G3:LP)(h5:tm 5=uV T)(h6:tm 6=iv n)(h9:tm 9=.sl (G.length+2) 0 0 0 0 2)(h120:tm 120=.list 0 6 (M.2.map (vl 0)))(h121:tm 121=iv M.2.length)(h122:tm 122=iv 0)(hQ:∀(tm':Nat->PV) (V:LQ) (G4:LP),V=(uI M).map cv->(∀k,k≠9->k≠15->k≠16->(k<122\/142<k)->tm' k=tm k)->tm' 9=.sl (G.length+2) V.length 0 V.length (2*V.length) 2->Q .norm ⟨tm',[],G++r::r1::.row 265 2 V.length 0 V::G4⟩):
  W ET ET.caught none c137_6 ⟨tm,[],G++r::r1::.row 265 2 0 0 []::G3⟩ Q:=by
 unfold c137_6 xC;have u:(T.map fun L=>wG 0 0 L.1 L.2)[n+1]?=some (wG 0 0 M.1 M.2):=vU hM;have D:n+1<T.length:=(Zh.1 hM).1;have B:((n:Int)+1)=((n+1:Nat):Int):=zo;have I:(uI M).length=M.2.length:=by unfold uI;simp[hlen]
 refine vm (vy (fun m s=>∃(j:Nat) (V:LQ) (G4:LP),m=M.2.length-j/\j<=M.2.length/\V=((uI M).take j).map cv/\(∀k,k≠9->k≠15->k≠16->k≠122->(k<122\/142<k)->s.tm k=tm k)/\s.tm 9=.sl (G.length+2) V.length 0 V.length (2*V.length) 2/\s.tm 122=iv j/\s.df=[]/\s.H=G++r::r1::.row 265 2 V.length 0 V::G4) (n:=M.2.length) ?_ ?_)
 .exact⟨0,[],G3,rfl,Zn _,by simp,fun k _ _ _ _ _=>rfl,h9,h122,rfl,rfl⟩
 .rintro m ⟨tn,df,H⟩ ⟨j,V,G4,rfl,hj,hV,hf,h9',h122',rfl,rfl⟩;dsimp only at hf h9' h122';have d:=(hf 5 zy zy zy zy zy).trans h5;have v:=(hf 6 zy zy zy zy zy).trans h6;have c:=(hf 120 zy zy zy zy zy).trans h120;have q:=(hf 121 zy zy zy zy zy).trans h121;have J:V.length=j:=by rw[hV];simp;omega
  refine vu (vh c q h122') ?_ ?_
  .intro a;have a:j<M.2.length:=vM a;have t:j<M.1.length:=zo;obtain⟨x,e⟩:=wX (l:=M.2) a;obtain⟨b,g⟩:=wX (l:=M.1) t;have w:(M.2.map (vl 0))[j]?=some (vl 0 x):=vU e;have y:(M.1.map fun(b:Nat)=>iv (b:Int))[j]?=some (iv b):=vU g;have z:(V.length+1)*17<=140737488355328:=zo;have A:V++[cv (x.low,b)]=((uI M).take (j+1)).map cv:=by rw[Ur e g,hV];simp
   refine vD ?_;refine vA (vh c h122' w) ?_;refine wV ?_;refine aA ?_ (by simp(disch:=omega)only[go_sem,h9',d,v,u,B,y,z,aX,YN]<;>rfl);refine vj d ?_;refine vp h122' ?_;refine⟨_,?m,j+1,V++[cv (x.low,b)],?G4,rfl,a,A,?f,?h9,zu h122',zt,?H⟩
   case m=>omega
   case f=>intro k h i o p C;simp(disch:=omega)only[yO];exact hf k h i o p C
   case h9=>simp[zb]
   case H =>
    (try dsimp only);rw[Zl];simp only[ZK,Zv,ZA];rfl
  .intro a;have a:¬j<M.2.length:=vL a;obtain rfl:j=M.2.length:=zo;refine hQ _ V G4 (by grind) (fun k h i o p=>?_) (by simp[zb,h9']);simp(disch:=omega)only[yO]
   grind


def Bz(w:LN)(L:vO):List vO->Bool
 | []=>true
 | M::T=>decide (L.2.flatMap wL=uI M)&&yA w (M::T)
theorem Ug(L:vO)(R:List vO):yA w (L::R)=(xl w L.1 L.2&&Bz w L R):=by
 cases R with
 | nil=>rw[yA,Bz,zDQ9]
 | cons M R=>rw[yA,Bz,Bool.and_assoc]
theorem J0(bs:LN)(ns:LB)(i:Nat)(b:Nat)(n:zi)(hb:bs[i]?=some b)(hn:ns[i]?=some n):xl w (bs.drop i) (ns.drop i)=(decide (wd (zc w b)=0)&&pC n ns[i+1]? && xl w (bs.drop (i+1)) (ns.drop (i+1))):=by
 obtain⟨h1,rfl⟩:=Zh.1 hb;obtain⟨h2,rfl⟩:=Zh.1 hn;rw[Zs h1,Zs h2,xl,List.head?_drop]
theorem S9(ns:LB)(i:Nat)(n:zi)(hn:ns[i]?=some n):(ns.take (i+1)).flatMap wL=(ns.take i).flatMap wL++wL n:=by
 rw[ZE,hn,zBC9];simp
theorem I1{ns:LB}(h:∀n∈ns,n.pairs.length<=28):(ns.flatMap wL).length<=29*ns.length:=by
 induction ns with
 | nil=>grind
 | cons n ns a =>
  have h1:=h n (Zr ..);have h2:=a fun m b=>h m (Zo _ b);rw[ZZ,Zl,Zp];have:(wL n).length=n.pairs.length+1:=rfl;omega
theorem RC(a b b' p:α):(G++a::b'::l++[p]++q)[(G++a::b::l).length]?=some p:=by simp_all
theorem RD(a b b' p:α):(G++a::b'::(l++p::q))[(G++a::b::l).length]?=some p:=by grind
theorem Pn(hs:vE w.length)(G:LP)(r2:za)(L:vO)(hLF:gU w L)(tm:Nat->PV)(G3:LP)(h0:tm 0=wv p w)(h7:tm 7=.ptr G.length 0 0 0 2)(h8:tm 8=.sl (G.length+1) 0 0 0 0 2)(h37:tm 37=.list 0 6 (L.2.map (vl 0)))(h38:tm 38=iv L.2.length)(h39:tm 39=iv 0)(hP:xl w L.1 L.2=false->∀tm' H,Q (.panic (wy 220)) ⟨tm',[],H⟩)(hQ:∀(tm':Nat->PV) (V:LQ) (G4:LP),xl w L.1 L.2=true->V=(L.2.flatMap wL).map aL->(∀(j b:Nat),L.1[j]?=some b->wd (zc w b)=0)->(∀k,k≠8->k≠10->k≠11->k≠12->k≠14->(k<39\/109<k)->tm' k=tm k)->tm' 8=.sl (G.length+1) V.length 0 V.length (2*V.length) 2->Q .norm ⟨tm',[],G++.row 195 2 0 0 [wG 0 0 L.1 L.2]::.row 265 2 V.length 0 V::r2::G4⟩):
  W ET ET.caught none c137_2 ⟨tm,[],G++.row 195 2 0 0 [wG 0 0 L.1 L.2]::.row 265 2 0 0 []::r2::G3⟩ Q:=by
 unfold c137_2 xC;have a8:=hLF.lv.len;have b2:=hLF.few;refine vm (vy (fun m s=>∃(i:Nat) (V:LQ) (G4:LP),m=L.2.length-i/\i<=L.2.length/\V=((L.2.take i).flatMap wL).map aL/\xl w L.1 L.2=xl w (L.1.drop i) (L.2.drop i)/\(∀(j b:Nat),j<i->L.1[j]?=some b->wd (zc w b)=0)/\(∀k,k≠8->k≠10->k≠11->k≠12->k≠14->(k<39\/109<k)->s.tm k=tm k)/\s.tm 8=.sl (G.length+1) V.length 0 V.length (2*V.length) 2/\s.tm 39=iv i/\s.df=[]/\s.H=G++.row 195 2 0 0 [wG 0 0 L.1 L.2]::.row 265 2 V.length 0 V::r2::G4) (n:=L.2.length) ?_ ?_)
 .exact⟨0,[],G3,rfl,Zn _,rfl,rfl,fun j b h=>absurd h (Nat.not_lt_zero _),fun k _ _ _ _ _ _=>rfl,h8,h39,rfl,rfl⟩
 .rintro m ⟨tn,df,H⟩ ⟨i,V,G4,rfl,hi,I,u,J,hf,h8',h39',rfl,rfl⟩;dsimp only at hf h8' h39';have a9:=(hf 0 zy zy zy zy zy zy).trans h0;have C:=(hf 7 zy zy zy zy zy zy).trans h7;have ab:=(hf 37 zy zy zy zy zy zy).trans h37;have a5:=(hf 38 zy zy zy zy zy zy).trans h38;refine vu (vh ab a5 h39') ?_ ?_;rotate_left
  .intro r;have r:¬i<L.2.length:=vL r;obtain rfl:i=L.2.length:=zo;refine hQ _ V G4 (by rw[u,<- a8,ZS];rfl) (by rw[I,ZL]) (fun j b v=>J j b (by have:=(Zh.1 v).1;omega) v) (fun k a e f o d q=>?_) (by simp[zb,h8']);simp(disch:=omega)only[yO]
   grind
  intro r;have r:i<L.2.length:=vM r;obtain⟨x,K⟩:=wX (l:=L.2) r;obtain⟨b,v⟩:∃b,L.1[i]?=some b:=⟨_,Zg zo⟩
  have a6:i<L.1.length:=zo;have bb:(L.2.map (vl 0))[i]?=some (vl 0 x):=vU K;have bm:(L.1.map fun(b:Nat)=>iv (b:Int))[i]?=some (iv b):=vU v;have b3:=(hLF.lv.each b (Zj v)).1;have bo:=lF p w b hs zo;have bp:=G9 p (zc w b) (by unfold zc;simp;omega);rw[J0 w L.1 L.2 i b x v K]at u;have bs:=I1 (ns:=L.2.take i) fun n hn=>(hLF.lv.node (ZU hn)).1;rw[ZC]at bs;have b4:V.length<=29*L.2.length:=by rw[I,ZB];omega
  have bw:=S9 L.2 i x K;have b5:=(hLF.lv.node (Zj K)).1;refine vD ?_;refine vA (vh ab h39' bb) ?_;refine zB ?_;refine aB ?_ (by simp(disch:=omega)only[go_sem,a9,C,pz,mh,mi,bm,a6]<;>rfl);refine fD bo ?_;refine wq ?_;refine vo bp ?_
  by_cases P:wd (zc w b)=0
  rotate_left
  .have g:¬((wd (zc w b):Nat):Int)=0:=zo;refine vS g ?_;refine wE (pD 220) ?_;exact hP (by rw[u];simp[P]) _ _
  have g:((wd (zc w b):Nat):Int)=0:=zo;refine vS g ?_;refine wD (mB 220) ?_;refine zB ?_;refine zB ?_;refine um ?_;have M:((i:Int)+1)=((i+1:Nat):Int):=zo;generalize av:G++za.row 195 2 0 0 [wG 0 0 L.1 L.2]::.row 265 2 V.length 0 V::r2::G4=H0;refine ur (Q:=fun y A=>(y=.norm/\pC x L.2[i+1]?=true/\(∀k,k≠8->k≠10->k≠11->k≠12->k≠14->(k<39\/109<k)->A.tm k=tm k)/\A.tm 8=.sl (G.length+1) V.length 0 V.length (2*V.length) 2/\A.tm 11=.ptr H0.length 0 0 0 6/\A.tm 39=iv i/\A.df=[]/\A.H=H0++[.row 143 6 0 0 [vl 0 x]])\/(y=.panic (wy 220)/\pC x L.2[i+1]?=false/\A.df=[])) ?_ ?_
  .have D:∀(t:Nat->PV),(∀k,k≠8->k≠10->k≠11->k≠12->k≠14->(k<39\/109<k)->t k=tn k)->∀k,k≠8->k≠10->k≠11->k≠12->k≠14->(k<39\/109<k)->t k=tm k:=fun t ht k a e f o d q=>(ht k a e f o d q).trans (hf k a e f o d q)
   by_cases bx:x.pairs.length=0
   .have N:¬(0:Int)<(x.pairs.length:Nat):=zo;refine zB ?_;refine zB ?_;refine vC N ?_;refine uq ?_;refine wK (.inl ⟨rfl,?_,D _ (fun k a e f o d q=>by simp(disch:=omega)only[yO]),h8',zt,h39',rfl,rfl⟩);unfold pC;rw[Z6 bx];rfl
   have N:(0:Int)<(x.pairs.length:Nat):=zo;subst av
   by_cases R:i+1<L.2.length
   rotate_left
   .have U:¬((i+1:Nat):Int)<(L.2.length:Nat):=zo;refine zB ?_;refine zB ?_;refine um ?_ (by simp(disch:=omega)only[go_sem,N,U,M,C,pz,mh,mi]<;>rfl);refine uq ?_;refine wK (.inl ⟨rfl,?_,D _ (fun k a e f o d q=>by simp(disch:=omega)only[yO]),h8',zt,h39',rfl,rfl⟩);unfold pC;rw[zAB9 (show L.2.length<=i+1 by omega)];split
    .rename_i h;cases h
    .rfl
   have U:((i+1:Nat):Int)<(L.2.length:Nat):=zo;obtain⟨z,hz⟩:∃z,L.2[i+1]?=some z:=⟨_,Zg R⟩
   have a0:(L.2.map (vl 0))[i+1]?=some (vl 0 z):=vU hz;obtain⟨y,hy⟩:∃y,x.pairs[x.pairs.length-1]?=some y:=⟨_,Zg zo⟩
   have a1:(x.pairs.map pv)[x.pairs.length-1]?=some (pv y):=vU hy;have hq:IntKind.i64.wrap ((x.pairs.length:Int)-1)=((x.pairs.length-1:Nat):Int):=wx;have a2:x.pairs.length-1<x.pairs.length:=zo;have a3:pC x L.2[i+1]?=decide (y.1<z.low):=by unfold pC;rw[zAF9,hy,hz]
   refine zB ?_;refine zB ?_;refine um ?_ (by simp(disch:=omega)only[go_sem,N,U,M,C,pz,mh,mi]<;>rfl);refine uQ ?_;refine wV ?_
   by_cases B:y.1<z.low
   .have X:(y.1:Int)<(z.low:Nat):=zo;refine sw (mB 220) ?_ (by simp(disch:=omega)only[go_sem,C,pz,mh,mi,hq,a1,a2,M,a0,R,X]<;>rfl);refine kK C ?_;refine wY ?_;refine .inl ⟨rfl,by rw[a3];simp[B],D _ (fun k a e f o d q=>?_),h8',?_,h39',rfl,rfl⟩
    .simp(disch:=first|omega|simp)only[qC,yO]
    .simp[qC,zb]
   .have X:¬(y.1:Int)<(z.low:Nat):=zo;refine Nq (pD 220) ?_ (by simp(disch:=omega)only[go_sem,C,pz,mh,mi,hq,a1,a2,M,a0,R,X]<;>rfl);exact .inr ⟨rfl,by rw[a3];simp[B],rfl⟩
  rintro y ⟨tq,df,H⟩ (⟨rfl,B,a4,ad,S,Z,rfl,rfl⟩|⟨rfl,B,rfl⟩);rotate_left
  .exact hP (by rw[u];simp[B]) _ _
  dsimp only at a4 ad S Z;subst av;have b0:(V.length+1)*17<=140737488355328:=zo;refine zB ?_;refine um ?_ (by simp(disch:=omega)only[go_sem,ad,S,pz,mh,mi,xB,ye,yz,MU,ar,yW,b0]<;>rfl);refine zB ?_;refine zB ?_;refine um ?_ (by simp(disch:=omega)only[go_sem,S,RC,RD]<;>rfl);simp only[ZK,Zv,ZA];obtain⟨O,T⟩:∃O,O=V++[aL (x.low,x.left)]:=⟨_,rfl⟩
  have a7:V.length+1=O.length:=by rw[T];simp
  rw[<- T,a7];refine Po G _ r2 O x.pairs zo _ _ (by simp[zb]) (by simp[zb]) (by simp[zb]) (by simp[zb]) (fun tm' V2 G5 b1 D h8=>?_);have ah:tm' 39=iv i:=(D 39 zy zy zy).trans (by simp[zb,Z]);refine vp ah ?_;refine⟨_,?m,i+1,V2,?G6,rfl,r,?I,?u,?J,?hf,zu h8,by simp[zb,ah],zt,?H⟩
  case m=>omega
  case I=>rw[b1,T,I,bw];simp[wL]
  case u=>rw[u,B];simp[P]
  case J =>
   intro j c hj Y;rcases zAO9 j i with h|h
   .exact J j c h Y
   .obtain rfl:j=i:=zo;rw[v]at Y;cases Y;exact P
  case hf =>
   intro k a e f o d q;simp(disch:=omega)only[yO];rw[D k a d zo];simp(disch:=omega)only[yO];exact a4 k a e f o d q
  case H=>rfl


theorem f137:ET.funcs.get 137=some T137:=eG _ func137
theorem o8{l:LN}(h:wd l=0)(hl:0<(headN l).level):∀x∈wL (headN l),x.2<2048:=by
 have a:=n8 h;unfold wd at h;rw[if_pos a]at h;have b:gL l=true:=by grind
 unfold gL at b;rw[Zm,zAZ9,zEU9]at b;intro x c;rcases ZD.1 c with rfl|c
 .unfold headB at a;rw[Zm,ZN]at a;have h3:=a.2 3 zy;have e:(headN l).level=pM (l.getD 0 0):=by unfold headN;rfl
  have f:(headN l).left=l.getD 3 0:=by unfold headN;rfl
  rw[uO,<- e,<- f]at h3;simp only[zEC9,Zm,decide_eq_true_eq]at h3;rcases h3 with⟨h3,_⟩|⟨_,h3⟩
  .omega
  .exact((nS _).1 h3).2
 .have:=b.2 x c;have d:wR (headN l) x=true:=by simpa using this
  unfold wR at d;rw[if_neg zo,Zm]at d;exact((nS _).1 d.1).2
def BO(w:LN)(a:Int):FE:=if uK w.length a=true then if(wg w a.toNat).2=true then if kH w (wg w a.toNat).1=true then .ret (uV (wg w a.toNat).1)else .panic (wy 220)else .panic (wy 220)else .panic (wy 2)
theorem XV(a:Int)(hs:vE w.length)(hwl:w.length<=131072)(T:List vO)(hl:FR 108 [wv p w,iv a] (uV T))(f1:∀L∈T,gU w L)(f2:∀L∈T.dropLast,bK L)(f3:T ≠ [])(f5:T.length<=14):
  FN ET 137 [wv p w,iv a] (if kH w T=true then .ret (uV T)else .panic (wy 220)):=by
 refine zn f137 ?_ ?_
 .split
  .exact Ah _
  .exact .iface (.int _ _)
 have bad:kH w T=false->(if kH w T=true then FE.ret (uV T)else .panic (wy 220))=.panic (wy 220):=fun h=>by grind
 obtain⟨c,R,rfl⟩:∃c R,T=c::R:=by
  cases T with
  | nil=>grind
  | cons a l=>grind
 have B:(List.map (fun L=>wG 0 0 L.1 L.2) (c::R))[0]?=some (wG 0 0 c.1 c.2):=rfl;obtain⟨z,A⟩:∃z:zi,(c.2.map (vl 0))[0]?=some (vl 0 z)/\Fi (c::R)=decide (z.sib=0):=by
  have:=(f1 c (Zr ..)).ne;obtain⟨bs,ns⟩:=c
  cases ns with
  | nil=>grind
  | cons n ns=>exact⟨n,rfl,rfl⟩
 obtain⟨A,Y⟩:=A;refine wl hl ?_;have O:0<c.2.length:=zAI9.2 (f1 c (Zr ..)).ne;have P:0<R.length+1:=zAN9 _
 by_cases U:z.sib=0
 rotate_left
 .have g:¬(z.sib:Int)=0:=zo;refine vK (vX B A O P g) ?_;refine wE (pD 220) ?_;exact uy (by rw[bad (by unfold kH;grind)])
 have g:(z.sib:Int)=0:=zo;refine vK (vX B A O P g) ?_;refine wD (mB 220) ?_;refine vA B ?_;have X:kH w (c::R)=yA w (c::R):=by unfold kH;rw[Y,U];rfl
 rw[X]at bad⊢;clear X Y B A O P g U f3;have cb:(c::R).length=R.length+1:=rfl;generalize c::R=T at *
 refine vm (vy (fun m s=>∃(n:Nat) (G:LP),m=T.length-n/\n<=T.length/\yA w T=yA w (T.drop n)/\s.tm 0=wv p w/\s.tm 5=uV T/\s.tm 29=uV T/\s.tm 30=iv T.length/\s.tm 31=iv n/\s.df=[]/\s.H=G) (n:=T.length) ?_ ?_)
 .exact⟨0,_,rfl,by omega,rfl,zt,zt,zt,by simp[zb];omega,zt,rfl,rfl⟩
 .rintro m ⟨tm,df,G⟩ ⟨n,G',rfl,hn,hls,h0,h5,h29,h30,h31,rfl,rfl⟩;dsimp only at *
  refine vu (vh h29 h30 h31) ?_ ?_;rotate_left
  .intro f;have f:¬n<T.length:=vL f;obtain rfl:n=T.length:=zo;refine wm h5 ?_;rw[ZS]at hls;rw[hls];exact ze.list _ _ _
  intro f;have f:n<T.length:=vM f;obtain⟨L,J⟩:=wX (l:=T) f;have a3:(T.map fun L=>wG 0 0 L.1 L.2)[n]?=some (wG 0 0 L.1 L.2):=vU J;have t:=f1 L (Zj J);have a4:T.drop n=L::T.drop (n+1):=pX J;rw[a4,Ug]at hls;have cc:=t.lv.len;have ab:=t.few;refine vD ?_;refine vA (vh h29 h31 a3) ?_;refine yD 265 2 (i:=8) rfl ?_;refine yD 265 2 (i:=9) rfl ?_;simp only[uF,Zl,Zp,Zz,ZT,ZK,Zv,ZA];(repeat(first|refine vq ?_|refine um ?_ (by simp(disch:=omega)only[go_sem,pz]<;>rfl)));refine Pn p w hs G _ L t _ [] (by simp[zb,h0]) (by simp[zb]) (by simp[zb]) (by simp[zb]) (by simp[zb]) (by simp[zb]) (fun hf d H=>?_) (fun d V G4 a5 hV a6 k h8=>?_)
  .exact uy (by grind)
  rw[a5,Z9]at hls;have a7:d 0=wv p w:=(k 0 zy zy zy zy zy zy).trans (by simp[zb,h0]);have u:d 5=uV T:=(k 5 zy zy zy zy zy zy).trans (by simp[zb,h5]);have C:d 6=iv n:=(k 6 zy zy zy zy zy zy).trans (by simp[zb]);have a8:d 9=.sl (G.length+2) 0 0 0 0 2:=(k 9 zy zy zy zy zy zy).trans (by simp[zb]);have ad:d 29=uV T:=(k 29 zy zy zy zy zy zy).trans (by simp[zb,h29]);have ah:d 30=iv T.length:=(k 30 zy zy zy zy zy zy).trans (by simp[zb,h30]);have av:d 31=iv n:=(k 31 zy zy zy zy zy zy).trans (by simp[zb,h31]);have hq:IntKind.i64.wrap ((T.length:Int)-1)=((T.length-1:Nat):Int):=wx
  by_cases b7:n+1=T.length
  .have g:((n:Nat):Int)=(T.length-1:Nat):=zo;have a9:T.drop (n+1)=[]:=zBQ9 zo;rw[a9]at hls;refine zB ?_;refine zB ?_;refine vC (vz u C hq g) ?_;refine wn ?_ ?_;rotate_left
   .intro h;simp at h
   intro _;refine bL ?_;refine wm u ?_;rw[hls];exact ze.list _ _ _
  have g:¬((n:Nat):Int)=(T.length-1:Nat):=zo;obtain⟨M,K⟩:∃M,T[n+1]?=some M:=⟨_,Zg zo⟩
  have Z:T.drop (n+1)=M::T.drop (n+1+1):=by rw[Zs (show n+1<T.length by omega)];obtain⟨_,e⟩:=Zh.1 K;rw[e]
  have D:=f1 M (Zj K);have bb:(T.map fun L=>wG 0 0 L.1 L.2)[n+1]?=some (wG 0 0 M.1 M.2):=vU K;have bm:n+1<T.length:=zo;have e1:((n:Int)+1)=((n+1:Nat):Int):=zo;have bo:bK L:=f2 L (by
   have:T.dropLast[n]?=some L:=by rw[List.getElem?_dropLast,if_pos zo];exact J
   exact Zj this)
  have bp:∀x∈L.2.flatMap wL,x.2<2048:=fun x o=>by
   obtain⟨y,Q,o⟩:=ZF.1 o;have bw:=bo y Q;rw[t.lv.is]at Q;obtain⟨b,hb,rfl⟩:=Zu.1 Q;obtain⟨j,hj⟩:=Z8.1 hb;exact o8 (a6 j b hj) bw x o
  have bx:V=(L.2.flatMap wL).map cv:=by
   rw[hV];exact zBP9 fun x o=>Ql (by have:=bp x o;omega)
  rw[Z,Bz]at hls;refine zB ?_;refine zB ?_;refine vC (vz u C hq g) ?_;refine wn ?_ ?_
  .intro h;simp at h
  intro _;refine vY ?_;refine zB ?_;refine zB ?_;refine vC (vX u C e1 bb bm) ?_;refine Pp G _ _ T M n zo K D.lv.len D.few _ _ (by simp[zb,u]) (by simp[zb,C]) (by simp[zb,a8]) (by simp[zb]) (by simp[zb]) (by simp[zb]) (fun yW q G5 b0 r h9=>?_);have b1:yW 8=.sl (G.length+1) V.length 0 V.length (2*V.length) 2:=(r 8 zy zy zy zy).trans (by simp[zb,h8]);have ch:=I1 (ns:=L.2) fun n hn=>(t.lv.node hn).1;have ab:=t.few;have ca:=D.few;have ck:(uI M).length=M.2.length:=by unfold uI;simp[D.lv.len]
  have b2:=QM 1 1 (L.2.flatMap wL) (uI M) zo zo;have S:∀l:LJ,∀v∈(l.map cv).flatMap PV.cells,vg v:=fun l v N=>by
   obtain⟨x,o,N⟩:=ZF.1 N;obtain⟨y,_,rfl⟩:=Zu.1 o;simp[PV.cells]at N;rcases N with rfl|rfl<;>exact .int _ _
  have b3:ze (G++za.row 195 2 0 0 [wG 0 0 L.1 L.2]::.row 265 2 V.length 0 V::.row 265 2 q.length 0 q::G5) 1 (.sl (G.length+1) V.length 0 V.length (2*V.length) 2) (fV 1 (L.2.flatMap wL)):=by
   rw[bx];exact ze.wh (xB G _ _ _) rfl (by simp) (by simp) uG (S _)
  have b4:ze (G++za.row 195 2 0 0 [wG 0 0 L.1 L.2]::.row 265 2 V.length 0 V::.row 265 2 q.length 0 q::G5) 1 (.sl (G.length+2) q.length 0 q.length (2*q.length) 2) (fV 1 (uI M)):=by
   rw[b0];exact ze.wh (de G _ _ _ _) rfl (by simp) (by simp) uG (S _)
  refine yv ?_;refine vS (zj b1 h9) ?_;refine pt (caps:=?_) (vs:=?_) ?_ ?_ b2 ?_ ?_;rotate_left 2;(first|rfl|(simp only[qb,qo,go_sem]<;>rfl));(simp only[go_sem]<;>rfl)
  .exact⟨b3,b4,trivial⟩
  by_cases I:L.2.flatMap wL=uI M
  rotate_left
  .rw[decide_eq_false I];refine wq ?_;refine wE (pD 220) ?_;exact uy (by rw[bad (by rw[hls];simp[I])])
  rw[decide_eq_true I,Z9]at hls;rw[decide_eq_true I];refine wq ?_;refine vo (mB 220) ?_;refine zK ?_;have b5:yW 5=uV T:=(r 5 zy zy zy zy).trans (by simp[zb,u]);have b6:yW 0=wv p w:=(r 0 zy zy zy zy).trans (by simp[zb,a7]);have a0:yW 29=uV T:=(r 29 zy zy zy zy).trans (by simp[zb,ad]);have a1:yW 30=iv T.length:=(r 30 zy zy zy zy).trans (by simp[zb,ah]);have a2:yW 31=iv n:=(r 31 zy zy zy zy).trans (by simp[zb,av]);refine vp (zj a2 e1) ?_;refine⟨_,?m,n+1,_,rfl,f,by rw[hls,Z],by simp[zb,b6],by simp[zb,b5],by simp[zb,a0],by simp[zb,a1],zt,rfl,rfl⟩
  case m=>omega
theorem XW(a:Int)(hs:vE w.length):FN ET 137 [wv p w,iv a] (BO w a):=by
 have b:=Jl p w a hs;unfold Ap at b;unfold BO
 by_cases c:uK w.length a=true
 rotate_left
 .rw[if_neg c]at b⊢;refine zn f137 (.iface (.int _ _)) ?_;refine wI ?_;refine wE b ?_;(try(refine .iface ?_;exact .int _ _))
 rw[if_pos c]at b⊢;have e:=(dC _ _).1 c
 by_cases d:(wg w a.toNat).2=true
 rotate_left
 .rw[if_neg d]at b⊢;refine zn f137 (.iface (.int _ _)) ?_;refine wI ?_;refine wE b ?_;(try(refine .iface ?_;exact .int _ _))
 rw[if_pos d]at b⊢;obtain⟨f1,f2,f3,f4,f5⟩:=dI (w:=w) (T:=(wg w a.toNat).1) zo a.toNat (by grind);exact XV p w a hs zo _ b f1 f2 f3 f5
def fS(w:LN)(a:Int):Nat:=if uK w.length a=true then if(wg w a.toNat).2=true then if kH w (wg w a.toNat).1=true then 0 else 220 else 220 else 2


theorem Qv:((1:Int)=0)=False:=eq_false zy
def al:LA->Nat->Bool
 | none,_=>true
 | some k,n=>decide (k<n)
def mH(seen:LN)(pk:LA)(x:Pr):Bool:=decide (1<=x.2)&&decide (x.2<=1099511627776) && !seen.contains x.2&&al pk x.1
def lH:LN->LA->LJ->Bool
 | _,_,[]=>true
 | seen,pk,x::l=>mH seen pk x&&lH (x.2::seen) (some x.1) l
theorem Kg:∀(l:LJ) (seen:LN) (pk:LA),lH seen pk l=true↔(xE seen l=true/\(∀p∈l,1<=p.2/\p.2<=1099511627776)/\wh l=true/\(∀x,l.head?=some x->al pk x.1=true))
 | [],_,_=>⟨fun _=>⟨rfl,by simp,rfl,by simp⟩,fun _=>rfl⟩
 | x::l,seen,pk=>by
  rw[lH,Zm,Kg l,xE,Zm];unfold mH;have a:wh (x::l)=true↔wh l=true/\∀y,l.head?=some y->al (some x.1) y.1=true:=by
   cases l with
   | nil=>simp[wh]
   | cons y l=>rw[wh,Zm];simp[al,and_comm]
  grind
theorem Vq(l:LJ):lH [] none l=kC l:=by
 rw[zDJ9,Kg,D9,nv]
 constructor
 .grind
 .rintro ⟨c,a,b⟩;exact⟨⟨a,by simp⟩,b,c,fun _ _=>rfl⟩
def ak(l:LJ)(i:Nat):LA:=if i=0 then none else some (l.getD (i-1) (0,0)).1


def xR:LG->LG->Bool
 | _,[]=>true
 | seen,b::l=>decide (1<=b)&&decide (b<2048) && !seen.contains b&&xR (b::seen) l
variable (p:Nat)(l:LJ)
theorem Ki:∀(l seen:LG),xR seen l=true↔(∀b∈l,1<=b/\b<2048)/\l.Nodup/\∀b∈l,¬b∈seen
 | [],seen=>by simp[xR]
 | b::l,seen=>by
  rw[xR,Zm,Zm,Zm,Ki l,decide_eq_true_eq,decide_eq_true_eq,zAZ9,zBM9]
  grind
theorem Kj{l:LG}(h:xR [] l=true):∃fr:LN,l=fr.map (fun(b:Nat)=>(b:Int))/\dw fr=true:=by
 rw[Ki]at h;obtain⟨h1,h2,_⟩:=h;have a:l=(l.map Int.toNat).map (fun(b:Nat)=>(b:Int)):=by
  rw[zBS9]
  conv=>lhs;rw[<- List.map_id l]
  refine zBP9 fun b d=>?_
  grind
 refine⟨l.map Int.toNat,a,?_⟩;rw[lG];refine⟨fun b d=>?_,?_⟩
 .obtain⟨c,hc,rfl⟩:=Zu.1 d
  grind
 .rw[a,List.nodup_iff_pairwise_ne,List.pairwise_map]at h2;exact h2.imp fun h e=>h (by rw[e])
def nL(mo:za)(seen:LG):Prop:=(mo=.map0/\seen=[])\/∃mm:Int->LO,mo=.mapI .i64 mm/\∀q:Int,mm q=if seen.contains q=true then some (iv 1)else none


@[reducible] def ui (free:LN):LQ:=free.map fun (b:Nat)=>iv (b:Int)
theorem EA(xs:List (Nat×zi)):(xs.flatMap fun x=>pb x.1 (vI x.2)).length=64*xs.length:=by
 induction xs with
 | nil=>rfl
 | cons a xs b=>rw[ZZ,Zl,b,Zp];simp[pb,kb];omega
theorem Zf{bs:LN}{L:LB}{i b:Nat}{x:zi}(hb:bs[i]?=some b)(hx:L[i]?=some x):(bs.zip L).take (i+1)=(bs.zip L).take i++[(b,x)]:=by
 have:(bs.zip L)[i]?=some (b,x):=by rw[zBN9];exact⟨hb,hx⟩
 rw[ZE,this];rfl


@[reducible] def oy (n:Nat):FE:=.ret (.tuple [iv 0,.list 0 2 (([]:LJ).map vd),iv 0,iv n])
@[reducible] def Gp (T:List vO):FE:=.ret (.tuple [iv (rU T),.list 0 2 ((pj T.reverse).map vd),iv (T.reverse.flatMap Prod.fst).length,iv 0])
def nU(l:LJ)(fr:LG):FE:=if kC l&&xR [] fr then match aJ l (fr.map Int.toNat)with
 | none=>oy 221
 | some T=>Gp T else oy 2
theorem my:Lb (.list 0 2 (l.map vd)):=.list fun x a=>by
 obtain⟨y,b,a⟩:=ZF.1 a;obtain⟨n,_,rfl⟩:=Zu.1 b;simp[PV.cells]at a;rcases a with rfl|rfl<;>exact .int _ _
theorem Lb.four{a b c d:PV}(ha:Lb a)(hb:Lb b)(hc:Lb c)(hd:Lb d):Lb (.tuple [a,b,c,d]):=.tuple fun v e=>by grind
theorem Tu(fr:LG):gh (nU l fr):=by
 unfold nU
 split
 .split
  .exact Lb.four (.int _ _) (my _) (.int _ _) (.int _ _)
  .exact Lb.four (.int _ _) (my _) (.int _ _) (.int _ _)
 .exact Lb.four (.int _ _) (my _) (.int _ _) (.int _ _)


theorem XH(q:Nat)(a b:LJ)(ha:vE a.length)(hb:vE b.length):FR 22 [.list p 2 (a.map vd),.list q 2 (b.map vd)] (.bool (decide (a=b))):=by
 refine zn (eG T22 func22) (.bool _) ?_;refine zG ?_
 by_cases t:a.length=b.length
 rotate_left
 .have g:¬(a.length:Int)=b.length:=zo;have f:¬a=b:=fun h=>t (by rw[h]);refine zB ?_;refine wn ?_ ?_
  .intro _;refine zO ?_;exact ve.bool (decide_eq_false f).symm
  .intro h;simp[g]at h
 have g:(a.length:Int)=b.length:=zo;refine zB ?_;refine wn ?_ ?_
 .intro h;simp[g]at h
 intro _;refine vY ?_;refine zG ?_;refine vm (vy (fun m s=>∃i:Nat,m=a.length-i/\i<=a.length/\decide (a=b)=decide (a.drop i=b.drop i)/\s.tm 0=.list p 2 (a.map vd)/\s.tm 1=.list q 2 (b.map vd)/\s.tm 5=iv i/\s.df=[]/\s.H=[]) (n:=a.length) ?_ ?_)
 .exact⟨0,by simp[zb,zq]⟩
 .rintro m ⟨tm,df,H⟩ ⟨i,rfl,hi,hd,h0,h1,h5,rfl,rfl⟩;dsimp only at h0 h1 h5;refine vu (vh h0 h1 h5) ?_ ?_
  .intro c;have c:i<a.length:=vM c;have e:i<b.length:=zo;have j:a.drop i=a[i]::a.drop (i+1):=Zs c;have k:b.drop i=b[i]::b.drop (i+1):=Zs e;have l:(a.map vd)[i]?=some (vd a[i]):=by rw[Zt,Zg c];rfl
   have o:(b.map vd)[i]?=some (vd b[i]):=by rw[Zt,Zg e];rfl
   have r:(decide (((a[i].1:Nat):Int)=(b[i].1:Nat))&&decide (((a[i].2:Nat):Int)=(b[i].2:Nat)))=decide (a[i]=b[i]):=by
    rw[<- Bool.decide_and]
    congr 1
    rw[Prod.ext_iff];simp only[Int.natCast_inj]
   rw[j,k]at hd;generalize a[i]=x at *
   generalize b[i]=y at *
   refine vD ?_;refine vR ?_;refine bH ?_ (by simp(disch:=omega)only[go_sem,h0,h1,h5,l,o,CY]<;>rfl);refine wY ?_;simp only[go_sem];rw[r]
   by_cases d:x=y
   .refine wn ?_ ?_
    .rw[decide_eq_true d];intro h;cases h
    .intro _;refine wK ?_;refine vp h5 ?_;refine⟨_,?m,i+1,rfl,c,?_,zu h0,zu h1,zu h5,zt,zt⟩
     case m=>omega
     rw[hd];simp only[d,List.cons.injEq,true_and]
   .refine wn ?_ ?_
    .intro _;refine zO ?_;exact ve.bool (by grind)
    .rw[decide_eq_false d];intro h;cases h
  .intro c;have c:¬i<a.length:=vL c;obtain rfl:i=a.length:=zo;refine zO ?_;refine ve.bool ?_
   grind
theorem cm(x:Nat):FR 122 [iv 0,uv x] (.bool (decide (1<=x)&&decide (x<=1099511627776))):=by
 refine zn (eG T122 func122) (.bool _) ?_;refine zG ?_;refine zB ?_;refine uQ ?_
 by_cases c:1<=x
 .have a:(1:Int)<=x:=zo
  by_cases d:x<=1099511627776
  .have b:(x:Int)<=1099511627776:=zo;refine wm (zj a b) ?_;exact ve.bool (by grind)
  .have b:¬(x:Int)<=1099511627776:=zo;refine wm (zj a b) ?_;exact ve.bool (by grind)
 .have a:¬(1:Int)<=x:=zo;refine wm a ?_;exact ve.bool (by simp[c])
theorem U6(n:Nat)(hn:n<=500):FR 74 [iv n] (iv (dr n:Nat)):=by
 refine zn (eG T74 func74) (.int _ _) ?_;have d:IntKind.i64.wrap (((n:Int)+17).tdiv 18)=(((n+17)/18:Nat):Int):=by rw[show (n:Int)+17=((n+17:Nat):Int) by omega,IntWalk.i64_quo _ _ zo];omega
 have f:max (1:Int) (((n+17)/18:Nat):Int)=((max 1 ((n+17)/18):Nat):Int):=zo;refine vA (zj d f) ?_;refine vm (vy (fun m s=>∃(t m' c:Nat),m=m'/\t<=2/\1<=m'/\m'<=bndL t/\c<=10000*(t+1)/\dr n+m'=c+fu (4-t) m'/\s.tm 3=iv m'/\s.tm 4=iv c/\s.df=[]/\s.H=[]) (n:=max 1 ((n+17)/18)) ?_ ?_)
 .exact⟨0,_,_,rfl,by decide,by omega,by simp[bndL];omega,by omega,zBJ9 _ _,zt,zt,rfl,rfl⟩
 .rintro m ⟨tm,df,H⟩ ⟨t,m',c,rfl,ht,h1,a,hc,hn,h3,h4,rfl,rfl⟩;dsimp only at h3 h4;refine vu (zj h3 h4) ?_ ?_
  .intro b;have b:1<m:=vM b;have g:IntKind.i64.wrap (((m:Int)+18).tdiv 19)=(((m+18)/19:Nat):Int):=by
    have:m<=28:=Z0 a (by match t with|0=>decide|1=>decide|t+2=>exact(show 1<=28 by decide));rw[show (m:Int)+18=((m+18:Nat):Int) by omega,IntWalk.i64_quo _ _ zo];omega
   have i:m<=28:=Z0 a (by match t with|0=>decide|1=>decide|t+2=>exact(show 1<=28 by decide));have h:IntKind.i64.wrap ((c:Int)+(((m+18)/19:Nat):Int))=((c+(m+18)/19:Nat):Int):=wx;refine vD ?_;refine zB ?_;refine zB ?_;refine vC (zj h3 g) ?_;refine vp (vh h3 h4 h) ?_;refine⟨(m+18)/19,by omega,t+1,(m+18)/19,c+(m+18)/19,rfl,?_,by omega,?_,by omega,?_,zt,zt,zt,zt⟩
   .match t,ht,a with
    | 0,_,_=>decide
    | 1,_,_=>decide
    | 2,_,a=>simp[bndL]at a;omega
   .match t,ht,a with
    | 0,_,a=>simp[bndL]at a⊢;omega
    | 1,_,a=>simp[bndL]at a⊢;omega
    | 2,_,a=>simp[bndL]at a;omega
   .have e:4-t=(4-(t+1))+1:=zo;rw[e,fu,if_neg zo]at hn;omega
  .intro b;have b:¬1<m:=vL b;obtain rfl:m=1:=zo;refine wm h4 ?_;have e:4-t=(3-t)+1:=zo;rw[e,fu,if_pos rfl]at hn;have:dr n=c:=zo;rw[this];exact ze.int _ _
theorem Kh:∀(l s t:LG),(∀b,b∈s↔b∈t)->xR s l=xR t l
 | [],_,_,_=>rfl
 | b::l,s,t,h=>by
  rw[xR,xR,Kh l (b::s) (b::t) fun c=>by grind]
  grind
theorem Pk(l:LG)(hl:l.length<1000000):FR 73 [.list p 1 (l.map iv)] (.bool (xR [] l)):=by
 refine zn (eG T73 func73) (.bool _) ?_;refine zG ?_;refine vm (vy (fun m s=>∃i:Nat,m=l.length-i/\i<=l.length/\xR [] l=xR (l.take i) (l.drop i)/\s.tm 0=.list p 1 (l.map iv)/\s.tm 3=iv i/\s.df=[]/\s.H=[]) (n:=l.length) ?_ ?_)
 .exact⟨0,by simp[zb,zq]⟩
 .rintro m ⟨tm,df,H⟩ ⟨i,rfl,hi,hd,h0,h3,rfl,rfl⟩;dsimp only at h0 h3;refine vu (zj h0 h3) ?_ ?_;rotate_left
  .intro a;have a:¬i<l.length:=vL a;obtain rfl:i=l.length:=zo;refine zO ?_;refine ve.bool ?_;rw[hd,ZS];rfl
  intro a;have a:i<l.length:=vM a;obtain⟨x,g⟩:=wX (l:=l) a;have d:(l.map iv)[i]?=some (iv x):=vU g;have k:l.drop i=x::l.drop (i+1):=pX g;rw[k,xR]at hd;have o:i<=l.length:=hi;have q:(l.map iv).take i=(l.take i).map iv:=by rw[zAK9]
  have j:=tY p (l.take i) x (by grind);refine vD ?_;refine vR ?_
  by_cases c:x<1
  .refine nO (by first|exact trivial|simp only[go_sem,h0,h3,d,a,c]) (by simp(disch:=omega)only[go_sem,h0,h3,d,c]<;>rfl) rfl (by simp only[go_sem,c]<;>rfl) (by simp only[go_sem]<;>rfl) ?_;refine vj h0 ?_;refine wn ?_ ?_
   .intro _;refine zO ?_;refine ve.bool ?_
    grind
   .intro h;cases h
  by_cases f:2047<x
  .refine nO (by first|exact trivial|simp only[go_sem,h0,h3,d,a,c,f]) (by simp(disch:=omega)only[go_sem,h0,h3,d,c,f]<;>rfl) rfl (by simp only[go_sem,f]<;>rfl) (by simp only[go_sem]<;>rfl) ?_;refine vj h0 ?_;refine wn ?_ ?_
   .intro _;refine zO ?_;refine ve.bool ?_
    grind
   .intro h;cases h
  refine wF (kQ h0 h3 d a o c f q) j ?_;refine vj h0 ?_
  by_cases e:(l.take i).contains x=true
  .refine pY e ?_ ?_
   .intro _;refine zO ?_;refine ve.bool ?_
    grind
   .intro h;cases h
  have e:(l.take i).contains x=false:=by simpa using e
  refine cA e ?_;refine wK ?_;refine vp h3 ?_;refine⟨_,?m,i+1,rfl,a,?_,zu h0,zu h3,zt,zt⟩
  case m=>omega
  rw[hd,e];have:l.take (i+1)=l.take i++[x]:=by rw[ZE,g];rfl
  rw[this,Kh _ (x::l.take i) (l.take i++[x]) fun b=>by grind]
  grind
theorem Xb(hl:l.length<1000000):FR 72 [vJ p l] (.bool (kC l)):=by
 refine zn (eG T72 func72) (.bool _) ?_;refine zG ?_;refine vm (vy (fun m s=>∃(i:Nat) (seen:LN) (mo:za),m=l.length-i/\i<=l.length/\sJ mo seen/\kC l=lH seen (ak l i) (l.drop i)/\s.tm 0=vJ p l/\s.tm 3=.map 0/\s.tm 4=iv i/\s.df=[]/\s.H=[mo]) (n:=l.length) ?_ ?_)
 .exact⟨0,[],.map0,rfl,Zn _,.inl ⟨rfl,rfl⟩,(Vq l).symm,zt,zt,zt,rfl,rfl⟩
 .rintro m ⟨tm,M,H⟩ ⟨i,seen,mo,rfl,hi,hs,hd,a,h3,h4,rfl,rfl⟩;dsimp only at a h3 h4;refine vu (zj a h4) ?_ ?_;rotate_left
  .intro b;have b:¬i<l.length:=vL b;obtain rfl:i=l.length:=zo;refine zO ?_;refine ve.bool ?_;rw[hd,ZS];rfl
  intro b;have b:i<l.length:=vM b;obtain⟨x,D⟩:=wX (l:=l) b;have e:(l.map pv)[i]?=some (pv x):=vU D;have K:l.drop i=x::l.drop (i+1):=pX D;rw[K,lH]at hd;have L:some x.1=ak l (i+1):=by unfold ak;rw[if_neg zo,zEO9,Zq,D];rfl
  rw[L]at hd;refine vD ?_;refine zB ?_;refine ur (Q:=fun y w=>y=.norm/\w.tm 46=.bool (!mH seen (ak l i) x)/\w.tm 0=vJ p l/\w.tm 3=.map 0/\w.tm 4=iv i/\w.df=[]/\w.H=[mo]) (wV ?_) ?_
  .by_cases c:(decide (1<=x.2)&&decide (x.2<=1099511627776))=true
   rotate_left
   .have c:(decide (1<=x.2)&&decide (x.2<=1099511627776))=false:=by simpa using c
    refine wF (wQ a h3 h4 e b c) (cm x.2) ?_;refine vj (wQ a h3 h4 e b c) ?_;exact⟨by simp[mH,c],a,h3,h4⟩
   have u:1<=x.2:=by simp at c;exact c.1
   have v:x.2<=1099511627776:=by simp at c;exact c.2
   by_cases I:i=0
   .subst I;rcases hs with⟨rfl,rfl⟩|⟨J,rfl,A⟩
    .skip
     refine wF (wQ a h3 h4 e b c) (cm x.2) ?_;refine vj (wQ a h3 h4 e b c) ?_;exact⟨by simp[mH,u,v,ak,al],a,h3,h4⟩
    .have d:=A x.2
     by_cases k:seen.contains x.2=true
     .rw[if_pos k]at d;have t:x.2∈seen:=by simpa using k
      refine wF (ww a h3 h4 e b c d) (cm x.2) ?_;refine vj (ww a h3 h4 e b c d) ?_;exact⟨by simp[mH,u,v,ak,al,t],a,h3,h4⟩
     .rw[if_neg k]at d;have t:¬x.2∈seen:=by simpa using k
      refine wF (ww a h3 h4 e b c d) (cm x.2) ?_;refine vj (ww a h3 h4 e b c d) ?_;exact⟨by simp[mH,u,v,ak,al,t],a,h3,h4⟩
   have o:(0:Int)<(i:Int):=zo;have r:IntKind.i64.wrap ((i:Int)-1)=((i-1:Nat):Int):=wx;have g:i-1<l.length:=zo;have j:(l.map pv)[i-1]?=some (pv (l.getD (i-1) (0,0))):=by rw[Zt,get_lt l g];rfl
   have z:ak l i=some (l.getD (i-1) (0,0)).1:=by unfold ak;rw[if_neg I]
   generalize l.getD (i-1) (0,0)=pr at j z
   by_cases C:pr.1<x.1
   .have f:¬((x.1:Nat):Int)<=(pr.1:Nat):=zo;rcases hs with⟨rfl,rfl⟩|⟨J,rfl,A⟩
    .skip
     refine wF (xI a h3 h4 e b c o r g j f) (cm x.2) ?_;refine vj (xI a h3 h4 e b c o r g j f) ?_;exact⟨by simp[mH,u,v,z,al,C],a,h3,h4⟩
    .have d:=A x.2
     by_cases k:seen.contains x.2=true
     .rw[if_pos k]at d;have t:x.2∈seen:=by simpa using k
      refine wF (wP a h3 h4 e b c o r g j f d) (cm x.2) ?_;refine vj (wP a h3 h4 e b c o r g j f d) ?_;exact⟨by simp[mH,u,v,z,al,C,t],a,h3,h4⟩
     .rw[if_neg k]at d;have t:¬x.2∈seen:=by simpa using k
      refine wF (wP a h3 h4 e b c o r g j f d) (cm x.2) ?_;refine vj (wP a h3 h4 e b c o r g j f d) ?_;exact⟨by simp[mH,u,v,z,al,C,t],a,h3,h4⟩
   .have f:((x.1:Nat):Int)<=(pr.1:Nat):=zo;refine wF (xI a h3 h4 e b c o r g j f) (cm x.2) ?_;refine vj (xI a h3 h4 e b c o r g j f) ?_;exact⟨by simp[mH,u,v,z,al,C],a,h3,h4⟩
  clear a h3 h4;rintro y ⟨tm,M,H⟩ ⟨rfl,G,a,h3,h4,rfl,rfl⟩;dsimp only at *
  by_cases B:mH seen (ak l i) x=true
  rotate_left
  .have B:mH seen (ak l i) x=false:=by simpa using B
   refine pY G ?_ ?_
   .intro _;refine zO ?_;refine ve.bool ?_
    grind
   .rw[B];intro h;cases h
  rw[B,Z9]at hd;refine pY G ?_ ?_
  .rw[B];intro h;cases h
  intro _;refine vY ?_;rcases hs with⟨rfl,rfl⟩|⟨J,rfl,A⟩
  .refine vp (vX a h3 h4 e b) ?_;refine vp h4 ?_;refine⟨_,?N,i+1,[x.2],_,rfl,b,.inr ⟨_,rfl,fun q=>?_⟩,hd,zu a,zu h3,zu h4,rfl,rfl⟩
   case N=>omega
   by_cases d:q=x.2
   .subst d;simp
   .have:¬(q:Int)=x.2:=zo;simp[d,this]
  .refine vp (vX a h3 h4 e b) ?_;refine vp h4 ?_;refine⟨_,?O,i+1,x.2::seen,_,rfl,b,.inr ⟨_,rfl,fun q=>?_⟩,hd,zu a,zu h3,zu h4,rfl,rfl⟩
   case O=>omega
   by_cases d:q=x.2
   .subst d;simp
   .have:¬(q:Int)=x.2:=zo;rw[if_neg this,A q];simp[d]


theorem Fp(n:zi)(h1:n.level<=12)(h2:n.sib<2048)(h3:n.way<=2)(hp:n.pairs.length<=27):FR 75 [vl p n] (wv 0 (vI n)):=by
 refine zn (eG T75 func75) (Lb.uvs _) ?_;have b:(7522529147838689024:Int)+(n.level:Int)=((7522529147838689024+n.level:Nat):Int):=zo;have g:∀k,k<64->∃v,((uA n k).map uv)[k]?=some v:=fun k i=>⟨_,Zg (by rw[ZB,tW];exact i)⟩
 have s:∀k,(uA n (k+1)).map uv=((uA n k).map uv).set k (uv (lS k n)):=fun k=>by rw[show uA n (k+1)=(uA n k).set k (lS k n)from rfl,zBR9]
 obtain⟨Z,o⟩:=g 0 zy;obtain⟨v1,r⟩:=g 1 zy;obtain⟨v2,t⟩:=g 2 zy;obtain⟨v3,u⟩:=g 3 zy;obtain⟨v4,w⟩:=g 4 zy;have y:((uA n 0).map uv).set 0 (.int .u64 ((7522529147838689024+n.level:Nat):Int))=(uA n 1).map uv:=(s 0).symm;have z:((uA n 1).map uv).set 1 (.int .u64 (n.sib:Int))=(uA n 2).map uv:=(s 1).symm;have A:((uA n 2).map uv).set 2 (.int .u64 (n.low:Int))=(uA n 3).map uv:=(s 2).symm;have B:((uA n 3).map uv).set 3 (.int .u64 (n.left:Int))=(uA n 4).map uv:=(s 3).symm;have C:((uA n 4).map uv).set 4 (.int .u64 (n.way:Int))=(uA n 5).map uv:=(s 4).symm;refine zB ?_;refine zI ?_;refine uH ?_;refine zB ?_;refine zI ?_;refine uH ?_;have c:List.replicate 64 (PV.int .u64 0)=(uA n 0).map uv:=by rw[show uA n 0=List.replicate 64 0 from rfl,zEP9];rfl
 rw[c];generalize T:(uA n 0).map uv=L0 at *
 generalize U:(uA n 1).map uv=L1 at *
 generalize V:(uA n 2).map uv=L2 at *
 generalize X:(uA n 3).map uv=L3 at *
 generalize Y:(uA n 4).map uv=L4 at *
 generalize d:(uA n 5).map uv=L5 at *
 refine vR ?_;refine vW (vh b o y) ?_;refine vW (zj r z) ?_;refine vW (zj t A) ?_;refine vW (zj u B) ?_;refine vW (zj w C) ?_;refine vj b ?_;refine zG ?_;subst d;refine vm (vy (fun m s=>∃(j:Nat) (G:LP),m=n.pairs.length-j/\j<=n.pairs.length/\s.tm 1=.ptr 0 0 0 0 6/\s.tm 3=.sl 1 0 0 64 128 1/\s.tm 4=iv j/\s.df=[]/\s.H=.row 143 6 0 0 [vl p n]::.row 29 1 0 0 ((yp n j).map uv)::G) (n:=n.pairs.length) ?_ ?_)
 .exact⟨0,_,rfl,Zn _,zt,zt,zt,rfl,rfl⟩
 .rintro m ⟨tm,df,H⟩ ⟨j,G,rfl,hj,t1,t3,t4,rfl,rfl⟩;dsimp only at t1 t3 t4;refine vu (zj t1 t4) ?_ ?_
  .intro a;have a:j<n.pairs.length:=vM a;have e:(n.pairs.map pv)[j]?=some (pv (n.pairs.getD j (0,0))):=by rw[Zt,get_lt _ a];rfl
   obtain⟨D,f⟩:∃old,(yp n j)[8+2*j]?=some old:=⟨_,Zg (by rw[af];omega)⟩
   obtain⟨I,h⟩:∃old,((yp n j).set (8+2*j) (n.pairs.getD j (0,0)).1)[8+2*j+1]?=some old:=⟨_,Zg (by rw[Z2,af];omega)⟩
   have J:IntKind.i64.wrap (2*(j:Int))=((2*j:Nat):Int):=wx;have K:IntKind.i64.wrap (8+((2*j:Nat):Int))=((8+2*j:Nat):Int):=wx;have L:IntKind.i64.wrap (9+((2*j:Nat):Int))=((8+2*j+1:Nat):Int):=wx;have M:8+2*j<64:=zo;have N:8+2*j+1<64:=zo;have O:((yp n j).map uv)[8+2*j]?=some (uv D):=vU f;have P:(((yp n j).set (8+2*j) (n.pairs.getD j (0,0)).1).map uv)[8+2*j+1]?=some (uv I):=vU h;have Q:((yp n j).map uv).set (8+2*j) (.int .u64 ((n.pairs.getD j (0,0)).1:Int))=((yp n j).set (8+2*j) (n.pairs.getD j (0,0)).1).map uv:=zBR9.symm;have R:(((yp n j).set (8+2*j) (n.pairs.getD j (0,0)).1).map uv).set (8+2*j+1) (.int .u64 ((n.pairs.getD j (0,0)).2:Int))=(yp n (j+1)).map uv:=zBR9.symm;generalize n.pairs.getD j (0,0)=q at *
   generalize (yp n j).map uv=K0 at *
   generalize ((yp n j).set (8+2*j) q.1).map uv=K1 at *
   refine vD ?_;refine vR ?_;refine vW (kO t1 t3 t4 e J K L M O Q) ?_;refine vW (vh N P R) ?_;refine bH ?_ (by simp(disch:=omega)only[go_sem]<;>rfl);refine wY ?_;simp only[go_sem];refine zB ?_;refine xr t4 ?_;refine yR ?_;refine⟨_,?m2,j+1,G,rfl,a,by simp[zb,t1],by simp[zb,t3],by simp[zb],rfl,rfl⟩;omega
  .intro a;have a:¬j<n.pairs.length:=vL a;obtain rfl:j=n.pairs.length:=zo;(repeat(first|refine vq ?_|refine vC t3 ?_));refine vw (wo ?_);refine ze.wh (l:=(yp n n.pairs.length).map uv) rfl rfl (by simp[af]) (by simp[af]) (fun v S=>?_) tQ;obtain⟨x,_,rfl⟩:=Zu.1 S;rfl
theorem ze.wM{H:LP}{lab id e z z' G M o n q:Nat}{l:LQ}(hH:H[id]?=some (.row e z' G M l))(hM:M<=G)(ho:o=0)(hl:n=l.length)(hq:2*l.length<=q)(hz:∀v∈l,v.cells.length=z)(hs:∀v∈l.flatMap PV.cells,vg v) :
  ze H lab (.sl id G o n q z) (.list lab z l):=by
 subst ho hl;refine .sl hH hM (Zi _) zo hq rfl hz (by simp) fun i x y b a=>?_;have:x=y:=by grind
 subst this;exact(hs _ (Zj a)).frz
end Fv
end Go.Proofs.YtkeknmgnoceogaaGreat
