/- part 6 of the proof of dir_holds. -/
import Derived.Test.YtkeknmgnoceogaaGreatDH5
import Derived.KernelRfl
set_option linter.unusedSimpArgs false
set_option linter.unusedVariables false
set_option linter.defProp false
set_option maxRecDepth 100000
set_option maxHeartbeats 4000000
namespace Go.Proofs.YtkeknmgnoceogaaGreat
open Tryz
namespace Fv
open Tw
variable {F:ze}{f:Func}{n:Nat}{t:AF}
def oO:LN:=[11,200,185,244,352,194,336,172]
noncomputable def bh:LN->AF->AF
 | [],t=>t
 | n::l,t=>(bh l t).set n none
theorem MB:∀{l:LN},l.contains n=false->(bh l t).get n=t.get n
 | [],_=>rfl
 | m::l,h=>by
  rw[zCO9,Bool.or_eq_false_iff]at h;show ((bh l t).set m none).get n=_;rw[Tr.get_set,if_neg (by simpa using h.1)];exact MB h.2
theorem ME:∀{l:LN},(bh l t).get n=some F->t.get n=some F
 | [],h=>h
 | m::l,h=>by
  have h:((bh l t).set m none).get n=some F:=h;rw[Tr.get_set]at h
  split at h
  .cases h
  .exact ME h
theorem MD:∀{l:LN},l.contains n=true->(bh l t).get n=none
 | m::l,h=>by
  show ((bh l t).set m none).get n=_;rw[Tr.get_set]
  split
  .rfl
  .rename_i hn;rw[zCO9]at h;have a:(n==m)=false:=by simpa using hn
   rw[a,Bool.false_or]at h;exact MD h
noncomputable def Xi (f:Nat):Option (LK->TH->Option (TE×TH)):=bif Nat.beq f 11 then some rm else bif Nat.beq f 172 then some (cD 3)else rj f
noncomputable def ET:vC:=⟨bh oO dZ,Xi,Ez,L7,0⟩
abbrev FR(f:Nat)(a:List PV)(v:PV):Prop:=FN ET f a (.ret v)
theorem mX(h:prog.funcs[n]?=some f)(hF:m7 prog f=some F:=by kernel_rfl)(hn:oO.contains n=false:=by decide):ET.funcs.get n=some F:=by
 show (bh oO dZ).get n=some F;rw[MB hn];exact QL h hF
theorem eG(F:ze)(h:prog.funcs[n]?=some f)(hF:m7 prog f=some F:=by kernel_rfl)(hn:oO.contains n=false:=by decide):ET.funcs.get n=some F:=mX h hF hn
theorem fe(hn:oO.contains n=true:=by decide):ET.funcs.get n=none:=MD hn
theorem Qx:ET.funcs.get 172=none:=fe
theorem Xg:ET.spec 172=some (cD 3):=rfl
abbrev Pr:=Nat×Nat
abbrev LP:=List Pr
variable {z:Nat}(l:LN)
def uj(left n:Nat):Bool:=decide (left≠0)&&decide (n%2=0)&&decide (2<=n/2)&&decide (n/2<=28)
def vR:LN->Nat
 | _::p::l=>if p=0 then 0 else vR l+1
 | _=>0
def vg:Nat->LN->LP
 | prev,k::p::l=>if p=0 then[]else if p=prev then vg p l else(k,p)::vg p l
 | _,_=>[]
def wy(left:Nat)(l:LN):LP:=if uj left l.length=true then vg left l else[]
def vz:LP->Bool
 | a::b::l=>decide (a.1<b.1)&&vz (b::l)
 | _=>true
def xr:LN->LP->Bool
 | seen,p::l=>!seen.contains p.2&&xr (p.2::seen) l
 | _,[]=>true
def xw:LN->Bool
 | _::p::l=>decide (p=0)&&xw l
 | _=>true
def pX(left:Nat)(l:LN):Bool :=
 vz (wy left l)&&xr [left] (wy left l)&&decide ((wy left l).length=vR l)&&decide ((wy left l).length<l.length/2)&&xw (l.drop (2*(wy left l).length))
def w7(left:Nat)(l:LN):Nat:=if uj left l.length=true then if pX left l=true then 0 else 190 else 2
def yU(left:Nat)(l:LN)(j:Nat):Nat:=if j=0 then left else l.getD (2*(j-1)+1) 0
theorem Ca(j:Nat)(h:2*j+1<l.length):l.drop (2*j)=l[2*j]::l[2*j+1]::l.drop (2*(j+1)):=by
 rw[YE (i:=2*j) zo,YE (i:=2*j+1) h];rfl
theorem KS:∀l:LN,2*vR l<=l.length
 | []=>by simp[vR]
 | [_]=>by simp[vR]
 | _::p::l=>by
  have:=KS l;rw[vR]
  grind
theorem Wz{l:LN}(h:l.length<2):vR l=0:=by
 match l,h with
 | [],_=>rfl
 | [_],_=>rfl
@[reducible] def wv (p:Nat) (l:LN):PV:=.list p 1 (l.map uv)
@[reducible] def pv (x:Pr):PV:=.agg [uv x.1,uv x.2]
@[reducible] def vO (p:Nat) (l:LP):PV:=.list p 2 (l.map pv)
theorem Lb.uvs:Lb (.list 0 z (l.map uv)):=.list fun x a=>by
 obtain⟨y,b,a⟩:=YG.1 a;obtain⟨n,_,rfl⟩:=Yx.1 b;simp[PV.cells]at a;subst a;exact .int _ _
theorem Lb.ivs(l:LH):Lb (.list 0 z (l.map iv)):=.list fun x a=>by
 obtain⟨y,b,a⟩:=YG.1 a;obtain⟨n,_,rfl⟩:=Yx.1 b;simp[PV.cells]at a;subst a;exact .int _ _
theorem Lb.pvs(l:LP):Lb (.list 0 z (l.map pv)):=.list fun x a=>by
 obtain⟨y,b,a⟩:=YG.1 a;obtain⟨n,_,rfl⟩:=Yx.1 b;simp[PV.cells]at a;rcases a with rfl|rfl<;>exact .int _ _
structure zi where
 level:Nat
 sib:Nat
 low:Nat
 left:Nat
 way:Nat
 pairs:LP
deriving DecidableEq
abbrev LC:=List zi
def nM(p:Nat):Bool:=decide (1<=p)&&decide (p<2048)
def yK:Nat->Nat->Nat->Bool
 | 0,_,w=>decide (7522529147838689024<=w)&&decide (w<=7522529147838689024+12)
 | 1,_,w=>decide (w<2048)
 | 2,_,_=>true
 | 3,lv,w=>(decide (lv=0)&&decide (w=9223372036854775808))||(decide (0<lv)&&nM w)
 | _,_,w=>decide (w<=2)
@[irreducible] def kS (x:Nat):Nat:=x - 7522529147838689024
theorem Db(x:Nat):kS x=x-7522529147838689024:=by unfold kS;rfl
def headB(l:LN):Bool:=decide (l.length=64)&&((l.take 8).drop 5).all (fun x=>decide (x=0))&&(List.range 5).all fun i=>yK i (kS (l.getD 0 0)) (l.getD i 0)
def headN(l:LN):zi:=⟨kS (l.getD 0 0),l.getD 1 0,l.getD 2 0,l.getD 3 0,l.getD 4 0,wy (l.getD 3 0) (l.drop 8)⟩
def kF:zi:=⟨0,0,0,0,0,[]⟩
def DD:Nat->zi->Nat
 | 0,n=>7522529147838689024+n.level
 | 1,n=>n.sib
 | 2,n=>n.low
 | 3,n=>n.left
 | _,n=>n.way
def uT(n:zi)(p:Pr):Bool:=if n.level=0 then decide (1<=p.2)&&decide (p.2<=1099511627776)&&decide (n.low<=p.1)else nM p.2&&decide (n.low<p.1)
def nZ(l:LN):Bool:=decide (w7 (headN l).left (l.drop 8)=0) && !((headN l).pairs.any fun q=>!uT (headN l) q)
def wi(l:LN):Nat:=if headB l=true then if nZ l=true then 0 else 190 else 210
def oF(n:zi):LN:=[7522529147838689024+n.level,n.sib,n.low,n.left,n.way,0,0,0]
def vA(l:LP):LN:=l.flatMap fun x=>[x.1,x.2]
@[reducible] def wb (p:Nat) (n:zi):PV:=.agg [iv n.level,iv n.sib,uv n.low,uv n.left,iv n.way,vO p n.pairs]
def I4:Nat->Nat
 | 0=>261|1=>264|2=>267|3=>270|_=>273
def K3:Nat->Nat
 | 0=>262|1=>265|2=>268|3=>271|_=>274
def Q2:Nat->Nat
 | 0=>263|1=>266|2=>269|3=>272|_=>275
@[reducible] def JS (i:Nat):PV:=.agg [.fn (I4 i) [],.fn (K3 i) [],.fn (Q2 i) []]
def dI:LJ:=(List.range 5).map JS
def vT:LN->Nat
 | []=>0
 | x::l=>x+256*vT l
def wV(b:LN):LN:=(List.range ((b.length+7)/8)).map fun i=>vT ((b.drop (8*i)).take 8)
def xW(w:Nat):LN:=(List.range 8).map fun k=>w/2 ^ (8*k)%256
def yk(l:LN):LN:=l.flatMap xW
def vH(b:LN):Prop:=∀x∈b,x<256
variable {b:LN}{x y:Nat}(l:LN)(n w:Nat)
theorem Bk:∀{b:LN},vH b->vT b<256 ^ b.length
 | [],_=>by simp[vT]
 | x::l,h=>by
  have h1:=h x (by simp);have h2:=Bk (b:=l) fun y a=>h y (Ys _ a);rw[vT,Yq,zBX9];omega
theorem ED:∀(b:LN) (x:Nat),vT (b++[x])=vT b+256 ^ b.length*x
 | [],x=>by simp[vT]
 | y::l,x=>by
  rw[Yy,vT,ED l x,vT,Yq,zBX9,zCI9,<- Nat.mul_assoc,zAN9 256 (256 ^ l.length)];omega
theorem JW:256 ^ n=2 ^ (8*n):=by rw[Nat.pow_mul]
theorem Yb(hb:vH b)(x:Nat):Nat.lor (vT b) (x*2 ^ (8*b.length))=vT (b++[x]):=by
 have h:=Bk hb;rw[JW]at h;rw[ED,JW];have:=Nat.two_pow_add_eq_or_of_lt h x;show vT b ||| x*2 ^ (8*b.length)=_;rw[Nat.or_comm,zAN9 x,<- this];omega
theorem rA(hb:vH b)(hl:b.length<=8):vT b<18446744073709551616:=by
 have h:=Bk hb;have h2:256 ^ b.length<=256 ^ 8:=ZC zo hl;omega
theorem vH.sub{c:LN}(h:vH b)(hs:∀x∈c,x∈b):vH c:=fun x a=>h x (hs x a)
theorem vH.take(h:vH b)(n:Nat):vH (b.take n):=h.sub fun _=>YW
theorem vH.drop(h:vH b)(n:Nat):vH (b.drop n):=h.sub fun _=>Y5
theorem pP(b:LN):(wV b).length=(b.length+7)/8:=by simp[wV]
theorem s8{i:Nat}(h:8*i<b.length):(wV b)[i]?=some (vT ((b.drop (8*i)).take 8)):=by
 have:i<(b.length+7)/8:=zo;simp[wV,this]
theorem SQ(h:b.length%8=0):wV (b++[x])=wV b++[x]:=by
 obtain⟨n,a⟩:∃n,b.length=8*n:=⟨b.length/8,by omega⟩
 unfold wV;rw[Yn,ZJ,a,show (8*n+1+7)/8=n+1 by omega,show (8*n+7)/8=n by omega,Zw,YJ]
 congr 1
 .refine Zh fun i c=>?_;rw[Zm]at c;rw[zAB9 zo,ZG (by rw[Y0];omega)]
 .simp[<- a,vT]
theorem SP(hb:vH b)(h:¬b.length%8=0):wV (b++[x])=(wV b).set (b.length/8) (Nat.lor ((wV b).getD (b.length/8) 0) (x*2 ^ (8*(b.length%8)))):=by
 have j:(b.length+1+7)/8=(b.length+7)/8:=zo;have c:8*(b.length/8)<b.length:=zo;have d:(wV b).getD (b.length/8) 0=vT (b.drop (8*(b.length/8))):=by
  rw[Yu,s8 c,Option.getD_some,YV (by rw[Y0];omega)]
 have f:(b.drop (8*(b.length/8))).length=b.length%8:=by rw[Y0];omega
 rw[d,<- f,Yb (hb.drop _)];refine Zn fun i=>?_;rw[zBI9,pP]
 by_cases a:i<(b.length+7)/8
 .have g:8*i<(b++[x]).length:=by rw[Yn,ZJ];omega
  rw[s8 g]
  by_cases e:b.length/8=i
  .subst e;rw[if_pos rfl,if_pos a,zAB9 zo,YV (by rw[Yn,Y0,ZJ];omega)]
  .rw[if_neg e,s8 zo,zAB9 zo,ZG (by rw[Y0];omega)]
 .rw[Za (by rw[pP,Yn,ZJ];omega)];rw[if_neg zo,Za (by rw[pP];omega)]
theorem CY(hb:vH b):∀w∈wV b,w<18446744073709551616:=fun w a=>by
 unfold wV at a;rw[Yx]at a;obtain⟨i,_,rfl⟩:=a;exact rA ((hb.drop _).take _) (by rw[YF];omega)
theorem O0:vH (xW w):=fun x a=>by
 unfold xW at a;rw[Yx]at a;obtain⟨i,_,rfl⟩:=a;omega
theorem BV:vH (yk l):=fun x a=>by
 obtain⟨w,_,h⟩:=YG.1 a;exact O0 w x h
theorem sh:(yk l).length=8*l.length:=by
 unfold yk;rw[List.length_flatMap];simp[xW,List.map_const',List.sum_replicate_nat];omega
theorem Oz:yk (l++[w])=yk l++xW w:=by unfold yk;rw[Zj];simp
def bl(b:LN):LJ:=b.map fun n:Nat=>.int .u8 n
theorem yh(b:LN):(bl b).length=b.length:=Yw ..
theorem se(b:LN)(i:Nat):(bl b)[i]?=b[i]?.map fun n:Nat=>PV.int .u8 n:=YH ..
def vW(s:LN):Nat:=if s=[]\/s=[46]\/s=[46,46]\/0∈s\/47∈s then 140 else if 120<s.length then 141 else 0
def aI(r x:Nat):Nat:=Tw.lO (Nat.xor r x)
def gO(w n:Nat):Nat:=Nat.lor (w*2 ^ n%18446744073709551616) (w/2 ^ (64-n))
structure jY where
 a:Nat
 b:Nat
 c:Nat
 d:Nat
def xk(x y:Nat):Nat:=(x+y)%18446744073709551616
def jY.h1(v:jY):jY:=⟨gO (xk v.a v.b) 32,Nat.xor (gO v.b 13) (xk v.a v.b),v.c,v.d⟩
def jY.h2(v:jY):jY:=⟨v.a,v.b,xk v.c v.d,Nat.xor (gO v.d 16) (xk v.c v.d)⟩
def jY.h3(v:jY):jY:=⟨xk v.a v.d,v.b,v.c,Nat.xor (gO v.d 21) (xk v.a v.d)⟩
def jY.h4(v:jY):jY:=⟨v.a,Nat.xor (gO v.b 17) (xk v.c v.b),gO (xk v.c v.b) 32,v.d⟩
def jY.rnd(v:jY):jY:=v.h1.h2.h3.h4
def jY.rnds(v:jY):Nat->jY
 | 0=>v
 | n+1=>(v.rnd).rnds n
def jY.low(v:jY)(m:Nat):jY:=⟨Nat.xor v.a m,v.b,v.c,v.d⟩
def jY.into(v:jY)(m:Nat):jY:=(jY.rnds ⟨v.a,v.b,v.c,Nat.xor v.d m⟩ 2).low m
def jY.new(k0 k1:Nat):jY:=⟨Nat.xor k0 8317987319222330741,Nat.xor k1 7237128888997146477,Nat.xor k0 7816392313619706465,Nat.xor k1 8387220255154660723⟩
def jY.words(v:jY)(l:LN):jY:=l.foldl jY.into v
def jY.fin(v:jY):Nat :=
 let v:=jY.rnds ⟨v.a,v.b,Nat.xor v.c 255,v.d⟩ 4
 Nat.xor (Nat.xor (Nat.xor v.a v.b) v.c) v.d
def xz(b:LN):LN:=wV (b.take (8*(b.length/8)))
def bX(b:LN):Nat:=vT (b.drop (8*(b.length/8)))+b.length%256*2 ^ 56
def kY(k0 k1:Nat)(b:LN):Nat:=(((jY.new k0 k1).words (xz b)).into (bX b)).fin
structure jY.ok(v:jY):Prop where
 a:v.a<18446744073709551616
 b:v.b<18446744073709551616
 c:v.c<18446744073709551616
 d:v.d<18446744073709551616
theorem ub(hx:x<18446744073709551616)(hy:y<18446744073709551616):Nat.xor x y<18446744073709551616:=zAF9 (n:=64) hx hy
theorem UM(hx:x<18446744073709551616)(hy:y<18446744073709551616):Nat.lor x y<18446744073709551616:=Nat.or_lt_two_pow (n:=64) hx hy
theorem kK(x y:Nat):xk x y<18446744073709551616:=by unfold xk;omega
theorem cA(hx:x<18446744073709551616):gO x n<18446744073709551616:=UM zo (zBB9 (zBY9 _ _) hx)
section
variable {v:jY}
variable {m:Nat}
theorem jY.h1_ok(h:v.ok):v.h1.ok:=by
 unfold jY.h1;exact⟨cA 32 (kK _ _),ub (cA 13 h.b) (kK _ _),h.c,h.d⟩
theorem jY.h2_ok(h:v.ok):v.h2.ok:=by
 unfold jY.h2;exact⟨h.a,h.b,kK _ _,ub (cA 16 h.d) (kK _ _)⟩
theorem jY.h3_ok(h:v.ok):v.h3.ok:=by
 unfold jY.h3;exact⟨kK _ _,h.b,h.c,ub (cA 21 h.d) (kK _ _)⟩
theorem jY.h4_ok(h:v.ok):v.h4.ok:=by
 unfold jY.h4;exact⟨h.a,ub (cA 17 h.b) (kK _ _),cA 32 (kK _ _),h.d⟩
theorem jY.rnd_ok(h:v.ok):v.rnd.ok:=by
 unfold jY.rnd;exact jY.h4_ok (jY.h3_ok (jY.h2_ok (jY.h1_ok h)))
theorem jY.rnds_ok:∀{n:Nat} {v:jY},v.ok->(v.rnds n).ok
 | 0,_,h=>h
 | n+1,_,h=>jY.rnds_ok (n:=n) (jY.rnd_ok h)
theorem jY.low_ok(h:v.ok)(hm:m<18446744073709551616):(v.low m).ok:=by
 unfold jY.low;exact⟨ub h.a hm,h.b,h.c,h.d⟩
theorem jY.into_ok(h:v.ok)(hm:m<18446744073709551616):(v.into m).ok:=by
 have h2:jY.ok ⟨v.a,v.b,v.c,Nat.xor v.d m⟩:=⟨h.a,h.b,h.c,ub h.d hm⟩
 unfold jY.into;exact jY.low_ok (jY.rnds_ok h2) hm
end
@[reducible] def vm (x:Pr):PV:=.agg [iv x.1,uv x.2]
attribute [go_sem] qI qn xT qX qu zj T3 T4 T7 T10 T11 T12 T13 T14 T15 T16 T17 T18 T19 T20 T23 T26 T27 T28 T30 T32 T33 T34 T35 T36 T37 T39 T40 T41 T46 T47 T50 T51 T52 T53 T54 T55 T58 T59 T60 T61 T63 T68 T69 T70 T71 T72 T73 T74 T75 T76 T77 T78 T79 T80 T86 T87 T88 T89 T90 T92 T93 T94 T95 T96 T97 T98 T99 T106 T107 T108 T109 T110 T111 T112 T115 T116 T120 T121 T122 T123 T124 T125 T126 T127 T128 T129 T130 T131 T133 T134 T135 T136 T137 T138 T139 T140 T141 T142 T143 T144 T145 T146 T147 T148 T149 T162 T163 T164 T165 T166 T167 T168 T169 T170 T171 T172 T175 T179 T180 T181 T182 T183 T184 T186 T187 T188 T189 T192 T193 T195 T196 T197 T198 T199 T202 T203 T204 T205 T206 T207 T208 T209 T210 T211 T212 T213 T214 T217 T219 T220 T221 T222 T223 T224 T225 T226 T227 T228 T229 T230 T234 T235 T236 T237 T238 T239 T240 T241 T242 T243 T245 T246 T247 T248 T249 T250 T251 T252 T253 T254 T256 T257 T258 T259 T260 T261 T262 T263 T264 T265 T266 T267 T268 T269 T270 T271 T272 T273 T274 T275 T276 T280 T281 T282 T283 T284 T285 T286 T287 T288 T289 T290 T291 T292 T293 T294 T295 T296 T297 T298 T299 T300 T302 T303 T304 T305 T306 T307 T308 T309 T310 T311 T312 T313 T314 T315 T316 T317 T318 T319 T321 T322 T323 T324 T325 T326 T327 T328 T329 T330 T331 T332 T333 T334 T335 T337 T338 T339 T340 T341 T342 T343 T344 T346 T347 T348 T349 T350 T351 T353 T354 T355 T356 T357 T359 T360 T361

@[reducible] def vN (n:Int):PV:=.iface 38 (.int .i64 n)
variable (e:Int)
theorem nf:FR 97 [.bool true,.int .i64 e] (.tuple []):=by
 refine qv (eG T97 func97) Lb.unit ?_;refine vj (wX ?_);refine wA ?_ ?_
 .intro h;cases h
 .intro _;refine wY ?_;exact⟨[],rfl,zf.tL trivial⟩
theorem pt:FN ET 97 [.bool false,.int .i64 e] (.panic (vN e)):=by
 refine qv (eG T97 func97) (.iface (.int _ _)) ?_;refine vj (wX ?_);refine wA ?_ ?_
 .intro _;refine vX ?_;refine wg ?_;refine Bw (ty:=38) (v:=.int .i64 e) rfl (by simp[zV,ev,zq,zb]) ?_;exact zf.iface (.int _ _)
 .intro h;cases h
theorem an:FR 204 [.bool true,.int .i64 e] (.tuple []):=by
 refine qv (eG T204 func204) Lb.unit ?_;refine vj (wX ?_);refine wA ?_ ?_
 .intro h;cases h
 .intro _;refine wY ?_;exact⟨[],rfl,zf.tL trivial⟩
theorem gS:FN ET 204 [.bool false,.int .i64 e] (.panic (vN e)):=by
 refine qv (eG T204 func204) (.iface (.int _ _)) ?_;refine vj (wX ?_);refine wA ?_ ?_
 .intro _;refine vX ?_;refine wg ?_;refine Bw (ty:=38) (v:=.int .i64 e) rfl (by simp[zV,ev,zq,zb]) ?_;exact zf.iface (.int _ _)
 .intro h;cases h
theorem HE(p:Nat)(l:LH)(n:Int)(hl:l.length<4611686018427387904):FR 123 [.list p 1 (l.map iv),.int .i64 n] (.bool (l.contains n)):=by
 refine qv (eG T123 func123) (.bool _) ?_;refine vj (wX ?_);refine vj ?_;refine vj (wX ?_);refine vo (vG (fun m s=>∃i:Nat,m=l.length-i/\i<=l.length/\(l.take i).contains n=false/\s.tm 0=.list p 1 (l.map iv)/\s.tm 1=.int .i64 n/\s.tm 5=.int .i64 i/\s.df=[]/\s.H=[]) (n:=l.length) ?_ ?_)
 .exact⟨0,by simp[zb,zr]⟩
 .rintro m ⟨tm,df,H⟩ ⟨i,rfl,hi,hc,h0,h1,h5,rfl,rfl⟩;dsimp only at h0 h1 h5;refine lF ?_;refine vj (vF (vn h0 h1 h5) ?_);refine lu ?_ ?_
  .intro a;have a:i<l.length:=wa a;refine vj (vo ?_);refine vj (vF (wd h0 h1 h5 (Yk a)) ?_);refine wA ?_ ?_
   .intro b;have b:=of_decide_eq_true b;refine vj (wX ?_);refine vt (we ?_);have:l.contains n=true:=by
     rw[zBP9];rw[<- b];exact YX a
    rw[this];exact zf.bool _
   .intro b;have b:=of_decide_eq_false b;refine wY ?_;refine vX ?_;refine w9 (vn h0 h1 h5) ?_;refine⟨_,?_,i+1,rfl,a,?_,?_⟩
    .omega
    .rw[List.take_succ_eq_append_getElem a]
     grind
    .have:IntKind.i64.wrap ((i:Int)+1)=((i+1:Nat):Int):=by rw[wrap_i64 zo zo];omega
     simp[zb,h0,h1]
  .intro a;have a:¬i<l.length:=vZ a;obtain rfl:i=l.length:=zo;refine vj (wX ?_);refine vt (we ?_);rw[YR]at hc;rw[hc];exact zf.bool _
abbrev vx(n:Nat):Prop:=n<4611686018427387904
variable (p:Nat)(w:LN)(left j:Nat)
theorem fD(hw:vx w.length):FR 205 [wv p w] (.int .i64 (w.length/2:Nat)):=by
 refine qv (eG T205 func205) (.int _ _) ?_;refine vj (wX ?_);have a:IntKind.i64.wrap ((w.length:Int).tdiv 2)=((w.length/2:Nat):Int):=by
  rw[IntWalk.i64_quo _ _ zo];omega
 refine vj (vX ?_);refine kE a ?_;exact zf.int _ _
theorem Ic(hw:vx w.length)(h:2*j<w.length):FR 285 [wv p w,.int .i64 j] (uv w[2*j]):=by
 refine qv (eG T285 func285) (.int _ _) ?_;refine vj (wX ?_);have a:IntKind.i64.wrap (2*(j:Int))=2*(j:Int):=yw;have b:(2*(j:Int)).toNat=2*j:=zo;have c:(0:Int)<=2*(j:Int):=zo;refine vj (vF (wd a b c (Yk h)) ?_);refine vt (we ?_);exact zf.int _ _
theorem iO(hw:vx w.length)(h:2*j+1<w.length):FR 259 [wv p w,.int .i64 j] (uv w[2*j+1]):=by
 refine qv (eG T259 func259) (.int _ _) ?_;refine vj (wX ?_);have a:IntKind.i64.wrap (2*(j:Int))=2*(j:Int):=yw;have b:IntKind.i64.wrap (2*(j:Int)+1)=2*(j:Int)+1:=yw;have c:(2*(j:Int)+1).toNat=2*j+1:=zo;have d:(0:Int)<=2*(j:Int)+1:=zo;refine vj (vF (wc a c d b (Yk h)) ?_);refine vt (we ?_);exact zf.int _ _
@[reducible] def xR (p:Nat) (w:LN) (left:Nat):PV:=.agg [wv p w,uv left]
theorem D9(hw:vx w.length):FR 257 [xR p w left] (.bool (uj left w.length)):=by
 refine qv (eG T257 func257) (.bool _) ?_;refine vj (wX ?_);refine vj (vX ?_)
 by_cases h1:left=0
 .subst h1;refine zP ?_;exact zf.bool _
 .have c:¬(left:Int)=0:=zo
  by_cases h2:w.length%2=0
  .have a:(w.length:Int).tmod 2=0:=by rw[IntWalk.rem_in _ _ zo];omega
   refine vU (jX c a) ?_;refine vi (fD p w hw) ?_
   by_cases h3:2<=w.length/2
   .have b:(2:Int)<=((w.length/2:Nat):Int):=zo;refine vU b ?_;refine vi (fD p w hw) ?_;refine zP ?_;have:uj left w.length=decide (((w.length/2:Nat):Int)<=28):=by simp[uj,h1,h2,h3];omega
    rw[this];exact zf.bool _
   .have b:¬(2:Int)<=((w.length/2:Nat):Int):=zo;refine kE b ?_;have:uj left w.length=false:=by simp[uj,h1,h2,h3]
    rw[this];exact zf.bool _
  .have a:¬(w.length:Int).tmod 2=0:=by rw[IntWalk.rem_in _ _ zo];omega
   refine kE (jX c a) ?_;have:uj left w.length=false:=by simp[uj,h1,h2]
   rw[this];exact zf.bool _


theorem BF(hw:vx w.length)(h:2*j<w.length+1):FR 209 [xR p w left,.int .i64 j] (uv (yU left w j)):=by
 refine qv (eG T209 func209) (.int _ _) ?_;refine zG ?_;refine wA ?_ ?_
 .intro a;obtain rfl:j=0:=wa a;refine zO ?_;exact zf.int _ _
 .intro a;have a:¬j=0:=vZ a;refine uL ?_;refine zI ?_;have b:(j:Int)-1=((j-1:Nat):Int):=zo;rw[b];refine vi (iO p w (j-1) hw zo) ?_;refine zP ?_;have:yU left w j=w[2*(j-1)+1]'zo:=by
   unfold yU;rw[if_neg a,Yu,Yk zo];rfl
  rw[this];exact zf.int _ _
theorem Kd(hw:vx w.length):FR 282 [xR p w left] (.int .i64 (vR w:Nat)):=by
 refine qv (eG T282 func282) (.int _ _) ?_;refine zG ?_;refine vo (vG (fun m s=>∃i:Nat,m=w.length-i/\2*i<=w.length/\vR w=i+vR (w.drop (2*i))/\s.tm 1=.ptr 0 0 0 0 2/\s.tm 2=.int .i64 i/\s.df=[]/\s.H=[.row 299 2 0 0 [xR p w left]]) (n:=w.length) ?_ ?_)
 .exact⟨0,by simp[zb,zr]⟩
 .rintro m ⟨tm,df,H⟩ ⟨i,rfl,hi,hc,h1,h2,rfl,rfl⟩;dsimp only at h1 h2;refine lF ?_;refine vp (jX h1 h2) ?_;refine vi (fD p w hw) ?_;have stop:∀b,vR (w.drop (2*i))=0->b 2=.int .i64 i->ow (fun m s=>∃i:Nat,m=w.length-i/\2*i<=w.length/\vR w=i+vR (w.drop (2*i))/\s.tm 1=.ptr 0 0 0 0 2/\s.tm 2=.int .i64 i/\s.df=[]/\s.H=[.row 299 2 0 0 [xR p w left]]) (w.length-i)
    (aG 0 (gQ (fun e=>W ET ET.caught none (.seq (.region [⟨some 17,.mov,[.tmp 2],none⟩,⟨some 2,.mov,[.tmp 17],none⟩]) .ret) e (ye ET T282 fun c H=>va H 0 c (.ret (.int .i64 (vR w:Nat))))) (ye ET T282 fun c H=>va H 0 c (.ret (.int .i64 (vR w:Nat)))))) (.exit 0) ⟨b,[],[.row 299 2 0 0 [xR p w left]]⟩:=fun b f g=>by
   refine uf g ?_;rw[hc,f];exact zf.int _ _
  by_cases j:i<w.length/2
  .have d:(i:Int)<((w.length/2:Nat):Int):=zo;refine vU (vn d h1 h2) ?_;refine wj (iO p w i hw zo) ?_;have hd:=Ca w i zo;refine lu ?_ ?_
   .intro a;have a:¬w[2*i+1]'zo=0:=by simpa using a
    refine vo ?_;refine vu h2 ?_;refine⟨_,?_,i+1,rfl,?_,?_,?_⟩
    .omega
    .omega
    .rw[hc,hd,vR,if_neg a];omega
    .simp[zb,h1]
   .intro a;have a:w[2*i+1]'zo=0:=by simpa using a
    refine stop _ ?_ (by simp[zb,h2]);rw[hd,vR,if_pos a]
  .have d:¬(i:Int)<((w.length/2:Nat):Int):=zo;refine uy (vn d h1 h2) ?_;refine lu ?_ ?_
   .intro h;cases h
   .intro _;refine stop _ ?_ (by simp[zb,h2]);exact Wz (by simp;omega)


theorem Tf(a b:Pr):FR 281 [pv a,pv b] (.bool (decide (a.1<b.1))):=by
 refine qv (eG T281 func281) (.bool _) ?_;refine zO ?_;have:decide ((a.1:Int)<(b.1:Int))=decide (a.1<b.1):=by simp
 rw[this];exact zf.bool _
theorem P9{α:Type}(l:List α)(i:Nat)(h:i+1<l.length):l.drop i=l[i]::l[i+1]::l.drop (i+2):=by simp_all
theorem V9{l:LP}(h:l.length<2):vz l=true:=by
 match l,h with
 | [],_=>rfl
 | [_],_=>rfl
theorem Wb(l:LP)(hl:vx l.length):FR 280 [vO p l,.fn 281 []] (.bool (vz l)):=by
 refine qv (eG T280 func280) (.bool _) ?_;refine zG ?_;refine vo (vG (fun m s=>∃i:Nat,m=l.length+1-i/\i<=l.length/\vz l=vz (l.drop i)/\s.tm 0=vO p l/\s.tm 1=.fn 281 []/\s.tm 5=.int .i64 (i+1:Nat)/\s.df=[]/\s.H=[]) (n:=l.length+1) ?_ ?_)
 .exact⟨0,by simp[zb,zr]⟩
 .rintro m ⟨tm,df,H⟩ ⟨i,rfl,hi,hc,h0,h1,h5,rfl,rfl⟩;dsimp only at h0 h1 h5;refine vJ (vn h0 h1 h5) ?_ ?_
  .intro a;have a:i+1<l.length:=wa a;refine vj (vo ?_);refine vj ?_;refine ua ?_;have c:((i+1:Nat):Int)-1=(i:Int):=zo;refine wD (uN h0 h1 h5 c (Yk a) (Yk (show i<l.length by omega))) (Tf l[i] l[i+1]) ?_;refine vq h0 ?_;have hd:=P9 l i a;refine wA ?_ ?_
   .intro b;have b:¬(l[i].1<l[i+1].1):=by simpa using b
    refine zO ?_;rw[hc,hd,vz];simp only[b,decide_false,Bool.false_and];exact zf.bool _
   .intro b;have b:l[i].1<l[i+1].1:=by simpa using b
    refine wY ?_;refine vu h5 ?_;refine⟨_,?_,i+1,rfl,by omega,?_,?_⟩
    .omega
    .rw[hc,hd,vz,YE a];simp[b]
    .simp[zb,h0,h1]
  .intro a;have a:¬i+1<l.length:=vZ a;refine zO ?_;rw[hc,V9 (by grind)];exact zf.bool _
def xS:Nat->Nat->LN->List (Nat×Pr)
 | i,prev,k::p::l=>if p=0 then[]else if p=prev then xS (i+1) p l else(i,(k,p))::xS (i+1) p l
 | _,_,_=>[]
def kz(left:Nat)(l:LN):List (Nat×Pr):=if uj left l.length=true then xS 0 left l else[]
theorem Au:∀(l:LN) (i prev:Nat),(xS i prev l).map (·.2)=vg prev l
 | [],_,_=>by simp[xS,vg]
 | [_],_,_=>by simp[xS,vg]
 | k::p::l,i,prev=>by
  rw[xS,vg]
  split
  .rfl
  .split
   .exact Au l (i+1) p
   .simp[Au l (i+1) p]
theorem KM(left:Nat)(l:LN):(kz left l).map (·.2)=wy left l:=by
 unfold kz wy
 split
 .exact Au l 0 left
 .rfl


theorem Qd(id p:Nat)(w:LN)(left:Nat)(hw:vx w.length)(P:Nat->LQ)(hlen:∀k,(P k).length=(P 0).length)(hnr:∀(k i:Nat) (o:za),(P k)[i]?=some o->xa (P 0).length o)
  (hy:∀(k j:Nat) (x:Pr) (G:LQ),(kz left w)[k]?=some (j,x)->FY ET id [.int .i64 j,pv x] (P k++G) fun r H'=>r=true/\H'=P (k+1)++G) :
  FO ET 324 [.yield id,.elem [wv p w],.elem [uv left]] (P 0) false fun e H'=>e=.ret (.tuple [])/\H'=P (kz left w).length:=by
 refine FO.gc (wF (eG T324 func324) ?_);have c:∀k (x:za),(P k++[x])[(P 0).length]?=some x:=fun k x=>by grind
 have D:∀k (x y:za),(P k++[x]).set (P 0).length y=P k++[y]:=fun k x y=>by grind
 have fin:∀(tm:Nat->PV) (k:Nat),k=(kz left w).length->ye ET T324 (fun e H'=>∃H'' G,mJ (P 0) H' H'' G/\EV (P 0).length e/\e=.ret (.tuple [])/\H''=P (kz left w).length) .ret ⟨tm,[],P k++[.row 299 2 0 0 [xR p w left]]⟩:=fun tm k u=>by
  subst u;refine pK (vs:=[]) rfl ⟨P (kz left w).length,_,⟨rfl,hlen _,fun i o I=>.inr (hnr _ i o I)⟩,.tuple (fun x h=>by cases h),rfl,rfl⟩
 refine rS ?_;refine zB ?_;refine vF (jX (c 0) (D 0)) ?_;refine vp (c 0) ?_;refine wj (D9 p w left hw) ?_
 by_cases f:uj left w.length=true
 .have M:w.length%2=0:=by simp[uj]at f;omega
  have A:kz left w=xS 0 left w:=by unfold kz;rw[if_pos f]
  refine wA ?_ ?_
  .rw[f];intro h;cases h
  .intro _;refine uL ?_;refine vj (wY ?_);refine vp (c 0) ?_;refine wj (Kd p w left hw) ?_;refine vo (vG (fun m s=>∃j k:Nat,m=w.length-j/\j<=vR w/\vR w=j+vR (w.drop (2*j))/\k<=(kz left w).length/\(kz left w).drop k=xS j (yU left w j) (w.drop (2*j))/\s.tm 0=.yield id/\s.tm 4=.ptr (P 0).length 0 0 0 2/\s.tm 13=.int .i64 (vR w:Nat)/\s.tm 14=.int .i64 j/\s.df=[]/\s.H=P k++[.row 299 2 0 0 [xR p w left]]) (n:=w.length) ?_ ?_)
   .exact⟨0,0,by simp,by omega,by simp,by omega,by simp[A,yU],zt,zt,zt,zt,rfl,rfl⟩
   .rintro m ⟨tm,df,H⟩ ⟨j,k,rfl,hj,hraw,u,hdk,h0,h4,h13,h14,rfl,rfl⟩;dsimp only at *
    have N:=KS w;refine vJ (wd h0 h4 h13 h14) ?_ ?_
    .intro g;have g:j<vR w:=wa g;have hd:=Ca w j zo;have v:¬w[2*j+1]'zo=0:=by
      intro e;rw[hd,vR,if_pos e]at hraw;omega
     rw[hd,xS,if_neg v]at hdk;rw[hd,vR,if_neg v]at hraw;have O:yU left w (j+1)=w[2*j+1]'zo:=by
      unfold yU;rw[if_neg zo,Yu];simp only[ZM];rw[Yk zo];rfl
     refine vj (vo ?_);refine zB ?_;refine vF h14 ?_;refine vj ?_;refine ua ?_;refine wD (wd h0 h4 h14 (c k)) (iO p w j hw zo) ?_;refine wD (wd h0 h4 h14 (c k)) (BF p w left j hw zo) ?_
     by_cases t:w[2*j+1]'zo=yU left w j
     .have d:((w[2*j+1]'zo:Nat):Int)=((yU left w j:Nat):Int):=by rw[t]
      rw[if_pos t]at hdk;refine bC (by first|exact trivial|simp only[go_sem,d,h0,h4,h14,c k]) (by simp(disch:=omega)only[go_sem,d,c k]<;>rfl) rfl (by simp only[go_sem,c k]<;>rfl) (by simp only[go_sem]<;>rfl) ?_;refine bC (by first|exact trivial|simp only[go_sem,c k]) (by simp(disch:=omega)only[go_sem,c k]<;>rfl) rfl (by simp only[go_sem,c k]<;>rfl) (by simp only[go_sem]<;>rfl) ?_;refine bC (by first|exact trivial|simp only[go_sem,c k]) (by simp(disch:=omega)only[go_sem,c k]<;>rfl) rfl (by simp only[go_sem,c k]<;>rfl) (by simp only[go_sem]<;>rfl) ?_;refine vq (wc d h0 h4 h14 (c k)) ?_;refine wA ?_ ?_
      .intro h;cases h
      .intro _;refine wY ?_;refine vu h14 ?_;refine⟨_,?_,j+1,k,rfl,by omega,by omega,u,?_,?_⟩
       .omega
       .grind
       .simp[zb,h0,h4,h13]
     .have d:¬((w[2*j+1]'zo:Nat):Int)=((yU left w j:Nat):Int):=zo;rw[if_neg t]at hdk;have z:(kz left w)[k]?=some (j,(w[2*j]'zo,w[2*j+1]'zo)):=by
       have:=congrArg List.head? hdk;rw[List.head?_drop]at this;simpa using this
      have B:k<(kz left w).length:=(Yl.1 z).1;have L:(kz left w).drop (k+1)=xS (j+1) (w[2*j+1]'zo) (w.drop (2*(j+1))):=by
       rw[<- Z0,hdk];rfl
      refine wD (wc d h0 h4 h14 (c k)) (Ic p w j hw zo) ?_;refine wD (wc d h0 h4 h14 (c k)) (iO p w j hw zo) ?_;refine E5 (s1:=?_) (id:=?_) (vs:=?_) ?_ ?_ rfl rfl ?_ ?_ ?_;rotate_left 3;(first|exact trivial|(simp only[go_sem,c k]));(simp(disch:=omega)only[go_sem,c k]<;>rfl);(first|rfl|(simp only[go_sem,d,h0,h4,h14,c k]<;>rfl));(simp only[go_sem,c k]<;>rfl);refine FY.mono (hy k j _ _ z) fun r H' J=>?_;obtain⟨rfl,rfl⟩:=J;refine⟨_,by simp only[go_sem]<;>rfl,?_⟩;generalize qf _ _=K0;refine vq d ?_;refine wA ?_ ?_
      .intro h;cases h
      .intro _;refine wY ?_;refine vu h14 ?_;refine⟨_,?_,j+1,k+1,rfl,by omega,by omega,B,?_,?_⟩
       .omega
       .grind
       .simp[zb,h0,h4,h13]
    .intro g;have g:¬j<vR w:=vZ g;obtain rfl:j=vR w:=zo;have K:xS (vR w) (yU left w (vR w)) (w.drop (2*vR w))=[]:=by
      have q:vR (w.drop (2*vR w))=0:=zo
      revert q
      generalize w.drop (2*vR w)=l
      match l with
      | []=>intro _;simp[xS]
      | [_]=>intro _;simp[xS]
      | a::b::l =>
       intro q;rw[vR]at q
       split at q
       .rename_i c;rw[xS,if_pos c]
       .omega
     rw[K]at hdk;have C:k=(kz left w).length:=by
      have:=congrArg List.length hdk;simp at this;omega
     exact fin _ _ C
 .have f:uj left w.length=false:=by simpa using f
  refine wA ?_ ?_
  .intro _;refine vt ?_;exact fin _ 0 (by simp[kz,f])
  .rw[f];intro h;cases h
theorem MY(p:Nat)(w:LN)(left:Nat):FP ET 276 [uv left,wv p w] (.ret (.fn 324 [.elem [wv p w],.elem [uv left]])):=by
 refine lq (eG T276 func276) ?_;refine zO ?_;refine zf.fnL ⟨.ptr (w:=wv p w) rfl (Ym _) rfl fun j x y b a=>?_,.ptr (w:=uv left) rfl (Ym _) rfl fun j x y b a=>?_,trivial⟩
 .cases j with
  | zero=>simp[PV.cells]at b a;subst b;subst a;exact zf.list _ _ _
  | succ j=>simp at a
 .cases j with
  | zero=>simp[PV.cells]at b a;subst b;subst a;exact zf.int _ _
  | succ j=>simp at a


def DW:vw:=.region [⟨some 6,.alloc 92 [.int .u64 (.ofNat 0),.int .u64 (.ofNat 0)],[],none⟩,⟨none,.store 2,[.tmp 6,.tmp 11],none⟩]
def DZ:vw:=.block 1 (.region [⟨some 12,.load false 1,[.tmp 4],none⟩,⟨some 13,.load true 2,[.tmp 6],none⟩,⟨some 14,.bslice 92 2 1 [.int .u64 (.ofNat 0),.int .u64 (.ofNat 0)] [(0,2)],[.tmp 13],none⟩,⟨some 15,.append 92 2 16,[.tmp 12,.tmp 14],none⟩,⟨none,.store 1,[.tmp 4,.tmp 15],none⟩])
def nv(tm:Nat->PV)(L:LP)(k:Nat):LQ:=[.row 87 1 0 0 [.sl 1 k 0 k (2*k) 2],.row 92 2 k 0 ((L.take k).map pv),.dfr false,.loop .ready .norm tm [10,11] DW DZ 2]
variable {H:LQ}{L:LP}{e:FE}{k:IntKind}{n:Int}{tm:Nat->PV}(p:Nat)(cs:LJ)(w:LN)(i x left:Nat)
theorem fh{l:LP}:∀v∈(l.map pv).flatMap PV.cells,vL v:=fun v a=>by
 obtain⟨x,b,a⟩:=YG.1 a;obtain⟨n,_,rfl⟩:=Yx.1 b;simp[PV.cells]at a;rcases a with rfl|rfl<;>exact .int _ _
theorem Kr(hnr:∀i,tm i=.bad\/NR 4 (tm i))(k i:Nat)(o:za)(ho:(nv tm L k)[i]?=some o):xa 4 o:=by
 match i with
 | 0=>cases ho;intro x a;simp[PV.cells]at a;subst a;exact .sl _ _ _ _ _ zo
 | 1=>cases ho;exact Ux fh
 | 2=>cases ho;trivial
 | 3=>cases ho;exact⟨by omega,hnr,trivial⟩
 | i+4=>simp[nv]at ho
theorem VP(hnr:∀i,tm i=.bad\/NR 4 (tm i))(k:Nat)(G G':LQ):mJ (nv tm L k++G) (nv tm L (k+1)++G++G') (nv tm L (k+1)++G) G' :=
 mJ.front rfl fun id o a=>Kr hnr (k+1) id o a
theorem dQ(w:LN):(wy left w).length<=28:=by
 unfold wy
 split
 .rename_i h;have h1:∀(a:Nat) (l:LN),2*(vg a l).length<=l.length:=by
   intro a l
   induction a,l using vg.induct<;>rw[vg]<;>simp_all<;>omega
  have h2:=h1 left w;simp[uj]at h;omega
 .simp
theorem VQ(tm:Nat->PV)(h4:tm 4=.ptr 0 0 0 0 1)(hnr:∀i,tm i=.bad\/NR 4 (tm i))(L:LP)(k j:Nat)(x:Pr)(hx:L[k]?=some x)(hL:L.length<1000000)(G:LQ) :
  FY ET 3 [.int .i64 j,pv x] (nv tm L k++G) fun r H'=>r=true/\H'=nv tm L (k+1)++G:=by
 have e:k<L.length:=(Yl.1 hx).1;have d:L[k]=x:=(Yl.1 hx).2;have a:(L.take k).length=k:=by simp;omega
 refine FY.gc (rF (tm:=tm) (ps:=[10,11]) (aS:=DW) (bo:=DZ) rfl rfl ?_);refine vX ?_;refine wg ?_ (by simp(disch:=omega)only[go_sem,nv]<;>rfl);refine km ?_;refine⟨rfl,_,_,_,_,_,_,rfl,?_⟩;refine vo (vX ?_);have c:(k+1)*17<=140737488355328:=zo;refine w9 (vn h4 a c) ?_;have b:(L.take k).map pv++[PV.agg [uv x.1,uv x.2]]=(L.take (k+1)).map pv:=by
  rw[YO,hx];simp
 rw[b,YI];exact⟨rfl,.busy,.norm,tm,[10,11],DW,DZ,2,rfl,nv tm L (k+1)++G,[za.row 92 2 0 0 [pv x]]++[za.row 92 2 0 0 [PV.agg [uv x.1,uv x.2]]],VP hnr k G _,rfl,rfl⟩
theorem EX(hw:vx w.length):FR 214 [uv left,wv p w] (vO 0 (wy left w)):=by
 refine qv (eG T214 func214) (Lb.pvs _) ?_;refine wu ?_;refine bj (MY p w left) ?_;refine zN ?_;refine vo ?_;refine By 92 2 (id:=0) rfl ?_;simp only[ya,Yq,YK,ZE,Yy,YC];refine rR (g:=324) (cap:=[.elem [wv p w],.elem [uv left]]) (b:=false) (by simp only[go_sem]) ?_;have f:(kz left w).length=(wy left w).length:=by rw[<- KM];simp
 have r:=dQ left w;have c:∀i,(zb (zb (zb (zb (zr [uv left,wv p w]) 4 (PV.ptr 0 0 0 0 1)) 7 (uv left)) 8 (wv p w)) 9 (PV.fn 324 [PV.elem [wv p w],PV.elem [uv left]])) i=.bad\/NR 4 ((zb (zb (zb (zb (zr [uv left,wv p w]) 4 (PV.ptr 0 0 0 0 1)) 7 (uv left)) 8 (wv p w)) 9 (PV.fn 324 [PV.elem [wv p w],PV.elem [uv left]])) i) :=
  dC (dC (dC (dC (Uu fun v a=>by simp at a;rcases a with rfl|rfl<;>constructor) (.ptr _ _ _ _ zo)) (.int _ _)) (.list _ _ _)) (.fn fun x d=>by simp at d;rcases d with rfl|rfl<;>constructor)
 have h:=Qd 3 p w left hw (nv _ (wy left w)) (fun _=>rfl) (fun k i o m=>Kr c k i o m) fun k j x G n =>
  VQ _ rfl c (wy left w) k j x (by rw[<- KM];simp[n]) zo G
 refine FO.mono (fun e H' q=>?_) h;obtain⟨rfl,rfl⟩:=q;refine⟨⟨_,rfl⟩,.ready,.norm,_,_,_,_,_,by simp,rfl,?_⟩;rw[f];refine vj (vX ?_);refine wg ?_ (by simp(disch:=omega)only[go_sem,nv]<;>rfl);refine ug ?_;refine vt ?_;refine Cn (vs:=[.sl 1 (wy left w).length 0 (wy left w).length (2*(wy left w).length) 2]) rfl rfl ?_;refine zf.wh (e:=92) (z':=2) (G:=(wy left w).length) (l:=(wy left w).map pv) ?_ rfl (by simp) (by simp) (fun v a=>?_) fh
 .grind
 .obtain⟨x,_,rfl⟩:=Yx.1 a;rfl


def yr(left:Nat)(w:LN):FE:=if uj left w.length=true then if pX left w=true then .ret (vO 0 (wy left w))else .panic (vN 190)else .panic (vN 2)
theorem wG(h:e=.panic (vN n)):va H 0 (.panic (vN n)) e:=by subst h;exact zf.iface (.int _ _)
theorem J0(seen:LN)(L:LP)(i:Nat)(h:i<L.length):xr seen (L.drop i)=(!seen.contains L[i].2&&xr (L[i].2::seen) (L.drop (i+1))):=by
 rw[YE h];rfl
theorem WH(h:2*i+1<w.length):xw (w.drop (2*i))=(decide (w[2*i+1]=0)&&xw (w.drop (2*(i+1)))):=by
 rw[Ca w i h];rfl
theorem WG(h:w.length<=2*i+1):xw (w.drop (2*i))=true:=by
 match h2:w.drop (2*i)with
 | []=>rfl
 | [_]=>rfl
 | a::b::l=>have:=congrArg List.length h2;grind
theorem En(hw:vx w.length):FN ET 221 [xR p w left] (yr left w):=by
 refine qv (eG T221 func221) ?_ ?_
 .unfold yr;split
  .split
   .exact Lb.pvs _
   .exact .iface (.int _ _)
  .exact .iface (.int _ _)
 refine wu ?_;refine vi (D9 p w left hw) ?_
 by_cases b:uj left w.length=true
 rotate_left
 .have b:uj left w.length=false:=by simpa using b
  rw[b];refine wg ?_;refine vB (gS 2) ?_;exact wG (by simp[yr,b])
 rw[b];refine wg ?_;refine wj (an 2) ?_;refine zM (EX p w left hw) ?_;have z:=dQ left w;refine zI ?_;refine vi (Wb 0 (wy left w) zo) ?_
 by_cases c:vz (wy left w)=true
 rotate_left
 .have c:vz (wy left w)=false:=by simpa using c
  rw[c];refine wg ?_;refine vB (gS 190) ?_;exact wG (by simp[yr,b,pX,c])
 rw[c];refine wg ?_;refine wj (an 190) ?_;refine zG ?_;generalize o:wy left w=L at *
 have l:pX left w=(xr [left] L&&decide (L.length=vR w)&&decide (L.length<w.length/2)&&xw (w.drop (2*L.length))):=by simp[pX,o,c]
 refine vo (vG (fun m s=>∃(i:Nat) (seen:LN) (mm:Int->LS) (G:LQ),m=L.length-i/\i<=L.length/\xr [left] L=xr seen (L.drop i)/\(∀q:Nat,mm q=if seen.contains q=true then some (iv 1)else none)/\s.tm 1=.ptr 0 0 0 0 2/\s.tm 3=vO 0 L/\s.tm 4=.map 1/\s.tm 23=vO 0 L/\s.tm 24=iv L.length/\s.tm 25=iv i/\s.df=[]/\s.H=.row 299 2 0 0 [xR p w left]::.mapI .u64 mm::G) (n:=L.length) ?_ ?_)
 .refine⟨0,[left],_,[],by simp,by omega,rfl,?_,zt,zt,zt,zt,zt,zt,rfl,rfl⟩;intro q
  grind
 .rintro m ⟨tm,u,H⟩ ⟨i,seen,mm,G,rfl,v,d,hmm,h1,h3,h4,h23,h24,h25,rfl,rfl⟩;dsimp only at *
  refine vJ (uN h1 h3 h4 h23 h24 h25) ?_ ?_
  .intro a;have a:i<L.length:=wa a;have g:=hmm L[i].2;refine vj (vo ?_);refine vI (uc h1 h3 h4 h23 h24 h25 (Yk a)) ?_
   by_cases e:seen.contains L[i].2=true
   .rw[if_pos e]at g;refine vp (uc h1 h3 h4 h23 h24 h25 g) ?_;refine vB (gS 190) ?_;exact wG (by unfold yr;rw[if_pos b,l,d,J0 _ _ _ a,e];simp)
   .rw[if_neg e]at g;have e:seen.contains L[i].2=false:=by simpa using e
    refine vp (uc h1 h3 h4 h23 h24 h25 g) ?_;refine wj (an 190) ?_;refine vX ?_;refine w9 (uN h1 h3 h4 h23 h24 h25) ?_;refine vu h25 ?_;refine⟨_,?_,i+1,L[i].2::seen,_,_,rfl,by omega,?_,?_,zu h1,zu h3,zu h4,zu h23,zu h24,zu h25,rfl,rfl⟩
    .omega
    .rw[d,J0 _ _ _ a,e];simp
    .intro q
     by_cases g:q=L[i].2
     .grind
     .have:¬(q:Int)=(L[i].2:Nat):=zo
      grind
  .intro a;have a:¬i<L.length:=vZ a;obtain rfl:i=L.length:=zo;rw[Y9]at d;have d:xr [left] L=true:=by rw[d];rfl
   refine vp (jX h1 h3) ?_;refine vi (Kd p w left hw) ?_;have y:2*(w.length/2)=w.length:=by simp[uj]at b;omega
   by_cases r:L.length=vR w
   rotate_left
   .have f:¬(L.length:Int)=(vR w:Nat):=zo;refine vU (vn h1 h3 f) ?_;refine vB (gS 190) ?_;exact wG (by unfold yr;grind)
   have f:(L.length:Int)=(vR w:Nat):=zo;refine vU (vn h1 h3 f) ?_;refine vi (fD p w hw) ?_
   by_cases t:L.length<w.length/2
   rotate_left
   .have j:¬((vR w:Nat):Int)<((w.length/2:Nat):Int):=zo;refine vU (wd h1 h3 f j) ?_;refine vB (gS 190) ?_;exact wG (by unfold yr;grind)
   have j:((vR w:Nat):Int)<((w.length/2:Nat):Int):=zo;refine vU (wd h1 h3 f j) ?_;refine wj (an 190) ?_;refine vI (jX h1 h3) ?_;refine vo (vG (fun m s=>∃i:Nat,m=w.length-i/\2*i<=w.length/\xw (w.drop (2*L.length))=xw (w.drop (2*i))/\s.tm 1=.ptr 0 0 0 0 2/\s.tm 3=vO 0 L/\s.tm 7=iv i/\s.df=[]/\s.H=.row 299 2 0 0 [xR p w left]::.mapI .u64 mm::G) (n:=w.length-L.length) ?_ ?_)
   .exact⟨L.length,rfl,by omega,rfl,zu h1,zu h3,by simp[zb,f],rfl,rfl⟩
   .clear h1 h3 h4 h23 h24 h25;rintro m ⟨tm,u,H⟩ ⟨i,rfl,v,x,h1,h3,h,rfl,rfl⟩;dsimp only at h1 h3 h;refine lF ?_;refine vp (vn h1 h3 h) ?_;refine wj (fD p w hw) ?_;refine lu ?_ ?_
    .intro a;have a:i<w.length/2:=wa a;refine vj (vo ?_);refine vX ?_;refine vU (vn h1 h3 h) ?_;refine vi (iO p w i hw zo) ?_;have A:=WH w i zo
     by_cases B:w[2*i+1]'zo=0
     .have k:((w[2*i+1]'zo:Nat):Int)=0:=zo;refine vU k ?_;refine vi (an 190) ?_;refine zK ?_;refine vu h ?_;refine⟨_,?_,i+1,rfl,by omega,?_,zu h1,zu h3,zu h,zt,zt⟩
      .omega
      grind
     .have k:¬((w[2*i+1]'zo:Nat):Int)=0:=zo;refine vU k ?_;refine vB (gS 190) ?_;exact wG (by unfold yr;grind)
    .intro a;have a:¬i<w.length/2:=vZ a;refine uf (jX h1 h3) ?_;have:yr left w=.ret (vO 0 L):=by unfold yr;rw[if_pos b,l,d,x,WG w i zo,o,decide_eq_true r,decide_eq_true t];rfl
     rw[this];exact zf.list _ _ _


theorem BX:ET.caught.get 201=some ():=by kernel_rfl
theorem Rz:FR 321 [] (.tuple []):=by
 refine qv (eG T321 func321) Lb.unit ?_;refine wY ?_;exact⟨[],rfl,zf.tL trivial⟩
theorem va.int(h:e=.ret (.int k n)):va H 0 (.ret (.int k n)) e:=by subst h;exact zf.int _ _
theorem Wq(hw:vx w.length):FR 249 [uv left,wv p w] (.int .i64 (w7 left w:Nat)):=by
 refine qv (eG T249 func249) (.int _ _) ?_;refine wu ?_;refine gZ (f:=201) (p:=.ptr 0 0 0 0 1) (cl:=.fn 321 []) ?_ ?_ BX ?_
 .rfl
 .simp only[go_sem]<;>rfl
 refine zN ?_;refine zI ?_;have b:=En p w left hw;have bad:∀(tm:Nat->PV) (n:Nat),w7 left w=n->tm 4=.ptr 0 0 0 0 1->ye ET T249 (fun d H=>va H 0 d (.ret (.int .i64 (w7 left w:Nat)))) (.panic (vN n)) ⟨tm,[.caught (.ptr 0 0 0 0 1) (.fn 321 [])],[.row 38 1 0 0 [.int .i64 0]]⟩:=fun tm n g h4=>by
  refine⟨n,321,[],true,0,0,1,rfl,rfl,rfl,(FN.FO (args:=[]) Rz trivial).mono fun e H a=>?_⟩;obtain⟨rfl,rfl⟩:=a;refine⟨rfl,_,rfl,[.int .i64 n],?_,va.int (by rw[g])⟩;simp[T249,xT,zj,zq,h4,zD,zA,zF];rfl
 by_cases c:uj left w.length=true
 rotate_left
 .have a:yr left w=.panic (vN 2):=by simp[yr,c]
  rw[a]at b;refine vB b ?_;exact bad _ 2 (by simp[w7,c]) rfl
 by_cases h2:pX left w=true
 rotate_left
 .have a:yr left w=.panic (vN 190):=by simp[yr,c,h2]
  rw[a]at b;refine vB b ?_;exact bad _ 190 (by simp[w7,c,h2]) rfl
 have a:yr left w=.ret (vO 0 (wy left w)):=by simp[yr,c,h2]
 rw[a]at b;refine wj b ?_;refine zG ?_;refine vt ?_;have:w7 left w=0:=by simp[w7,c,h2]
 rw[this];exact⟨[.int .i64 0],rfl,zf.int _ _⟩


theorem f266:ET.funcs.get 266=some T266:=mX func266
theorem va.bool{b b':Bool}(h:b=b'):va H 0 (.ret (.bool b)) (.ret (.bool b')):=by subst h;exact zf.bool _
theorem va.uv{b b':Int}(h:b=b'):va H 0 (.ret (.int k b)) (.ret (.int k b')):=by subst h;exact zf.int _ _
theorem F3:FR 252 [uv x] (.bool (nM x)):=by
 refine qv (eG T252 func252) (.bool _) ?_;refine zG ?_;refine vX ?_
 by_cases h:1<=x
 .have g:(1:Int)<=x:=zo;refine kE g ?_;exact va.bool (by simp[nM,h];omega)
 .have g:¬(1:Int)<=x:=zo;refine kE g ?_;exact va.bool (by simp[nM,h])
@[reducible] def pj (a b c d e:Nat):LJ:=[iv a,iv b,uv c,uv d,iv e,.nilsl]
theorem T8:FR 261 [.elem cs,uv x] (.bool (decide (7522529147838689024<=x)&&decide (x<=7522529147838689024+12))):=by
 refine qv (eG T261 func261) (.bool _) ?_;refine zG ?_;refine vX ?_
 by_cases h:7522529147838689024<=x
 .have g:(7522529147838689024:Int)<=x:=zo;refine kE g ?_;exact va.bool (by grind)
 .have g:¬(7522529147838689024:Int)<=x:=zo;refine kE g ?_;exact va.bool (by simp[h])
theorem T9:FR 264 [.elem cs,uv x] (.bool (decide (x<2048))):=by
 refine qv (eG T264 func264) (.bool _) ?_;refine zO ?_;exact va.bool (by grind)
theorem Ua:FR 267 [.elem cs,uv x] (.bool true):=by
 refine qv (eG T267 func267) (.bool _) ?_;refine zO ?_;exact va.bool rfl
theorem Uc:FR 273 [.elem cs,uv x] (.bool (decide (x<=2))):=by
 refine qv (eG T273 func273) (.bool _) ?_;refine zO ?_;exact va.bool (by grind)
theorem Ub(a b c d e x:Nat):FR 270 [.elem (pj a b c d e),uv x] (.bool (yK 3 a x)):=by
 refine qv (eG T270 func270) (.bool _) ?_;refine zG ?_;refine vX ?_
 by_cases h:a=0
 .have f:(a:Int)=0:=zo
  by_cases h2:x=9223372036854775808
  .have g:(x:Int)=9223372036854775808:=zo;refine kE (jX f g) ?_;exact va.bool (by simp[yK,h,h2])
  .have g:¬(x:Int)=9223372036854775808:=zo;refine kE (jX f g) ?_;exact va.bool (by simp[yK,h,h2])
 .have g:¬(a:Int)=0:=zo;have i:(0:Int)<a:=zo;have h2:0<a:=zo;refine vU (jX g i) ?_;refine vi (F3 x) ?_;refine zP ?_;exact va.bool (by simp[yK,h,h2])
theorem Ve:FR 213 [] (.list 0 3 dI):=by
 refine qv (eG T213 func213) ?_ ?_
 .refine .list fun x a=>?_;simp[dI,List.range,List.range.loop,PV.cells]at a;rcases a with h|h|h|h|h|h|h|h|h|h|h|h|h|h|h<;>subst h<;>exact .fn fun _ h=>by cases h
 refine zO ?_;refine zf.wh rfl rfl rfl zy ?_ ?_
 .intro v hv;simp[dI,List.range,List.range.loop]at hv;rcases hv with h|h|h|h|h<;>subst h<;>rfl
 .intro v hv;simp[dI,List.range,List.range.loop,PV.cells]at hv;rcases hv with h|h|h|h|h|h|h|h|h|h|h|h|h|h|h<;>subst h<;>exact .fn fun _ h=>by cases h


@[reducible] def pm (cs:LJ):za:=.row 143 6 0 0 [.agg cs]
theorem bR{F:ze}{R:FE->LQ->Prop}(h:F.res=[])(k:R (.ret (.tuple [])) H):ye ET F R .norm ⟨tm,[],H⟩:=dc (vs:=[]) (by rw[h];rfl) k
section
variable (a b c d e x:Nat)(G:LQ)
theorem WS(k:Nat)(h2:k<=12)(e1:IntKind.u64.wrap ((x:Int)-7522529147838689024)=(k:Int)):FO ET 262 [.ptr 0 0 0 0 6,uv x] (pm (pj a b c d e)::G) false fun e' H'=>e'=.ret (.tuple [])/\H'=pm (pj k b c d e)::G:=by
 refine wF (eG T262 func262) ?_;refine vX ?_;refine vU e1 ?_;refine bD (bR rfl ⟨rfl,rfl⟩)
theorem GC(h1:7522529147838689024<=x)(h2:x<=7522529147838689024+12)(k:Nat)(hk:k=x-7522529147838689024):k<=12/\IntKind.u64.wrap ((x:Int)-7522529147838689024)=(k:Int):=by rw[wrap_u64 zo zo];omega
theorem set0(h1:7522529147838689024<=x)(h2:x<=7522529147838689024+12)(k:Nat)(hk:k=x-7522529147838689024):FO ET 262 [.ptr 0 0 0 0 6,uv x] (pm (pj a b c d e)::G) false fun e' H'=>e'=.ret (.tuple [])/\H'=pm (pj k b c d e)::G :=
 WS a b c d e x G k (GC x h1 h2 k hk).1 (GC x h1 h2 k hk).2
theorem set1(h1:x<2048):FO ET 265 [.ptr 0 0 0 0 6,uv x] (pm (pj a b c d e)::G) false fun e' H'=>e'=.ret (.tuple [])/\H'=pm (pj a x c d e)::G:=by
 refine wF (eG T265 func265) ?_;refine vX ?_;refine wg ?_;refine bD (bR rfl ⟨rfl,rfl⟩)
theorem set2:FO ET 268 [.ptr 0 0 0 0 6,uv x] (pm (pj a b c d e)::G) false fun e' H'=>e'=.ret (.tuple [])/\H'=pm (pj a b x d e)::G:=by
 refine wF (eG T268 func268) ?_;refine vX ?_;refine wg ?_;refine bD (bR rfl ⟨rfl,rfl⟩)
theorem set3:FO ET 271 [.ptr 0 0 0 0 6,uv x] (pm (pj a b c d e)::G) false fun e' H'=>e'=.ret (.tuple [])/\H'=pm (pj a b c x e)::G:=by
 refine wF (eG T271 func271) ?_;refine vX ?_;refine wg ?_;refine bD (bR rfl ⟨rfl,rfl⟩)
theorem WT(h1:x<=2):FO ET 274 [.ptr 0 0 0 0 6,uv x] (pm (pj a b c d e)::G) false fun e' H'=>e'=.ret (.tuple [])/\H'=pm (pj a b c d x)::G:=by
 refine wF (eG T274 func274) ?_;refine vX ?_;refine wg ?_;refine bD (bR rfl ⟨rfl,rfl⟩)
end
section
variable (p:Nat)(n:zi)
end
variable {k:Int}(p lv:Nat)(w:LN)(i:Nat)(l:LP)(n:zi)(q:Pr)(x:Nat)
def dk(lv:Nat)(w:LN)(i:Nat):LJ :=
 pj (if 0<i then lv else 0) (if 1<i then w.getD 1 0 else 0) (if 2<i then w.getD 2 0 else 0) (if 3<i then w.getD 3 0 else 0) (if 4<i then w.getD 4 0 else 0)
theorem Ud(hi:i<5):FN ET (I4 i) [.elem (dk lv w i),uv x] (.ret (.bool (yK i lv x))):=by
 match i,hi with
 | 0,_=>exact T8 _ x
 | 1,_=>exact T9 _ x
 | 2,_=>exact Ua _ x
 | 3,_=>exact Ub _ _ _ _ _ x
 | 4,_=>exact Uc _ x
theorem WU(hlv:lv=w.getD 0 0-7522529147838689024)(i:Nat)(hi:i<5)(hm:yK i lv (w.getD i 0)=true)(G:LQ):FO ET (K3 i) [.ptr 0 0 0 0 6,uv (w.getD i 0)] (pm (dk lv w i)::G) false fun e H'=>e=.ret (.tuple [])/\H'=pm (dk lv w (i+1))::G:=by
 match i,hi with
 | 0,_=>rw[yK,Yr,decide_eq_true_eq,decide_eq_true_eq]at hm;exact set0 _ _ _ _ _ _ _ hm.1 hm.2 lv hlv
 | 1,_=>rw[yK,decide_eq_true_eq]at hm;exact set1 _ _ _ _ _ _ _ hm
 | 2,_=>exact set2 _ _ _ _ _ _ _
 | 3,_=>exact set3 _ _ _ _ _ _ _
 | 4,_=>rw[yK,decide_eq_true_eq]at hm<;>first|exact WT _ _ _ _ _ _ _ hm|simp
theorem Vc(hi:i<5):dI[i]?=some (JS i):=by
 match i,hi with
 | 0,_=>rfl
 | 1,_=>rfl
 | 2,_=>rfl
 | 3,_=>rfl
 | 4,_=>rfl
theorem Vd:dI.length=5:=rfl


def pN{α:Type}(pr:α->Bool)(l:List α):Int:=match l.findIdx? pr with|some i=>(i:Int)|none=>-1
theorem HI{α:Type}(pr:α->Bool)(l:List α):decide (0<=pN pr l)=l.any pr:=by
 unfold pN
 grind
theorem oq{lab:Nat}:∀l:LJ,(∀v∈l,vL v)->LF H lab l l
 | [],_=>trivial
 | x::l,h=>⟨(h x Yp).frz,oq l fun v a=>h v (Ys _ a)⟩
theorem RJ(l:LN)(hl:vx l.length)(g:Nat)(caps:LJ)(hc:∀v∈caps,vL v)(pr:Nat->Bool)(hg:∀x∈l,FN ET g (uv x::caps) (.ret (.bool (pr x)))):FR 260 [wv p l,.fn g caps] (iv (pN pr l)):=by
 refine qv (eG T260 func260) (.int _ _) ?_;refine zG ?_;refine vo (vG (fun m s=>∃i:Nat,m=l.length-i/\i<=l.length/\l.findIdx? pr=((l.drop i).findIdx? pr).map (· + i)/\s.tm 0=wv p l/\s.tm 1=.fn g caps/\s.tm 7=iv l.length/\s.tm 8=iv i/\s.df=[]/\s.H=[]) (n:=l.length) ?_ ?_)
 .exact⟨0,by simp[zb,zr]⟩
 .rintro m ⟨tm,df,H⟩ ⟨i,rfl,hi,hf,h0,h1,h7,h8,rfl,rfl⟩;dsimp only at *
  refine vJ (wd h0 h1 h7 h8) ?_ ?_
  .intro a;have a:i<l.length:=wa a;refine vj (vo ?_);refine vI h8 ?_;refine vp (vn h0 h1 (Yk a)) ?_;refine pc (caps:=caps) (vs:=[uv l[i]]) rfl ?_ (hg _ (YX a)) (oq _ (fun v c=>?_)) ?_
   .simp only[go_sem,h1]
   .rcases YA.1 c with rfl|c
    .exact .int _ _
    .exact hc v c
   refine zN ?_;rw[YE a,zAQ9]at hf;refine wA ?_ ?_
   .intro b;have b:pr l[i]=true:=b;refine zO ?_;rw[if_pos b]at hf;exact va.uv (by simp[pN,hf])
   .intro b;have b:pr l[i]=false:=b;refine wY ?_;refine vu h8 ?_;refine⟨_,?_,i+1,rfl,a,?_,zu h0,zu h1,zu h7,zt,zt,zt⟩
    .omega
    .rw[hf,b]
     cases (l.drop (i+1)).findIdx? pr with
     | none=>rfl
     | some j=>simp;omega
  .intro a;have a:¬i<l.length:=vZ a;obtain rfl:i=l.length:=zo;refine zO ?_;rw[Y9]at hf;exact va.uv (by simp[pN,hf])
theorem PN(l:LN)(hl:vx l.length)(g:Nat)(caps:LJ)(hc:∀v∈caps,vL v)(pr:Nat->Bool)(hg:∀x∈l,FN ET g (uv x::caps) (.ret (.bool (pr x)))):FR 211 [wv p l,.fn g caps] (.bool (l.any pr)):=by
 refine qv (eG T211 func211) (.bool _) ?_;refine wu ?_;refine pc (caps:=[]) (vs:=[wv p l,.fn g caps]) rfl ?_ (RJ p l hl g caps hc pr hg) ?_ ?_
 .simp only[go_sem]
 .refine⟨.list _ _ _,⟨vL.frz (.fn hc),trivial⟩⟩
 refine zP ?_;exact va.bool (HI _ _)
theorem RK(hl:vx l.length)(g:Nat)(caps:LJ)(hc:∀v∈caps,vL v)(pr:Pr->Bool)(hg:∀x∈l,FN ET g (pv x::caps) (.ret (.bool (pr x)))):FR 322 [vO p l,.fn g caps] (iv (pN pr l)):=by
 refine qv (eG T322 func322) (.int _ _) ?_;refine zG ?_;refine vo (vG (fun m s=>∃i:Nat,m=l.length-i/\i<=l.length/\l.findIdx? pr=((l.drop i).findIdx? pr).map (· + i)/\s.tm 0=vO p l/\s.tm 1=.fn g caps/\s.tm 7=iv l.length/\s.tm 8=iv i/\s.df=[]/\s.H=[]) (n:=l.length) ?_ ?_)
 .exact⟨0,by simp[zb,zr]⟩
 .rintro m ⟨tm,df,H⟩ ⟨i,rfl,hi,hf,h0,h1,h7,h8,rfl,rfl⟩;dsimp only at *
  refine vJ (wd h0 h1 h7 h8) ?_ ?_
  .intro a;have a:i<l.length:=wa a;refine vj (vo ?_);refine vI h8 ?_;refine vp (vn h0 h1 (Yk a)) ?_;refine pc (caps:=caps) (vs:=[pv l[i]]) rfl ?_ (hg _ (YX a)) (oq _ (fun v c=>?_)) ?_
   .simp only[go_sem,h1]
   .rcases YA.1 c with rfl|c
    .exact .agg fun y d=>by simp at d;rcases d with rfl|rfl<;>exact .int _ _
    .exact hc v c
   refine zN ?_;rw[YE a,zAQ9]at hf;refine wA ?_ ?_
   .intro b;have b:pr l[i]=true:=b;refine zO ?_;rw[if_pos b]at hf;exact va.uv (by simp[pN,hf])
   .intro b;have b:pr l[i]=false:=b;refine wY ?_;refine vu h8 ?_;refine⟨_,?_,i+1,rfl,a,?_,zu h0,zu h1,zu h7,zt,zt,zt⟩
    .omega
    .rw[hf,b]
     cases (l.drop (i+1)).findIdx? pr with
     | none=>rfl
     | some j=>simp;omega
  .intro a;have a:¬i<l.length:=vZ a;obtain rfl:i=l.length:=zo;refine zO ?_;rw[Y9]at hf;exact va.uv (by simp[pN,hf])
theorem Gr(hl:vx l.length)(g:Nat)(caps:LJ)(hc:∀v∈caps,vL v)(pr:Pr->Bool)(hg:∀x∈l,FN ET g (pv x::caps) (.ret (.bool (pr x)))):FR 250 [vO p l,.fn g caps] (.bool (l.any pr)):=by
 refine qv (eG T250 func250) (.bool _) ?_;refine wu ?_;refine pc (caps:=[]) (vs:=[vO p l,.fn g caps]) rfl ?_ (RK p l hl g caps hc pr hg) ?_ ?_
 .simp only[go_sem]
 .refine⟨.list _ _ _,⟨vL.frz (.fn hc),trivial⟩⟩
 refine zP ?_;exact va.bool (HI _ _)


theorem UC:FR 212 [uv x] (.bool (decide (x≠0))):=by
 refine qv (eG T212 func212) (.bool _) ?_;refine zO ?_;exact va.bool (by grind)
theorem Lb.node:Lb (wb 0 n):=.agg fun v a=>by
 simp at a;rcases a with h|h|h|h|h|h<;>subst h
 .exact .int _ _
 .exact .int _ _
 .exact .int _ _
 .exact .int _ _
 .exact .int _ _
 .exact Lb.pvs _
theorem Lb.two{a b:PV}(ha:Lb a)(hb:Lb b):Lb (.tuple [a,b]):=.tuple fun v c=>by grind
def ng(w:LN):FE:=if headB w=true then .ret (.tuple [wb 0 (headN w),iv 0])else .ret (.tuple [wb 0 kF,iv 210])
theorem Rf:∀v∈dk lv w i,vL v:=fun v a=>by
 simp[dk]at a;rcases a with h|h|h|h|h|h<;>subst h<;>constructor
@[reducible] def iA:PV:=.agg [iv 0,iv 0,uv 0,uv 0,iv 0,.nilsl]
theorem QU:zf H 0 (.tuple [iA,iv 210]) (.tuple [wb 0 kF,iv 210]):=by
 refine zf.tL ⟨zf.aggL ⟨.int _ _,.int _ _,.int _ _,.int _ _,.int _ _,.nil _ _,trivial⟩,.int _ _,trivial⟩
theorem BI{w:LN}(h:headB w=false):va H 0 (.ret (bf [iA,iv 210])) (ng w):=by
 unfold ng;rw[if_neg (by grind)];exact QU
theorem Rk(hl:w.length=64)(lv:Nat)(hlv:lv=kS (w.getD 0 0)):headB w=(!(((w.take 8).drop 5).any fun x=>decide (x≠0))&&(List.range 5).all fun i=>yK i lv (w.getD i 0)):=by
 subst hlv;unfold headB
 grind
theorem Ro(lv:Nat)(hlv:lv=kS (w.getD 0 0)):headN w=⟨lv,w.getD 1 0,w.getD 2 0,w.getD 3 0,w.getD 4 0,wy (w.getD 3 0) (w.drop 8)⟩:=by
 subst hlv;unfold headN;rfl
theorem Ts:∃lv,lv=kS (w.getD 0 0):=⟨_,rfl⟩
theorem EW(hw:vx w.length):FN ET 148 [wv p w] (ng w):=by
 refine qv (eG T148 func148) ?_ ?_
 .unfold ng;split
  .exact Lb.two (Lb.node _) (.int _ _)
  .exact Lb.two (Lb.node _) (.int _ _)
 refine vj (vX ?_);refine zN ?_;refine rS ?_;refine pC ?_;have h2:(1:Nat)=1:=rfl
 by_cases k:w.length=64
 rotate_left
 .have g:¬(w.length:Int)=64:=zo;refine uy g ?_;refine wA ?_ ?_
  .intro _;refine eF ⟨rfl,?_⟩;refine vj (wY ?_);simp only[gQ,reduceIte];refine vp h2 ?_;refine ug ?_;refine vt ⟨(fun l h=>FX.noConfusion h),?_⟩;refine pK (vs:=[iA,iv 210]) ?_ ?_
   .simp only[T148,zj,go_sem];rfl
   .exact BI (by simp[headB,k])
  .intro h;cases h
 have g:(w.length:Int)=64:=zo;have uY:List.drop 5 (List.take 8 (List.map uv w))=((w.take 8).drop 5).map uv:=by simp[Zv,ZY]
 refine vU (jX k uY) ?_;refine wj (PN p ((w.take 8).drop 5) (by simp;omega) 212 [] (fun _ h=>by cases h) (fun x=>decide (x≠0)) fun x _=>UC x) ?_;obtain⟨lv,o⟩:=Ts w;have d:=Rk w k lv o;refine wA ?_ ?_
 .intro b;have b:(((w.take 8).drop 5).any fun x=>decide (x≠0))=true:=b;refine eF ⟨rfl,?_⟩;refine vj (wY ?_);simp only[gQ,reduceIte];refine vp h2 ?_;refine ug ?_;refine vt ⟨(fun l h=>FX.noConfusion h),?_⟩;refine pK (vs:=[iA,iv 210]) ?_ ?_
  .simp only[T148,zj,go_sem];rfl
  .exact BI (by grind)
 intro b;have b:(((w.take 8).drop 5).any fun x=>decide (x≠0))=false:=b;rw[b]at d;refine uL ?_;refine zI ?_;refine vi Ve ?_;refine wg ?_ (by simp(disch:=omega)only[go_sem,Vd]<;>rfl);refine ug ?_;have d:headB w=(List.range 5).all fun i=>yK i lv (w.getD i 0):=by simpa using d
 clear uY h2;refine vo (vG (fun m s=>∃(i:Nat) (G:LQ),m=5-i/\i<=5/\(∀j,j<i->yK j lv (w.getD j 0)=true)/\s.tm 0=wv p w/\s.tm 2=.ptr 0 0 0 0 6/\s.tm 14=.list 0 3 dI/\s.tm 15=iv 5/\s.tm 16=iv i/\s.df=[]/\s.H=pm (dk lv w i)::G) (n:=5) ?_ ?_)
 .exact⟨0,[],rfl,by omega,(fun j q=>by omega),zt,zt,zt,zt,zt,rfl,rfl⟩
 .rintro m ⟨tm,df,H⟩ ⟨i,G,rfl,hi,hmay,h0,h2,h14,h15,h16,rfl,rfl⟩;dsimp only at *
  refine vJ (wc h0 h2 h14 h15 h16) ?_ ?_
  .intro a;have a:i<5:=wa a;have f:w[i]?=some (w.getD i 0):=by rw[Yu,Yk zo];rfl
   have hid:=Rf lv w i;refine vP ?_;refine vI (wc h0 h2 h14 h16 (Vc i a)) ?_;refine wH ?_;refine wD (vn h0 h2 f) (Ud lv w i (w.getD i 0) a) ?_;refine vq h0 ?_
   by_cases c:yK i lv (w.getD i 0)=true
   rotate_left
   .have c:yK i lv (w.getD i 0)=false:=by simpa using c
    refine wA ?_ ?_
    .intro _;refine eF ⟨rfl,?_⟩;refine vj (wY ?_);simp only[gQ,reduceIte];refine vp h2 ?_;refine ug ?_;refine vt ⟨(fun l h=>FX.noConfusion h),?_⟩;refine pK (vs:=[iA,iv 210]) ?_ ?_
     .simp only[zj,go_sem,h2];rfl
     .exact BI (by grind)
    .rw[c];intro h;cases h
   refine wA ?_ ?_
   .rw[c];intro h;cases h
   intro _;refine uL ?_;refine ua ?_;refine E3 (s1:=?_) (caps:=?_) (vs:=?_) ?_ ?_ rfl rfl ?_ ?_ (WU lv w (by rw[o,Db]) i a c ?_) ?_ ?_ ?_;rotate_left 3;(first|exact trivial|(simp only[go_sem,h0,h2,f]));(simp(disch:=omega)only[go_sem,h0,f]<;>rfl);(first|rfl|(simp only[go_sem,h0,h2,f]<;>rfl));(simp only[go_sem,h2]<;>rfl);rotate_left 1;rfl;rfl;rintro e H' t;obtain⟨rfl,rfl⟩:=t;refine⟨_,by simp only[go_sem]<;>rfl,?_⟩;refine vq h0 ?_;refine vu h16 ?_;refine⟨_,?_,i+1,_,rfl,a,?_,zu h0,zu h2,zu h14,zu h15,zu h16,rfl,rfl⟩
   .omega
   .intro j q
    grind
  .intro a;have a:¬i<5:=vZ a;obtain rfl:i=5:=zo;have r:headB w=true:=by rw[d,YZ];intro j q;exact hmay j (Zm.1 q)
   have u:dk lv w 5=pj lv (w.getD 1 0) (w.getD 2 0) (w.getD 3 0) (w.getD 4 0):=rfl;have uZ:List.drop 8 (List.map uv w)=(w.drop 8).map uv:=by simp[Zv]
   rw[u];refine vj (ua ?_);refine wD (wd h0 h2 k uZ) (EX p (w.drop 8) (w.getD 3 0) (by simp;omega)) ?_;refine vS (jX h0 h2) ?_;refine vq h0 ?_;refine vI h2 ?_;refine vt (we ?_ (by simp only[go_sem,h2]<;>rfl));unfold ng;rw[if_pos r];rw[Ro w lv o];exact wq


theorem I5:FR 198 [wb p n,pv q] (.bool (uT n q)):=by
 obtain⟨lv,f,low,left,way,ps⟩:=n;obtain⟨k,x⟩:=q;refine qv (eG T198 func198) (.bool _) ?_;refine zG ?_
 by_cases b:lv=0
 .have d:(lv:Int)=0:=zo;refine wA ?_ ?_
  .intro _;refine vj (vX ?_)
   by_cases h1:1<=x
   .have c:(1:Int)<=x:=zo
    by_cases h2:x<=1099511627776
    .have e:(x:Int)<=1099511627776:=zo;refine kE (jX c e) ?_;exact va.bool (by simp[uT,b,h1,h2];try omega)
    .have e:¬(x:Int)<=1099511627776:=zo;refine kE (jX c e) ?_;exact va.bool (by simp[uT,b,h1,h2])
   .have c:¬(1:Int)<=x:=zo;refine kE c ?_;exact va.bool (by simp[uT,b,h1])
  .intro h;exact absurd d (of_decide_eq_false h)
 .have d:¬(lv:Int)=0:=zo;refine wA ?_ ?_
  .intro h;exact absurd (of_decide_eq_true h) d
  .intro _;refine uL ?_;refine zI ?_;refine vi (F3 x) ?_
   by_cases a:nM x=true
   .rw[a];refine zP ?_;exact va.bool (by simp[uT,b,a])
   .have a:nM x=false:=by simpa using a
    rw[a];refine zP ?_;exact va.bool (by simp[uT,b,a])
@[reducible] def Do (p:Nat) (n:zi):LJ:=[iv n.level,iv n.sib,uv n.low,uv n.left,iv n.way,vO p n.pairs]
theorem WV:FR 251 [pv q,.elem (Do p n)] (.bool (!uT n q)):=by
 refine qv (eG T251 func251) (.bool _) ?_;refine wu ?_;refine vi (I5 p n q) ?_;refine zP ?_;exact va.bool rfl
theorem Jr:∀v∈Do p n,vL v:=fun v a=>by
 simp at a;rcases a with h|h|h|h|h|h<;>subst h<;>constructor
def n7(w:LN):FE:=if wi w=0 then .ret (.tuple [wb 0 (headN w),iv 0])else .ret (.tuple [wb 0 kF,iv (wi w:Nat)])
theorem Rl{w:LN}(h:headB w=true):w.length=64:=by
 unfold headB at h
 grind
theorem QV{n:zi}:zf H 0 (.tuple [wb 0 n,iv k]) (.tuple [wb 0 n,iv k]):=by
 refine zf.tL ⟨zf.aggL ⟨.int _ _,.int _ _,.int _ _,.int _ _,.int _ _,.list _ _ _,trivial⟩,.int _ _,trivial⟩
theorem Cv:zf H 0 (.tuple [iA,iv k]) (.tuple [wb 0 kF,iv k]):=by
 refine zf.tL ⟨zf.aggL ⟨.int _ _,.int _ _,.int _ _,.int _ _,.int _ _,.nil _ _,trivial⟩,.int _ _,trivial⟩
def n6(n:zi)(w:LN):FE:=if(decide (w7 n.left (w.drop 8)=0) && !(n.pairs.any fun q=>!uT n q))=true then .ret (.tuple [wb 0 n,iv 0])else .ret (.tuple [wb 0 kF,iv 190])
theorem WW(hOf:FR 148 [wv p w] (.tuple [wb 0 n,iv 0]))(hl:w.length=64)(hps:n.pairs.length<=28):FN ET 197 [wv p w] (n6 n w):=by
 refine qv (eG T197 func197) ?_ ?_
 .unfold n6;split
  .exact Lb.two (Lb.node _) (.int _ _)
  .exact Lb.two (Lb.node _) (.int _ _)
 refine wN hOf ?_;refine zT ?_;refine uL ?_;have uZ:List.drop 8 (List.map uv w)=(w.drop 8).map uv:=by simp[Zv]
 have b:=Wq p (w.drop 8) n.left (by simp;omega);refine wH ?_;have hid:=Jr 0 n
 by_cases h1:w7 n.left (w.drop 8)=0
 rotate_left
 .have c:¬((w7 n.left (w.drop 8):Nat):Int)=0:=zo;refine wD (jX hl uZ) b ?_;refine bC (by first|exact trivial|simp only[go_sem,c]) (by simp(disch:=omega)only[go_sem,c]<;>rfl) rfl (by simp only[go_sem]<;>rfl) (by simp only[go_sem]<;>rfl) ?_;refine vq c ?_;refine wA ?_ ?_
  .intro _;refine zO ?_;have a:n6 n w=.ret (.tuple [wb 0 kF,iv 190]):=by unfold n6;rw[decide_eq_false h1];rfl
   rw[a];exact Cv
  .intro h;cases h
 rw[h1]at b;refine wD (jX hl uZ) b ?_;refine wD hl (Gr 0 n.pairs zo 251 [.elem (Do 0 n)] (fun v d=>by simp at d;subst d;exact .elem _) (fun q=>!uT n q) fun q _=>WV 0 n q) ?_;refine vq hl ?_
 by_cases h2:(n.pairs.any fun q=>!uT n q)=true
 .refine wA ?_ ?_
  .intro _;refine zO ?_;have a:n6 n w=.ret (.tuple [wb 0 kF,iv 190]):=by unfold n6;rw[h2,decide_eq_true h1];rfl
   rw[a];exact Cv
  .rw[h2];intro h;cases h
 .have h2:(n.pairs.any fun q=>!uT n q)=false:=by simpa using h2
  refine wA ?_ ?_
  .rw[h2];intro h;cases h
  .intro _;refine uL ?_;refine zO ?_;have a:n6 n w=.ret (.tuple [wb 0 n,iv 0]):=by unfold n6;rw[h2,decide_eq_true h1];rfl
   rw[a];exact QV
theorem Je(hh:headB w=true):ng w=.ret (.tuple [wb 0 (headN w),iv 0]):=by unfold ng;grind
theorem Uo(hh:headB w=true):n6 (headN w) w=n7 w:=by
 have a:nZ w=(decide (w7 (headN w).left (w.drop 8)=0) && !((headN w).pairs.any fun q=>!uT (headN w) q)):=by unfold nZ;rfl
 unfold n6 n7 wi
 grind
theorem Em(hw:vx w.length):FN ET 197 [wv p w] (n7 w):=by
 have b:=EW p w hw
 by_cases a:headB w=true
 .rw[Je w a]at b;have h1:=WW p w (headN w) b (Rl a) (dQ _ _);rw[Uo w a]at h1;exact h1
 have a:headB w=false:=by simpa using a
 have c:ng w=.ret (.tuple [wb 0 kF,iv 210]):=by unfold ng;rw[if_neg (by omega)]
 have d:wi w=210:=by unfold wi;rw[if_neg (by omega)]
 have e:n7 w=.ret (.tuple [wb 0 kF,iv 210]):=by unfold n7;rw[d];rfl
 rw[c]at b;rw[e];refine qv (eG T197 func197) (Lb.two (Lb.node _) (.int _ _)) ?_;refine wN b ?_;refine zG ?_;refine wA ?_ ?_
 .intro _;refine zO ?_;exact Cv
 .intro h;cases h
theorem Ge(c:Nat)(hs:FR 197 [wv p w] (.tuple [wb 0 n,iv c])):FR 162 [wv p w] (iv c):=by
 refine qv (eG T162 func162) (.int _ _) ?_;refine wN hs ?_;refine zO ?_;exact zf.int _ _
theorem Jg(h:wi w=0):n7 w=.ret (.tuple [wb 0 (headN w),iv ((0:Nat):Int)]):=by unfold n7;grind
theorem Jh(h:¬wi w=0):n7 w=.ret (.tuple [wb 0 kF,iv (wi w:Nat)]):=by unfold n7;grind
theorem Gf(hw:vx w.length):FR 162 [wv p w] (iv (wi w:Nat)):=by
 have a:=Em p w hw
 by_cases b:wi w=0
 .rw[Jg w b]at a;rw[b];exact Ge p w _ 0 a
 .rw[Jh w b]at a;exact Ge p w _ _ a


def uu(n:zi):Nat->LN
 | 0=>List.replicate 64 0
 | i+1=>(uu n i).set i (DD i n)
theorem CA(n:zi):∀i,(uu n i).length=64
 | 0=>by simp[uu]
 | i+1=>by simp[uu,CA n i]
def xd(n:zi):Nat->LN
 | 0=>uu n 5
 | j+1=>((xd n j).set (8+2*j) (n.pairs.getD j (0,0)).1).set (8+2*j+1) (n.pairs.getD j (0,0)).2
theorem iK(n:zi):∀j,(xd n j).length=64
 | 0=>CA n 5
 | j+1=>by simp[xd,iK n j]


theorem Qt(k k':IntKind)(x y x' y':Int):yG [1,1] [.int k x,.int k' y] [.int k x',.int k' y']=some (decide (x=x')&&decide (y=y')):=by
 by_cases h:x=x'<;>by_cases h2:y=y'<;>simp[yG,dR,x9,h,h2]


def uR(n:zi):LN:=xd n n.pairs.length
def Co(n:zi):Bool:=decide (n.level<=12)&&decide (n.sib<2048)&&decide (n.way<=2)&&decide (n.pairs.length<=27)
def I2(n:zi):Bool:=Co n&&(decide (wi (uR n)=0)&&decide ((headN (uR n)).pairs=n.pairs))
theorem QJ:Co n=true↔(n.level<=12/\n.sib<2048/\n.way<=2/\n.pairs.length<=27):=by
 unfold Co;grind
theorem tH{w:LN}(h:wi w=0):headB w=true:=by
 unfold wi at h
 grind


def eW(k:Nat)(l:LP):List (LP):=(List.range ((l.length+(k-1))/k)).map fun i=>(l.drop (k*i)).take k
theorem lN(k:Nat)(l:LP):(eW k l).length=(l.length+(k-1))/k:=by simp[eW]
theorem Ry(f:Nat)(a b:LJ):vL (.fn f [.elem a,.elem b]):=.fn fun x c=>by simp at c;rcases c with rfl|rfl<;>exact .elem _
@[reducible] def cv (x:Pr):PV:=.agg [uv x.1,iv x.2]
@[reducible] def eX (p:Nat) (l:LP):PV:=.list p 2 (l.map cv)


def pQ(l:LP)(i:Nat):zi:=⟨0,0,if 0<i then(l.getD (18*i) (0,0)).1 else 0,9223372036854775808,0,(l.drop (18*i)).take 18⟩
def yH(l:LP):LC:=if l=[]then[⟨0,0,0,9223372036854775808,0,[]⟩]else(List.range (eW 18 l).length).map (pQ l)
theorem sG{p:Nat}{L:LC}:∀v∈(L.map (wb p)).flatMap PV.cells,vL v:=fun v a=>by
 obtain⟨x,b,a⟩:=YG.1 a;obtain⟨n,_,rfl⟩:=Yx.1 b;exact Jr p n v a


theorem f96:ET.funcs.get 96=some T96:=eG _ func96
def jW(w:LN)(b:Nat):LN:=(w.take (64*b+64)).drop (64*b)
theorem iC(b:Nat)(hw:vx w.length)(hb:64*b+64<=w.length):FP ET 96 [wv p w,iv b] (.ret (wv p (jW w b))):=by
 refine lq f96 ?_;refine zG ?_;have a:(64:Int)*(b:Int)=((64*b:Nat):Int):=zo;have c:((64*b:Nat):Int)+64=((64*b+64:Nat):Int):=zo;have d:64*b<=64*b+64:=zo;have e:0<w.length:=zo;have f:List.drop (64*b) (List.take (64*b+64) (List.map uv w))=(jW w b).map uv:=by simp[jW,Zv,ZY]
 refine uf (uN a c d e hb f) ?_;exact zf.list _ _ _
def uK(n:Nat)(a:Int):Bool:=decide (64<=n)&&decide (n%64=0)&&decide (n<=131072)&&decide (0<=a)&&decide (a<n)
theorem Mj(a:Int)(hw:vx w.length):FN ET 165 [wv p w,iv a] (if uK w.length a=true then .ret (.tuple [])else .panic (vN 2)):=by
 refine qv (eG T165 func165) ?_ ?_
 .split
  .exact Lb.unit
  .exact .iface (.int _ _)
 refine vX ?_
 by_cases h1:64<=w.length
 rotate_left
 .have b:¬(64:Int)<=w.length:=zo;refine vU b ?_;refine vB (pt 2) ?_;exact wG (by simp[uK,h1])
 have b:(64:Int)<=w.length:=zo
 by_cases h2:w.length%64=0
 rotate_left
 .have c:¬(w.length:Int).tmod 64=0:=by rw[IntWalk.rem_in _ _ zo];omega
  refine vU (jX b c) ?_;refine vB (pt 2) ?_;exact wG (by simp[uK,h1,h2])
 have c:(w.length:Int).tmod 64=0:=by rw[IntWalk.rem_in _ _ zo];omega
 by_cases h3:w.length<=131072
 rotate_left
 .have d:¬(w.length:Int)<=131072:=zo;refine vU (vn b c d) ?_;refine vB (pt 2) ?_;exact wG (by simp[uK,h1,h2,h3])
 have d:(w.length:Int)<=131072:=zo
 by_cases h4:(0:Int)<=a
 rotate_left
 .refine vU (wd b c d h4) ?_;refine vB (pt 2) ?_;exact wG (by simp[uK,h1,h2,h3,h4])
 by_cases e:a<(w.length:Int)
 rotate_left
 .refine vU (wc b c d h4 e) ?_;refine vB (pt 2) ?_;exact wG (by simp[uK,h1,h2,h3,h4,e])
 refine vU (wc b c d h4 e) ?_;refine vi (nf 2) ?_;refine wg ?_;have:uK w.length a=true:=by simp[uK,h1,h2,h3,h4,e]
 rw[if_pos this];exact bD (bR rfl (zf.tL trivial))


section
variable {α:Type}(G l m n:List α)(x y z:α)
theorem kP:(G++x::l)[G.length]?=some x:=by simp
theorem gF:(G++x::l++m)[G.length]?=some x:=by simp
theorem gG:(G++x::l++m++n)[G.length]?=some x:=by simp
theorem xc:(G++x::y::l)[G.length+1]?=some y:=by grind
theorem uY:(G++x::y::l++m)[G.length+1]?=some y:=by grind
theorem uZ:(G++x::y::l++m++n)[G.length+1]?=some y:=by simp_all
theorem Ld:(G++x::l).set G.length z=G++z::l:=by grind
theorem Xa:(G++x::l++m).set G.length z=G++z::l++m:=by grind
theorem Xb:(G++x::l++m++n).set G.length z=G++z::l++m++n:=by grind
theorem nB:(G++x::y::l).set (G.length+1) z=G++x::z::l:=by simp_all
theorem nC:(G++x::y::l++m).set (G.length+1) z=G++x::z::l++m:=by simp_all
theorem yN:(G++x::y::l++m++n).set (G.length+1) z=G++x::z::l++m++n:=by simp_all
end
variable {lab:Nat}(p q:Nat)
def ma(lv:Nat)(ks:LP)(i:Nat):zi:=⟨lv,0,(ks.getD (19*i) (0,0)).1,(ks.getD (19*i) (0,0)).2,0,((ks.drop (19*i)).take 19).drop 1⟩
def xb(lv:Nat)(ks:LP):LC:=(List.range (eW 19 ks).length).map (ma lv ks)
theorem LF.append:∀{a b c d:LJ},LF H lab a b->LF H lab c d->LF H lab (a++c) (b++d)
 | [],[],_,_,_,h=>h
 | _::_,_::_,_,_,h,k=>⟨h.1,LF.append h.2 k⟩
theorem LF.get:∀{a b:LJ} {i:Nat} {x y:PV},LF H lab a b->a[i]?=some x->b[i]?=some y->zf H lab x y
 | [],_,_,_,_,_,c,_=>by simp at c
 | _::_,[],_,_,_,h,_,_=>h.elim
 | _::_,_::_,0,_,_,h,c,d=>by injection c with c;injection d with d;subst c d;exact h.1
 | _::_,_::_,i+1,_,_,h,c,d=>LF.get h.2 c d
theorem IC:∀{a b:LJ},LF H lab a b->a.length=b.length
 | [],[],_=>rfl
 | _::_,_::_,h=>by simp[IC h.2]
theorem LF.flat{α:Type}{f:α->PV}:∀{vs:LJ} {L:List α},vs.length=L.length->(∀(q:Nat) (n:α),L[q]?=some n->∃v,vs[q]?=some v/\LF H lab v.cells (f n).cells)->LF H lab (vs.flatMap PV.cells) ((L.map f).flatMap PV.cells)
 | [],[],_,_=>trivial
 | v::vs,n::L,a,h=>by
  have b:=h 0 n rfl;obtain⟨g,c,d⟩:=b
  cases c
  exact LF.append d (LF.flat (by grind) fun q m e=>h (q+1) m e)
 | [],_::_,a,_=>by simp at a
 | _::_,[],a,_=>by simp at a


theorem Qw(a b:LP)(ha:vx a.length)(hb:vx b.length):FR 196 [eX p a,eX q b] (.bool (decide (a=b))):=by
 refine qv (eG T196 func196) (.bool _) ?_;refine zG ?_
 by_cases f:a.length=b.length
 rotate_left
 .have g:¬(a.length:Int)=b.length:=zo;have j:¬a=b:=fun h=>f (by rw[h]);refine wA ?_ ?_
  .intro _;refine zO ?_;exact va.bool (decide_eq_false j).symm
  .intro h;simp[g]at h
 have g:(a.length:Int)=b.length:=zo;refine wA ?_ ?_
 .intro h;simp[g]at h
 intro _;refine uL ?_;refine zG ?_;refine vo (vG (fun m s=>∃i:Nat,m=a.length-i/\i<=a.length/\decide (a=b)=decide (a.drop i=b.drop i)/\s.tm 0=eX p a/\s.tm 1=eX q b/\s.tm 12=iv a.length/\s.tm 13=iv i/\s.df=[]/\s.H=[]) (n:=a.length) ?_ ?_)
 .exact⟨0,by simp[zb,zr]⟩
 .rintro m ⟨tm,df,H⟩ ⟨i,rfl,hi,hd,h0,h1,h12,h13,rfl,rfl⟩;dsimp only at h0 h1 h12 h13;refine vJ (wd h0 h1 h12 h13) ?_ ?_
  .intro c;have c:i<a.length:=wa c;have e:i<b.length:=zo;refine vP ?_;refine vI h13 ?_;refine wH ?_;refine ek ?_ (by simp(disch:=omega)only[go_sem,h0,h1,h13,Yk c,Yk e,Qt]<;>rfl);refine gm ?_;simp only[go_sem];have k:a.drop i=a[i]::a.drop (i+1):=YE c;have l:b.drop i=b[i]::b.drop (i+1):=YE e;rw[k,l]at hd;have o:(decide (((a[i].1:Nat):Int)=(b[i].1:Nat))&&decide (((a[i].2:Nat):Int)=(b[i].2:Nat)))=decide (a[i]=b[i]):=by
    rw[<- zBZ9]
    congr 1
    rw[Prod.ext_iff];simp only[Int.natCast_inj]
   rw[o]
   by_cases d:a[i]=b[i]
   .refine wA ?_ ?_
    .rw[decide_eq_true d];intro h;cases h
    .intro _;refine wY ?_;refine vu h13 ?_;refine⟨_,?_,i+1,rfl,c,?_,zu h0,zu h1,zu h12,zu h13,zt,zt⟩
     .omega
     .rw[hd];simp only[d,List.cons.injEq,true_and]
   .refine wA ?_ ?_
    .intro _;refine zO ?_;exact va.bool (by rw[hd];simp only[List.cons.injEq,d,false_and,decide_false,Bool.not_false])
    .rw[decide_eq_false d];intro h;cases h
  .intro c;have c:¬i<a.length:=vZ c;obtain rfl:i=a.length:=zo;refine zO ?_;refine va.bool ?_;rw[hd,Y9,f,Y9];rfl
def pi(L:LC)(n:zi)(lv:Int):Bool:=match L.getLast? with
 | none=>decide (n.low=0)&&(decide (lv<0)||decide ((n.level:Int)=lv))
 | some z=>decide (z.low<n.low)&&decide (n.level=z.level)
@[reducible] def uw (p q:Nat) (bs:LN) (L:LC):PV:=.agg [.list p 1 (bs.map fun (b:Nat)=>iv (b:Int)),.list p 6 (L.map (wb q))]
theorem Q5(q':Nat)(bs:LN)(L:LC)(n:zi)(lv:Int)(hl:vx L.length):FR 225 [uw p q bs L,wb q' n,iv lv] (.bool (pi L n lv)):=by
 obtain⟨d,ns,a,j,l,m⟩:=n;refine qv (eG T225 func225) (.bool _) ?_;refine vj (vX ?_);refine zN ?_;refine zG ?_
 by_cases e:L.length=0
 .have f:(L.length:Int)=0:=zo;obtain rfl:L=[]:=Zc e;refine wA ?_ ?_
  .intro _;refine vj (vX ?_)
   by_cases h1:a=0
   .have b:(a:Int)=0:=zo
    by_cases h2:lv<0
    .refine kE (jX b h2) ?_;exact va.bool (by simp[pi,h1,h2])
    .refine kE (jX b h2) ?_;exact va.bool (by simp[pi,h1,h2])
   .have b:¬(a:Int)=0:=zo;refine kE b ?_;exact va.bool (by simp[pi,h1])
  .intro h;cases h
 .have f:¬(L.length:Int)=0:=zo;refine wA ?_ ?_
  .intro h;exact absurd (of_decide_eq_true h) f
  .intro _;refine uL ?_;obtain⟨z,g⟩:∃z,L.getLast?=some z:=by
    cases i:L.getLast? with
    | none=>rw[List.getLast?_eq_none_iff]at i;subst i;simp at e
    | some z=>exact⟨z,rfl⟩
   have k:L[L.length-1]?=some z:=by rw[<- Z4];exact g
   have o:(L.length:Int)-1=((L.length-1:Nat):Int):=zo;have r:pi L ⟨d,ns,a,j,l,m⟩ lv=(decide (z.low<a)&&decide (d=z.level)):=by unfold pi;rw[g]
   rw[r];obtain⟨t,u,c,s,v,w⟩:=z;refine vI (jX o k) ?_;refine vX ?_
   by_cases h1:c<a
   .have b:(c:Int)<a:=zo;refine kE b ?_;exact va.bool (by simp[h1];try omega)
   .have b:¬(c:Int)<a:=zo;refine kE b ?_;exact va.bool (by simp[h1])


def pO(z:Option zi)(x:Pr):Bool:=match z with
 | some z=>!decide (z.low<=x.1)
 | none=>true
def vQ:LC->LP
 | []=>[]
 | n::M=>n.pairs.filter (pO M.head?)++vQ M
theorem Tg(L:LC)(i:Nat)(h:i<L.length):vQ (L.drop i)=L[i].pairs.filter (pO L[i+1]?)++vQ (L.drop (i+1)):=by
 rw[YE h,vQ,List.head?_drop]
theorem Eb:∀(a:LP) (x:Pr),vz (a++[x])=(vz a&&(match a.getLast? with|some y=>decide (y.1<x.1)|none=>true))
 | [],_=>rfl
 | [a],x=>by simp[vz]
 | a::b::l,x=>by
  have:=Eb (b::l) x;rw[Yy,Yy,vz,<- Yy,this,vz,ZB,Bool.and_assoc]
theorem Ea:∀(a b:LP),vz (a++b)=true->vz a=true
 | [],_,_=>rfl
 | [_],_,_=>rfl
 | a::c::l,b,h=>by
  rw[Yy,Yy,vz,<- Yy,Yr]at h;rw[vz,h.1,ZH];exact Ea (c::l) b h.2
def b8(L:LC):FE:=if vz (vQ L)=true then .ret (.tuple [vO 0 (vQ L),.bool true])else .ret (.tuple [vO 0 [],.bool false])
theorem Og{H:LQ}{L:LC}{acc:LP}{x:Pr}{r:LP}(hall:vQ L=acc++x::r)(hx:∃y,acc.getLast?=some y/\¬y.1<x.1):va H 0 (.ret (.tuple [.nilsl,.bool false])) (b8 L):=by
 have:vz (vQ L)=false:=by
  cases h:vz (vQ L)with
  | false=>rfl
  | true =>
   rw[hall,<- List.singleton_append,<- YI]at h;have h2:=Ea _ _ h;obtain⟨y,a,b⟩:=hx;rw[Eb,a]at h2
   grind
 unfold b8;rw[this];exact wq
def bW(acc:LP)(x:Pr):Bool:=match acc.getLast? with
 | some y=>decide (x.1<=y.1)
 | none=>false
variable {acc:LP}{x:Pr}(a:Pr)(n:zi)(p:Nat)(l:LP)
theorem SJ(h:bW acc x=true):∃y,acc.getLast?=some y/\¬y.1<x.1:=by
 unfold bW at h
 grind
theorem V8(h:vz acc=true)(hb:bW acc x=false):vz (acc++[x])=true:=by
 rw[Eb,h,ZH];unfold bW at hb
 grind
theorem tp(q:Nat)(bs:LN)(L:LC)(hl:L.length<1000000)(hp:∀n∈L,n.pairs.length<=28)(hall:(vQ L).length<1000000):FN ET 109 [uw p q bs L] (b8 L):=by
 refine qv (eG T109 func109) ?_ ?_
 .unfold b8;split
  .exact Lb.two (Lb.pvs _) (.bool _)
  .exact Lb.two (Lb.pvs _) (.bool _)
 refine vj (vX ?_);refine zN ?_;refine zG ?_;refine kp 92 2 (i:=2) rfl ?_;simp only[ya,Yq,YK,Yy,YC];refine vo (vG (fun m s=>∃(i:Nat) (acc:LP) (G:LQ),m=L.length-i/\i<=L.length/\vQ L=acc++vQ (L.drop i)/\vz acc=true/\s.tm 1=.ptr 0 0 0 0 2/\s.tm 2=.sl 1 acc.length 0 acc.length (2*acc.length) 2/\s.tm 10=.list p 6 (L.map (wb q))/\s.tm 11=iv L.length/\s.tm 12=iv i/\s.df=[]/\s.H=.row 195 2 0 0 [uw p q bs L]::.row 92 2 acc.length 0 (acc.map pv)::G) (n:=L.length) ?_ ?_)
 .exact⟨0,[],[],rfl,by omega,rfl,rfl,zt,zt,zt,zt,zt,rfl,rfl⟩
 .rintro m ⟨tm,I,H⟩ ⟨i,acc,G,rfl,hi,d,t,h1,h2,c,e,b,rfl,rfl⟩;dsimp only at *
  refine vJ (wc h1 h2 c e b) ?_ ?_
  .intro r;have r:i<L.length:=wa r;have M:=Yk r;rw[Tg L i r]at d;have Z:=hp _ (YX r);generalize L[i]=n at *
   refine vP ?_;refine vI (vn c b M) ?_;generalize U:vQ (List.drop (i+1) L)=R at d;refine vo (vG (fun m s=>∃(j:Nat) (acc:LP) (G:LQ),m=n.pairs.length-j/\j<=n.pairs.length/\vQ L=acc++((n.pairs.drop j).filter (pO L[i+1]?)++R)/\vz acc=true/\s.tm 1=.ptr 0 0 0 0 2/\s.tm 2=.sl 1 acc.length 0 acc.length (2*acc.length) 2/\s.tm 4=iv i/\s.tm 10=.list p 6 (L.map (wb q))/\s.tm 11=iv L.length/\s.tm 12=iv i/\s.tm 18=vO q n.pairs/\s.tm 19=iv n.pairs.length/\s.tm 20=iv j/\s.df=[]/\s.H=.row 195 2 0 0 [uw p q bs L]::.row 92 2 acc.length 0 (acc.map pv)::G) (n:=n.pairs.length) ?_ ?_)
   .exact⟨0,acc,_,rfl,by omega,d,t,zu h1,zu h2,zt,zu c,zu e,zu b,zt,zt,zt,rfl,rfl⟩
   .clear h1 h2 c e b d t;rintro m ⟨tm,I,H⟩ ⟨j,acc,G,rfl,hj,d,t,h1,h2,h4,c,e,b,g,k,f,rfl,rfl⟩;dsimp only at *
    refine vJ (vn g k f) ?_ ?_
    .intro o;have o:j<n.pairs.length:=wa o;have N:=Yk o;rw[YE o,List.filter_cons]at d;generalize n.pairs[j]=x at *
     refine vP ?_;refine vI (vn g f N) ?_;refine zB ?_;refine xH (Q:=fun y a=>y=.norm/\a.tm 1=.ptr 0 0 0 0 2/\a.tm 2=.sl 1 acc.length 0 acc.length (2*acc.length) 2/\a.tm 4=iv i/\a.tm 10=.list p 6 (L.map (wb q))/\a.tm 11=iv L.length/\a.tm 12=iv i/\a.tm 18=vO q n.pairs/\a.tm 19=iv n.pairs.length/\a.tm 20=iv j/\a.tm 41=.bool (!pO L[i+1]? x)/\a.tm 7=.ptr (G.length+1+1) 0 0 0 2/\a.df=[]/\a.H=.row 195 2 0 0 [uw p q bs L]::.row 92 2 acc.length 0 (acc.map pv)::(G++[.row 92 2 0 0 [pv x]])) (ua ?_) ?_
     .have C:((i:Int)+1)=((i+1:Nat):Int):=zo
      by_cases O:i+1<L.length
      .have u:((i+1:Nat):Int)<(L.length:Nat):=zo;have B:=Yk O;rw[B];generalize L[i+1]=z at *
       refine vq (wc h1 h4 C u B) ?_;exact⟨h1,h2,h4,c,e,b,g,k,f,by simp[pO]⟩
      .have u:¬((i+1:Nat):Int)<(L.length:Nat):=zo;have B:L[i+1]?=none:=Za zo;rw[B];refine vq (wc h1 h4 C u B) ?_;exact⟨h1,h2,h4,c,e,b,g,k,f,by simp[pO]⟩
     .clear h1 h2 h4 c e b g k f;rintro y ⟨tm,I,H⟩ ⟨rfl,h1,h2,h4,c,e,b,g,k,f,D,w,rfl,rfl⟩;dsimp only at *
      by_cases A:pO L[i+1]? x=true
      rotate_left
      .rw[if_neg A]at d;have A:pO L[i+1]? x=false:=by simpa using A
       refine bn D ?_ ?_
       .intro _;refine eE ?_;refine vu f ?_;refine⟨_,?m1,j+1,acc,_,rfl,o,d,t,zu h1,zu h2,zu h4,zu c,zu e,zu b,zu g,zu k,zu f,rfl,rfl⟩;omega
       .rw[A];intro h;cases h
      rw[if_pos A]at d;refine bn D ?_ ?_
      .rw[A];intro h;cases h
      intro _;refine uL ?_;refine vI h2 ?_;have ab:acc.length<1000000:=by have:=congrArg List.length d;simp only[Yn]at this;omega
      have hH:∀G2:LQ,True:=fun _=>trivial;refine xH (Q:=fun y a=>y=.norm/\a.tm 1=.ptr 0 0 0 0 2/\a.tm 2=.sl 1 acc.length 0 acc.length (2*acc.length) 2/\a.tm 4=iv i/\a.tm 10=.list p 6 (L.map (wb q))/\a.tm 11=iv L.length/\a.tm 12=iv i/\a.tm 18=vO q n.pairs/\a.tm 19=iv n.pairs.length/\a.tm 20=iv j/\a.tm 56=.bool (bW acc x)/\a.tm 7=.ptr (G.length+1+1) 0 0 0 2/\a.df=[]/\a.H=.row 195 2 0 0 [uw p q bs L]::.row 92 2 acc.length 0 (acc.map pv)::(G++[.row 92 2 0 0 [pv x]])) (ua ?_) ?_
      .by_cases P:acc.length=0
       .have u:¬(0:Int)<(acc.length:Nat):=zo;refine vq (jX h2 u) ?_;obtain rfl:acc=[]:=Zc P;exact⟨h1,h2,h4,c,e,b,g,k,f,rfl,w⟩
       .have u:(0:Int)<(acc.length:Nat):=zo;have C:(acc.length:Int)-1=((acc.length-1:Nat):Int):=zo;have V:acc.length-1<acc.length:=zo;obtain⟨y,K⟩:∃y,acc.getLast?=some y:=by
         grind
        have S:acc[acc.length-1]?=some y:=by rw[<- Z4];exact K
        refine vq (uN h2 w u C V S) ?_;exact⟨h1,h2,h4,c,e,b,g,k,f,by simp[bW,K],w⟩
      .clear h1 h2 h4 c e b g k f D w;rintro y ⟨tm,I,H⟩ ⟨rfl,h1,h2,h4,c,e,b,g,k,f,J,w,rfl,rfl⟩;dsimp only at *
       by_cases v:bW acc x=true
       .refine bn J ?_ ?_
        .intro _;refine zO ?_;exact Og d (SJ v)
        .rw[v];intro h;cases h
       have v:bW acc x=false:=by simpa using v
       refine bn J ?_ ?_
       .rw[v];intro h;cases h
       intro _;refine wY ?_;have T:(acc.length+1)*17<=140737488355328:=zo;refine vu (vn h2 w T) ?_;refine vu f ?_;refine⟨_,?X,j+1,acc++[x],?G3,rfl,o,by grind,V8 t v,zu h1,zt,zu h4,zu c,zu e,zu b,zu g,zu k,zu f,zt,?Y⟩
       case X=>omega
       case Y=>(try dsimp only);rw[YJ,Yn];rfl
    .intro o;have o:¬j<n.pairs.length:=vZ o;obtain rfl:j=n.pairs.length:=zo;refine vu b ?_;rw[Y9,List.filter_nil,YC,<- U]at d;refine⟨_,?m9,i+1,acc,G,rfl,r,d,t,zu h1,zu h2,zu c,zu e,zu b,rfl,rfl⟩;omega
  .intro r;have r:¬i<L.length:=vZ r;obtain rfl:i=L.length:=zo;refine uf h2 ?_;rw[Y9,vQ,Y8]at d;unfold b8;rw[d,if_pos t];refine zf.tL ⟨?_,.bool _,trivial⟩;exact zf.wh (l:=acc.map pv) rfl rfl (by simp) (by simp) uo fh
def kZ:Nat->LN->Nat
 | 0,_=>0
 | n+1,s=>kZ n s+if s.contains n=true then 0 else 1
theorem Mm:∀(n b:Nat) (s:LN),kZ n (b::s)<=kZ n s
 | 0,_,_=>Ym _
 | n+1,b,s=>by
  have:=Mm n b s;rw[kZ,kZ]
  grind
theorem Bh:∀(n b:Nat) (s:LN),b<n->¬s.contains b=true->kZ n (b::s)<kZ n s
 | 0,_,_,h,_=>by omega
 | n+1,b,s,h,a=>by
  rw[kZ,kZ]
  by_cases c:b=n
  .subst c;have:=Mm b b s
   grind
  .have:=Bh n b s zo a
   grind
theorem Mn:∀(n b:Nat) (s:LN),kZ n s=0->b<n->s.contains b=true
 | 0,_,_,_,h=>by omega
 | n+1,b,s,h,c=>by
  rw[kZ]at h
  by_cases h3:s.contains n=true
  .by_cases a:b=n
   .grind
   .exact Mn n b s zo zo
  grind
theorem rt:∀(n:Nat) (s:LN),kZ n s<=n
 | 0,_=>Ym _
 | n+1,s=>by have:=rt n s;rw[kZ];grind
abbrev vh:=LN×LC
def wW(w:LN)(lv:Int):Nat->LN->LN->LC->Nat->Option (LN×LN×LC)
 | 0,seen,bs,ns,b=>if b=0 then some (seen,bs,ns)else none
 | k+1,seen,bs,ns,b=>if b=0 then some (seen,bs,ns)else
  if decide (w.length/64<=b)||seen.contains b then none else
  if headB (jW w b)&&pi ns (headN (jW w b)) lv then wW w lv k (b::seen) (bs++[b]) (ns++[headN (jW w b)]) (headN (jW w b)).sib else none
def wZ(w:LN):Nat->LN->List vh->Nat->Int->List vh×Bool
 | 0,_,acc,_,_=>(acc,false)
 | d+1,seen,acc,b,lv=>match wW w lv (w.length/64) seen [] [] b with
  | none=>(acc,false)
  | some (_,_,[])=>(acc,false)
  | some (seen',bs,n::ns)=>if n.level=0 then(acc++[(bs,n::ns)],vz (vQ (n::ns)))else wZ w d seen' (acc++[(bs,n::ns)]) n.left ((n.level:Int)-1)
def vK(w:LN)(a:Nat):List vh×Bool:=wZ w 14 [] [] (w.getD a 0) (-1)
structure uO(n:zi):Prop where
 level:n.level<=12
 sib:n.sib<2048
 way:n.way<=2
 few:n.pairs.length<=27
 rise:vz n.pairs=true
 ptrs:xr [n.left] n.pairs=true
 may:∀p∈n.pairs,uT n p=true
 left:(n.level=0/\n.left=9223372036854775808)\/(0<n.level/\nM n.left=true)
theorem eR:nM p=true↔(1<=p/\p<2048):=by unfold nM;simp
theorem oB{n:zi}{p:Pr}(h:uT n p=true):p.2≠0:=by
 unfold uT at h
 split at h
 .grind
 .rw[Yr,eR]at h;omega
theorem pM:∀l:LP,(vA l).length=2*l.length
 | []=>rfl
 | a::l=>by have:=pM l;simp only[vA,YT,Yn,Yq,YK]at this⊢;omega
theorem mZ:vA (a::l)=a.1::a.2::vA l:=by simp[vA]
theorem sD:vA (l++[a])=vA l++[a.1,a.2]:=by simp[vA]
theorem Wu:∀(m prev:Nat),vg prev (List.replicate m 0)=[]
 | 0,_=>rfl
 | 1,_=>rfl
 | m+2,prev=>by rw[Zy,Zy,vg,if_pos rfl]
theorem KN(m:Nat):∀(ps:LP) (seen:LN) (prev:Nat),xr seen ps=true->prev∈seen->(∀p∈ps,p.2≠0)->vg prev (vA ps++List.replicate m 0)=ps
 | [],_,prev,_,_,_=>by rw[show vA []=[]from rfl,YC];exact Wu m prev
 | a::ps,seen,prev,h,d,b=>by
  rw[xr,Yr,ZA]at h;have h1:¬a.2=prev:=by grind
  rw[mZ,Yy,Yy,vg,if_neg (b a (Yp ..)),if_neg h1];rw[KN m ps (a.2::seen) a.2 h.2 (Yp ..) fun p c=>b p (Ys _ c)]
theorem KR(m:Nat):∀ps:LP,(∀p∈ps,p.2≠0)->vR (vA ps++List.replicate m 0)=ps.length
 | [],_=>by
  rw[show vA []=[]from rfl,YC]
  match m with
  | 0=>rfl
  | 1=>rfl
  | m+2=>rw[Zy,Zy,vR,if_pos rfl];rfl
 | a::ps,b=>by
  rw[mZ,Yy,Yy,vR,if_neg (b a (Yp ..)),KR m ps fun p c=>b p (Ys _ c)];rfl
theorem KU:∀m,xw (List.replicate m 0)=true
 | 0=>rfl
 | 1=>rfl
 | m+2=>by rw[Zy,Zy,xw,KU m];rfl
theorem K6(A B:LN)(k x y a b:Nat)(hk:k=A.length):((A++x::y::B).set k a).set (k+1) b=A++a::b::B:=by simp_all
theorem Rg:uu n 5=oF n++List.replicate 56 0:=rfl
theorem JM(n:zi)(h:n.pairs.length<=28):∀j,j<=n.pairs.length->xd n j=oF n++vA (n.pairs.take j)++List.replicate (56-2*j) 0
 | 0,_=>by rw[xd,Rg];rfl
 | j+1,d=>by
  have a:List.replicate (56-2*j) 0=0::0::List.replicate (56-2*(j+1)) 0:=by
   rw[show 56-2*j=(56-2*(j+1))+1+1 by omega,Zy,Zy]
  have b:(oF n++vA (n.pairs.take j)).length=8+2*j:=by
   rw[Yn,pM,YF];simp[oF];omega
  rw[xd,JM n h j zo,a,K6 _ _ _ _ _ _ _ b.symm];have c:n.pairs.take (j+1)=n.pairs.take j++[n.pairs.getD j (0,0)]:=by
   rw[YO,Yu,Yk zo];rfl
  rw[c,sD]
  grind
theorem CX(h:n.pairs.length<=28):uR n=oF n++(vA n.pairs++List.replicate (56-2*n.pairs.length) 0):=by
 unfold uR;rw[JM n h _ (Ym _),YR,YI]
theorem ol:(uR n).length=64:=iK n _
section
variable {n:zi}(h:uO n)
include h
theorem uO.rowL:(vA n.pairs++List.replicate (56-2*n.pairs.length) 0).length=56:=by
 have:=h.few;rw[Yn,pM,Zb];omega
theorem uO.left0:n.left≠0:=by
 rcases h.left with⟨_,e⟩|⟨_,e⟩
 .omega
 .rw[eR]at e;omega
theorem uO.row:uj n.left (vA n.pairs++List.replicate (56-2*n.pairs.length) 0).length=true:=by
 rw[h.rowL];unfold uj;simp[h.left0]
theorem uO.read:wy n.left (vA n.pairs++List.replicate (56-2*n.pairs.length) 0)=n.pairs:=by
 unfold wy;rw[if_pos h.row];exact KN _ _ [n.left] _ h.ptrs (Yp ..) fun p a=>oB (h.may p a)
theorem uO.drop8:(uR n).drop 8=vA n.pairs++List.replicate (56-2*n.pairs.length) 0:=by
 rw[CX n (by have:=h.few;omega)];rfl
theorem uO.parts:(uR n).getD 0 0=7522529147838689024+n.level/\(uR n).getD 1 0=n.sib/\(uR n).getD 2 0=n.low/\(uR n).getD 3 0=n.left/\(uR n).getD 4 0=n.way:=by
 rw[CX n (by have:=h.few;omega)];exact⟨rfl,rfl,rfl,rfl,rfl⟩
omit h in
theorem IW(k:Nat):kS (7522529147838689024+k)=k:=by rw[Db,zBF9]
omit h in
theorem CC{w:LN}{a b c d e:Nat}{ps:LP}(h0:kS (w.getD 0 0)=a)(h1:w.getD 1 0=b)(h2:w.getD 2 0=c)(h3:w.getD 3 0=d)(h4:w.getD 4 0=e)(h5:wy d (w.drop 8)=ps):headN w=⟨a,b,c,d,e,ps⟩:=by
 unfold headN;grind
theorem uO.headN:headN (uR n)=n:=by
 obtain⟨a,b,c,d,e⟩:=h.parts;exact CC (by rw[a];exact IW n.level) b c d e (by rw[h.drop8];exact h.read)
theorem uO.headB:headB (uR n)=true:=by
 obtain⟨d,e,j,f,g⟩:=h.parts;unfold Fv.headB;rw[Yr,Yr,d,IW];refine⟨⟨by rw[ol];rfl,by rw[CX n (by have:=h.few;omega)];rfl⟩,?_⟩;rw[YZ];intro i a;have a:i<5:=Zm.1 a
 match i,a with
 | 0,_=>rw[d,yK,Yr,decide_eq_true_eq,decide_eq_true_eq];exact⟨Nat.le_add_right _ _,Nat.add_le_add_left h.level _⟩
 | 1,_=>rw[e,yK,decide_eq_true_eq];exact h.sib
 | 2,_=>rfl
 | 3,_ =>
  rw[f,yK];rcases h.left with⟨b,c⟩|⟨b,c⟩
  .rw[b,c];rfl
  .rw[c,decide_eq_true b,zBN9,Bool.or_true]
 | 4,_=>rw[g];show decide (n.way<=2)=true;rw[decide_eq_true_eq];exact h.way
theorem uO.slots:w7 n.left ((uR n).drop 8)=0:=by
 have a:∀p∈n.pairs,p.2≠0:=fun p b=>oB (h.may p b);unfold w7;rw[h.drop8,if_pos h.row,if_pos];unfold pX;rw[h.read,h.rise,h.ptrs,KR _ _ a,h.rowL];have hd:(vA n.pairs++List.replicate (56-2*n.pairs.length) 0).drop (2*n.pairs.length)=List.replicate (56-2*n.pairs.length) 0:=by
  rw[<- pM,zAT9]
 rw[hd,KU];have:=h.few
 grind
theorem uO.check:wi (uR n)=0:=by
 unfold wi nZ;rw[if_pos h.headB,if_pos];rw[h.headN,h.slots];simp only[decide_true,ZH,ZA,zBJ9];intro p a;rw[h.may p a];simp
theorem uO.make:I2 n=true:=by
 unfold I2;rw[h.check,h.headN,(QJ n).2 ⟨h.level,h.sib,h.way,h.few⟩];simp
end
structure Bq(lv:Nat)(ns:LC):Prop where
 ne:ns ≠ []
 each:∀n∈ns,uO n/\n.level=lv/\n.sib=0
 low0:∀n,ns[0]?=some n->n.low=0
 rise:∀i n m,ns[i]?=some n->ns[i+1]?=some m->n.low<m.low
 below:∀i n m,ns[i]?=some n->ns[i+1]?=some m->∀p∈n.pairs,p.1<m.low
def wz:LN->LC->LC
 | _::bs,n::ns=>{ n with sib:=bs.headD 0 }::wz bs ns
 | _,_=>[]
theorem aR:∀(bs:LN) (ns:LC),bs.length=ns.length->(wz bs ns).length=ns.length
 | [],[],_=>rfl
 | _::bs,n::ns,h=>by rw[wz,Yq,Yq,aR bs ns (by grind)]
 | [],_::_,h=>by simp at h
 | _::_,[],h=>by simp at h
theorem fC:∀(bs:LN) (ns:LC) (i:Nat) (n:zi),bs.length=ns.length->ns[i]?=some n->(wz bs ns)[i]?=some { n with sib:=bs.getD (i+1) 0 }
 | [],[],i,n,_,h=>by simp at h
 | [],_::_,_,_,h,_=>by simp at h
 | _::_,[],_,_,h,_=>by simp at h
 | b::bs,n::ns,i,m,a,h=>by
  rw[wz]
  match i with
  | 0 =>
   rw[List.getElem?_cons_zero]at h⊢
   cases h
   cases bs<;>rfl
  | i+1 =>
   rw[Y2]at h⊢;rw[fC bs ns i m (by grind) h];rfl
theorem Ti{bs:LN}{ns:LC}(hl:bs.length=ns.length)(h:ns ≠ []):wz bs ns ≠ []:=by
 intro e;have:=aR bs ns hl
 grind
def after:LB->Nat->Prop
 | none,n=>n=0
 | some l,n=>l<n
def aA(lv:Nat):LB->LN->LC->Prop
 | _,[],[]=>True
 | pl,b::bs,n::ns=>1<=b/\b<2048/\uO n/\n.level=lv/\n.sib=bs.headD 0/\after pl n.low/\(∀m,ns.head?=some m->∀p∈n.pairs,p.1<m.low)/\aA lv (some n.low) bs ns
 | _,[],_::_=>False
 | _,_::_,[]=>False
theorem uO.setSib{n:zi}(h:uO n){s:Nat}(hs:s<2048):uO { n with sib:=s }:=⟨h.level,hs,h.way,h.few,h.rise,h.ptrs,h.may,h.left⟩
theorem Gc(lv:Nat):∀(bs:LN) (ns:LC) (pl:LB),bs.length=ns.length->(∀b∈bs,1<=b/\b<2048)->(∀n∈ns,uO n/\n.level=lv)->(∀n,ns[0]?=some n->after pl n.low)->(∀i n m,ns[i]?=some n->ns[i+1]?=some m->n.low<m.low)->(∀i n m,ns[i]?=some n->ns[i+1]?=some m->∀p∈n.pairs,p.1<m.low)->aA lv pl bs (wz bs ns)
 | [],[],_,_,_,_,_,_,_=>trivial
 | [],_::_,_,h,_,_,_,_,_=>by simp at h
 | _::_,[],_,h,_,_,_,_,_=>by simp at h
 | b::bs,n::ns,pl,s,g,k,t,l,o=>by
  have u:bs.headD 0<2048:=by
   cases bs with
   | nil=>decide
   | cons c bs=>exact(g c (by simp)).2
  have r:bs.length=ns.length:=by simpa using s
  have q:=k n (Yp ..);refine⟨(g b (Yp ..)).1,(g b (Yp ..)).2,q.1.setSib u,q.2,rfl,t n rfl,?_,?_⟩
  .intro m f p hp
   cases ns with
   | nil=>cases bs<;>simp[wz]at f
   | cons c ns =>
    cases bs with
    | nil=>grind
    | cons d bs =>
     simp[wz]at f;subst f;exact o 0 n c rfl rfl p hp
  .refine Gc lv bs ns (some n.low) r (fun c e=>g c (Ys _ e)) (fun c e=>k c (Ys _ e)) ?_ (fun i a c j e=>l (i+1) a c j e) (fun i a c j e=>o (i+1) a c j e);intro m f;exact l 0 n m rfl f
def uA(w:LN)(bs:LN)(ns:LC):Prop:=∀(i b:Nat) (n:zi),bs[i]?=some b->ns[i]?=some n->b<w.length/64/\jW w b=uR n
theorem uA.tail{w:LN}{b:Nat}{bs:LN}{n:zi}{ns:LC}(h:uA w (b::bs) (n::ns)):uA w bs ns:=fun i c m a d=>h (i+1) c m a d
theorem Ko(w:LN)(lv:Nat)(wM:Int)(hwant:wM<0\/(lv:Int)=wM):∀(bs:LN) (ns:LC) (pl:LB) (accb:LN) (accn:LC) (seen:LN) (k:Nat),aA lv pl bs ns->uA w bs ns->(accn.getLast?.map zi.low=pl)->(∀z,accn.getLast?=some z->z.level=lv)->bs.Nodup->(∀b∈bs,¬seen.contains b=true)->kZ (w.length/64) seen<=k->wW w wM k seen accb accn (bs.headD 0)=some (bs.reverse++seen,accb++bs,accn++ns)
 | [],[],pl,accb,accn,seen,k,_,_,_,_,_,_,_=>by cases k<;>simp[wW]
 | [],_::_,_,_,_,_,_,h,_,_,_,_,_,_=>h.elim
 | _::_,[],_,_,_,_,_,h,_,_,_,_,_,_=>h.elim
 | b::bs,n::ns,pl,accb,accn,seen,k,f,j,a,s,g,l,y=>by
  obtain⟨h1,h2,p,i,r,m,_,q⟩:=f;obtain⟨t,v⟩:=j 0 b n rfl rfl;have o:¬seen.contains b=true:=l b (Yp ..);have x:=Bh _ b seen t o;rw[ZF]at g
  match k with
  | 0=>omega
  | k+1 =>
   rw[zAZ9,wW,if_neg zo,if_neg (by simp only[Z6,decide_eq_true_eq,not_or];exact⟨by omega,o⟩),v,p.headB,p.headN,if_pos]
   .rw[r,Ko w lv wM hwant bs ns (some n.low) (accb++[b]) (accn++[n]) (b::seen) k q j.tail (by simp) (fun z d=>by simp at d;subst d;exact i) g.2 ?_ zo]
    .simp
    .intro c f;have u:¬c=b:=by intro e;subst e;exact g.1 f
     have:=l c (Ys _ f);simpa[u]using this
   .rw[ZH];unfold pi
    cases d:accn.getLast? with
    | none =>
     rw[d]at a;simp at a;subst a;simp only[Yr,Z6,decide_eq_true_eq];exact⟨m,by rw[i];exact hwant⟩
    | some z =>
     rw[d]at a;simp at a;subst a;simp only[Yr,decide_eq_true_eq];exact⟨m,by rw[i,s z d]⟩
def uH(n:zi):LP:=(n.low,n.left)::n.pairs
def yB(L:vh):LP:=(L.2.map zi.low).zip L.1
def aE:List vh->Prop
 | []=>False
 | [L]=>aA 0 none L.1 L.2/\L.2 ≠ []
 | L::M::T=>aA (T.length+1) none L.1 L.2/\L.2 ≠ []/\L.2.flatMap uH=yB M/\aE (M::T)
variable {l:LP}(w ws:LN)(b:Nat)
theorem aE.chain{L:vh}{T:List vh}(h:aE (L::T)):aA T.length none L.1 L.2/\L.2 ≠ []:=by
 match T,h with
 | [],h=>exact h
 | _::_,h=>exact⟨h.1,h.2.1⟩
theorem Km(w:LN):∀(T:List vh) (L:vh) (acc:List vh) (seen:LN) (d:Nat) (wM:Int),aE (L::T)->(∀M∈L::T,uA w M.1 M.2)->((L::T).flatMap Prod.fst).Nodup->(∀M∈L::T,∀b∈M.1,¬seen.contains b=true)->(wM<0\/(T.length:Int)=wM)->T.length+1<=d->wZ w d seen acc (L.1.headD 0) wM=(acc++L::T,vz (vQ ((L::T).getLast (by simp)).2))
 | T,L,acc,seen,d,wM,h,k,a,i,p,hd=>by
  obtain⟨g,r⟩:=h.chain;rw[YT,ZS]at a;have t:=Ko w T.length wM p L.1 L.2 none [] [] seen (w.length/64) g (k L (Yp ..)) rfl (by simp) a.1 (i L (Yp ..)) (rt _ _)
  match d with
  | 0=>omega
  | d+1 =>
   rw[wZ,t];simp only[YC];obtain⟨bs,ns⟩:=L
   match ns,r with
   | n::ns,_ =>
   have u:∃b e,bs=b::e:=by
    cases bs with
    | nil=>exact g.elim
    | cons b bs=>grind
   obtain⟨b,e,rfl⟩:=u;have y:n.level=T.length:=g.2.2.2.1
   cases T with
   | nil =>
    grind
   | cons M T =>
    simp only;rw[if_neg (by grind)];have v:=h.2.2.1;have j:=h.2.2.2;have q:n.left=M.1.headD 0:=by
     obtain⟨l,o⟩:=M;obtain⟨s,x⟩:=j.chain
     cases o with
     | nil=>grind
     | cons m o =>
      cases l with
      | nil=>exact s.elim
      | cons c l =>
       simp[uH,yB]at v
       grind
    rw[q,Km w T M (acc++[(b::e,n::ns)]) ((b::e).reverse++seen) d ((n.level:Int)-1) j (fun K f=>k K (Ys _ f)) a.2.1 ?_ (by grind) (by grind)]
    .simp
    .intro K f c hc hcon;have h1:=i K (Ys _ f) c hc;have h2:=a.2.2;have z:c∈(M::T).flatMap Prod.fst:=YG.2 ⟨K,f,hc⟩;rw[zBP9]at hcon h1
     grind
termination_by T=>T.length
def py(b:Nat)(ws:LN):LP:=(List.range ws.length).map fun k=>(64*b+k,ws.getD k 0)
def jZ(w:LN)(l:LP):LN:=l.foldl (fun w x=>w.set x.1 x.2) w
theorem pg(a b:LP):jZ w (a++b)=jZ (jZ w a) b:=List.foldl_append
theorem yZ:∀(l:LP) (w:LN),(jZ w l).length=w.length
 | [],_=>rfl
 | x::l,w=>by show (jZ (w.set x.1 x.2) l).length=_;rw[yZ l,Y1]
theorem Fs(w ws:LN)(o:Nat):∀m,m<=ws.length->o+m<=w.length->jZ w ((List.range m).map fun k=>(o+k,ws.getD k 0))=w.take o++ws.take m++w.drop (o+m)
 | 0,_,_=>by simp[jZ]
 | m+1,h1,h2=>by
  have hd:w.drop (o+m)=w[o+m]::w.drop (o+(m+1)):=YE zo;have a:(w.take o++ws.take m).length=o+m:=by simp;omega
  have b:ws.take (m+1)=ws.take m++[ws.getD m 0]:=by
   rw[YO,Yu,Yk zo];rfl
  rw[Zw,YJ,pg,Fs w ws o m zo zo,hd];show List.set _ (o+m) (ws.getD m 0)=_;rw[zBQ9 _ _ zo,a,zAG9,ZE,b]
  grind
theorem Fq(h1:ws.length=64)(h2:64*b+64<=w.length):jZ w (py b ws)=w.take (64*b)++ws++w.drop (64*b+64):=by
 unfold py;rw[Fs w ws (64*b) ws.length (Ym _) zo,YR,h1]
theorem F2(j:Nat):(jW w b)[j]?=if j<64 then w[64*b+j]? else none:=by
 unfold jW
 grind
theorem Ov(h1:ws.length=64)(h2:64*b+64<=w.length):jW (jZ w (py b ws)) b=ws:=by
 rw[Fq w ws b h1 h2];unfold jW
 grind
theorem Ou(c:Nat)(h1:ws.length=64)(h2:64*b+64<=w.length)(h3:¬c=b):jW (jZ w (py b ws)) c=jW w c:=by
 apply Zn
 intro j;rw[F2,F2]
 split
 .rename_i hj;rw[Fq w ws b h1 h2]
  grind
 .rfl
def mw(bs:LN)(ns:LC):LP:=(bs.zip ns).flatMap fun x=>py x.1 (uR x.2)
theorem Ii:∀(bs:LN) (ns:LC) (w:LN),bs.length=ns.length->bs.Nodup->(∀b∈bs,64*b+64<=w.length) ->
  (∀(i b:Nat) (n:zi),bs[i]?=some b->ns[i]?=some n->jW (jZ w (mw bs ns)) b=uR n)/\(∀c,¬c∈bs->jW (jZ w (mw bs ns)) c=jW w c)
 | [],[],w,_,_,_=>⟨fun i b n h=>by simp at h,fun c _=>rfl⟩
 | [],_::_,_,h,_,_=>by simp at h
 | _::_,[],_,h,_,_=>by simp at h
 | b::bs,n::ns,w,l,d,j=>by
  rw[ZF]at d;have f:=j b (Yp ..);have g:=Ii bs ns (jZ w (py b (uR n))) (by grind) d.2 (fun c a=>by rw[yZ];grind);have k:jZ w (mw (b::bs) (n::ns))=jZ (jZ w (py b (uR n))) (mw bs ns):=by
   rw[<- pg];rfl
  rw[k];refine⟨fun i c m a e=>?_,fun c a=>?_⟩
  .match i with
   | 0 =>
    injection a with a;injection e with e;subst a e;rw[g.2 b d.1,Ov _ _ _ (ol n) f]
   | i+1=>grind
  .rw[YA,not_or]at a;rw[g.2 c a.2,Ou _ _ _ _ (ol n) f a.1]
def kg(T:List vh):LP:=T.flatMap fun L=>mw L.1 L.2
theorem Ij:∀(T:List vh) (w:LN),(∀L∈T,L.1.length=L.2.length)->(T.flatMap Prod.fst).Nodup->(∀b∈T.flatMap Prod.fst,64*b+64<=w.length) ->
  (∀L∈T,∀(i b:Nat) (n:zi),L.1[i]?=some b->L.2[i]?=some n->jW (jZ w (kg T)) b=uR n)/\(∀c,¬c∈T.flatMap Prod.fst->jW (jZ w (kg T)) c=jW w c)
 | [],w,_,_,_=>⟨fun L h=>by simp at h,fun c _=>rfl⟩
 | K::T,w,d,a,f=>by
  rw[YT,ZS]at a;have l:=Ii K.1 K.2 w (d K (Yp ..)) a.1 (fun b g=>f b (by grind));have m:=Ij T (jZ w (mw K.1 K.2)) (fun L e=>d L (Ys _ e)) a.2.1 (fun c j=>by rw[yZ];simp_all);have k:jZ w (kg (K::T))=jZ (jZ w (mw K.1 K.2)) (kg T):=by
   rw[<- pg];rfl
  rw[k];refine⟨fun L e i b n g o=>?_,fun c j=>?_⟩
  all_goals grind
theorem dK:∀l:LP,vz l=true↔∀(i:Nat) (x y:Pr),l[i]?=some x->l[i+1]?=some y->x.1<y.1
 | []=>⟨fun _ i x y h=>by simp at h,fun _=>rfl⟩
 | [a]=>⟨fun _ i x y _ h=>by simp at h,fun _=>rfl⟩
 | a::b::l=>by
  rw[vz,Yr,decide_eq_true_eq,dK (b::l)];refine⟨fun h i x y c d=>?_,fun h=>⟨h 0 a b rfl rfl,fun i x y c d=>h (i+1) x y c d⟩⟩
  match i with
  | 0=>injection c with c;injection d with d;subst c d;exact h.1
  | i+1=>exact h.2 i x y c d
theorem ba(h:vz l=true):∀(k i:Nat) (x y:Pr),l[i]?=some x->l[i+k+1]?=some y->x.1<y.1
 | 0,i,x,y,b,a=>(dK l).1 h i x y b a
 | k+1,i,x,y,b,a=>by
  have d:=(Yl.1 a).1;have c:l[i+k+1]?=some l[i+k+1]:=Yk zo;exact Nat.lt_trans (ba h k i x _ b c) ((dK l).1 h _ _ _ c a)
theorem oY(h:vz l=true)(k:Nat):vz (l.drop k)=true:=by
 rw[dK]at h⊢
 grind
theorem KD(h:vz l=true)(k:Nat):vz (l.take k)=true:=by
 have:vz (l.take k++l.drop k)=true:=by rw[Y3];exact h
 exact Ea _ _ this
theorem af:∀(l:LP) (seen:LN),xr seen l=true↔(l.map Prod.snd).Nodup/\∀p∈l,¬p.2∈seen
 | [],seen=>by simp[xr]
 | a::l,seen=>by
  rw[xr,Yr,ZA,af l (a.2::seen),YL,ZF]
  grind
theorem B5(k:Nat)(l:LP):∀m,((List.range m).map fun i=>(l.drop (k*i)).take k).flatten=l.take (k*m)
 | 0=>by simp
 | m+1=>by
  rw[Zw,YJ,List.flatten_append,B5 k l m,Nat.mul_succ,List.take_add];simp
theorem ti:∀L:LC,(∀(i:Nat) (n m:zi),L[i]?=some n->L[i+1]?=some m->∀p∈n.pairs,p.1<m.low)->vQ L=L.flatMap zi.pairs
 | [],_=>rfl
 | n::L,h=>by
  rw[vQ,YT,ti L fun i a b d e=>h (i+1) a b d e]
  congr 1
  rw[zCD9];intro p f;unfold pO
  cases c:L.head? with
  | none=>rfl
  | some m =>
   have:=h 0 n m rfl (by rw[List.head?_eq_getElem?]at c;exact c) p f
   grind
theorem ot:∀(bs:LN) (ns:LC),bs.length=ns.length->(wz bs ns).flatMap zi.pairs=ns.flatMap zi.pairs/\(wz bs ns).map zi.low=ns.map zi.low/\(wz bs ns).flatMap uH=ns.flatMap uH
 | [],[],_=>⟨rfl,rfl,rfl⟩
 | [],_::_,h=>by simp at h
 | _::_,[],h=>by simp at h
 | b::bs,n::ns,h=>by
  obtain⟨h1,h2,h3⟩:=ot bs ns (by grind);simp[wz,h1,h2,h3,uH]
open Go.RowKit
variable {c:Cx}{h:TH}
theorem sH:∀l:LP,(l.map vm).flatMap PV.cells=l.flatMap fun x=>[.int .i64 x.1,.int .u64 x.2]
 | []=>rfl
 | x::l=>by rw[YL,YT,sH l];rfl
theorem Da:∀{l:LP} {cs:LK},LR (VR c h) (l.flatMap fun x=>[PV.int .i64 x.1,.int .u64 x.2]) cs->cs=l.flatMap fun x=>[TV.int .i64 x.1,.int .u64 x.2]
 | [],cs,k=>k.oN
 | x::l,cs,k=>by
  obtain⟨y,b,rfl,h1,h2⟩:=LR.oc k;obtain⟨d,a,rfl,h3,h4⟩:=LR.oc h2;rw[Da h4,h1.int_inv,h3.int_inv];rfl
theorem J7:∀l:LP,LR (VR c h) (l.flatMap fun x=>[PV.int .i64 x.1,.int .u64 x.2]) (l.flatMap fun x=>[TV.int .i64 x.1,.int .u64 x.2])
 | []=>LR.nil
 | x::l=>LR.cons (.pure (.int _ _)) (LR.cons (.pure (.int _ _)) (J7 l))
theorem DO:∀l:LP,∃r,nu (l.flatMap fun x=>[TV.int .i64 x.1,.int .u64 x.2])=some r
 | []=>⟨[],rfl⟩
 | x::l=>by
  obtain⟨r,a⟩:=DO l;refine⟨((x.1:Int),x.2)::r,?_⟩;show nu (.int .i64 x.1::.int .u64 (.ofNat x.2)::l.flatMap _)=_;rw[nu,a]
theorem GY{α:Type}(f g:Pr->α):∀l:LP,(l.flatMap fun x=>[f x,g x]).length=l.length*2
 | []=>rfl
 | x::l=>by rw[YT,Yn,GY f g l,Yq];simp;omega
theorem EP{E:vC}{f e0:Nat}(hf:E.funcs.get f=none)(hg:E.spec f=some (dn e0)){H:LQ}{id ix g M gx Mx:Nat}{L:LP}{c:Pr}(hH:H[id]?=some (.row e0 2 g M (L.map vm)))(hM:M<=g)(hX:H[ix]?=some (.row e0 2 gx Mx [vm c]))(hMx:Mx<=gx)(hne:id≠ix)(hL:0<L.length)(hL2:L.length<=100000) :
  FO E f [.sl id g 0 L.length (2*L.length) 2,iv 0,.sl ix gx 0 1 2 2] H false fun e H'=>e=.ret (.sl id (g+1) 0 (L.length+1) (2*(L.length+1)) 2)/\H'=H.set id (.row e0 2 (g+1) (g+1) ((c::L).map vm)):=by
 intro B w h us k l;obtain⟨y,ad,rfl,h1,l⟩:=l.oc;obtain⟨y2,ah,rfl,h2,l⟩:=l.oc;obtain⟨y3,av,rfl,h3,l⟩:=l.oc;obtain rfl:=l.oN;obtain rfl:=h2.int_inv;rcases sl_inv h1 with⟨_,_,Y,_⟩|⟨b,d,j,r,a0,rfl⟩
 .omega
 rcases sl_inv h3 with⟨_,_,Y,_⟩|⟨s,dx,p,D,ab,rfl⟩
 .omega
 obtain⟨_,G',M',cells,cs,O,r2,r3,P,Z⟩:=bc k hH r;obtain⟨_,U,G,u,m,Q,x2,x3,z,x5⟩:=bc k hX D;obtain rfl:j=G':=by omega
 obtain rfl:p=U:=by omega
 have R:=Z.all;rw[sH]at R;have I:=Da R;have S:=x5.all;rw[show ([vm c]:LJ)=[c].map vm from rfl,sH]at S;have A:=Da S;rw[Yw]at O P;have z:u.getL 0 2=some m:=z;have V:b≠s:=fun e=>hne (k.inj _ _ _ _ r D e);obtain⟨rn,J⟩:=DO [c];obtain⟨ro,K⟩:=DO L;rw[<- A]at J;rw[<- I]at K;have C:m++cs=(c::L).flatMap fun x=>[TV.int .i64 x.1,.int .u64 x.2]:=by rw[I,A];rfl
 have T:(m++cs).length=(L.length+1)*2:=by rw[C,GY,Yq]
 obtain⟨m1,k1⟩:=k.set (o:=.row e0 2 (g+1) (g+1) ((c::L).map vm)) (x:=.row e0 (j+1) (j+1) ((L.length+1)*2) (Tr.putL .nil 0 (m++cs))) r (fun e=>by rw[hH]at e;cases e) fun mm =>
  .inr ⟨b,d,j+1,j+1,Tr.putL .nil 0 (m++cs),m++cs,r,by rw[TH.get_set _ _ _ _ (k.own _ _ r).2.1,if_pos rfl,Yw,Yq],by omega,by omega,by
   rw[Yw,Yq,<- T];exact sP _,⟨fun v l=>by obtain⟨a,_,rfl⟩:=Yx.1 l;rfl,by rw[sH,C];exact J7 _⟩⟩
 refine⟨.ret (.sl b (j+1) 0 (L.length+1) (2*(L.length+1)) 2),_,.ret (.sl id (g+1) 0 (L.length+1) (2*(L.length+1)) 2),_,w,⟨1,fun N hN t hd=>?_⟩,⟨rfl,rfl⟩,m1,k1,?_,fun h=>by cases h⟩
 .obtain⟨t,rfl⟩:∃i,t=i+1:=⟨t-1,by omega⟩
  show Tw.zC (EN E N) (y7 (EN E N) t) f _ h=_;unfold Tw.zC;rw[show (EN E N).funcs.get f=none from hf];dsimp only;rw[show (EN E N).spec f=some (dn e0)from hg];show dn e0 [.sl b j (0*2) L.length (2*L.length) 2,.int .i64 (.ofNat 0),.sl s p (0*2) 1 2 2] h=_;rw[zBT9];show sW e0 h b j L.length (2*L.length) 2 s p 2=_;have X:wK h s p 0 2=some m:=by
   unfold wK;rw[Q];show mC p 0 2 (.row e0 p G (1*2) u)=_;unfold mC;dsimp only;rw[wS zo,wS (Ym _)];exact z
  unfold sW;rw[Q,O,X];dsimp only;rw[show KF e0 (.row e0 p G (List.length [vm c]*2) u)=true from wx rfl,wx (show 2=2 from rfl),wx (show 2*L.length%2=0 by omega),wS (show 1<=L.length by omega),wS hL2,show Nat.beq b s=false from lK V];simp only[cond_true,cond_false];unfold CJ;dsimp only;rw[wx rfl,wx rfl,wx rfl,P];simp only[cond_true];unfold CK;rw[J,K]
 .show VR w _ (.sl id (g+1) 0 (L.length+1) (2*(L.length+1)) 2) (.sl b (j+1) 0 (L.length+1) (2*(L.length+1)) 2);have:=VR.sl (c:=w) (h:=h.set b (.row e0 (j+1) (j+1) ((L.length+1)*2) (Tr.putL .nil 0 (m++cs)))) (g:=j+1) (o:=0) (n:=L.length+1) (q:=2*(L.length+1)) r
  grind
def okP(l:LP):Bool:=vz l&&xr [] l&&l.all fun p=>decide (1<=p.2)&&decide (p.2<=1099511627776)
variable {i:Nat}{ks:LP}{lv:Nat}
theorem oQ(l:LP):okP l=true↔vz l=true/\(l.map Prod.snd).Nodup/\∀p∈l,1<=p.2/\p.2<=1099511627776:=by
 unfold okP;rw[Yr,Yr,af,YZ]
 grind
theorem Dg{a k:Nat}{p:Pr}(h:p∈(l.drop a).take k):∃j,j<k/\l[a+j]?=some p:=by
 obtain⟨j,b,e⟩:=YU.1 h;have:=Yk b
 grind
theorem Jt(h:(l.map Prod.snd).Nodup)(a k:Nat):(((l.drop a).take k).map Prod.snd).Nodup :=
 h.sublist (((zBK9 k _).trans (List.drop_sublist a l)).map _)
theorem getD_some{x:Pr}(h:l[i]?=some x):l.getD i (0,0)=x:=by grind
theorem get_lt(l:LP)(h:i<l.length):l[i]?=some (l.getD i (0,0)):=by grind
theorem Ta(h:okP l=true)(i:Nat)(hi:18*i<l.length\/i=0):uO (pQ l i):=by
 rw[oQ]at h;obtain⟨h1,h2,h3⟩:=h;have c:∀p∈(pQ l i).pairs,∃j,j<18/\l[18*i+j]?=some p:=fun p b=>Dg b;refine⟨Yv _,show 0<2048 by decide,Yv _,?_,?_,?_,fun p b=>?_,.inl ⟨rfl,rfl⟩⟩
 .show ((l.drop (18*i)).take 18).length<=27
  grind
 .exact KD (oY h1 _) _
 .rw[af];refine⟨Jt h2 _ _,fun p b d=>?_⟩;obtain⟨j,_,a⟩:=c p b;have:=h3 p (Yt a);have d:p.2=9223372036854775808:=YQ.1 d;omega
 .obtain⟨j,hjk,a⟩:=c p b;have:=h3 p (Yt a);have f:(pQ l i).low<=p.1:=by
   show (if 0<i then(l.getD (18*i) (0,0)).1 else 0)<=p.1
   split
   .have e:=(Yl.1 a).1
    match j with
    | 0=>rw[ZP]at a;rw[getD_some a];exact Ym _
    | j+1=>exact Nat.le_of_lt (ba h1 j _ _ _ (get_lt l zo) a)
   omega
  unfold uT;rw[if_pos (show (pQ l i).level=0 from rfl)]
  grind
theorem om(l:LP):yH l=(List.range (max 1 ((l.length+17)/18))).map (pQ l):=by
 unfold yH
 split
 .rename_i h;subst h;rfl
 .rename_i h;have:0<l.length:=Zq.2 h;rw[lN,Nat.max_eq_right zo]
theorem dt(l:LP):(yH l).length=max 1 ((l.length+17)/18):=by rw[om];simp
theorem nY{n:Nat}{f:Nat->zi}{x:zi}(h:((List.range n).map f)[i]?=some x):i<n/\x=f i:=by grind
theorem Ir(h:okP l=true):Bq 0 (yH l)/\vQ (yH l)=l:=by
 have k:=(oQ l).1 h;obtain⟨h1,h2,h3⟩:=k;rw[om];have f:∀i,i<max 1 ((l.length+17)/18)->18*i<l.length\/i=0:=fun i b=>by omega
 have e:∀(i:Nat) (n m:zi),((List.range (max 1 ((l.length+17)/18))).map (pQ l))[i]?=some n->((List.range (max 1 ((l.length+17)/18))).map (pQ l))[i+1]?=some m->∀p∈n.pairs,p.1<m.low:=by
  intro i n m a c p o;obtain⟨b,rfl⟩:=nY a;obtain⟨d,rfl⟩:=nY c;obtain⟨j,q,d⟩:=Dg o;show p.1<(if 0<i+1 then(l.getD (18*(i+1)) (0,0)).1 else 0);rw[if_pos (Zt _)];exact ba h1 (17-j) _ _ _ d (by rw[show 18*i+j+(17-j)+1=18*(i+1) by omega];grind)
 refine⟨⟨?_,?_,?_,?_,e⟩,?_⟩
 .simp_all
 .intro n a;obtain⟨i,b,rfl⟩:=Yx.1 a;exact⟨Ta h i (f i (Zm.1 b)),rfl,rfl⟩
 .intro n a;obtain⟨_,rfl⟩:=nY a;rfl
 .intro i n m a c;obtain⟨b,rfl⟩:=nY a;obtain⟨d,rfl⟩:=nY c;show (if 0<i then(l.getD (18*i) (0,0)).1 else 0)<(if 0<i+1 then(l.getD (18*(i+1)) (0,0)).1 else 0);rw[if_pos (Zt _)];have g:18*(i+1)<l.length:=zo
  split
  .exact ba h1 17 _ _ _ (get_lt l zo) (get_lt l g)
  .exact zBB9 (Yv _) ((dK l).1 h1 (18*(i+1)-1) _ _ (get_lt l zo) (by grind))
 .rw[ti _ e,List.flatMap_map];have:=B5 18 l (max 1 ((l.length+17)/18));rw[YV zo]at this;refine Eq.trans ?_ this;rw[List.flatMap_def];rfl
theorem Fc(ks:LP)(i:Nat)(hi:19*i<ks.length):(ks.drop (19*i)).take 19=ks.getD (19*i) (0,0)::((ks.drop (19*i)).take 19).drop 1:=by
 have hd:ks.drop (19*i)=ks[19*i]::ks.drop (19*i+1):=YE hi
 grind
theorem NV(hi:19*i<ks.length):uH (ma lv ks i)=(ks.drop (19*i)).take 19:=by
 rw[Fc ks i hi];rfl
theorem NU(h1:1<=lv/\lv<=12)(hr:vz ks=true)(hn:(ks.map Prod.snd).Nodup)(hb:∀x∈ks,1<=x.2/\x.2<2048)(i:Nat)(hi:19*i<ks.length):uO (ma lv ks i):=by
 have g:=Fc ks i hi;have e:vz ((ks.drop (19*i)).take 19)=true:=KD (oY hr _) _;have b:=Jt hn (19*i) 19;rw[g]at b;rw[YL,ZF]at b;have h:∀p∈(ma lv ks i).pairs,p∈(ks.drop (19*i)).take 19:=fun p a=>Y5 a;have f:∀p∈(ks.drop (19*i)).take 19,1<=p.2/\p.2<2048:=fun p a=>hb p (Y5 (YW a));refine⟨h1.2,show 0<2048 by decide,Yv _,?_,?_,?_,fun p a=>?_,.inr ⟨h1.1,?_⟩⟩
 .show (((ks.drop (19*i)).take 19).drop 1).length<=27
  grind
 .exact oY e 1
 .rw[af];refine⟨b.2,fun p a c=>?_⟩;have c:p.2=(ks.getD (19*i) (0,0)).2:=YQ.1 c;exact b.1 (Yx.2 ⟨p,a,c⟩)
 .unfold uT;rw[if_neg (show ¬(ma lv ks i).level=0 from by show ¬lv=0;omega),Yr,eR,decide_eq_true_eq];refine⟨f p (h p a),?_⟩;obtain⟨j,d⟩:=ZI.1 a;have d:(((ks.drop (19*i)).take 19).drop 1)[j]?=some p:=d;rw[Zo]at d;exact ba e j 0 _ p (by grind) (by grind)
 .rw[eR];exact hb _ (Yt (get_lt ks hi))
theorem cS(lv:Nat)(ks:LP):(xb lv ks).length=(ks.length+18)/19:=by unfold xb;rw[Yw,List.length_range,lN]
theorem Fb(h1:1<=lv/\lv<=12)(hne:ks ≠ [])(hr:vz ks=true)(h0:(ks.getD 0 (0,0)).1=0)(hn:(ks.map Prod.snd).Nodup)(hb:∀x∈ks,1<=x.2/\x.2<2048):Bq lv (xb lv ks)/\(xb lv ks).flatMap uH=ks:=by
 have e:0<ks.length:=Zq.2 hne;unfold xb;rw[lN];have b:∀i,i<(ks.length+(19-1))/19->19*i<ks.length:=fun i a=>by omega
 refine⟨⟨?_,?_,?_,?_,?_⟩,?_⟩
 .simp;omega
 .intro n hn';obtain⟨i,a,rfl⟩:=Yx.1 hn';exact⟨NU h1 hr hn hb i (b i (Zm.1 a)),rfl,rfl⟩
 .intro n hn';obtain⟨_,rfl⟩:=nY hn';exact h0
 .intro i n m hn' hm;obtain⟨a,rfl⟩:=nY hn';obtain⟨c,rfl⟩:=nY hm;exact ba hr 18 _ _ _ (get_lt ks (b i a)) (get_lt ks (b _ c))
 .intro i n m hn' hm p hp;obtain⟨a,rfl⟩:=nY hn';obtain⟨c,rfl⟩:=nY hm;obtain⟨j,f,d⟩:=Dg (Y5 (i:=1) hp);show p.1<(ks.getD (19*(i+1)) (0,0)).1;exact ba hr (18-j) _ _ _ d (by rw[show 19*i+j+(18-j)+1=19*(i+1) by omega];grind)
 .have:=B5 19 ks ((ks.length+(19-1))/19);rw[YV zo]at this;rw[List.flatMap_map,List.flatMap_def];rw[<- this]
  congr 1
  .rw[this];refine Zh fun i a=>?_;exact NV (b i (Zm.1 a))
def pI(free:LN):Nat->LC->Nat->List vh->Option (List vh)
 | 0,_,_,_=>none
 | k+1,l,used,T=>if free.length<used+l.length then none else
  if l.length=1 then some (((free.drop used).take l.length,wz ((free.drop used).take l.length) l)::T)else
  pI free k (xb (T.length+1) ((l.map zi.low).zip ((free.drop used).take l.length))) (used+l.length) (((free.drop used).take l.length,wz ((free.drop used).take l.length) l)::T)
def bndL:Nat->Nat
 | 0=>28
 | 1=>2
 | _=>1
def cq(free:LN):Bool:=free.all (fun b=>decide (1<=b)&&decide (b<2048))&&decide free.Nodup
theorem dF(free:LN):cq free=true↔(∀b∈free,1<=b/\b<2048)/\free.Nodup:=by
 unfold cq
 grind
structure bt(p:LP)(free:LN)(l:LC)(used:Nat)(T:List vh):Prop where
 ok:Bq T.length l
 st:match T with | []=>vQ l=p|M::T'=>l.flatMap uH=yB M/\aE (M::T')
 last:∀M,T.getLast?=some M->vQ M.2=p
 len:∀M∈T,M.1.length=M.2.length
 blocks:T.reverse.flatMap Prod.fst=free.take used
 used:used<=free.length
 bndL:l.length<=bndL T.length
 lvl:T.length<=2
structure Bn(p:LP)(free:LN)(T:List vh):Prop where
 st:aE T
 one:∃b n T',T=([b],[n])::T'/\n.sib=0
 last:∀M,T.getLast?=some M->vQ M.2=p
 len:∀M∈T,M.1.length=M.2.length
 blocks:∃used,used<=free.length/\T.reverse.flatMap Prod.fst=free.take used
 few:T.length<=3
section
variable {p:LP}{free:LN}(hf:cq free=true)
include hf
theorem bt.level{l:LC}{used:Nat}{T:List vh}(h:bt p free l used T)(hu:¬free.length<used+l.length) :
  ((free.drop used).take l.length).length=l.length/\aA T.length none ((free.drop used).take l.length) (wz ((free.drop used).take l.length) l)/\wz ((free.drop used).take l.length) l ≠ []/\(∀b∈(free.drop used).take l.length,1<=b/\b<2048)/\((free.drop used).take l.length).Nodup /\
  (((free.drop used).take l.length,wz ((free.drop used).take l.length) l)::T).reverse.flatMap Prod.fst=free.take (used+l.length)/\aE (((free.drop used).take l.length,wz ((free.drop used).take l.length) l)::T) /\
  (∀M,(((free.drop used).take l.length,wz ((free.drop used).take l.length) l)::T).getLast?=some M->vQ M.2=p):=by
 rw[dF]at hf;have a:((free.drop used).take l.length).length=l.length:=by rw[YF,Y0];omega
 have k:∀b∈(free.drop used).take l.length,1<=b/\b<2048:=fun b t=>hf.1 b (Y5 (YW t));have s:((free.drop used).take l.length).Nodup:=hf.2.sublist ((zBK9 _ _).trans (List.drop_sublist _ _));have f:aA T.length none ((free.drop used).take l.length) (wz ((free.drop used).take l.length) l) :=
  Gc _ _ _ _ a k (fun n c=>⟨(h.ok.each n c).1,(h.ok.each n c).2.1⟩) (fun n c=>h.ok.low0 n c) h.ok.rise h.ok.below
 have g:=Ti a h.ok.ne;obtain⟨w,x,y⟩:=ot _ _ a;refine⟨a,f,g,k,s,?_,?_,?_⟩
 .rw[ZT,Zj,h.blocks,List.take_add];simp
 .have o:=h.st
  cases T with
  | nil=>exact⟨f,g⟩
  | cons M T=>exact⟨f,g,by grind,o.2⟩
 .intro M hM;have o:=h.st
  cases u:T with
  | nil =>
   subst u
   cases hM
   have v:∀(i:Nat) (n m:zi),(wz ((free.drop used).take l.length) l)[i]?=some n->(wz ((free.drop used).take l.length) l)[i+1]?=some m->∀q∈n.pairs,q.1<m.low:=by
    intro i n m c r;have j:i+1<l.length:=by have:=(Yl.1 r).1;rw[aR _ _ a]at this;exact this
    have d:=fC _ _ i _ a (Yk (show i<l.length by omega));have e:=fC _ _ (i+1) _ a (Yk j);rw[c]at d;rw[r]at e;injection d with d;injection e with e;subst d e;exact h.ok.below i (l[i]'zo) (l[i+1]'j) (Yk (show i<l.length by omega)) (Yk j)
   have d:=ti _ v;have e:=ti _ h.ok.below
   grind
  | cons K z =>
   refine h.last M ?_
   grind
theorem FT:∀(k:Nat) (l:LC) (used:Nat) (T T':List vh),bt p free l used T->pI free k l used T=some T'->Bn p free T'
 | 0,l,used,T,T',_,h=>by cases h
 | k+1,l,used,T,T',a,h=>by
  rw[pI]at h
  by_cases r:free.length<used+l.length
  .grind
  rw[if_neg r]at h;obtain⟨h1,h2,h3,h4,P,s,t,u⟩:=a.level hf r;have d:=a.bndL;have K:=a.lvl
  by_cases j:l.length=1
  .rw[if_pos j]at h
   cases h
   refine⟨t,?_,u,?_,⟨used+l.length,by omega,s⟩,?_⟩
   .obtain⟨n,f⟩:=zAS9.1 j;obtain⟨b,C⟩:=zAS9.1 (h1.trans j);rw[C,f];exact⟨b,{ n with sib:=0 },T,rfl,rfl⟩
   .intro M c;rcases YA.1 c with rfl|c
    .exact h1.trans (aR _ _ h1).symm
    .exact a.len M c
   grind
  .rw[if_neg j]at h;refine FT k _ _ _ _ ?_ h;have L:0<l.length:=Zq.2 a.ok.ne;have w:T.length<=1:=by
    rcases ZW T.length 2 with h|h
    .omega
    .have e:T.length=2:=zo;rw[e]at d;simp[bndL]at d;omega
   obtain⟨Q,D,R⟩:=ot _ _ h1;generalize N:(free.drop used).take l.length=bs at *
   have z:((l.map zi.low).zip bs).length=l.length:=by simp[h1]
   have O:((l.map zi.low).zip bs).map Prod.snd=bs:=List.map_snd_zip (by simp[h1]);have o:∀(i:Nat) (x:Pr),((l.map zi.low).zip bs)[i]?=some x->∃n,l[i]?=some n/\x.1=n.low:=by
    intro i x g;rw[zAI9]at g
    grind
   have A:(((l.map zi.low).zip bs).getD 0 (0,0)).1=0:=by
    obtain⟨n,f,e⟩:=o 0 _ (get_lt _ zo);rw[e];exact a.ok.low0 n f
   have B:vz ((l.map zi.low).zip bs)=true:=by
    rw[dK];intro i x y g G;obtain⟨n,f,e⟩:=o i x g;obtain⟨m,I,J⟩:=o _ y G;rw[e,J];exact a.ok.rise i n m f I
   have q:=Fb (lv:=T.length+1) (ks:=(l.map zi.low).zip bs) ⟨by omega,by omega⟩ (by grind) B A (by grind) (fun x g=>h4 x.2 (zAR9 g).2);refine⟨q.1,⟨?_,t⟩,u,?_,s,by omega,?_,by grind⟩
   .rw[q.2];unfold yB;rw[D]
   .intro M c;rcases YA.1 c with rfl|c
    .grind
    .exact a.len M c
   .rw[cS,z];show _<=bndL (T.length+1)
    match v:T.length,w with
    | 0,_=>rw[v]at d;simp[bndL]at d⊢;omega
    | 1,_=>rw[v]at d;simp[bndL]at d⊢;omega
end
theorem Fu{p:LP}(free:LN)(hp:okP p=true)(hl:p.length<=500):bt p free (yH p) 0 []:=by
 have h:=Ir hp;refine⟨h.1,h.2,fun M a=>by grind,fun M a=>by grind,rfl,Yv _,?_,Yv _⟩;rw[dt];simp[bndL];omega
def dX:Nat->Nat->Nat
 | 0,n=>n
 | k+1,n=>n+if n=1 then 0 else dX k ((n+18)/19)
def cj(n:Nat):Nat:=dX 4 (max 1 ((n+17)/18))
theorem FV(free:LN):∀(k:Nat) (l:LC) (used:Nat) (T:List vh),3<=k+T.length->1<=k->1<=l.length->l.length<=bndL T.length->(pI free k l used T=none↔free.length<used+dX k l.length)
 | 0,_,_,_,_,h,_,_=>by omega
 | k+1,l,used,T,h1,_,h3,h4=>by
  rw[pI,dX]
  by_cases f:free.length<used+l.length
  .grind
  rw[if_neg f]
  by_cases b:l.length=1
  .grind
  rw[if_neg b,if_neg b];have d:T.length<=1:=by
   rcases ZW T.length 2 with h|h
   .omega
   .obtain⟨m,e⟩:∃m,T.length=m+2:=⟨T.length-2,by omega⟩
    rw[e]at h4;simp[bndL]at h4;omega
  have a:((l.map zi.low).zip ((free.drop used).take l.length)).length=l.length:=by simp;omega
  rw[FV free k _ _ _ (by grind) zo (by rw[cS,a];omega) ?_,cS,a]
  .omega
  .rw[cS,a];show _<=bndL (T.length+1)
   match c:T.length,d with
   | 0,_=>rw[c]at h4;simp[bndL]at h4⊢;omega
   | 1,_=>rw[c]at h4;simp[bndL]at h4⊢;omega
def mU(p:LP)(free:LN):Option (List vh):=pI free 4 (yH p) 0 []
variable {free:LN}{p:LP}
theorem F7(hl:p.length<=500):mU p free=none↔free.length<cj p.length:=by
 unfold mU cj;rw[FV free 4 _ _ _ zy zy (by rw[dt];omega) (by rw[dt];simp[bndL];omega),dt,Y6]
theorem F8{T:List vh}(hp:okP p=true)(hf:cq free=true)(hl:p.length<=500)(h:mU p free=some T):Bn p free T:=FT hf 4 _ _ _ _ (Fu free hp hl) h
def nV(n:zi)(z:Option zi):Bool:=match n.pairs.getLast?,z with
 | some p,some m=>decide (p.1<m.low)
 | _,_=>true
def kb(w:LN):LN->LC->Bool
 | b::bs,n::ns=>decide (wi (jW w b)=0)&&nV n ns.head? && kb w bs ns
 | _,_=>true
def ka(w:LN):List vh->Bool
 | []=>true
 | [L]=>kb w L.1 L.2
 | L::M::T=>kb w L.1 L.2&&decide (L.2.flatMap uH=yB M)&&ka w (M::T)
def EB:List vh->Bool
 | (_,n::_)::_=>decide (n.sib=0)
 | _=>false
def pz(w:LN)(T:List vh):Bool:=EB T&&ka w T
theorem B0(w:LN)(lv:Nat):∀(bs:LN) (ns:LC) (pl:LB),aA lv pl bs ns->uA w bs ns->kb w bs ns=true
 | [],[],_,_,_=>rfl
 | [],_::_,_,h,_=>h.elim
 | _::_,[],_,h,_=>h.elim
 | b::bs,n::ns,pl,h,a=>by
  obtain⟨_,_,c,_,_,_,e,d⟩:=h;rw[kb,B0 w lv bs ns _ d a.tail,(a 0 b n rfl rfl).2,c.check,zBN9];simp only[decide_true,ZH];unfold nV
  grind
theorem Li(w:LN):∀T:List vh,aE T->(∀M∈T,uA w M.1 M.2)->ka w T=true
 | [],h,_=>h.elim
 | [L],h,a=>B0 w 0 _ _ _ h.1 (a L (Yp ..))
 | L::M::T,h,a=>by
  rw[ka,B0 w _ _ _ _ h.1 (a L (Yp ..)),Li w (M::T) h.2.2.2 fun K b=>a K (Ys _ b),decide_eq_true h.2.2.1];rfl
def dN(T:List vh):Nat:=match T with
 | L::_=>L.1.headD 0
 | []=>0
theorem sU{l:LN}(h:headB l=true):(headN l).level<=12/\(headN l).sib<2048/\(headN l).way<=2:=by
 unfold headB at h;rw[Yr,YZ]at h;have a:=h.2 0 zy;have h1:=h.2 1 zy;have h4:=h.2 4 zy;rw[yK,Yr,decide_eq_true_eq,decide_eq_true_eq]at a;rw[yK,decide_eq_true_eq]at h1;have h4:decide (l.getD 4 0<=2)=true:=h4;rw[decide_eq_true_eq]at h4;refine⟨?_,h1,h4⟩;have:(headN l).level=kS (l.getD 0 0):=by unfold headN;rfl
 rw[this,Db];omega
theorem HF{ns ms:LC}(h:ns ≠ []):(ns++ms).head?=ns.head?:=by
 cases ns with
 | nil=>grind
 | cons a l=>rfl
theorem CD(l:LN):(headN l).pairs.length<=28:=by unfold headN;exact dQ _ _
structure gY(w:LN)(bs:LN)(ns:LC):Prop where
 is:ns=bs.map fun b=>headN (jW w b)
 each:∀b∈bs,b<w.length/64/\headB (jW w b)=true
 same:∀n∈ns,∀z,ns.head?=some z->n.level=z.level
variable {bs:LN}{ns:LC}{w:LN}
theorem gY.len(h:gY w bs ns):bs.length=ns.length:=by rw[h.is,Yw]
theorem gY.node(h:gY w bs ns){n:zi}(hn:n∈ns):n.pairs.length<=28/\n.level<=12/\n.sib<2048:=by
 rw[h.is]at hn;obtain⟨b,a,rfl⟩:=Yx.1 hn;have:=sU (h.each b a).2;exact⟨CD _,this.1,this.2.1⟩
theorem gY.nil(w:LN):gY w [] []:=⟨rfl,fun b c=>by grind,fun n a=>by simp at a⟩
theorem Aj{lv:Int}{N:Nat}:∀(k:Nat) (seen bs:LN) (ns:LC) (b:Nat) (r:LN×LN×LC),wW w lv k seen bs ns b=some r->gY w bs ns->(∀n,ns.head?=some n->lv<0\/(n.level:Int)=lv)->bs.length+k<=N->gY w r.2.1 r.2.2/\(∀n,r.2.2.head?=some n->lv<0\/(n.level:Int)=lv)/\r.2.1.length<=N
 | 0,seen,bs,ns,b,r,h,g,m,o=>by
  rw[wW]at h
  grind
 | k+1,seen,bs,ns,b,r,h,g,m,o=>by
  rw[wW]at h
  split at h
  .grind
  .split at h
   .cases h
   .rename_i hb
    split at h
    .rename_i hg;rw[Yr]at hg;have p:b<w.length/64:=by grind
     refine Aj k _ _ _ _ r h ⟨by rw[g.is];simp,fun c i=>?_,fun n a z l=>?_⟩ (fun n a=>?_) (by grind)
     .rcases YM.1 i with i|i
      .exact g.each c i
      grind
     .have f:=hg.2;unfold pi at f
      cases d:ns.getLast? with
      | none =>
       simp_all
      | some y =>
       rw[d]at f;simp only[Yr,decide_eq_true_eq]at f;have j:ns ≠ []:=by intro e;rw[e]at d;simp at d
       rw[HF j]at l;rcases YM.1 a with a|a
       .exact g.same n a z l
       .simp at a;rw[a,f.2];exact g.same y (List.mem_of_getLast? d) z l
     .have f:=hg.2;unfold pi at f
      cases d:ns.getLast? with
      | none =>
       simp_all
      | some y =>
       have j:ns ≠ []:=by intro e;rw[e]at d;simp at d
       rw[HF j]at a
       grind
    grind
structure aC(w:LN)(L:vh):Prop where
 lv:gY w L.1 L.2
 ne:L.2 ≠ []
 few:L.2.length<=2048
def cL(L:vh):Prop:=∀n∈L.2,0<n.level
theorem DX(hw:w.length<=131072):∀(d:Nat) (seen:LN) (acc:List vh) (b:Nat) (lv:Int),(∀L∈acc,aC w L/\cL L) ->
  (∀L∈(wZ w d seen acc b lv).1,aC w L)/\(∀L∈(wZ w d seen acc b lv).1.dropLast,cL L)/\((wZ w d seen acc b lv).2=true->(wZ w d seen acc b lv).1 ≠ []/\∀M,(wZ w d seen acc b lv).1.getLast?=some M->vz (vQ M.2)=true)
 | 0,seen,acc,b,lv,h=>⟨fun L a=>(h L a).1,fun L a=>(h L (zCA9 _ a)).2,fun e=>by cases e⟩
 | d+1,seen,acc,b,lv,h=>by
  rw[wZ]
  cases g:wW w lv (w.length/64) seen [] [] b with
  | none=>exact⟨fun L a=>(h L a).1,fun L a=>(h L (zCA9 _ a)).2,fun e=>by cases e⟩
  | some r =>
   obtain⟨k,bs,ns⟩:=r;obtain⟨c,l,i⟩:=Aj (N:=2048) _ _ _ _ _ _ g (gY.nil w) (fun n o=>by grind) (by grind)
   cases ns with
   | nil=>exact⟨fun L a=>(h L a).1,fun L a=>(h L (zCA9 _ a)).2,fun e=>by cases e⟩
   | cons n ns =>
    have f:aC w (bs,n::ns):=⟨c,by simp,by rw[<- c.len];exact i⟩
    simp only
    split
    .refine⟨fun L a=>?_,fun L a=>?_,fun e=>⟨by simp,fun M p=>?_⟩⟩
     .rcases YM.1 a with a|a
      .exact(h L a).1
      .simp at a;subst a;exact f
     .rw[Z7]at a;exact(h L a).2
     grind
    .rename_i hlv;refine DX hw d _ _ _ _ fun L a=>?_;rcases YM.1 a with a|a
     .grind
     .simp at a;subst a;exact⟨f,fun m j=>by have:=c.same m j n rfl;omega⟩
theorem tj:∀(L:LC),(∀n∈L,n.pairs.length<=28)->(vQ L).length<=28*L.length
 | [],_=>Yv _
 | n::L,h=>by
  have h1:=tj L fun m a=>h m (Ys _ a);have h2:=h n (Yp ..);have h3:=List.length_filter_le (pO L.head?) n.pairs;rw[vQ,Yn,Yq];omega
theorem bt.next{p:LP}{free:LN}(hf:cq free=true){l:LC}{used:Nat}{T:List vh}(hi:bt p free l used T)(hu:¬free.length<used+l.length)(ho:¬l.length=1) :
  bt p free (xb (T.length+1) ((l.map zi.low).zip ((free.drop used).take l.length))) (used+l.length) (((free.drop used).take l.length,wz ((free.drop used).take l.length) l)::T):=by
 obtain⟨h1,h2,h3,h4,t,u,v,w⟩:=hi.level hf hu;have a:=hi.bndL;have D:=hi.lvl;have G:0<l.length:=Zq.2 hi.ok.ne;have o:T.length<=1:=by
  rcases ZW T.length 2 with h|h
  .omega
  .have e:T.length=2:=zo;rw[e]at a;simp[Fv.bndL]at a;omega
 obtain⟨J,z,K⟩:=ot _ _ h1;generalize I:(free.drop used).take l.length=bs at *
 have c:((l.map zi.low).zip bs).length=l.length:=by simp[h1]
 have q:((l.map zi.low).zip bs).map Prod.snd=bs:=List.map_snd_zip (by simp[h1]);have d:∀(i:Nat) (x:Pr),((l.map zi.low).zip bs)[i]?=some x->∃n,l[i]?=some n/\x.1=n.low:=by
  intro i x b;rw[zAI9]at b
  grind
 have r:(((l.map zi.low).zip bs).getD 0 (0,0)).1=0:=by
  obtain⟨n,f,e⟩:=d 0 _ (get_lt _ zo);rw[e];exact hi.ok.low0 n f
 have s:vz ((l.map zi.low).zip bs)=true:=by
  rw[dK];intro i x y b A;obtain⟨n,f,e⟩:=d i x b;obtain⟨m,B,C⟩:=d _ y A;rw[e,C];exact hi.ok.rise i n m f B
 have j:=Fb (lv:=T.length+1) (ks:=(l.map zi.low).zip bs) ⟨by omega,by omega⟩ (by intro e;rw[e]at c;simp at c;omega) s r (by rw[q];exact t) (fun x b=>h4 x.2 (zAR9 b).2);refine⟨j.1,⟨?_,v⟩,w,?_,u,by omega,?_,by simp;omega⟩
 .rw[j.2];unfold yB;rw[z]
 .intro M g;rcases YA.1 g with rfl|g
  .grind
  .exact hi.len M g
 .rw[cS,c];show _<=Fv.bndL (T.length+1)
  match k:T.length,o with
  | 0,_=>rw[k]at a;simp[Fv.bndL]at a⊢;omega
  | 1,_=>rw[k]at a;simp[Fv.bndL]at a⊢;omega
def gE(r:Nat)(b:LN):Nat:=b.foldl aI r
def gU(l:LN):Nat:=18446744073709551615-gE 18446744073709551615 (yk l)
def wU(b d:Nat):LJ:=[iv 48,iv 8,iv 64,iv b,uv 3,uv 5,iv 9,iv 11,iv 27,iv d]
@[reducible] def vD (b d:Nat):PV:=.agg (wU b d)
structure wh where
 ino:Nat
 name:LN
@[reducible] def kU (r:wh):PV:=.agg [iv r.ino,.str r.name]
def yn(r:wh):Bool:=decide (1<=r.ino)&&decide (r.ino<=256)&&decide (vW r.name=0)
def uh(r:wh):LN:=(r.ino+65536*r.name.length)::wV r.name++List.replicate (15-(r.name.length+7)/8) 0
def pW(w:LN):Option wh :=
 let r:wh:=⟨w.getD 0 0%65536,(yk (w.drop 1)).take (w.getD 0 0/65536%256)⟩
 if w.getD 0 0/65536%256<=120/\yn r=true/\uh r=w then some r else none
def w8(b:Nat)(name:LN):Nat:=kY 3 5 name/2 ^ (64-b)%2 ^ b
structure vV where
 key:Nat
 num:Nat
 ino:Nat
 name:LN
 deriving DecidableEq
@[reducible] def wP (x:vV):PV:=.agg [uv x.key,iv x.num,iv x.ino,.str x.name]
@[reducible] def esv (p:Nat) (l:List vV):PV:=.list p 4 (l.map wP)
def xu(w:LN)(n:Nat):LN:=(w.drop (704+16*(n-1))).take 16
def kM(w:LN)(b:Nat)(p:Pr):Option vV :=
 if 1<=p.2/\p.2<=64 then match pW (xu w p.2)with
  | some r=>if w8 b r.name=p.1/65536 then some ⟨p.1,p.2,r.ino,r.name⟩else none
  | none=>none
 else none
def cV(acc:List vV)(x:vV):Bool:=acc.any fun y=>decide (y.name=x.name)||decide (y.num=x.num)
def kR(w:LN)(b:Nat):List vV->LP->Option (List vV)
 | acc,[]=>some acc
 | acc,p::l=>match kM w b p with
  | some x=>if cV acc x=true then none else kR w b (acc++[x]) l
  | none=>none


def ag(p:Nat)(w:LN)(mo:za)(vs:LJ)(G:LQ):LQ :=
 .row 26 1 0 0 [wv p w]::.row 192 1 0 0 [.sl 5 vs.length 0 vs.length (2*vs.length) 2]::mo::.row 209 1 0 0 [.map 2]::.row 323 1 0 0 [.fn 224 [.ptr 0 0 0 0 1,.ptr 3 0 0 0 1,.ptr 1 0 0 0 1,.ptr 4 0 0 0 1]]::.row 195 2 vs.length 0 vs::G
def rN(mo:za)(seen:LN):Prop:=(mo=.map0/\seen=[])\/∃mm:Int->LS,mo=.mapI .u64 mm/\∀q:Nat,mm q=if seen.contains q=true then some (iv 1)else none
theorem Sz{α:Type}(G l:List α)(x y z:α):(G++x::y::z::l)[G.length+2]?=some z:=by grind
def rJ(H:LQ)(v:PV)(l:vh):Prop:=∃i j:Nat,v=.agg [.sl (i+6) l.1.length 0 l.1.length (2*l.1.length) 1,.sl (j+6) l.2.length 0 l.2.length (2*l.2.length) 6] /\
 H[i]?=some (.row 3 1 l.1.length 0 (l.1.map fun(b:Nat)=>iv (b:Int)))/\H[j]?=some (.row 143 6 l.2.length 0 (l.2.map (wb 0)))
def mK(H:LQ)(vs:LJ)(ls:List vh):Prop:=vs.length=ls.length/\∀(k:Nat) (v:PV) (l:vh),vs[k]?=some v->ls[k]?=some l->rJ H v l
variable {G':LQ}{acc:List vh}{b d:Nat}{ls:List vh}{lv:Int}{mo2:za}{p:Nat}{seen:LN}{vs:LJ}{α:Type}(G:List α)(n:Nat)(G2:List α)
def Kf(b:Nat)(lv:Int):LJ:=[uv b,iv lv,.ptr 0 0 0 0 1,.ptr 3 0 0 0 1,.ptr 1 0 0 0 1,.ptr 4 0 0 0 1]
def du(p:Nat)(w:LN)(mo2:za)(vs:LJ)(G:LQ)(bs:LN)(ns:LC)(G2:LQ):LQ :=
 .row 26 1 0 0 [wv p w]::.row 192 1 0 0 [.sl 5 vs.length 0 vs.length (2*vs.length) 2]::mo2::.row 209 1 0 0 [.map 2]::.row 323 1 0 0 [.fn 224 [.ptr 0 0 0 0 1,.ptr 3 0 0 0 1,.ptr 1 0 0 0 1,.ptr 4 0 0 0 1]]::.row 195 2 vs.length 0 vs ::
   (G++.row 195 2 0 0 [.agg [.sl (G.length+7) bs.length 0 bs.length (2*bs.length) 1,.sl (G.length+8) ns.length 0 ns.length (2*ns.length) 6]]::.row 3 1 bs.length 0 (bs.map fun(b:Nat)=>iv (b:Int))::.row 143 6 ns.length 0 (ns.map (wb 0))::G2)
theorem rJ.mono{G:LQ}{v:PV}{l:vh}(h:rJ G v l):rJ (G++G') v l:=by
 obtain⟨i,j,h1,h2,h3⟩:=h;exact⟨i,j,h1,by grind,by grind⟩
theorem mK.mono{G:LQ}(h:mK G vs ls):mK (G++G') vs ls:=⟨h.1,fun k v l a b=>(h.2 k v l a b).mono⟩
theorem mK.snoc{G:LQ}(h:mK G vs ls)(r:za)(bs:LN)(ns:LC)(X:LQ)(k:Nat)(hk:k=ns.length):mK (G++r::.row 3 1 bs.length 0 (bs.map fun(b:Nat)=>iv (b:Int))::.row 143 6 k 0 (ns.map (wb 0))::X) (vs++[.agg [.sl (G.length+7) bs.length 0 bs.length (2*bs.length) 1,.sl (G.length+8) k 0 k (2*k) 6]]) (ls++[(bs,ns)]):=by
 subst hk;refine⟨by simp[h.1],fun q v l c d=>?_⟩;rcases ZW q vs.length with a|a
 .rw[YP a]at c;rw[YP (by rw[<- h.1];exact a)]at d;exact(h.2 q v l c d).mono
 .rw[YN a]at c;rw[YN (by rw[<- h.1];exact a)]at d;obtain rfl:=YQ.1 (Yt c);obtain rfl:=YQ.1 (Yt d);exact⟨G.length+1,G.length+2,rfl,xc G _ _ _,Sz G _ _ _ _⟩
def rM(p:Nat)(w:LN)(r:List vh×Bool)(e:FE)(H':LQ):Prop:=e=.ret (.bool r.2)/\∃mo' vs' G',H'=ag p w mo' vs' G'/\mK G' vs' r.1
theorem Kl(hd:(0<=lv/\lv+1<=d)\/14<=d)(h:wW w lv (w.length/64) seen [] [] b=none):wZ w d seen acc b lv=(acc,false):=by
 match d,hd with
 | 0,hd=>omega
 | d+1,_=>rw[wZ,h]
theorem QC{G:LQ}{bs:LN}{ns:LC}{G2:LQ}(hd:(0<=lv/\lv+1<=d)\/14<=d)(h:wW w lv (w.length/64) seen [] [] b=none)(hv:mK G vs acc):rM p w (wZ w d seen acc b lv) (.ret (.bool false)) (du p w mo2 vs G bs ns G2):=by
 rw[Kl hd h];exact⟨rfl,mo2,vs,_,rfl,hv.mono⟩
theorem GS{G:LQ}(hd:(0<=lv/\lv+1<=d)\/14<=d)(h:wW w lv (w.length/64) seen [] [] b=none)(hv:mK G vs acc):rM p w (wZ w d seen acc b lv) (.ret (.bool false)) (ag p w mo2 vs G):=by
 rw[Kl hd h];exact⟨rfl,mo2,vs,_,rfl,hv⟩
theorem fE:(n==n+1)=false:=by simp
theorem fF:(n+1==n)=false:=by simp
theorem fG:(n==n+1+1)=false:=by grind
theorem fH:(n+1+1==n)=false:=by grind
theorem fI:(n+6==n+7)=false:=by simp
theorem fJ:(n+7==n+6)=false:=by simp
theorem fK:(n+6==n+8)=false:=by simp
theorem fL:(n+8==n+6)=false:=by simp
theorem fM:(n+7==n+8)=false:=by simp
theorem fN:(n+8==n+7)=false:=by simp
theorem fS(a b c:α):((G++a::b::c::G2).length==G.length)=false:=by grind
theorem ig(a b c:α):(G.length==(G++a::b::c::G2).length)=false:=by grind
theorem fT(a b c x0:α):((G++a::b::c::G2++[x0]).length==G.length)=false:=by grind
theorem ii(a b c x0:α):(G.length==(G++a::b::c::G2++[x0]).length)=false:=by grind
theorem fU(a b c x0 x1:α):((G++a::b::c::G2++[x0]++[x1]).length==G.length)=false:=by grind
theorem ij(a b c x0 x1:α):(G.length==(G++a::b::c::G2++[x0]++[x1]).length)=false:=by grind
theorem fV(a b c x0 x1 x2:α):((G++a::b::c::G2++[x0]++[x1]++[x2]).length==G.length)=false:=by grind
theorem ik(a b c x0 x1 x2:α):(G.length==(G++a::b::c::G2++[x0]++[x1]++[x2]).length)=false:=by grind
theorem fW(a b c:α):((G++a::b::c::G2).length==G.length+1)=false:=by grind
theorem il(a b c:α):(G.length+1==(G++a::b::c::G2).length)=false:=by grind
theorem fX(a b c x0:α):((G++a::b::c::G2++[x0]).length==G.length+1)=false:=by grind
theorem im(a b c x0:α):(G.length+1==(G++a::b::c::G2++[x0]).length)=false:=by grind
theorem fY(a b c x0 x1:α):((G++a::b::c::G2++[x0]++[x1]).length==G.length+1)=false:=by grind
theorem ip(a b c x0 x1:α):(G.length+1==(G++a::b::c::G2++[x0]++[x1]).length)=false:=by grind
theorem fZ(a b c x0 x1 x2:α):((G++a::b::c::G2++[x0]++[x1]++[x2]).length==G.length+1)=false:=by grind
theorem iq(a b c x0 x1 x2:α):(G.length+1==(G++a::b::c::G2++[x0]++[x1]++[x2]).length)=false:=by grind
theorem ia(a b c:α):((G++a::b::c::G2).length==G.length+2)=false:=by grind
theorem ir(a b c:α):(G.length+2==(G++a::b::c::G2).length)=false:=by grind
theorem ib(a b c x0:α):((G++a::b::c::G2++[x0]).length==G.length+2)=false:=by grind
theorem it(a b c x0:α):(G.length+2==(G++a::b::c::G2++[x0]).length)=false:=by grind
theorem ic(a b c x0 x1:α):((G++a::b::c::G2++[x0]++[x1]).length==G.length+2)=false:=by grind
theorem iu(a b c x0 x1:α):(G.length+2==(G++a::b::c::G2++[x0]++[x1]).length)=false:=by grind
theorem ie(a b c x0 x1 x2:α):((G++a::b::c::G2++[x0]++[x1]++[x2]).length==G.length+2)=false:=by grind
theorem iy(a b c x0 x1 x2:α):(G.length+2==(G++a::b::c::G2++[x0]++[x1]++[x2]).length)=false:=by grind
theorem fj(a b b' c p q z:α):(G++a::b'::c::G2++[p]++[q]++[z])[(G++a::b::c::G2++[p]++[q]).length]?=some z:=by simp_all
theorem fO:(n+1==n+2)=false:=by simp
theorem fP:(n+2==n+1)=false:=by simp
theorem fQ:(n==n+2)=false:=by simp
theorem fR:(n+2==n)=false:=by simp
section
variable {α:Type}(G l m n o:List α)(x y z u:α)
theorem dj:(G++x::l++m++n++o)[G.length]?=some x:=by grind
theorem aO:(G++x::y::l++m++n++o)[G.length+1]?=some y:=by simp_all
theorem dr:(G++x::y::z::l++m++n++o)[G.length+2]?=some z:=by simp_all
theorem dV:(G++x::l++m++n++o).set G.length u=G++u::l++m++n++o:=by grind
theorem mE:(G++x::y::l++m++n++o).set (G.length+1) u=G++x::u::l++m++n++o:=by simp_all
theorem ee:(G++x::y::z::l++m++n++o).set (G.length+2) u=G++x::y::u::l++m++n++o:=by simp_all
theorem bU:(G++x::y::z::l)[G.length+2]?=some z:=by grind
theorem bV:(G++x::y::z::l++m)[G.length+2]?=some z:=by simp_all
theorem nU:(G++x::y::z::l++m++n)[G.length+2]?=some z:=by simp_all
end
variable {T:List vh}(p:Nat)(w:LN)(a:Int)
def zyD:=And.intro (@kP za) (And.intro (@gF za) (And.intro (@gG za) (And.intro (@dj za) (And.intro (@xc za) (And.intro (@uY za) (And.intro (@uZ za) (And.intro (@aO za) (And.intro (@bU za) (And.intro (@bV za) (And.intro (@nU za) (And.intro (@dr za) (And.intro (@Ld za) (And.intro (@Xa za) (And.intro (@Xb za) (And.intro (@dV za) (And.intro (@nB za) (And.intro (@nC za) (And.intro (@yN za) (And.intro (@mE za) (@ee za))))))))))))))))))))
theorem sF{l:LN}:∀v∈(l.map fun(b:Nat)=>iv (b:Int)).flatMap PV.cells,vL v:=fun v a=>by
 obtain⟨x,c,a⟩:=YG.1 a;obtain⟨n,_,rfl⟩:=Yx.1 c;simp[PV.cells]at a;subst a;exact .int _ _
theorem VN(hw:64<=w.length/\w.length<=131072/\w.length%64=0):∀(d:Nat) (seen:LN) (acc:List vh) (b:Nat) (lv:Int) (mo:za) (vs:LJ) (G:LQ) (hd:(0<=lv/\lv+1<=d)\/14<=d) (hs:rN mo seen) (hv:mK G vs acc) (hva:acc.length+d<=100),
  FO ET 224 (Kf b lv) (ag p w mo vs G) false (rM p w (wZ w d seen acc b lv)):=by
 intro d
 induction d with
 | zero=>intro seen acc b lv mo vs G hd;omega
 | succ d ih =>
 intro seen acc b lv mo vs G hd hs hv hva;refine wF (eG T224 func224) ?_;unfold Kf ag;refine zG ?_;refine eI 3 1 (id:=G.length+6) (v:=.agg [.nilsl,.nilsl]) (v':=.agg [.sl (G.length+7) 0 0 0 0 1,.nilsl]) (e0:=195) (z0:=2) (G:=0) (M:=0) (by simp_all) rfl (fun k x y g j=>?_) ?_
 .match k with
  | 0=>injection g with g;injection j with j;subst g j;exact .inr ⟨rfl,by simp[ya]⟩
  | 1=>injection g with g;injection j with j;grind
  | k+2=>simp[PV.cells]at g
 simp only[ZX,zd,Yy,YI,YC];refine eI 143 6 (id:=G.length+6) (v:=.agg [.sl (G.length+7) 0 0 0 0 1,.nilsl]) (v':=.agg [.sl (G.length+7) 0 0 0 0 1,.sl (G.length+8) 0 0 0 0 6]) (e0:=195) (z0:=2) (G:=0) (M:=0) (by simp_all) rfl (fun k x y g j=>?_) ?_
 .match k with
  | 0=>injection g with g;injection j with j;grind
  | 1=>injection g with g;injection j with j;subst g j;exact .inr ⟨rfl,by simp[ya]⟩
  | k+2=>simp[PV.cells]at g
 simp only[ZX,Ld,Yy,YI,YC];have b1:w.length/64<=2048:=zo;refine vo (vG (fun m s=>∃(k:Nat) (seen2:LN) (bs:LN) (ns:LC) (b2:Nat) (mo2:za) (G2:LQ),m=k/\kZ (w.length/64) seen2<=k/\wW w lv (w.length/64) seen [] [] b=wW w lv k seen2 bs ns b2/\bs.length=ns.length/\bs.length+k<=2048/\rN mo2 seen2/\s.tm 0=uv b2/\s.tm 1=iv lv/\s.tm 2=.ptr 0 0 0 0 1/\s.tm 3=.ptr 3 0 0 0 1/\s.tm 4=.ptr 1 0 0 0 1/\s.tm 5=.ptr 4 0 0 0 1/\s.tm 9=.ptr (G.length+6) 0 0 0 2/\s.df=[] /\
  s.H=du p w mo2 vs G bs ns G2) (n:=w.length/64) ?_ ?_)
 .exact⟨_,seen,[],[],b,mo,[],rfl,rt _ _,rfl,rfl,by grind,hs,zt,zt,zt,zt,zt,zt,zt,rfl,rfl⟩
 .rintro m ⟨tm,df,H⟩ ⟨k,seen2,bs,ns,b2,mo2,G2,rfl,hun,hrd,hbn,hbk,hs2,c,h1,h2,h3,h4,i,a,rfl,rfl⟩;dsimp only at *
  unfold du;refine vJ c ?_ ?_
  .intro r;have r:¬b2=0:=by simpa using r
   have T:IntKind.i64.wrap ((w.length:Int).tdiv 64)=((w.length/64:Nat):Int):=by rw[IntWalk.i64_quo _ _ zo];omega
   refine vP ?_;refine zB ?_;refine xH (Q:=fun y f=>y=.norm/\f.tm 0=uv b2/\f.tm 1=iv lv/\f.tm 2=.ptr 0 0 0 0 1/\f.tm 3=.ptr 3 0 0 0 1/\f.tm 4=.ptr 1 0 0 0 1/\f.tm 5=.ptr 4 0 0 0 1/\f.tm 9=.ptr (G.length+6) 0 0 0 2/\f.tm 38=.bool (decide (w.length/64<=b2)||seen2.contains b2)/\f.df=[]/\f.H=du p w mo2 vs G bs ns G2) (vX ?_) ?_
   .by_cases Y:w.length/64<=b2
    .have o:((w.length/64:Nat):Int)<=b2:=zo;refine w9 (wc c h2 h3 T o) ?_;exact⟨zt,c,h1,h2,h3,h4,i,a,by simp[zb,Y],rfl,rfl⟩
    .have o:¬((w.length/64:Nat):Int)<=b2:=zo;rcases hs2 with⟨rfl,rfl⟩|⟨mm,rfl,Z⟩
     .refine w9 (wc c h2 h3 T o) ?_;exact⟨zt,c,h1,h2,h3,h4,i,a,by simp[zb,Y],rfl,rfl⟩
     .have t:=Z b2
      by_cases D:seen2.contains b2=true
      .rw[if_pos D]at t;refine w9 (uN c h2 h3 T o t) ?_;exact⟨zt,c,h1,h2,h3,h4,i,a,by rw[D];simp[zb],rfl,rfl⟩
      .rw[if_neg D]at t;refine w9 (uN c h2 h3 T o t) ?_;have D:seen2.contains b2=false:=by simpa using D
       exact⟨zt,c,h1,h2,h3,h4,i,a,by rw[D];simp[zb,Y],rfl,rfl⟩
   .clear c h1 h2 h3 h4 i a;rintro y ⟨tm,df,H⟩ ⟨rfl,c,h1,h2,h3,h4,i,a,ab,rfl,rfl⟩;dsimp only at *
    by_cases u:(decide (w.length/64<=b2)||seen2.contains b2)=true
    .refine bn ab ?_ ?_
     .intro _;refine zO ?_;refine QC hd ?_ hv;rw[hrd]
      cases m with
      | zero=>rw[wW,if_neg r]
      | succ m=>rw[wW,if_neg r,if_pos u]
     .rw[u];intro h;cases h
    have u:(decide (w.length/64<=b2)||seen2.contains b2)=false:=by simpa using u
    refine bn ab ?_ ?_
    .rw[u];intro h;cases h
    intro _;refine uL ?_;have a0:b2<w.length/64:=by
     cases h:decide (w.length/64<=b2)with
     | true=>grind
     | false=>grind
    have a1:¬seen2.contains b2=true:=by intro h;rw[h,Bool.or_true]at u;cases u
    refine vj (xH (Q:=fun y f=>y=.norm/\f.tm 0=uv b2/\f.tm 1=iv lv/\f.tm 2=.ptr 0 0 0 0 1/\f.tm 3=.ptr 3 0 0 0 1/\f.tm 4=.ptr 1 0 0 0 1/\f.tm 5=.ptr 4 0 0 0 1/\f.tm 9=.ptr (G.length+6) 0 0 0 2/\f.df=[]/\∃P,rN P (b2::seen2)/\f.H=du p w P vs G bs ns G2) (vX ?_) ?_)
    .unfold du;rcases hs2 with⟨rfl,rfl⟩|⟨mm,rfl,Z⟩
     .refine w9 (jX c h3) ?_;refine⟨zt,c,h1,h2,h3,h4,i,a,zt,_,.inr ⟨_,rfl,fun q=>?_⟩,rfl⟩
      by_cases t:q=b2
      .grind
      .have:¬(q:Int)=b2:=zo;simp[t,this]
     .refine w9 (jX c h3) ?_;refine⟨zt,c,h1,h2,h3,h4,i,a,zt,_,.inr ⟨_,rfl,fun q=>?_⟩,rfl⟩
      by_cases t:q=b2
      .subst t;simp
      .have:¬(q:Int)=b2:=zo;rw[if_neg this,Z q];simp[t]
    .clear c h1 h2 h3 h4 i a ab hs2;rintro y ⟨tm,df,H⟩ ⟨rfl,c,h1,h2,h3,h4,i,a,rfl,P,a5,rfl⟩;dsimp only at *
     unfold du;have uY:∃U,m=U+1:=by
      cases m with
      | zero=>exact absurd (Mn _ b2 seen2 zo a0) a1
      | succ m=>exact⟨m,rfl⟩
     obtain⟨U,rfl⟩:=uY;rw[wW,if_neg r,if_neg (by rw[u];decide)]at hrd;have a6:=iC p w b2 zo zo;have I:=EW p (jW w b2) (by unfold jW;simp;omega);refine pC ?_;refine vU (jX c h2) ?_;refine bj a6 ?_
     by_cases B:headB (jW w b2)=true
     rotate_left
     .have B:headB (jW w b2)=false:=by simpa using B
      have he:ng (jW w b2)=.ret (.tuple [wb 0 kF,iv 210]):=by unfold ng;rw[if_neg (by rw[B];decide)]
      rw[he]at I;rw[B,Bool.false_and,if_neg zy]at hrd;refine wg ?_;refine wj I ?_;refine zG ?_;refine wA ?_ ?_
      .intro _;refine zO ?_;refine GS (G:=_) hd hrd ?_;exact hv.mono.mono
      .intro h;cases h
     obtain⟨a2,ah,bw⟩:=sU B;rw[Je _ B]at I;rw[B,ZH]at hrd;generalize headN (jW w b2)=nd at I hrd a2 ah bw;refine wg ?_;refine wj I ?_;refine pC ?_;refine vU (vn h1 a zyD) ?_;refine gV (Q5 1 0 0 bs ns nd lv zo) ?_ ?_;(repeat(first|exact trivial|refine And.intro ?_ ?_|exact .int _ _|exact .bool _|exact .list _ _ _|exact .elem _|exact .nilsl|exact .nil _ _|exact .str _|refine zf.aggL ?_|refine zf.fnL ?_|refine zf.tL ?_|refine .iface ?_|exact mu rfl rfl (by assumption)))
     .exact zf.wh (e:=3) (z':=1) (G:=bs.length) (l:=bs.map fun(b:Nat)=>iv (b:Int)) (by simp only[Y2,uY]<;>rfl) rfl (by simp) (by simp) uo sF
     .refine⟨zf.wh (e:=143) (z':=6) (G:=ns.length) (l:=ns.map (wb 0)) (by simp only[Y2,bV]<;>rfl) rfl (by simp) (by simp) uo sG,trivial⟩
     .exact cG
     by_cases V:pi ns nd lv=true
     rotate_left
     .have V:pi ns nd lv=false:=by simpa using V
      rw[V]at hrd⊢;rw[if_neg zy]at hrd;refine zN ?_;refine wA ?_ ?_
      .intro _;refine zO ?_;refine GS (G:=_) hd hrd ?_;exact hv.mono.mono
      .intro h;cases h
     rw[V]at hrd⊢;rw[if_pos rfl]at hrd;refine zN ?_;refine yO ?_;refine uL ?_;have z:(bs.length+1)*9<=140737488355328:=zo;have A:(ns.length+1)*65<=140737488355328:=zo;refine wH ?_;refine vS (wc c a z A zyD) ?_;refine ei ?_ (by simp(disch:=omega)only[go_sem,a,fS,ig,fT,ii,fU,ij,fV,ik,fW,il,fX,im,fY,ip,fZ,iq,ia,ir,ib,it,ic,iu,ie,iy,fE,fF,fG,fH,fO,fP,fQ,fR,fI,fJ,fK,fL,fM,fN,kP,gF,gG,xc,uY,uZ,bU,bV,nU,dj,aO,dr,dV,mE,ee,z,A,fj]<;>rfl) (by first|exact trivial|simp only[go_sem,a,fS,ig,fT,ii,fU,ij,fV,ik,fW,il,fX,im,fY,ip,fZ,iq,ia,ir,ib,it,ic,iu,ie,iy,fE,fF,fG,fH,fO,fP,fQ,fR,fI,fJ,fK,fL,fM,fN,kP,gF,gG,xc,uY,uZ,bU,bV,nU,dj,aO,dr,dV,mE,ee,z,A,fj]);refine ei ?_ (by simp(disch:=omega)only[go_sem,a,fS,ig,fT,ii,fU,ij,fV,ik,fW,il,fX,im,fY,ip,fZ,iq,ia,ir,ib,it,ic,iu,ie,iy,fE,fF,fG,fH,fO,fP,fQ,fR,fI,fJ,fK,fL,fM,fN,kP,gF,gG,xc,uY,uZ,bU,bV,nU,dj,aO,dr,dV,mE,ee,z,A,fj]<;>rfl) (by first|exact trivial|simp only[go_sem,a,fS,ig,fT,ii,fU,ij,fV,ik,fW,il,fX,im,fY,ip,fZ,iq,ia,ir,ib,it,ic,iu,ie,iy,fE,fF,fG,fH,fO,fP,fQ,fR,fI,fJ,fK,fL,fM,fN,kP,gF,gG,xc,uY,uZ,bU,bV,nU,dj,aO,dr,dV,mE,ee,z,A,fj]);refine ei ?_ (by simp(disch:=omega)only[go_sem,a,fS,ig,fT,ii,fU,ij,fV,ik,fW,il,fX,im,fY,ip,fZ,iq,ia,ir,ib,it,ic,iu,ie,iy,fE,fF,fG,fH,fO,fP,fQ,fR,fI,fJ,fK,fL,fM,fN,kP,gF,gG,xc,uY,uZ,bU,bV,nU,dj,aO,dr,dV,mE,ee,z,A,fj]<;>rfl) (by first|exact trivial|simp only[go_sem,a,fS,ig,fT,ii,fU,ij,fV,ik,fW,il,fX,im,fY,ip,fZ,iq,ia,ir,ib,it,ic,iu,ie,iy,fE,fF,fG,fH,fO,fP,fQ,fR,fI,fJ,fK,fL,fM,fN,kP,gF,gG,xc,uY,uZ,bU,bV,nU,dj,aO,dr,dV,mE,ee,z,A,fj]);refine vq a ?_;have ad:(bs++[b2]).length=bs.length+1:=by simp
     have a3:(ns++[nd]).length=ns.length+1:=by simp
     have a7:(List.map (wb 0) ns++[wb 0 nd])[ns.length]?=some (wb 0 nd):=by simp
     have a8:IntKind.i64.wrap ((ns.length+1:Nat)-1)=ns.length:=by rw[show ((ns.length+1:Nat):Int)-1=(ns.length:Nat) by omega];exact wrap_i64 zo zo
     have a9:ns.length<ns.length+1:=Zr _;refine pC ?_;refine vU (wc a a7 a8 a9 zyD) ?_;refine km ?_;refine⟨U,Zr _,U,b2::seen2,bs++[b2],ns++[nd],nd.sib,P,?G,rfl,?hu,hrd,by rw[ad,a3,hbn],by rw[ad];omega,a5,?c,zu h1,zu h2,zu h3,zu h4,zu i,zu a,zt,?H⟩
     case hu=>have:=Bh _ _ _ a0 a1;omega
     case c=>simp[zb]
     case H =>
      (try dsimp only);rw[ad,a3,YJ,YJ];simp only[YI,Yy,YC];rfl
  .intro r;have r:b2=0:=by simpa using r
   subst r;have O:wW w lv (w.length/64) seen [] [] b=some (seen2,bs,ns):=by rw[hrd];cases m<;>simp[wW]
   clear hrd;obtain⟨K,av,_⟩:=Aj (N:=2048) _ _ _ _ _ _ O (gY.nil w) (fun n L=>by simp at L) (by simp;omega);dsimp only at K av
   cases ns with
   | nil =>
    (repeat(first|refine vj ?_|refine vF (jX a zyD) ?_));refine wA ?_ ?_
    .intro _;refine zO ?_;have:wZ w (d+1) seen acc b lv=(acc,false):=by rw[wZ,O]
     rw[this];exact⟨rfl,mo2,vs,_,rfl,hv.mono⟩
    .intro h;cases h
   | cons nd ns =>
    have g0:¬((ns.length+1:Nat):Int)=0:=zo;(repeat(first|refine vj ?_|refine vF (vn a g0 zyD) ?_));refine yO ?_;refine uL ?_;have b3:=hv.1;have bb:(vs.length+1)*49<=140737488355328:=zo;refine zB ?_;refine vF (wd h4 a bb zyD) ?_;have bm:(List.map (wb 0) (nd::ns))[0]?=some (wb 0 nd):=rfl;have bo:0<ns.length+1:=Zt _;obtain⟨b4,a2,ah⟩:=K.node (Yp ..);refine zB ?_;refine vF (wd a bm bo zyD) ?_;have hX:=fun X=>hv.snoc (.row 195 2 0 0 [.agg [.sl (G.length+7) bs.length 0 bs.length (2*bs.length) 1,.sl (G.length+8) (ns.length+1) 0 (ns.length+1) (2*(ns.length+1)) 6]]) bs (nd::ns) X (ns.length+1) rfl
    by_cases a4:nd.level=0
    .have o:(nd.level:Int)=0:=zo;refine zB ?_;refine vF (jX o zyD) ?_;refine wA ?_ ?_
     .intro _;have b5:(nd::ns).length<=2048:=by rw[<- K.len];omega
      have b6:=tj (nd::ns) fun n L=>(K.node L).1;have R:wZ w (d+1) seen acc b lv=(acc++[(bs,nd::ns)],vz (vQ (nd::ns))):=by rw[wZ,O];simp only;rw[if_pos a4]
      have J:=tp 1 0 bs (nd::ns) zo (fun n L=>(K.node L).1) zo;unfold b8 at J
      by_cases C:vz (vQ (nd::ns))=true
      .rw[if_pos C]at J;refine pC ?_;refine vU (jX a zyD) ?_;refine gV J ?_ ?_;(repeat(first|exact trivial|refine And.intro ?_ ?_|exact .int _ _|exact .bool _|exact .list _ _ _|exact .elem _|exact .nilsl|exact .nil _ _|exact .str _|refine zf.aggL ?_|refine zf.fnL ?_|refine zf.tL ?_|refine .iface ?_|exact mu rfl rfl (by assumption)))
       .exact zf.wh (e:=3) (z':=1) (G:=bs.length) (l:=bs.map fun(b:Nat)=>iv (b:Int)) (by simp only[Y2,uZ]<;>rfl) rfl (by simp) (by simp) uo sF
       .exact⟨zf.wh (e:=143) (z':=6) (G:=ns.length+1) (l:=(nd::ns).map (wb 0)) (by simp only[Y2,nU]<;>rfl) rfl (by simp) (by simp) uo sG,trivial⟩
       .exact cG
       refine zN ?_;refine zO ?_;rw[R,C];refine⟨rfl,mo2,_,_,?e1,hX ?X1⟩
       case e1 =>
        unfold ag;simp only[Yn,Yq,YK,Y6,YI,Yy];rfl
      .rw[if_neg C]at J;have C:vz (vQ (nd::ns))=false:=by simpa using C
       refine pC ?_;refine vU (jX a zyD) ?_;refine gV J ?_ ?_;(repeat(first|exact trivial|refine And.intro ?_ ?_|exact .int _ _|exact .bool _|exact .list _ _ _|exact .elem _|exact .nilsl|exact .nil _ _|exact .str _|refine zf.aggL ?_|refine zf.fnL ?_|refine zf.tL ?_|refine .iface ?_|exact mu rfl rfl (by assumption)))
       .exact zf.wh (e:=3) (z':=1) (G:=bs.length) (l:=bs.map fun(b:Nat)=>iv (b:Int)) (by simp only[Y2,uZ]<;>rfl) rfl (by simp) (by simp) uo sF
       .exact⟨zf.wh (e:=143) (z':=6) (G:=ns.length+1) (l:=(nd::ns).map (wb 0)) (by simp only[Y2,nU]<;>rfl) rfl (by simp) (by simp) uo sG,trivial⟩
       .exact cG
       refine zN ?_;refine zO ?_;rw[R,C];refine⟨rfl,mo2,_,_,?e2,hX ?X2⟩
       case e2 =>
        unfold ag;simp only[Yn,Yq,YK,Y6,YI,Yy];rfl
     .intro h;cases h
    .have o:¬(nd.level:Int)=0:=zo;refine zB ?_;refine vF (jX o zyD) ?_;refine yO ?_;refine uL ?_;have R:wZ w (d+1) seen acc b lv=wZ w d seen2 (acc++[(bs,nd::ns)]) nd.left ((nd.level:Int)-1):=by rw[wZ,O];simp only;rw[if_neg a4]
     have b7:=av nd rfl;have S:=fun X=>ih seen2 (acc++[(bs,nd::ns)]) nd.left ((nd.level:Int)-1) mo2 _ _ zo hs2 (hX X) (by simp;omega);unfold ag at S;simp only[show ∀v:PV,(vs++[v]).length=vs.length+1 from fun v=>by simp]at S;rw[<- R]at S;refine pC ?_;refine vU (jX i zyD) ?_;simp only[YI,Yy,YC];refine Bv (caps:=?caps) (vs:=?vs) ?o ?g2 (S ?X3) ?g3 ?g4 ?g5
     case o=>first|rfl|(simp only[zX,qi,go_sem]<;>rfl)
     case g2=>simp only[go_sem,i]<;>rfl
     case g3=>rfl
     case g4=>rfl
     rintro e H' ⟨rfl,bp,bx,G',rfl,b0⟩;refine zP ?_;exact⟨rfl,bp,bx,G',rfl,b0⟩


theorem f108:ET.funcs.get 108=some T108:=eG _ func108
@[reducible] def yJ (T:List vh):PV:=.list 0 2 (T.map fun L=>uw 0 0 L.1 L.2)
theorem Lb.ivn(l:LN):Lb (.list 0 z (l.map fun(b:Nat)=>iv (b:Int))):=.list fun x a=>by
 obtain⟨y,c,a⟩:=YG.1 a;obtain⟨n,_,rfl⟩:=Yx.1 c;simp[PV.cells]at a;subst a;exact .int _ _
theorem Lb.nodes(l:LC):Lb (.list 0 z (l.map (wb 0))):=.list fun x a=>by
 obtain⟨y,b,a⟩:=YG.1 a;obtain⟨n,_,rfl⟩:=Yx.1 b;have:=Lb.node n
 cases this with
 | agg h=>exact h x a
theorem CZ(T:List vh):Lb (yJ T):=.list fun x a=>by
 obtain⟨y,b,a⟩:=YG.1 a;obtain⟨L,_,rfl⟩:=Yx.1 b;simp[PV.cells]at a;rcases a with rfl|rfl
 .exact Lb.ivn _
 .exact Lb.nodes _
theorem QT{p:Nat}{w:LN}{mo:za}{vs:LJ}{G:LQ}(h:mK G vs T):zf (ag p w mo vs G) 0 (.sl 5 vs.length 0 vs.length (2*vs.length) 2) (yJ T):=by
 have hf:LF (ag p w mo vs G) 0 (vs.flatMap PV.cells) ((T.map fun L=>uw 0 0 L.1 L.2).flatMap PV.cells):=LF.flat h.1 fun q L a=>by
  have c:q<vs.length:=by rw[h.1];exact(Yl.1 a).1
  obtain⟨i,j,f,g,k⟩:=h.2 q _ L (Yk c) a;refine⟨_,(Yk c).trans (congrArg some f),?_,?_,trivial⟩
  .exact zf.wh (e:=3) (z':=1) (G:=L.1.length) (l:=L.1.map fun(b:Nat)=>iv (b:Int)) g rfl (by simp) (by simp) uo sF
  .exact zf.wh (e:=143) (z':=6) (G:=L.2.length) (l:=L.2.map (wb 0)) k rfl (by simp) (by simp) uo sG
 have d:(vs.drop 0).take vs.length=vs:=by rw[zAJ9,YR]
 have m:=h.1;refine .sl (e:=195) (M:=0) (G:=vs.length) (l:=vs) rfl (Yv _) (Ym _) zo (Ym _) (by simp[m]) uo ?_ ?_
 .rw[d];exact IC hf
 .rw[d];exact fun i x y n o=>hf.get n o
theorem Ks(hw:64<=w.length/\w.length<=131072/\w.length%64=0)(a:Nat)(ha:a<w.length):FR 166 [wv p w,iv a] (.tuple [yJ (vK w a).1,.bool (vK w a).2]):=by
 refine qv (eG T166 func166) (Lb.two (CZ _) (.bool _)) ?_;have b:(w.map uv)[a]?=some (uv (w.getD a 0)):=by rw[YH,Yk ha,Yu,Yk ha];rfl
 refine zG ?_;refine By 195 2 (id:=1) rfl ?_;simp only[ya,Yq,YK,ZX,ZE,Yy,YC];have c:=VN p w hw 14 [] [] (w.getD a 0) (-1) .map0 [] [] (.inr (Ym _)) (.inl ⟨rfl,rfl⟩) ⟨rfl,fun k v l f _=>by simp at f⟩ zy;change FO ET 224 _ _ _ (rM p w (vK w a))at c;generalize vK w a=r at c;refine wH ?_;refine bk (jX b ha) c ?_;rintro e H' ⟨rfl,g,h,G',rfl,d⟩;refine⟨_,by simp only[go_sem]<;>rfl,?_⟩;refine vq b ?_;unfold ag;refine uf b ?_;exact zf.tL ⟨QT d,.bool _,trivial⟩
def fy(w:LN)(a:Int):FE:=if uK w.length a=true then if(vK w a.toNat).2=true then .ret (yJ (vK w a.toNat).1)else .panic (vN 220)else .panic (vN 2)
theorem iY(n:Nat)(a:Int):uK n a=true↔(64<=n/\n%64=0/\n<=131072/\0<=a/\a<n):=by unfold uK;grind
theorem tu(hs:vx w.length):FN ET 108 [wv p w,iv a] (fy w a):=by
 have c:=Mj p w a hs;unfold fy
 by_cases h:uK w.length a=true
 rotate_left
 .rw[if_neg h]at c⊢;refine qv f108 (.iface (.int _ _)) ?_;refine wu ?_;refine vB c ?_;(try(refine .iface ?_;exact .int _ _))
 rw[if_pos h]at c⊢;have e:=(iY _ _).1 h;obtain⟨n,rfl⟩:∃n:Nat,a=n:=⟨a.toNat,by omega⟩
 have d:=Ks p w ⟨e.1,e.2.2.1,e.2.1⟩ n zo;rw[Zz];generalize vK w n=r at d;obtain⟨T,b⟩:=r
 cases b with
 | true =>
  rw[if_pos rfl];refine qv f108 (CZ _) ?_;refine wN c ?_;refine zM d ?_;refine zM (nf 220) ?_;refine zO ?_;exact zf.list _ _ _
 | false =>
  rw[if_neg (show ¬(T,false).2=true from zBC9)];refine qv f108 (.iface (.int _ _)) ?_;refine wN c ?_;refine zM d ?_;refine zI ?_;refine vB (pt 220) ?_;(try(refine .iface ?_;exact .int _ _))


theorem eS:ET.caught.get 91=some ():=by kernel_rfl
def xK(T:List vh):vh:=T.getLastD ([],[])
theorem sZ(h:T ≠ []):T[T.length-1]?=some (xK T)/\T.getLast?=some (xK T):=by
 have:T.getLast?=some (xK T):=by unfold xK;rw[List.getLastD_eq_getLast?];cases T with
  | nil=>exact absurd rfl h
  | cons a l=>rw[zAC9 (by simp)];rfl
 grind
theorem DY(w:LN):∀(d:Nat) (seen:LN) (acc:List vh) (b:Nat) (lv:Int),(wZ w d seen acc b lv).1.length<=acc.length+d
 | 0,_,acc,_,_=>Ym _
 | d+1,seen,acc,b,lv=>by
  rw[wZ]
  split
  .simp
  .simp
  .split
   .simp
   .refine YY (DY w d _ _ _ _) ?_;simp;omega
theorem li{w:LN}(hw:w.length<=131072)(a:Nat)(h:vK w a=(T,true)):(∀L∈T,aC w L)/\(∀L∈T.dropLast,cL L)/\T ≠ []/\vz (vQ (xK T).2)=true/\T.length<=14:=by
 have b:=DY w 14 [] [] (w.getD a 0) (-1);change (vK w a).1.length<=0+14 at b;have hf:=DX hw 14 [] [] (w.getD a 0) (-1) (fun L c=>by simp at c);change (∀L∈(vK w a).1,aC w L)/\(∀L∈(vK w a).1.dropLast,cL L)/\((vK w a).2=true->(vK w a).1 ≠ []/\∀M,(vK w a).1.getLast?=some M->vz (vQ M.2)=true)at hf;rw[h]at hf b;obtain⟨h1,h2,h3⟩:=hf;obtain⟨h3,h4⟩:=h3 rfl;exact⟨h1,h2,h3,h4 _ (sZ h3).2,by simpa using b⟩
def mR(w:LN)(a:Int):FE:=if uK w.length a=true then if(vK w a.toNat).2=true then .ret (.tuple [vO 0 (vQ (xK (vK w a.toNat).1).2),iv 0])else .ret (.tuple [vO 0 [],iv 220])else .ret (.tuple [vO 0 [],iv 2])
theorem Px:FO ET 127 [.ptr 0 0 0 0 1] [.row 87 1 0 0 [.nilsl],.row 38 1 0 0 [iv 0]] false fun e H'=>e=.ret (.tuple [])/\H'=[.row 87 1 0 0 [.nilsl],.row 38 1 0 0 [iv 0]]:=by
 refine wF (eG T127 func127) ?_;refine zJ ?_;exact⟨[],rfl,rfl,rfl⟩
theorem MS(hs:vx w.length):FN ET 79 [wv p w,iv a] (mR w a):=by
 have b:=tu p w a hs;have o:kI (mR w a):=by
  unfold mR
  split
  .split
   .exact Lb.two (Lb.pvs _) (.int _ _)
   .exact Lb.two (Lb.pvs _) (.int _ _)
  .exact Lb.two (Lb.pvs _) (.int _ _)
 refine qv (eG T79 func79) o ?_;refine wu ?_;refine gZ (f:=91) (p:=.ptr 1 0 0 0 1) (cl:=.fn 127 [.ptr 0 0 0 0 1]) ?_ ?_ eS ?_
 .rfl
 .simp only[go_sem]<;>rfl
 refine zN ?_;refine zI ?_;have bad:∀(tm:Nat->PV) (n:Nat),mR w a=.ret (.tuple [vO 0 [],iv n])->tm 4=.ptr 0 0 0 0 1->tm 5=.ptr 1 0 0 0 1->ye ET T79 (fun q H=>va H 0 q (mR w a)) (.panic (vN n)) ⟨tm,[.caught (.ptr 1 0 0 0 1) (.fn 127 [.ptr 0 0 0 0 1])],[.row 87 1 0 0 [.nilsl],.row 38 1 0 0 [iv 0]]⟩:=fun tm n d h4 r=>by
  refine⟨n,127,[.ptr 0 0 0 0 1],false,1,0,1,rfl,rfl,rfl,Px.mono fun e H s=>?_⟩;obtain⟨rfl,rfl⟩:=s;refine⟨rfl,_,rfl,[.nilsl,iv n],?_,?_⟩
  .simp[T79,xT,zj,zq,h4,r,zD,zA,zF,zW];rfl
  .rw[d];exact wq
 unfold fy at b
 by_cases c:uK w.length a=true
 rotate_left
 .rw[if_neg c]at b;refine vB b ?_;exact bad _ 2 (by unfold mR;rw[if_neg c];rfl) rfl rfl
 rw[if_pos c]at b;have z:=(iY _ _).1 c
 by_cases g:(vK w a.toNat).2=true
 rotate_left
 .rw[if_neg g]at b;refine vB b ?_;exact bad _ 220 (by unfold mR;rw[if_pos c,if_neg g];rfl) rfl rfl
 rw[if_pos g]at b;have l:mR w a=.ret (.tuple [vO 0 (vQ (xK (vK w a.toNat).1).2),iv 0]):=by unfold mR;rw[if_pos c,if_pos g]
 obtain⟨f1,f2,f3,f4,f5⟩:=li (w:=w) (T:=(vK w a.toNat).1) zo a.toNat (by rw[<- g]);rw[l];clear bad;generalize (vK w a.toNat).1=T at b f1 f2 f3 f4 f5;obtain⟨k,A⟩:=sZ f3;have v:T.length≠0:=fun h=>f3 (Zc h);have i:=f1 _ (Yt k);have m:(T.map fun L=>uw 0 0 L.1 L.2)[T.length-1]?=some (uw 0 0 (xK T).1 (xK T).2):=wB k;have y:=tj (xK T).2 fun n d=>(i.lv.node d).1;have x:=i.few;have j:=tp 0 0 (xK T).1 (xK T).2 zo (fun n d=>(i.lv.node d).1) zo;unfold b8 at j;rw[if_pos f4]at j;refine wj b ?_;have t:IntKind.i64.wrap ((T.length:Int)-1)=((T.length-1:Nat):Int):=yw;have u:T.length-1<T.length:=zo;refine vp (vn t m u) ?_;refine wj j ?_;refine zG ?_;refine vt ?_;exact⟨[vO 0 (vQ (xK T).2),iv 0],rfl,zf.tL ⟨.list _ _ _,.int _ _,trivial⟩⟩


@[reducible] def nO (x:Pr):PV:=.agg [uv x.1,.int .i64 (IntKind.i64.wrap (x.2:Int))]
theorem PW{x:Pr}(h:x.2<9223372036854775808):nO x=cv x:=by
 unfold nO cv;rw[wrap_i64 zo zo]
theorem O4(G:LQ)(r r2:za)(V0:LJ)(ps:LP)(hb:V0.length+ps.length<1000000)(tm:Nat->PV)(G3:LQ)(h8:tm 8=.sl (G.length+1) V0.length 0 V0.length (2*V0.length) 2)(h93:tm 93=vO 0 ps)(h94:tm 94=iv ps.length)(h95:tm 95=iv 0){Q:FX->vd->Prop}
  (hQ:∀(tm':Nat->PV) (V:LJ) (G4:LQ),V=V0++ps.map nO->(∀k,k≠8->k≠14->(k<95\/108<k)->tm' k=tm k)->tm' 8=.sl (G.length+1) V.length 0 V.length (2*V.length) 2->Q .norm ⟨tm',[],G++r::.row 265 2 V.length 0 V::r2::G4⟩) :
  W ET ET.caught none c137_4 ⟨tm,[],G++r::.row 265 2 V0.length 0 V0::r2::G3⟩ Q:=by
 unfold c137_4 xC;refine vo (vG (fun m s=>∃(j:Nat) (V:LJ) (G4:LQ),m=ps.length-j/\j<=ps.length/\V=V0++(ps.take j).map nO/\(∀k,k≠8->k≠14->k≠95->(k<95\/108<k)->s.tm k=tm k)/\s.tm 8=.sl (G.length+1) V.length 0 V.length (2*V.length) 2/\s.tm 95=iv j/\s.df=[]/\s.H=G++r::.row 265 2 V.length 0 V::r2::G4) (n:=ps.length) ?_ ?_)
 .exact⟨0,V0,G3,rfl,Yv _,by simp,fun k _ _ _ _=>rfl,h8,h95,rfl,rfl⟩
 .rintro m ⟨tn,df,H⟩ ⟨j,V,G4,rfl,hj,hV,hf,h8',h95',rfl,rfl⟩;dsimp only at hf h8' h95';have b:=(hf 93 zy zy zy zy).trans h93;have d:=(hf 94 zy zy zy zy).trans h94;have t:V.length=V0.length+j:=by rw[hV];simp;omega
  refine vJ (vn b d h95') ?_ ?_
  .intro a;have a:j<ps.length:=wa a;obtain⟨q,c⟩:=uM (l:=ps) a;have e:(ps.map pv)[j]?=some (pv q):=wB c;have g:(V.length+1)*17<=140737488355328:=zo;have h:V++[nO q]=V0++(ps.take (j+1)).map nO:=by rw[YO,c,hV];simp
   refine vP ?_;(repeat(first|refine vj ?_|refine wX ?_ (by simp(disch:=omega)only[go_sem,b,h95',e,kP,yN]<;>rfl)));refine zB ?_;refine ay ?_ (by simp(disch:=omega)only[go_sem,h8',g,kP,uZ,yN]<;>rfl);refine km ?_;refine vu h95' ?_;refine⟨_,?m,j+1,V++[nO q],?G4,rfl,a,h,?f,?h8,zu h95',zt,?H⟩
   case m=>omega
   case f=>intro k i o p u;simp(disch:=omega)only[yD];grind
   case h8=>simp[zb]
   case H =>
    (try dsimp only);rw[Yn];simp only[YI,Yy,YC];rfl
  .intro a;have a:¬j<ps.length:=vZ a;obtain rfl:j=ps.length:=zo;refine hQ _ V G4 (by grind) (fun k i o p=>?_) (by simp[zb,h8']);simp(disch:=omega)only[yD]
   grind
section
variable {α:Type}(G l m n o:List α)(x y z u:α)
theorem XP:(G++x::y::z::l++m++n).set (G.length+2) u=G++x::y::u::l++m++n:=by simp_all
end
variable {Q:FX->vd->Prop}(G:List α)(p:Nat)(l:List α)(w:LN)(q:List α)
theorem Tp{M:vh}{j:Nat}{x:zi}{b:Nat}(hx:M.2[j]?=some x)(hb:M.1[j]?=some b):(yB M).take (j+1)=(yB M).take j++[(x.low,b)]:=by
 have:(yB M)[j]?=some (x.low,b):=by
  unfold yB
  grind
 rw[YO,this];rfl
theorem O5(G:LQ)(r r1:za)(T:List vh)(M:vh)(n:Nat)(hn:n<1000000)(hM:T[n+1]?=some M)(hlen:M.1.length=M.2.length)(hfew:M.2.length<=2048)(tm:Nat->PV)(G3:LQ)(h5:tm 5=yJ T)(h6:tm 6=iv n)(h9:tm 9=.sl (G.length+2) 0 0 0 0 2)(h120:tm 120=.list 0 6 (M.2.map (wb 0)))(h121:tm 121=iv M.2.length)(h122:tm 122=iv 0)(hQ:∀(tm':Nat->PV) (V:LJ) (G4:LQ),V=(yB M).map cv->(∀k,k≠9->k≠15->k≠16->(k<122\/142<k)->tm' k=tm k)->tm' 9=.sl (G.length+2) V.length 0 V.length (2*V.length) 2->Q .norm ⟨tm',[],G++r::r1::.row 265 2 V.length 0 V::G4⟩):
  W ET ET.caught none c137_6 ⟨tm,[],G++r::r1::.row 265 2 0 0 []::G3⟩ Q:=by
 unfold c137_6 xC;have u:(T.map fun L=>uw 0 0 L.1 L.2)[n+1]?=some (uw 0 0 M.1 M.2):=wB hM;have D:n+1<T.length:=(Yl.1 hM).1;have B:((n:Int)+1)=((n+1:Nat):Int):=zo;have I:(yB M).length=M.2.length:=by unfold yB;simp[hlen]
 refine vo (vG (fun m s=>∃(j:Nat) (V:LJ) (G4:LQ),m=M.2.length-j/\j<=M.2.length/\V=((yB M).take j).map cv/\(∀k,k≠9->k≠15->k≠16->k≠122->(k<122\/142<k)->s.tm k=tm k)/\s.tm 9=.sl (G.length+2) V.length 0 V.length (2*V.length) 2/\s.tm 122=iv j/\s.df=[]/\s.H=G++r::r1::.row 265 2 V.length 0 V::G4) (n:=M.2.length) ?_ ?_)
 .exact⟨0,[],G3,rfl,Yv _,by simp,fun k _ _ _ _ _=>rfl,h9,h122,rfl,rfl⟩
 .rintro m ⟨tn,df,H⟩ ⟨j,V,G4,rfl,hj,hV,hf,h9',h122',rfl,rfl⟩;dsimp only at hf h9' h122';have d:=(hf 5 zy zy zy zy zy).trans h5;have v:=(hf 6 zy zy zy zy zy).trans h6;have c:=(hf 120 zy zy zy zy zy).trans h120;have q:=(hf 121 zy zy zy zy zy).trans h121;have J:V.length=j:=by rw[hV];simp;omega
  refine vJ (vn c q h122') ?_ ?_
  .intro a;have a:j<M.2.length:=wa a;have t:j<M.1.length:=zo;obtain⟨x,e⟩:=uM (l:=M.2) a;obtain⟨b,g⟩:=uM (l:=M.1) t;have w:(M.2.map (wb 0))[j]?=some (wb 0 x):=wB e;have y:(M.1.map fun(b:Nat)=>iv (b:Int))[j]?=some (iv b):=wB g;have z:(V.length+1)*17<=140737488355328:=zo;have A:V++[cv (x.low,b)]=((yB M).take (j+1)).map cv:=by rw[Tp e g,hV];simp
   refine vP ?_;refine vI (vn c h122' w) ?_;refine ua ?_;refine ei ?_ (by simp(disch:=omega)only[go_sem,h9',d,v,u,B,y,z,nU,XP]<;>rfl);refine vq d ?_;refine vu h122' ?_;refine⟨_,?m,j+1,V++[cv (x.low,b)],?G4,rfl,a,A,?f,?h9,zu h122',zt,?H⟩
   case m=>omega
   case f=>intro k h i o p C;simp(disch:=omega)only[yD];exact hf k h i o p C
   case h9=>simp[zb]
   case H =>
    (try dsimp only);rw[Yn];simp only[YI,Yy,YC];rfl
  .intro a;have a:¬j<M.2.length:=vZ a;obtain rfl:j=M.2.length:=zo;refine hQ _ V G4 (by grind) (fun k h i o p=>?_) (by simp[zb,h9']);simp(disch:=omega)only[yD]
   grind


def Am(w:LN)(L:vh):List vh->Bool
 | []=>true
 | M::T=>decide (L.2.flatMap uH=yB M)&&ka w (M::T)
theorem Th(L:vh)(R:List vh):ka w (L::R)=(kb w L.1 L.2&&Am w L R):=by
 cases R with
 | nil=>rw[ka,Am,zBN9]
 | cons M R=>rw[ka,Am,Bool.and_assoc]
theorem Ut(bs:LN)(ns:LC)(i:Nat)(b:Nat)(n:zi)(hb:bs[i]?=some b)(hn:ns[i]?=some n):kb w (bs.drop i) (ns.drop i)=(decide (wi (jW w b)=0)&&nV n ns[i+1]? && kb w (bs.drop (i+1)) (ns.drop (i+1))):=by
 obtain⟨h1,rfl⟩:=Yl.1 hb;obtain⟨h2,rfl⟩:=Yl.1 hn;rw[YE h1,YE h2,kb,List.head?_drop]
theorem Sy(ns:LC)(i:Nat)(n:zi)(hn:ns[i]?=some n):(ns.take (i+1)).flatMap uH=(ns.take i).flatMap uH++uH n:=by
 rw[YO,hn,Zj];simp
theorem Ig{ns:LC}(h:∀n∈ns,n.pairs.length<=28):(ns.flatMap uH).length<=29*ns.length:=by
 induction ns with
 | nil=>grind
 | cons n ns a =>
  have h1:=h n (Yp ..);have h2:=a fun m b=>h m (Ys _ b);rw[YT,Yn,Yq];have:(uH n).length=n.pairs.length+1:=rfl;omega
theorem Q8(a b b' p:α):(G++a::b'::l++[p]++q)[(G++a::b::l).length]?=some p:=by simp_all
theorem Q9(a b b' p:α):(G++a::b'::(l++p::q))[(G++a::b::l).length]?=some p:=by grind
theorem O3(hs:vx w.length)(G:LQ)(r2:za)(L:vh)(hLF:aC w L)(tm:Nat->PV)(G3:LQ)(h0:tm 0=wv p w)(h7:tm 7=.ptr G.length 0 0 0 2)(h8:tm 8=.sl (G.length+1) 0 0 0 0 2)(h37:tm 37=.list 0 6 (L.2.map (wb 0)))(h38:tm 38=iv L.2.length)(h39:tm 39=iv 0)(hP:kb w L.1 L.2=false->∀tm' H,Q (.panic (vN 220)) ⟨tm',[],H⟩)(hQ:∀(tm':Nat->PV) (V:LJ) (G4:LQ),kb w L.1 L.2=true->V=(L.2.flatMap uH).map nO->(∀(j b:Nat),L.1[j]?=some b->wi (jW w b)=0)->(∀k,k≠8->k≠10->k≠11->k≠12->k≠14->(k<39\/109<k)->tm' k=tm k)->tm' 8=.sl (G.length+1) V.length 0 V.length (2*V.length) 2->Q .norm ⟨tm',[],G++.row 195 2 0 0 [uw 0 0 L.1 L.2]::.row 265 2 V.length 0 V::r2::G4⟩):
  W ET ET.caught none c137_2 ⟨tm,[],G++.row 195 2 0 0 [uw 0 0 L.1 L.2]::.row 265 2 0 0 []::r2::G3⟩ Q:=by
 unfold c137_2 xC;have a8:=hLF.lv.len;have b2:=hLF.few;refine vo (vG (fun m s=>∃(i:Nat) (V:LJ) (G4:LQ),m=L.2.length-i/\i<=L.2.length/\V=((L.2.take i).flatMap uH).map nO/\kb w L.1 L.2=kb w (L.1.drop i) (L.2.drop i)/\(∀(j b:Nat),j<i->L.1[j]?=some b->wi (jW w b)=0)/\(∀k,k≠8->k≠10->k≠11->k≠12->k≠14->(k<39\/109<k)->s.tm k=tm k)/\s.tm 8=.sl (G.length+1) V.length 0 V.length (2*V.length) 2/\s.tm 39=iv i/\s.df=[]/\s.H=G++.row 195 2 0 0 [uw 0 0 L.1 L.2]::.row 265 2 V.length 0 V::r2::G4) (n:=L.2.length) ?_ ?_)
 .exact⟨0,[],G3,rfl,Yv _,rfl,rfl,fun j b h=>absurd h (Nat.not_lt_zero _),fun k _ _ _ _ _ _=>rfl,h8,h39,rfl,rfl⟩
 .rintro m ⟨tn,df,H⟩ ⟨i,V,G4,rfl,hi,I,u,J,hf,h8',h39',rfl,rfl⟩;dsimp only at hf h8' h39';have a9:=(hf 0 zy zy zy zy zy zy).trans h0;have C:=(hf 7 zy zy zy zy zy zy).trans h7;have ab:=(hf 37 zy zy zy zy zy zy).trans h37;have a5:=(hf 38 zy zy zy zy zy zy).trans h38;refine vJ (vn ab a5 h39') ?_ ?_;rotate_left
  .intro r;have r:¬i<L.2.length:=vZ r;obtain rfl:i=L.2.length:=zo;refine hQ _ V G4 (by rw[u,<- a8,Y9];rfl) (by rw[I,YR]) (fun j b v=>J j b (by have:=(Yl.1 v).1;omega) v) (fun k a e f o d q=>?_) (by simp[zb,h8']);simp(disch:=omega)only[yD]
   grind
  intro r;have r:i<L.2.length:=wa r;obtain⟨x,K⟩:=uM (l:=L.2) r;obtain⟨b,v⟩:∃b,L.1[i]?=some b:=⟨_,Yk zo⟩
  have a6:i<L.1.length:=zo;have bb:(L.2.map (wb 0))[i]?=some (wb 0 x):=wB K;have bm:(L.1.map fun(b:Nat)=>iv (b:Int))[i]?=some (iv b):=wB v;have b3:=(hLF.lv.each b (Yt v)).1;have bo:=iC p w b hs zo;have bp:=Gf p (jW w b) (by unfold jW;simp;omega);rw[Ut w L.1 L.2 i b x v K]at u;have bs:=Ig (ns:=L.2.take i) fun n hn=>(hLF.lv.node (YW hn)).1;rw[YF]at bs;have b4:V.length<=29*L.2.length:=by rw[I,Yw];omega
  have bw:=Sy L.2 i x K;have b5:=(hLF.lv.node (Yt K)).1;refine vP ?_;refine vI (vn ab h39' bb) ?_;refine zB ?_;refine ay ?_ (by simp(disch:=omega)only[go_sem,a9,C,kP,gF,gG,bm,a6]<;>rfl);refine bj bo ?_;refine wg ?_;refine vi bp ?_
  by_cases P:wi (jW w b)=0
  rotate_left
  .have g:¬((wi (jW w b):Nat):Int)=0:=zo;refine vU g ?_;refine vB (pt 220) ?_;exact hP (by rw[u];simp[P]) _ _
  have g:((wi (jW w b):Nat):Int)=0:=zo;refine vU g ?_;refine wj (nf 220) ?_;refine zB ?_;refine zB ?_;refine wX ?_;have M:((i:Int)+1)=((i+1:Nat):Int):=zo;generalize av:G++za.row 195 2 0 0 [uw 0 0 L.1 L.2]::.row 265 2 V.length 0 V::r2::G4=H0;refine xH (Q:=fun y A=>(y=.norm/\nV x L.2[i+1]?=true/\(∀k,k≠8->k≠10->k≠11->k≠12->k≠14->(k<39\/109<k)->A.tm k=tm k)/\A.tm 8=.sl (G.length+1) V.length 0 V.length (2*V.length) 2/\A.tm 11=.ptr H0.length 0 0 0 6/\A.tm 39=iv i/\A.df=[]/\A.H=H0++[.row 143 6 0 0 [wb 0 x]])\/(y=.panic (vN 220)/\nV x L.2[i+1]?=false/\A.df=[])) ?_ ?_
  .have D:∀(t:Nat->PV),(∀k,k≠8->k≠10->k≠11->k≠12->k≠14->(k<39\/109<k)->t k=tn k)->∀k,k≠8->k≠10->k≠11->k≠12->k≠14->(k<39\/109<k)->t k=tm k:=fun t ht k a e f o d q=>(ht k a e f o d q).trans (hf k a e f o d q)
   by_cases bx:x.pairs.length=0
   .have N:¬(0:Int)<(x.pairs.length:Nat):=zo;refine zB ?_;refine zB ?_;refine vF N ?_;refine yO ?_;refine wY (.inl ⟨rfl,?_,D _ (fun k a e f o d q=>by simp(disch:=omega)only[yD]),h8',zt,h39',rfl,rfl⟩);unfold nV;rw[Zc bx];rfl
   have N:(0:Int)<(x.pairs.length:Nat):=zo;subst av
   by_cases R:i+1<L.2.length
   rotate_left
   .have U:¬((i+1:Nat):Int)<(L.2.length:Nat):=zo;refine zB ?_;refine zB ?_;refine wX ?_ (by simp(disch:=omega)only[go_sem,N,U,M,C,kP,gF,gG]<;>rfl);refine yO ?_;refine wY (.inl ⟨rfl,?_,D _ (fun k a e f o d q=>by simp(disch:=omega)only[yD]),h8',zt,h39',rfl,rfl⟩);unfold nV;rw[Za (show L.2.length<=i+1 by omega)];split
    .rename_i h;cases h
    .rfl
   have U:((i+1:Nat):Int)<(L.2.length:Nat):=zo;obtain⟨z,hz⟩:∃z,L.2[i+1]?=some z:=⟨_,Yk R⟩
   have a0:(L.2.map (wb 0))[i+1]?=some (wb 0 z):=wB hz;obtain⟨y,hy⟩:∃y,x.pairs[x.pairs.length-1]?=some y:=⟨_,Yk zo⟩
   have a1:(x.pairs.map pv)[x.pairs.length-1]?=some (pv y):=wB hy;have hq:IntKind.i64.wrap ((x.pairs.length:Int)-1)=((x.pairs.length-1:Nat):Int):=yw;have a2:x.pairs.length-1<x.pairs.length:=zo;have a3:nV x L.2[i+1]?=decide (y.1<z.low):=by unfold nV;rw[Z4,hy,hz]
   refine zB ?_;refine zB ?_;refine wX ?_ (by simp(disch:=omega)only[go_sem,N,U,M,C,kP,gF,gG]<;>rfl);refine uF ?_;refine ua ?_
   by_cases B:y.1<z.low
   .have X:(y.1:Int)<(z.low:Nat):=zo;refine eo (nf 220) ?_ (by simp(disch:=omega)only[go_sem,C,kP,gF,gG,hq,a1,a2,M,a0,R,X]<;>rfl);refine MN C ?_;refine gm ?_;refine .inl ⟨rfl,by rw[a3];simp[B],D _ (fun k a e f o d q=>?_),h8',?_,h39',rfl,rfl⟩
    .simp(disch:=first|omega|simp)only[qu,yD]
    .simp[qu,zb]
   .have X:¬(y.1:Int)<(z.low:Nat):=zo;refine Yi (pt 220) ?_ (by simp(disch:=omega)only[go_sem,C,kP,gF,gG,hq,a1,a2,M,a0,R,X]<;>rfl);exact .inr ⟨rfl,by rw[a3];simp[B],rfl⟩
  rintro y ⟨tq,df,H⟩ (⟨rfl,B,a4,ad,S,Z,rfl,rfl⟩|⟨rfl,B,rfl⟩);rotate_left
  .exact hP (by rw[u];simp[B]) _ _
  dsimp only at a4 ad S Z;subst av;have b0:(V.length+1)*17<=140737488355328:=zo;refine zB ?_;refine wX ?_ (by simp(disch:=omega)only[go_sem,ad,S,kP,gF,gG,xc,uY,uZ,nB,nC,yN,b0]<;>rfl);refine zB ?_;refine zB ?_;refine wX ?_ (by simp(disch:=omega)only[go_sem,S,Q8,Q9]<;>rfl);simp only[YI,Yy,YC];obtain⟨O,T⟩:∃O,O=V++[nO (x.low,x.left)]:=⟨_,rfl⟩
  have a7:V.length+1=O.length:=by rw[T];simp
  rw[<- T,a7];refine O4 G _ r2 O x.pairs zo _ _ (by simp[zb]) (by simp[zb]) (by simp[zb]) (by simp[zb]) (fun tm' V2 G5 b1 D h8=>?_);have ah:tm' 39=iv i:=(D 39 zy zy zy).trans (by simp[zb,Z]);refine vu ah ?_;refine⟨_,?m,i+1,V2,?G6,rfl,r,?I,?u,?J,?hf,zu h8,by simp[zb,ah],zt,?H⟩
  case m=>omega
  case I=>rw[b1,T,I,bw];simp[uH]
  case u=>rw[u,B];simp[P]
  case J =>
   intro j c hj Y;rcases ZW j i with h|h
   .exact J j c h Y
   .obtain rfl:j=i:=zo;rw[v]at Y;cases Y;exact P
  case hf =>
   intro k a e f o d q;simp(disch:=omega)only[yD];rw[D k a d zo];simp(disch:=omega)only[yD];exact a4 k a e f o d q
  case H=>rfl


theorem f137:ET.funcs.get 137=some T137:=eG _ func137
theorem CV{l:LN}(h:wi l=0)(hl:0<(headN l).level):∀x∈uH (headN l),x.2<2048:=by
 have a:=tH h;unfold wi at h;rw[if_pos a]at h;have b:nZ l=true:=by grind
 unfold nZ at b;rw[Yr,ZA,zBJ9]at b;intro x c;rcases YA.1 c with rfl|c
 .unfold headB at a;rw[Yr,YZ]at a;have h3:=a.2 3 zy;have e:(headN l).level=kS (l.getD 0 0):=by unfold headN;rfl
  have f:(headN l).left=l.getD 3 0:=by unfold headN;rfl
  rw[yK,<- e,<- f]at h3;simp only[Z6,Yr,decide_eq_true_eq]at h3;rcases h3 with⟨h3,_⟩|⟨_,h3⟩
  .omega
  .exact((eR _).1 h3).2
 .have:=b.2 x c;have d:uT (headN l) x=true:=by simpa using this
  unfold uT at d;rw[if_neg zo,Yr]at d;exact((eR _).1 d.1).2
def A6(w:LN)(a:Int):FE:=if uK w.length a=true then if(vK w a.toNat).2=true then if pz w (vK w a.toNat).1=true then .ret (yJ (vK w a.toNat).1)else .panic (vN 220)else .panic (vN 220)else .panic (vN 2)
theorem WX(a:Int)(hs:vx w.length)(hwl:w.length<=131072)(T:List vh)(hl:FR 108 [wv p w,iv a] (yJ T))(f1:∀L∈T,aC w L)(f2:∀L∈T.dropLast,cL L)(f3:T ≠ [])(f5:T.length<=14):
  FN ET 137 [wv p w,iv a] (if pz w T=true then .ret (yJ T)else .panic (vN 220)):=by
 refine qv f137 ?_ ?_
 .split
  .exact CZ _
  .exact .iface (.int _ _)
 have bad:pz w T=false->(if pz w T=true then FE.ret (yJ T)else .panic (vN 220))=.panic (vN 220):=fun h=>by grind
 obtain⟨c,R,rfl⟩:∃c R,T=c::R:=by
  cases T with
  | nil=>grind
  | cons a l=>grind
 have B:(List.map (fun L=>uw 0 0 L.1 L.2) (c::R))[0]?=some (uw 0 0 c.1 c.2):=rfl;obtain⟨z,A⟩:∃z:zi,(c.2.map (wb 0))[0]?=some (wb 0 z)/\EB (c::R)=decide (z.sib=0):=by
  have:=(f1 c (Yp ..)).ne;obtain⟨bs,ns⟩:=c
  cases ns with
  | nil=>grind
  | cons n ns=>exact⟨n,rfl,rfl⟩
 obtain⟨A,Y⟩:=A;refine wN hl ?_;have O:0<c.2.length:=Zq.2 (f1 c (Yp ..)).ne;have P:0<R.length+1:=Zt _
 by_cases U:z.sib=0
 rotate_left
 .have g:¬(z.sib:Int)=0:=zo;refine vp (wc B A O P g) ?_;refine vB (pt 220) ?_;exact wG (by rw[bad (by unfold pz;grind)])
 have g:(z.sib:Int)=0:=zo;refine vp (wc B A O P g) ?_;refine wj (nf 220) ?_;refine vI B ?_;have X:pz w (c::R)=ka w (c::R):=by unfold pz;rw[Y,U];rfl
 rw[X]at bad⊢;clear X Y B A O P g U f3;have cb:(c::R).length=R.length+1:=rfl;generalize c::R=T at *
 refine vo (vG (fun m s=>∃(n:Nat) (G:LQ),m=T.length-n/\n<=T.length/\ka w T=ka w (T.drop n)/\s.tm 0=wv p w/\s.tm 5=yJ T/\s.tm 29=yJ T/\s.tm 30=iv T.length/\s.tm 31=iv n/\s.df=[]/\s.H=G) (n:=T.length) ?_ ?_)
 .exact⟨0,_,rfl,by omega,rfl,zt,zt,zt,by simp[zb];omega,zt,rfl,rfl⟩
 .rintro m ⟨tm,df,G⟩ ⟨n,G',rfl,hn,hls,h0,h5,h29,h30,h31,rfl,rfl⟩;dsimp only at *
  refine vJ (vn h29 h30 h31) ?_ ?_;rotate_left
  .intro f;have f:¬n<T.length:=vZ f;obtain rfl:n=T.length:=zo;refine uf h5 ?_;rw[Y9]at hls;rw[hls];exact zf.list _ _ _
  intro f;have f:n<T.length:=wa f;obtain⟨L,J⟩:=uM (l:=T) f;have a3:(T.map fun L=>uw 0 0 L.1 L.2)[n]?=some (uw 0 0 L.1 L.2):=wB J;have t:=f1 L (Yt J);have a4:T.drop n=L::T.drop (n+1):=aw J;rw[a4,Th]at hls;have cc:=t.lv.len;have ab:=t.few;refine vP ?_;refine vI (vn h29 h31 a3) ?_;refine kp 265 2 (i:=8) rfl ?_;refine kp 265 2 (i:=9) rfl ?_;simp only[ya,Yn,Yq,YK,Y6,YI,Yy,YC];(repeat(first|refine vj ?_|refine wX ?_ (by simp(disch:=omega)only[go_sem,kP]<;>rfl)));refine O3 p w hs G _ L t _ [] (by simp[zb,h0]) (by simp[zb]) (by simp[zb]) (by simp[zb]) (by simp[zb]) (by simp[zb]) (fun hf d H=>?_) (fun d V G4 a5 hV a6 k h8=>?_)
  .exact wG (by grind)
  rw[a5,ZH]at hls;have a7:d 0=wv p w:=(k 0 zy zy zy zy zy zy).trans (by simp[zb,h0]);have u:d 5=yJ T:=(k 5 zy zy zy zy zy zy).trans (by simp[zb,h5]);have C:d 6=iv n:=(k 6 zy zy zy zy zy zy).trans (by simp[zb]);have a8:d 9=.sl (G.length+2) 0 0 0 0 2:=(k 9 zy zy zy zy zy zy).trans (by simp[zb]);have ad:d 29=yJ T:=(k 29 zy zy zy zy zy zy).trans (by simp[zb,h29]);have ah:d 30=iv T.length:=(k 30 zy zy zy zy zy zy).trans (by simp[zb,h30]);have av:d 31=iv n:=(k 31 zy zy zy zy zy zy).trans (by simp[zb,h31]);have hq:IntKind.i64.wrap ((T.length:Int)-1)=((T.length-1:Nat):Int):=yw
  by_cases b7:n+1=T.length
  .have g:((n:Nat):Int)=(T.length-1:Nat):=zo;have a9:T.drop (n+1)=[]:=Z2 zo;rw[a9]at hls;refine zB ?_;refine zB ?_;refine vF (wd u C hq g) ?_;refine wA ?_ ?_;rotate_left
   .intro h;simp at h
   intro _;refine eE ?_;refine uf u ?_;rw[hls];exact zf.list _ _ _
  have g:¬((n:Nat):Int)=(T.length-1:Nat):=zo;obtain⟨M,K⟩:∃M,T[n+1]?=some M:=⟨_,Yk zo⟩
  have Z:T.drop (n+1)=M::T.drop (n+1+1):=by rw[YE (show n+1<T.length by omega)];obtain⟨_,e⟩:=Yl.1 K;rw[e]
  have D:=f1 M (Yt K);have bb:(T.map fun L=>uw 0 0 L.1 L.2)[n+1]?=some (uw 0 0 M.1 M.2):=wB K;have bm:n+1<T.length:=zo;have e1:((n:Int)+1)=((n+1:Nat):Int):=zo;have bo:cL L:=f2 L (by
   have:T.dropLast[n]?=some L:=by rw[List.getElem?_dropLast,if_pos zo];exact J
   exact Yt this)
  have bp:∀x∈L.2.flatMap uH,x.2<2048:=fun x o=>by
   obtain⟨y,Q,o⟩:=YG.1 o;have bw:=bo y Q;rw[t.lv.is]at Q;obtain⟨b,hb,rfl⟩:=Yx.1 Q;obtain⟨j,hj⟩:=ZI.1 hb;exact CV (a6 j b hj) bw x o
  have bx:V=(L.2.flatMap uH).map cv:=by
   rw[hV];exact Zh fun x o=>PW (by have:=bp x o;omega)
  rw[Z,Am]at hls;refine zB ?_;refine zB ?_;refine vF (wd u C hq g) ?_;refine wA ?_ ?_
  .intro h;simp at h
  intro _;refine uL ?_;refine zB ?_;refine zB ?_;refine vF (wc u C e1 bb bm) ?_;refine O5 G _ _ T M n zo K D.lv.len D.few _ _ (by simp[zb,u]) (by simp[zb,C]) (by simp[zb,a8]) (by simp[zb]) (by simp[zb]) (by simp[zb]) (fun yN q G5 b0 r h9=>?_);have b1:yN 8=.sl (G.length+1) V.length 0 V.length (2*V.length) 2:=(r 8 zy zy zy zy).trans (by simp[zb,h8]);have ch:=Ig (ns:=L.2) fun n hn=>(t.lv.node hn).1;have ab:=t.few;have ca:=D.few;have ck:(yB M).length=M.2.length:=by unfold yB;simp[D.lv.len]
  have b2:=Qw 1 1 (L.2.flatMap uH) (yB M) zo zo;have S:∀l:LP,∀v∈(l.map cv).flatMap PV.cells,vL v:=fun l v N=>by
   obtain⟨x,o,N⟩:=YG.1 N;obtain⟨y,_,rfl⟩:=Yx.1 o;simp[PV.cells]at N;rcases N with rfl|rfl<;>exact .int _ _
  have b3:zf (G++za.row 195 2 0 0 [uw 0 0 L.1 L.2]::.row 265 2 V.length 0 V::.row 265 2 q.length 0 q::G5) 1 (.sl (G.length+1) V.length 0 V.length (2*V.length) 2) (eX 1 (L.2.flatMap uH)):=by
   rw[bx];exact zf.wh (xc G _ _ _) rfl (by simp) (by simp) uo (S _)
  have b4:zf (G++za.row 195 2 0 0 [uw 0 0 L.1 L.2]::.row 265 2 V.length 0 V::.row 265 2 q.length 0 q::G5) 1 (.sl (G.length+2) q.length 0 q.length (2*q.length) 2) (eX 1 (yB M)):=by
   rw[b0];exact zf.wh (bU G _ _ _ _) rfl (by simp) (by simp) uo (S _)
  refine pC ?_;refine vU (jX b1 h9) ?_;refine pc (caps:=?_) (vs:=?_) ?_ ?_ b2 ?_ ?_;rotate_left 2;(first|rfl|(simp only[zX,qi,go_sem]<;>rfl));(simp only[go_sem]<;>rfl)
  .exact⟨b3,b4,trivial⟩
  by_cases I:L.2.flatMap uH=yB M
  rotate_left
  .rw[decide_eq_false I];refine wg ?_;refine vB (pt 220) ?_;exact wG (by rw[bad (by rw[hls];simp[I])])
  rw[decide_eq_true I,ZH]at hls;rw[decide_eq_true I];refine wg ?_;refine vi (nf 220) ?_;refine zK ?_;have b5:yN 5=yJ T:=(r 5 zy zy zy zy).trans (by simp[zb,u]);have b6:yN 0=wv p w:=(r 0 zy zy zy zy).trans (by simp[zb,a7]);have a0:yN 29=yJ T:=(r 29 zy zy zy zy).trans (by simp[zb,ad]);have a1:yN 30=iv T.length:=(r 30 zy zy zy zy).trans (by simp[zb,ah]);have a2:yN 31=iv n:=(r 31 zy zy zy zy).trans (by simp[zb,av]);refine vu (jX a2 e1) ?_;refine⟨_,?m,n+1,_,rfl,f,by rw[hls,Z],by simp[zb,b6],by simp[zb,b5],by simp[zb,a0],by simp[zb,a1],zt,rfl,rfl⟩
  case m=>omega
theorem K8(a:Int)(hs:vx w.length):FN ET 137 [wv p w,iv a] (A6 w a):=by
 have b:=tu p w a hs;unfold fy at b;unfold A6
 by_cases c:uK w.length a=true
 rotate_left
 .rw[if_neg c]at b⊢;refine qv f137 (.iface (.int _ _)) ?_;refine wu ?_;refine vB b ?_;(try(refine .iface ?_;exact .int _ _))
 rw[if_pos c]at b⊢;have e:=(iY _ _).1 c
 by_cases d:(vK w a.toNat).2=true
 rotate_left
 .rw[if_neg d]at b⊢;refine qv f137 (.iface (.int _ _)) ?_;refine wu ?_;refine vB b ?_;(try(refine .iface ?_;exact .int _ _))
 rw[if_pos d]at b⊢;obtain⟨f1,f2,f3,f4,f5⟩:=li (w:=w) (T:=(vK w a.toNat).1) zo a.toNat (by grind);exact WX p w a hs zo _ b f1 f2 f3 f5
def B3(w:LN)(a:Int):Nat:=if uK w.length a=true then if(vK w a.toNat).2=true then if pz w (vK w a.toNat).1=true then 0 else 220 else 220 else 2


theorem Qb:((1:Int)=0)=False:=eq_false zy
def nt:LB->Nat->Bool
 | none,_=>true
 | some k,n=>decide (k<n)
def gT(seen:LN)(pk:LB)(x:Pr):Bool:=decide (1<=x.2)&&decide (x.2<=1099511627776) && !seen.contains x.2&&nt pk x.1
def iD:LN->LB->LP->Bool
 | _,_,[]=>true
 | seen,pk,x::l=>gT seen pk x&&iD (x.2::seen) (some x.1) l
theorem JC:∀(l:LP) (seen:LN) (pk:LB),iD seen pk l=true↔(xr seen l=true/\(∀p∈l,1<=p.2/\p.2<=1099511627776)/\vz l=true/\(∀x,l.head?=some x->nt pk x.1=true))
 | [],_,_=>⟨fun _=>⟨rfl,by simp,rfl,by simp⟩,fun _=>rfl⟩
 | x::l,seen,pk=>by
  rw[iD,Yr,JC l,xr,Yr];unfold gT;have a:vz (x::l)=true↔vz l=true/\∀y,l.head?=some y->nt (some x.1) y.1=true:=by
   cases l with
   | nil=>simp[vz]
   | cons y l=>rw[vz,Yr];simp[nt,and_comm]
  grind
theorem UG(l:LP):iD [] none l=okP l:=by
 rw[Bool.eq_iff_iff,JC,oQ,af]
 constructor
 .grind
 .rintro ⟨c,a,b⟩;exact⟨⟨a,by simp⟩,b,c,fun _ _=>rfl⟩
def nq(l:LP)(i:Nat):LB:=if i=0 then none else some (l.getD (i-1) (0,0)).1


def xp:LH->LH->Bool
 | _,[]=>true
 | seen,b::l=>decide (1<=b)&&decide (b<2048) && !seen.contains b&&xp (b::seen) l
variable (p:Nat)(l:LP)
theorem JE:∀(l seen:LH),xp seen l=true↔(∀b∈l,1<=b/\b<2048)/\l.Nodup/\∀b∈l,¬b∈seen
 | [],seen=>by simp[xp]
 | b::l,seen=>by
  rw[xp,Yr,Yr,Yr,JE l,decide_eq_true_eq,decide_eq_true_eq,ZA,ZF]
  grind
theorem JF{l:LH}(h:xp [] l=true):∃fr:LN,l=fr.map (fun(b:Nat)=>(b:Int))/\cq fr=true:=by
 rw[JE]at h;obtain⟨h1,h2,_⟩:=h;have a:l=(l.map Int.toNat).map (fun(b:Nat)=>(b:Int)):=by
  rw[zBD9]
  conv=>lhs;rw[<- List.map_id l]
  refine Zh fun b d=>?_
  grind
 refine⟨l.map Int.toNat,a,?_⟩;rw[dF];refine⟨fun b d=>?_,?_⟩
 .obtain⟨c,hc,rfl⟩:=Yx.1 d
  grind
 .rw[a,List.nodup_iff_pairwise_ne,zBL9]at h2;exact h2.imp fun h e=>h (by rw[e])
def mO(mo:za)(seen:LH):Prop:=(mo=.map0/\seen=[])\/∃mm:Int->LS,mo=.mapI .i64 mm/\∀q:Int,mm q=if seen.contains q=true then some (iv 1)else none


@[reducible] def wo (free:LN):LJ:=free.map fun (b:Nat)=>iv (b:Int)
theorem DP(xs:List (Nat×zi)):(xs.flatMap fun x=>py x.1 (uR x.2)).length=64*xs.length:=by
 induction xs with
 | nil=>rfl
 | cons a xs b=>rw[YT,Yn,b,Yq];simp[py,ol];omega
theorem Yj{bs:LN}{L:LC}{i b:Nat}{x:zi}(hb:bs[i]?=some b)(hx:L[i]?=some x):(bs.zip L).take (i+1)=(bs.zip L).take i++[(b,x)]:=by
 have:(bs.zip L)[i]?=some (b,x):=by rw[zAI9];exact⟨hb,hx⟩
 rw[YO,this];rfl


@[reducible] def lI (n:Nat):FE:=.ret (.tuple [iv 0,.list 0 2 (([]:LP).map vm),iv 0,iv n])
@[reducible] def Fw (T:List vh):FE:=.ret (.tuple [iv (dN T),.list 0 2 ((kg T.reverse).map vm),iv (T.reverse.flatMap Prod.fst).length,iv 0])
def mT(l:LP)(fr:LH):FE:=if okP l&&xp [] fr then match mU l (fr.map Int.toNat)with
 | none=>lI 221
 | some T=>Fw T else lI 2
theorem nW:Lb (.list 0 2 (l.map vm)):=.list fun x a=>by
 obtain⟨y,b,a⟩:=YG.1 a;obtain⟨n,_,rfl⟩:=Yx.1 b;simp[PV.cells]at a;rcases a with rfl|rfl<;>exact .int _ _
theorem Lb.four{a b c d:PV}(ha:Lb a)(hb:Lb b)(hc:Lb c)(hd:Lb d):Lb (.tuple [a,b,c,d]):=.tuple fun v e=>by grind
theorem SW(fr:LH):kI (mT l fr):=by
 unfold mT
 split
 .split
  .exact Lb.four (.int _ _) (nW _) (.int _ _) (.int _ _)
  .exact Lb.four (.int _ _) (nW _) (.int _ _) (.int _ _)
 .exact Lb.four (.int _ _) (nW _) (.int _ _) (.int _ _)


theorem cz(x:Nat):FR 122 [iv 0,uv x] (.bool (decide (1<=x)&&decide (x<=1099511627776))):=by
 refine qv (eG T122 func122) (.bool _) ?_;refine zG ?_;refine zB ?_;refine uF ?_
 by_cases c:1<=x
 .have a:(1:Int)<=x:=zo
  by_cases d:x<=1099511627776
  .have b:(x:Int)<=1099511627776:=zo;refine uf (jX a b) ?_;exact va.bool (by grind)
  .have b:¬(x:Int)<=1099511627776:=zo;refine uf (jX a b) ?_;exact va.bool (by grind)
 .have a:¬(1:Int)<=x:=zo;refine uf a ?_;exact va.bool (by simp[c])
theorem Ur(n:Nat)(hn:n<=500):FR 74 [iv n] (iv (cj n:Nat)):=by
 refine qv (eG T74 func74) (.int _ _) ?_;have d:IntKind.i64.wrap (((n:Int)+17).tdiv 18)=(((n+17)/18:Nat):Int):=by rw[show (n:Int)+17=((n+17:Nat):Int) by omega,IntWalk.i64_quo _ _ zo];omega
 have f:max (1:Int) (((n+17)/18:Nat):Int)=((max 1 ((n+17)/18):Nat):Int):=zo;refine vI (jX d f) ?_;refine vo (vG (fun m s=>∃(t m' c:Nat),m=m'/\t<=2/\1<=m'/\m'<=bndL t/\c<=10000*(t+1)/\cj n+m'=c+dX (4-t) m'/\s.tm 3=iv m'/\s.tm 4=iv c/\s.df=[]/\s.H=[]) (n:=max 1 ((n+17)/18)) ?_ ?_)
 .exact⟨0,_,_,rfl,by decide,by omega,by simp[bndL];omega,by omega,ZQ _ _,zt,zt,rfl,rfl⟩
 .rintro m ⟨tm,df,H⟩ ⟨t,m',c,rfl,ht,h1,a,hc,hn,h3,h4,rfl,rfl⟩;dsimp only at h3 h4;refine vJ (jX h3 h4) ?_ ?_
  .intro b;have b:1<m:=wa b;have g:IntKind.i64.wrap (((m:Int)+18).tdiv 19)=(((m+18)/19:Nat):Int):=by
    have:m<=28:=YY a (by match t with|0=>decide|1=>decide|t+2=>exact(show 1<=28 by decide));rw[show (m:Int)+18=((m+18:Nat):Int) by omega,IntWalk.i64_quo _ _ zo];omega
   have i:m<=28:=YY a (by match t with|0=>decide|1=>decide|t+2=>exact(show 1<=28 by decide));have h:IntKind.i64.wrap ((c:Int)+(((m+18)/19:Nat):Int))=((c+(m+18)/19:Nat):Int):=yw;refine vP ?_;refine zB ?_;refine zB ?_;refine vF (jX h3 g) ?_;refine vu (vn h3 h4 h) ?_;refine⟨(m+18)/19,by omega,t+1,(m+18)/19,c+(m+18)/19,rfl,?_,by omega,?_,by omega,?_,zt,zt,zt,zt⟩
   .match t,ht,a with
    | 0,_,_=>decide
    | 1,_,_=>decide
    | 2,_,a=>simp[bndL]at a;omega
   .match t,ht,a with
    | 0,_,a=>simp[bndL]at a⊢;omega
    | 1,_,a=>simp[bndL]at a⊢;omega
    | 2,_,a=>simp[bndL]at a;omega
   .have e:4-t=(4-(t+1))+1:=zo;rw[e,dX,if_neg zo]at hn;omega
  .intro b;have b:¬1<m:=vZ b;obtain rfl:m=1:=zo;refine uf h4 ?_;have e:4-t=(3-t)+1:=zo;rw[e,dX,if_pos rfl]at hn;have:cj n=c:=zo;rw[this];exact zf.int _ _
theorem JD:∀(l s t:LH),(∀b,b∈s↔b∈t)->xp s l=xp t l
 | [],_,_,_=>rfl
 | b::l,s,t,h=>by
  rw[xp,xp,JD l (b::s) (b::t) fun c=>by grind]
  grind
theorem Ox(l:LH)(hl:l.length<1000000):FR 73 [.list p 1 (l.map iv)] (.bool (xp [] l)):=by
 refine qv (eG T73 func73) (.bool _) ?_;refine zG ?_;refine vo (vG (fun m s=>∃i:Nat,m=l.length-i/\i<=l.length/\xp [] l=xp (l.take i) (l.drop i)/\s.tm 0=.list p 1 (l.map iv)/\s.tm 3=iv i/\s.df=[]/\s.H=[]) (n:=l.length) ?_ ?_)
 .exact⟨0,by simp[zb,zr]⟩
 .rintro m ⟨tm,df,H⟩ ⟨i,rfl,hi,hd,h0,h3,rfl,rfl⟩;dsimp only at h0 h3;refine vJ (jX h0 h3) ?_ ?_;rotate_left
  .intro a;have a:¬i<l.length:=vZ a;obtain rfl:i=l.length:=zo;refine zO ?_;refine va.bool ?_;rw[hd,Y9];rfl
  intro a;have a:i<l.length:=wa a;obtain⟨x,g⟩:=uM (l:=l) a;have d:(l.map iv)[i]?=some (iv x):=wB g;have k:l.drop i=x::l.drop (i+1):=aw g;rw[k,xp]at hd;have o:i<=l.length:=hi;have q:(l.map iv).take i=(l.take i).map iv:=by rw[ZY]
  have j:=HE p (l.take i) x (by grind);refine vP ?_;refine wH ?_
  by_cases c:x<1
  .refine bC (by first|exact trivial|simp only[go_sem,h0,h3,d,a,c]) (by simp(disch:=omega)only[go_sem,h0,h3,d,c]<;>rfl) rfl (by simp only[go_sem,c]<;>rfl) (by simp only[go_sem]<;>rfl) ?_;refine vq h0 ?_;refine wA ?_ ?_
   .intro _;refine zO ?_;refine va.bool ?_
    grind
   .intro h;cases h
  by_cases f:2047<x
  .refine bC (by first|exact trivial|simp only[go_sem,h0,h3,d,a,c,f]) (by simp(disch:=omega)only[go_sem,h0,h3,d,c,f]<;>rfl) rfl (by simp only[go_sem,f]<;>rfl) (by simp only[go_sem]<;>rfl) ?_;refine vq h0 ?_;refine wA ?_ ?_
   .intro _;refine zO ?_;refine va.bool ?_
    grind
   .intro h;cases h
  refine wD (ax h0 h3 d a o c f q) j ?_;refine vq h0 ?_
  by_cases e:(l.take i).contains x=true
  .refine bn e ?_ ?_
   .intro _;refine zO ?_;refine va.bool ?_
    grind
   .intro h;cases h
  have e:(l.take i).contains x=false:=by simpa using e
  refine ML e ?_;refine wY ?_;refine vu h3 ?_;refine⟨_,?m,i+1,rfl,a,?_,zu h0,zu h3,zt,zt⟩
  case m=>omega
  rw[hd,e];have:l.take (i+1)=l.take i++[x]:=by rw[YO,g];rfl
  rw[this,JD _ (x::l.take i) (l.take i++[x]) fun b=>by grind]
  grind
theorem Wa(hl:l.length<1000000):FR 72 [vO p l] (.bool (okP l)):=by
 refine qv (eG T72 func72) (.bool _) ?_;refine zG ?_;refine vo (vG (fun m s=>∃(i:Nat) (seen:LN) (mo:za),m=l.length-i/\i<=l.length/\rN mo seen/\okP l=iD seen (nq l i) (l.drop i)/\s.tm 0=vO p l/\s.tm 3=.map 0/\s.tm 4=iv i/\s.df=[]/\s.H=[mo]) (n:=l.length) ?_ ?_)
 .exact⟨0,[],.map0,rfl,Yv _,.inl ⟨rfl,rfl⟩,(UG l).symm,zt,zt,zt,rfl,rfl⟩
 .rintro m ⟨tm,M,H⟩ ⟨i,seen,mo,rfl,hi,hs,hd,a,h3,h4,rfl,rfl⟩;dsimp only at a h3 h4;refine vJ (jX a h4) ?_ ?_;rotate_left
  .intro b;have b:¬i<l.length:=vZ b;obtain rfl:i=l.length:=zo;refine zO ?_;refine va.bool ?_;rw[hd,Y9];rfl
  intro b;have b:i<l.length:=wa b;obtain⟨x,D⟩:=uM (l:=l) b;have e:(l.map pv)[i]?=some (pv x):=wB D;have K:l.drop i=x::l.drop (i+1):=aw D;rw[K,iD]at hd;have L:some x.1=nq l (i+1):=by unfold nq;rw[if_neg zo,ZM,Yu,D];rfl
  rw[L]at hd;refine vP ?_;refine zB ?_;refine xH (Q:=fun y w=>y=.norm/\w.tm 46=.bool (!gT seen (nq l i) x)/\w.tm 0=vO p l/\w.tm 3=.map 0/\w.tm 4=iv i/\w.df=[]/\w.H=[mo]) (ua ?_) ?_
  .by_cases c:(decide (1<=x.2)&&decide (x.2<=1099511627776))=true
   rotate_left
   .have c:(decide (1<=x.2)&&decide (x.2<=1099511627776))=false:=by simpa using c
    refine wD (uN a h3 h4 e b c) (cz x.2) ?_;refine vq (uN a h3 h4 e b c) ?_;exact⟨by simp[gT,c],a,h3,h4⟩
   have u:1<=x.2:=by simp at c;exact c.1
   have v:x.2<=1099511627776:=by simp at c;exact c.2
   by_cases I:i=0
   .subst I;rcases hs with⟨rfl,rfl⟩|⟨J,rfl,A⟩
    .skip
     refine wD (uN a h3 h4 e b c) (cz x.2) ?_;refine vq (uN a h3 h4 e b c) ?_;exact⟨by simp[gT,u,v,nq,nt],a,h3,h4⟩
    .have d:=A x.2
     by_cases k:seen.contains x.2=true
     .rw[if_pos k]at d;have t:x.2∈seen:=by simpa using k
      refine wD (uc a h3 h4 e b c d) (cz x.2) ?_;refine vq (uc a h3 h4 e b c d) ?_;exact⟨by simp[gT,u,v,nq,nt,t],a,h3,h4⟩
     .rw[if_neg k]at d;have t:¬x.2∈seen:=by simpa using k
      refine wD (uc a h3 h4 e b c d) (cz x.2) ?_;refine vq (uc a h3 h4 e b c d) ?_;exact⟨by simp[gT,u,v,nq,nt,t],a,h3,h4⟩
   have o:(0:Int)<(i:Int):=zo;have r:IntKind.i64.wrap ((i:Int)-1)=((i-1:Nat):Int):=yw;have g:i-1<l.length:=zo;have j:(l.map pv)[i-1]?=some (pv (l.getD (i-1) (0,0))):=by rw[YH,get_lt l g];rfl
   have z:nq l i=some (l.getD (i-1) (0,0)).1:=by unfold nq;rw[if_neg I]
   generalize l.getD (i-1) (0,0)=pr at j z
   by_cases C:pr.1<x.1
   .have f:¬((x.1:Nat):Int)<=(pr.1:Nat):=zo;rcases hs with⟨rfl,rfl⟩|⟨J,rfl,A⟩
    .skip
     refine wD (nH a h3 h4 e b c o r g j f) (cz x.2) ?_;refine vq (nH a h3 h4 e b c o r g j f) ?_;exact⟨by simp[gT,u,v,z,nt,C],a,h3,h4⟩
    .have d:=A x.2
     by_cases k:seen.contains x.2=true
     .rw[if_pos k]at d;have t:x.2∈seen:=by simpa using k
      refine wD (xB a h3 h4 e b c o r g j f d) (cz x.2) ?_;refine vq (xB a h3 h4 e b c o r g j f d) ?_;exact⟨by simp[gT,u,v,z,nt,C,t],a,h3,h4⟩
     .rw[if_neg k]at d;have t:¬x.2∈seen:=by simpa using k
      refine wD (xB a h3 h4 e b c o r g j f d) (cz x.2) ?_;refine vq (xB a h3 h4 e b c o r g j f d) ?_;exact⟨by simp[gT,u,v,z,nt,C,t],a,h3,h4⟩
   .have f:((x.1:Nat):Int)<=(pr.1:Nat):=zo;refine wD (nH a h3 h4 e b c o r g j f) (cz x.2) ?_;refine vq (nH a h3 h4 e b c o r g j f) ?_;exact⟨by simp[gT,u,v,z,nt,C],a,h3,h4⟩
  clear a h3 h4;rintro y ⟨tm,M,H⟩ ⟨rfl,G,a,h3,h4,rfl,rfl⟩;dsimp only at *
  by_cases B:gT seen (nq l i) x=true
  rotate_left
  .have B:gT seen (nq l i) x=false:=by simpa using B
   refine bn G ?_ ?_
   .intro _;refine zO ?_;refine va.bool ?_
    grind
   .rw[B];intro h;cases h
  rw[B,ZH]at hd;refine bn G ?_ ?_
  .rw[B];intro h;cases h
  intro _;refine uL ?_;rcases hs with⟨rfl,rfl⟩|⟨J,rfl,A⟩
  .refine vu (wc a h3 h4 e b) ?_;refine vu h4 ?_;refine⟨_,?N,i+1,[x.2],_,rfl,b,.inr ⟨_,rfl,fun q=>?_⟩,hd,zu a,zu h3,zu h4,rfl,rfl⟩
   case N=>omega
   by_cases d:q=x.2
   .subst d;simp
   .have:¬(q:Int)=x.2:=zo;simp[d,this]
  .refine vu (wc a h3 h4 e b) ?_;refine vu h4 ?_;refine⟨_,?O,i+1,x.2::seen,_,rfl,b,.inr ⟨_,rfl,fun q=>?_⟩,hd,zu a,zu h3,zu h4,rfl,rfl⟩
   case O=>omega
   by_cases d:q=x.2
   .subst d;simp
   .have:¬(q:Int)=x.2:=zo;rw[if_neg this,A q];simp[d]


theorem Yc(n:zi)(h1:n.level<=12)(h2:n.sib<2048)(h3:n.way<=2)(hp:n.pairs.length<=27):FR 75 [wb p n] (wv 0 (uR n)):=by
 refine qv (eG T75 func75) (Lb.uvs _) ?_;have b:(7522529147838689024:Int)+(n.level:Int)=((7522529147838689024+n.level:Nat):Int):=zo;have g:∀k,k<64->∃v,((uu n k).map uv)[k]?=some v:=fun k i=>⟨_,Yk (by rw[Yw,CA];exact i)⟩
 have s:∀k,(uu n (k+1)).map uv=((uu n k).map uv).set k (uv (DD k n)):=fun k=>by rw[show uu n (k+1)=(uu n k).set k (DD k n)from rfl,zAO9]
 obtain⟨Z,o⟩:=g 0 zy;obtain⟨v1,r⟩:=g 1 zy;obtain⟨v2,t⟩:=g 2 zy;obtain⟨v3,u⟩:=g 3 zy;obtain⟨v4,w⟩:=g 4 zy;have y:((uu n 0).map uv).set 0 (.int .u64 ((7522529147838689024+n.level:Nat):Int))=(uu n 1).map uv:=(s 0).symm;have z:((uu n 1).map uv).set 1 (.int .u64 (n.sib:Int))=(uu n 2).map uv:=(s 1).symm;have A:((uu n 2).map uv).set 2 (.int .u64 (n.low:Int))=(uu n 3).map uv:=(s 2).symm;have B:((uu n 3).map uv).set 3 (.int .u64 (n.left:Int))=(uu n 4).map uv:=(s 3).symm;have C:((uu n 4).map uv).set 4 (.int .u64 (n.way:Int))=(uu n 5).map uv:=(s 4).symm;refine zB ?_;refine zI ?_;refine ug ?_;refine zB ?_;refine zI ?_;refine ug ?_;have c:List.replicate 64 (PV.int .u64 0)=(uu n 0).map uv:=by rw[show uu n 0=List.replicate 64 0 from rfl,zCQ9];rfl
 rw[c];generalize T:(uu n 0).map uv=L0 at *
 generalize U:(uu n 1).map uv=L1 at *
 generalize V:(uu n 2).map uv=L2 at *
 generalize X:(uu n 3).map uv=L3 at *
 generalize Y:(uu n 4).map uv=L4 at *
 generalize d:(uu n 5).map uv=L5 at *
 refine wH ?_;refine vS (vn b o y) ?_;refine vS (jX r z) ?_;refine vS (jX t A) ?_;refine vS (jX u B) ?_;refine vS (jX w C) ?_;refine vq b ?_;refine zG ?_;subst d;refine vo (vG (fun m s=>∃(j:Nat) (G:LQ),m=n.pairs.length-j/\j<=n.pairs.length/\s.tm 1=.ptr 0 0 0 0 6/\s.tm 3=.sl 1 0 0 64 128 1/\s.tm 4=iv j/\s.df=[]/\s.H=.row 143 6 0 0 [wb p n]::.row 29 1 0 0 ((xd n j).map uv)::G) (n:=n.pairs.length) ?_ ?_)
 .exact⟨0,_,rfl,Yv _,zt,zt,zt,rfl,rfl⟩
 .rintro m ⟨tm,df,H⟩ ⟨j,G,rfl,hj,t1,t3,t4,rfl,rfl⟩;dsimp only at t1 t3 t4;refine vJ (jX t1 t4) ?_ ?_
  .intro a;have a:j<n.pairs.length:=wa a;have e:(n.pairs.map pv)[j]?=some (pv (n.pairs.getD j (0,0))):=by rw[YH,get_lt _ a];rfl
   obtain⟨D,f⟩:∃old,(xd n j)[8+2*j]?=some old:=⟨_,Yk (by rw[iK];omega)⟩
   obtain⟨I,h⟩:∃old,((xd n j).set (8+2*j) (n.pairs.getD j (0,0)).1)[8+2*j+1]?=some old:=⟨_,Yk (by rw[Y1,iK];omega)⟩
   have J:IntKind.i64.wrap (2*(j:Int))=((2*j:Nat):Int):=yw;have K:IntKind.i64.wrap (8+((2*j:Nat):Int))=((8+2*j:Nat):Int):=yw;have L:IntKind.i64.wrap (9+((2*j:Nat):Int))=((8+2*j+1:Nat):Int):=yw;have M:8+2*j<64:=zo;have N:8+2*j+1<64:=zo;have O:((xd n j).map uv)[8+2*j]?=some (uv D):=wB f;have P:(((xd n j).set (8+2*j) (n.pairs.getD j (0,0)).1).map uv)[8+2*j+1]?=some (uv I):=wB h;have Q:((xd n j).map uv).set (8+2*j) (.int .u64 ((n.pairs.getD j (0,0)).1:Int))=((xd n j).set (8+2*j) (n.pairs.getD j (0,0)).1).map uv:=zAO9.symm;have R:(((xd n j).set (8+2*j) (n.pairs.getD j (0,0)).1).map uv).set (8+2*j+1) (.int .u64 ((n.pairs.getD j (0,0)).2:Int))=(xd n (j+1)).map uv:=zAO9.symm;generalize n.pairs.getD j (0,0)=q at *
   generalize (xd n j).map uv=K0 at *
   generalize ((xd n j).set (8+2*j) q.1).map uv=K1 at *
   refine vP ?_;refine wH ?_;refine vS (mG t1 t3 t4 e J K L M O Q) ?_;refine vS (vn N P R) ?_;refine ek ?_ (by simp(disch:=omega)only[go_sem]<;>rfl);refine gm ?_;simp only[go_sem];refine zB ?_;refine gW t4 ?_;refine km ?_;refine⟨_,?m2,j+1,G,rfl,a,by simp[zb,t1],by simp[zb,t3],by simp[zb],rfl,rfl⟩;omega
  .intro a;have a:¬j<n.pairs.length:=vZ a;obtain rfl:j=n.pairs.length:=zo;(repeat(first|refine vj ?_|refine vF t3 ?_));refine vt (we ?_);refine zf.wh (l:=(xd n n.pairs.length).map uv) rfl rfl (by simp[iK]) (by simp[iK]) (fun v S=>?_) Cs;obtain⟨x,_,rfl⟩:=Yx.1 S;rfl
theorem zf.wM{H:LQ}{lab id e z z' G M o n q:Nat}{l:LJ}(hH:H[id]?=some (.row e z' G M l))(hM:M<=G)(ho:o=0)(hl:n=l.length)(hq:2*l.length<=q)(hz:∀v∈l,v.cells.length=z)(hs:∀v∈l.flatMap PV.cells,vL v) :
  zf H lab (.sl id G o n q z) (.list lab z l):=by
 subst ho hl;refine .sl hH hM (Ym _) zo hq rfl hz (by simp) fun i x y b a=>?_;have:x=y:=by grind
 subst this;exact(hs _ (Yt a)).frz
theorem BH(q:Nat)(w:LN)(l:LP)(hw:0<w.length/\w.length<=1000000)(hl:l.length<10000000):FR 27 [wv p w,.list q 2 (l.map vm)] (wv 0 (jZ w l)):=by
 refine qv (eG T27 func27) (Lb.uvs _) ?_;have r:w.length*9<=140737488355328:=zo;have h:¬w.length=0:=zo;refine vI (jX r h) ?_;refine vo (vG (fun m s=>∃(i M:Nat),m=l.length-i/\i<=l.length/\M<=1/\s.tm 1=.list q 2 (l.map vm)/\s.tm 5=.sl 0 1 0 w.length (2*w.length) 1/\s.tm 6=iv i/\s.df=[]/\s.H=[.row 29 1 1 M ((jZ w (l.take i)).map uv)]) (n:=l.length) ?_ ?_)
 .exact⟨0,0,rfl,Yv _,by decide,zt,zt,zt,rfl,rfl⟩
 .rintro m ⟨tm,df,H⟩ ⟨i,M,rfl,hi,hM,h1,h5,h6,rfl,rfl⟩;dsimp only at h1 h5 h6;have j:=yZ (l.take i) w;refine vJ (jX h1 h6) ?_ ?_;rotate_left
  .intro a;have a:¬i<l.length:=vZ a;obtain rfl:i=l.length:=zo;refine uf h5 ?_;rw[YR]at j⊢;exact zf.wM rfl hM rfl (by grind) (by grind) uo Cs
  intro a;have a:i<l.length:=wa a;obtain⟨x,f⟩:=uM (l:=l) a;have b:(l.map vm)[i]?=some (vm x):=wB f;have e:jZ w (l.take (i+1))=(jZ w (l.take i)).set x.1 x.2:=by
   rw[YO,f,pg];rfl
  have g:(0:Int)<=(x.1:Nat):=ZD _;refine vP ?_
  by_cases k:x.1<w.length
  .have c:((x.1:Nat):Int)<(w.length:Nat):=zo;obtain⟨o,t⟩:∃old,(jZ w (l.take i))[x.1]?=some old:=⟨_,Yk zo⟩
   have u:((jZ w (l.take i)).map uv)[x.1]?=some (uv o):=wB t;have d:((jZ w (l.take i)).map uv).set x.1 (.int .u64 (x.2:Int))=(jZ w (l.take (i+1))).map uv:=by rw[e];exact zAO9.symm
   generalize (jZ w (l.take i)).map uv=K0 at *
   refine zB ?_;refine zB ?_;refine vF (uc h1 h5 h6 b a g c) ?_;refine uF ?_;refine ua ?_;refine vS (bq h1 h5 h6 b a k hM u d) ?_;refine vq h5 ?_;refine vu h6 ?_;refine⟨_,?m,i+1,1,rfl,a,Ym _,zu h1,zu h5,zu h6,rfl,rfl⟩
   case m=>omega
  .have c:¬((x.1:Nat):Int)<(w.length:Nat):=zo;have d:(jZ w (l.take (i+1)))=jZ w (l.take i):=by rw[e,List.set_eq_of_length_le zo]
   refine zB ?_;refine zB ?_;refine vF (uc h1 h5 h6 b a g c) ?_;refine zH ?_;refine vu h6 ?_;refine⟨_,?m,i+1,M,rfl,a,hM,zu h1,zu h5,zu h6,zt,by rw[d]⟩
   case m=>omega


@[reducible] def uU (n:zi) (pvl:PV):PV:=.agg [iv n.level,iv n.sib,uv n.low,uv n.left,iv n.way,pvl]
def cM(H:LQ)(pvl:PV)(ps:LP):Prop:=(pvl=.nilsl/\ps=[])\/∃id g,pvl=.sl id g 0 ps.length (2*ps.length) 2/\H[id]?=some (.row 92 2 g 0 (ps.map pv))
def xJ:PV->LB
 | .sl id _ _ _ _ _=>some id
 | _=>none
structure wR(H:LQ)(vs:LJ)(ps:LJ)(nodes:LC):Prop where
 lenV:vs.length=nodes.length
 lenP:ps.length=nodes.length
 val:∀(q:Nat) (n:zi) (p:PV),nodes[q]?=some n->ps[q]?=some p->vs[q]?=some (uU n p)/\cM H p n.pairs
 dist:∀(q r:Nat) (x y:PV) (a:Nat),ps[q]?=some x->ps[r]?=some y->xJ x=some a->xJ y=some a->q=r
def fm:za->Prop
 | .row e _ _ _ _=>e=92
 | _=>False
variable {H':LQ}{p:PV}{ps:LJ}(lv k:Nat)(ks:LP)(m i c j:Nat)
theorem cM.keep{ps:LP}(h:cM H p ps)(k:∀(id:Nat) (o:za),xJ p=some id->fm o->H[id]?=some o->H'[id]?=some o):cM H' p ps:=by
 rcases h with h|⟨id,g,rfl,h2⟩
 .exact .inl h
 .exact .inr ⟨id,g,rfl,k id _ rfl rfl h2⟩
theorem wR.keep{nodes:LC}(h:wR H vs ps nodes)(k:∀(id:Nat) (o:za),fm o->H[id]?=some o->H'[id]?=some o):wR H' vs ps nodes :=
 ⟨h.lenV,h.lenP,fun q n p a b=>⟨(h.val q n p a b).1,(h.val q n p a b).2.keep fun id o _ c d=>k id o c d⟩,h.dist⟩
theorem wR.nil(H:LQ):wR H [] [] []:=⟨rfl,rfl,fun q n p h=>by simp at h,fun q r x y a h=>by simp at h⟩
theorem wR.snoc{nodes:LC}(h:wR H vs ps nodes)(n:zi)(hn:n.pairs=[]):wR H (vs++[uU n .nilsl]) (ps++[.nilsl]) (nodes++[n]):=by
 refine⟨by simp[h.lenV],by simp[h.lenP],fun q m p b c=>?_,fun q r x y a j k d e=>?_⟩
 .rcases ZW q nodes.length with hq|hq
  .rw[YP hq]at b;rw[YP (by rw[h.lenP];exact hq)]at c;rw[YP (by rw[h.lenV];exact hq)];exact h.val q m p b c
  .rw[YN hq]at b;rw[YN (by rw[h.lenP];exact hq)]at c;rw[YN (by rw[h.lenV];exact hq)];rw[h.lenP]at c;rw[h.lenV];obtain rfl:=YQ.1 (Yt b);obtain rfl:=YQ.1 (Yt c);have l:q-nodes.length=0:=by have:=(Yl.1 b).1;simp at this;omega
   rw[l];exact⟨rfl,.inl ⟨rfl,hn⟩⟩
 .have f:∀(s:Nat) (z:PV),(ps++[PV.nilsl])[s]?=some z->xJ z=some a->ps[s]?=some z:=fun s z g o=>by
   rcases ZW s ps.length with i|i
   .grind
   .rw[YN i]at g;obtain rfl:=YQ.1 (Yt g);simp[xJ]at o
  exact h.dist q r x y a (f q x j d) (f r y k e) d e
theorem wR.last{vf pf:LJ}{front:LC}{v p':PV}{nd nd':zi}(h:wR H (vf++[v]) (pf++[p]) (front++[nd]))(hlv:vf.length=front.length)(hlp:pf.length=front.length)(hp':cM H' p' nd'.pairs)(hd:∀a,xJ p'=some a->xJ p=some a\/H.length<=a)(k:∀(id:Nat) (o:za),fm o->H[id]?=some o->H'[id]?=some o\/xJ p=some id):wR H' (vf++[uU nd' p']) (pf++[p']) (front++[nd']):=by
 have u:(pf++[p])[front.length]?=some p:=by rw[<- hlp];simp
 have d:∀(q:Nat) (x:PV),q<front.length->pf[q]?=some x->(pf++[p])[q]?=some x:=fun q x b c=>by grind
 have J:∀(q:Nat) (x:PV) (a:Nat),q<front.length->pf[q]?=some x->xJ x=some a->a<H.length:=fun q x a b c e=>by
  obtain⟨n,L⟩:=uM (l:=front) b;have:=(h.val q n x (by grind) (d q x b c)).2;rcases this with⟨rfl,_⟩|⟨id,g,rfl,h2⟩
  .simp[xJ]at e
  .simp[xJ]at e;grind
 refine⟨by grind,by grind,fun q m x A c=>?_,fun q r x y a c B e C=>?_⟩
 .rcases ZW q front.length with b|b
  .rw[YP b]at A;rw[YP zo]at c;rw[YP zo];have i:=h.val q m x (by grind) (d q x b c);rw[YP zo]at i;refine⟨i.1,i.2.keep fun id o j D G=>?_⟩;rcases k id o D G with h1|h1
   .exact h1
   .exact absurd (h.dist q front.length x p id (d q x b c) u j h1) zo
  .rw[YN b]at A;rw[YN zo]at c;rw[YN zo]
   grind
 .have w:∀(s:Nat) (z:PV),(pf++[p'])[s]?=some z->(s<front.length/\pf[s]?=some z)\/(s=front.length/\z=p'):=fun s z f=>by
   rcases ZW s front.length with t|t
   .grind
   .rw[YN zo]at f;have M:s-pf.length=0:=by have:=(Yl.1 f).1;simp at this;omega
    grind
  have K:∀(s:Nat) (z:PV),s<front.length->pf[s]?=some z->xJ z=some a->xJ p'=some a->False:=fun s z t f j I=>by
   rcases hd a I with h1|h1
   .exact absurd (h.dist s front.length z p a (d s z t f) u j h1) zo
   grind
  rcases w q x c with⟨h1,h2⟩|⟨h1,h2⟩
  .rcases w r y B with⟨h3,h4⟩|⟨h3,h4⟩
   .exact h.dist q r x y a (d q x h1 h2) (d r y h3 h4) e C
   grind
  grind
theorem Cy(h:j<m)(hm:m<=ks.length):(ks.take m).getD j (0,0)=ks.getD j (0,0):=by grind
theorem Gj(h:k*j+k<=m):((ks.take m).drop (k*j)).take k=(ks.drop (k*j)).take k:=by
 rw[ZZ,zAK9,ZK zo]
theorem Gi(h:m<=k*j+k):((ks.take m).drop (k*j)).take k=(ks.drop (k*j)).take (m-k*j):=by
 rw[ZZ,zAK9,Nat.min_eq_right zo]
def xf(n:zi)(l:LP):zi:={ n with pairs:=l }
def rV(lv i:Nat)(x:Pr)(L:LC):LC:=if i%19=0 then L++[⟨lv,0,x.1,x.2,0,[]⟩]else
 match L.getLast? with
 | some n=>L.dropLast++[xf n (n.pairs++[x])]
 | none=>L
theorem Fe(hm:m<=ks.length)(hc:19*c<=m):(List.range c).map (ma lv (ks.take m))=(List.range c).map (ma lv ks):=by
 refine Zh fun j a=>?_;have a:j<c:=Zm.1 a;unfold ma;rw[Cy ks m _ zo hm,Gj 19 ks m j zo]
theorem NS(hm:m<=ks.length)(h1:19*c<m)(h2:m<=19*c+19):ma lv (ks.take m) c=⟨lv,0,(ks.getD (19*c) (0,0)).1,(ks.getD (19*c) (0,0)).2,0,((ks.drop (19*c)).take (m-19*c)).drop 1⟩:=by
 unfold ma;rw[Cy ks m _ h1 hm,Gi 19 ks m c h2]
theorem BA(hm:m<=ks.length)(h1:19*c<m)(h2:m<=19*c+19):xb lv (ks.take m)=(List.range c).map (ma lv ks)++[⟨lv,0,(ks.getD (19*c) (0,0)).1,(ks.getD (19*c) (0,0)).2,0,((ks.drop (19*c)).take (m-19*c)).drop 1⟩]:=by
 unfold xb;have:(eW 19 (ks.take m)).length=c+1:=by rw[lN,YF,ZK hm];omega
 rw[this,Zw,YJ,Fe lv ks m c hm zo];simp only[YL,ZU];rw[NS lv ks m c hm h1 h2]
theorem NW(hi:i<ks.length):xb lv (ks.take (i+1))=rV lv i (ks.getD i (0,0)) (xb lv (ks.take i)):=by
 unfold rV
 by_cases h:i%19=0
 .rw[if_pos h];obtain⟨c,rfl⟩:∃c,i=19*c:=⟨i/19,by omega⟩
  rw[BA lv ks (19*c+1) c zo zo zo];have e:xb lv (ks.take (19*c))=(List.range c).map (ma lv ks):=by
   unfold xb;have:(eW 19 (ks.take (19*c))).length=c:=by rw[lN,YF,ZK zo];omega
   rw[this,Fe lv ks (19*c) c zo zo]
  simp_all
 .rw[if_neg h];have a:19*(i/19)<i:=zo;rw[BA lv ks i (i/19) zo a zo,BA lv ks (i+1) (i/19) zo zo zo];simp only[Z8,Z7,xf]
  congr 3
  have e:i+1-19*(i/19)=(i-19*(i/19))+1:=zo;rw[e,YO,zAB9 (by grind)]
  grind
def nb(i:Nat)(x:Pr)(L:LC):LC:=if 0<i/\i%18=0 then L++[⟨0,0,x.1,9223372036854775808,0,[]⟩]else L
def tv(x:Pr)(L:LC):LC:=match L.getLast? with
 | some n=>L.dropLast++[xf n (n.pairs++[x])]
 | none=>L
theorem Tb(hm:m<=ks.length)(hc:18*c<=m):(List.range c).map (pQ (ks.take m))=(List.range c).map (pQ ks):=by
 refine Zh fun j a=>?_;have a:j<c:=Zm.1 a;unfold pQ;rw[Cy ks m _ zo hm,Gj 18 ks m j zo]
theorem tf(hm:m<=ks.length)(h1:18*c<m\/(m=0/\c=0))(h2:m<=18*c+18):yH (ks.take m)=(List.range c).map (pQ ks)++[⟨0,0,if 0<c then(ks.getD (18*c) (0,0)).1 else 0,9223372036854775808,0,(ks.drop (18*c)).take (m-18*c)⟩]:=by
 rw[om,YF,ZK hm];have:max 1 ((m+17)/18)=c+1:=zo;rw[this,Zw,YJ,Tb ks m c hm zo];simp only[YL,ZU]
 congr 2
 unfold pQ;rw[Gi 18 ks m c h2]
 grind
theorem Tc(hi:i<ks.length):yH (ks.take (i+1))=tv (ks.getD i (0,0)) (nb i (ks.getD i (0,0)) (yH (ks.take i))):=by
 unfold nb
 by_cases h:0<i/\i%18=0
 .rw[if_pos h];obtain⟨c,rfl⟩:∃c,i=18*(c+1):=⟨i/18-1,by omega⟩
  rw[tf ks (18*(c+1)+1) (c+1) zo zo zo,tf ks (18*(c+1)) c zo zo zo];unfold tv;simp only[Z8,Z7,xf];rw[Zw,YJ];simp only[YL,ZU,YC]
  congr 2
  .congr 2
   unfold pQ
   grind
  .rw[if_pos (Zt _)]
   congr 1
   rw[show 18*(c+1)+1-18*(c+1)=1 by omega];rw[YE hi,zAY9,zCH9,Yu,Yk hi];rfl
 .rw[if_neg h];have a:18*(i/18)<i\/(i=0/\i/18=0):=zo;rw[tf ks i (i/18) zo a zo,tf ks (i+1) (i/18) zo zo zo];unfold tv;simp only[Z8,Z7,xf]
  congr 3
  have e:i+1-18*(i/18)=(i-18*(i/18))+1:=zo;rw[e,YO]
  grind
end Fv
end Go.Proofs.YtkeknmgnoceogaaGreat
