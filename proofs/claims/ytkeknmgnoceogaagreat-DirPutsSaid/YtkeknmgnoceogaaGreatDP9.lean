/- part 9 of the proof of dir_puts. -/
import Derived.Test.YtkeknmgnoceogaaGreatDP8
set_option linter.unusedSimpArgs false
set_option linter.unusedVariables false
set_option maxRecDepth 100000
set_option maxHeartbeats 4000000
namespace Go.Proofs.YtkeknmgnoceogaaGreat
open Tryz
namespace Fv
open Tw


variable {H:LP}{args:LQ}(p b a g k0 M:Nat)(r:xw)(s:LN)(d k k1:Nat)(w l:LN)(n:Nat)
theorem tL(w a n:Nat)(hw:w<18446744073709551616)(h1:1<=n)(h2:a+n<=64):FR 185 [uv w,iv a,iv n] (.tuple [uv (w/2 ^ a%2 ^ n),iv 0]) :=
 ol oK (by rfl) fun S h g i c=>by
  obtain⟨j,_,rfl,d,b⟩:=c.oc;obtain⟨k,_,rfl,e,b⟩:=b.oc;obtain⟨l,_,rfl,f,b⟩:=b.oc;obtain rfl:=b.oN
  cases d;cases e;cases f
  refine⟨.ret (.tuple [.int .u64 (.ofNat (w/2 ^ a%2 ^ n)),.int .i64 (.ofNat 0)]),h,?_,Zi _,fun _ _=>rfl,?_⟩;rotate_left
  .have:LR (PR (S0 S h.next h.next) h) [uv (w/2 ^ a%2 ^ n),iv 0] [.int .u64 (.ofNat (w/2 ^ a%2 ^ n)),.int .i64 (.ofNat 0)]:=LR.cons (PR.int _ _) (LR.cons (PR.int _ _) LR.nil);exact PR.tuple this.1 this.2
  show oO [.int .u64 (.ofNat w),.int .i64 (.ofNat a),.int .i64 (.ofNat n)] h=_;unfold oO;dsimp only;rw[show Nat.blt w 18446744073709551616=true by simp_all,ux h1,ux h2];rfl
theorem Hl(c:Nat):FR 194 [.str s,.str [c]] (.bool (decide (c∈s))) :=
 ol oK (by rfl) fun S h j k b=>by
  obtain⟨m,_,rfl,d,a⟩:=b.oc;obtain⟨n,_,rfl,f,a⟩:=a.oc;obtain rfl:=a.oN
  cases d;cases f
  have g:∀l:LN,eE c l=decide (c∈l):=fun l=>by
   induction l with
   | nil=>rfl
   | cons x l i =>
    unfold eE
    by_cases e:x=c
    .simp_all
    .rw[oA e,cond_false,i];grind
  refine⟨.ret (.bool (eE c s)),h,rfl,Zi _,fun _ _=>rfl,?_⟩;rw[g];exact .bool _
theorem Qo:FR 193 [.str s] (.bool (decide (s=[46])||decide (s=[46,46]))):=by
 refine zn (eG T193 func193) (.bool _) ?_
 by_cases h:s=[46]
 .subst h;refine zO ?_;exact ve.bool rfl
 .have g:decide (s=[46])=false:=decide_eq_false h;refine vA g ?_;refine vw (wo ?_ (by simp only[go_sem]<;>rfl));exact ve.bool (by grind)
theorem WT:FR 68 [.str s] (.bool (decide (s=[46])||decide (s=[46,46]))):=by
 refine zn (eG T68 func68) (.bool _) ?_
 by_cases h:s=[46]
 .subst h;refine zO ?_;exact ve.bool rfl
 .have g:decide (s=[46])=false:=decide_eq_false h;refine vA g ?_;refine vw (wo ?_ (by simp only[go_sem]<;>rfl));exact ve.bool (by grind)
theorem Y2:FR 195 [.str s] (.bool (decide (120<s.length))):=by
 refine zn (eG T195 func195) (.bool _) ?_;refine zO ?_;exact ve.bool (by grind)
theorem JQ:wC s=140↔(s=[]\/s=[46]\/s=[46,46]\/0∈s\/47∈s):=by
 unfold wC
 grind
theorem O3:FR 192 [.str s] (.bool (decide (wC s=140))):=by
 refine zn (eG T192 func192) (.bool _) ?_;have f:=JQ s
 by_cases g:s=[]
 .subst g;refine zO ?_;exact ve.bool rfl
 have a:decide (s=[])=false:=decide_eq_false g;refine zG ?_;refine vK a ?_;refine vo (Qo s) ?_ (by first|rfl|(simp only[go_sem,a]<;>rfl)) (by simp only[go_sem,a]<;>rfl);have c:(decide (s=[46])||decide (s=[46,46]))=true↔s=[46]\/s=[46,46]:=by simp
 generalize (decide (s=[46])||decide (s=[46,46]))=d at *
 cases d with
 | true =>
  have c:s=[46]\/s=[46,46]:=c.1 rfl;refine wN a ?_;refine vw (wo ?_ (by simp only[go_sem,a]<;>rfl));exact ve.bool (by rw[decide_eq_true (f.2 (by rcases c with h|h<;>simp[h]))])
 | false =>
  have c:¬(s=[46]\/s=[46,46]):=fun h=>zCG9 (c.2 h);refine vS a ?_;refine vo (Hl s 0) ?_ (by first|rfl|(simp only[go_sem,a]<;>rfl)) (by simp only[go_sem,a]<;>rfl)
  by_cases h1:0∈s
  .have b:decide (0∈s)=true:=decide_eq_true h1;refine wN (zj a b) ?_;refine vw (wo ?_ (by simp only[go_sem,b]<;>rfl));exact ve.bool (by rw[decide_eq_true (f.2 (by simp[h1]))])
  .have b:decide (0∈s)=false:=decide_eq_false h1;refine vS (zj a b) ?_;refine vo (Hl s 47) ?_ (by first|rfl|(simp only[go_sem,b]<;>rfl)) (by simp only[go_sem,b]<;>rfl);refine wN (zj a b) ?_;refine vw (wo ?_ (by simp only[go_sem,b]<;>rfl));have e:(wC s=140)↔47∈s:=⟨fun e=>by
    rcases f.1 e with h|h|h|h|h
    .exact absurd h g
    .exact absurd (.inl h) c
    .exact absurd (.inr h) c
    .exact absurd h h1
    .exact h,fun h=>f.2 (.inr (.inr (.inr (.inr h))))⟩
   exact ve.bool (by simp[e])
theorem O7:FR 133 [] (.list 0 2 [.agg [.fn 192 [],iv 140],.agg [.fn 195 [],iv 141]]):=by
 refine zn (eG T133 func133) (.list fun x a=>by simp[PV.cells]at a;rcases a with rfl|rfl|rfl|rfl<;>first|exact .int _ _|exact .fn fun x a=>(by cases a)) ?_;refine zO ?_;refine ze.wh (e:=224) rfl rfl rfl zy (fun v b=>by simp at b;rcases b with rfl|rfl<;>rfl) (fun v b=>?_);simp[PV.cells]at b;rcases b with rfl|rfl|rfl|rfl<;>first|exact .int _ _|exact .fn fun x a=>(by cases a)
@[reducible] def Gm:LQ:=[.agg [.fn 192 [],iv 140],.agg [.fn 195 [],iv 141]]
theorem A5:wC s=140\/(¬wC s=140/\120<s.length/\wC s=141)\/(wC s=0/\s.length<=120):=by
 unfold wC
 grind
theorem DV:FR 86 [.str s] (iv (wC s)):=by
 refine zn (eG T86 func86) (.int _ _) ?_;refine wl O7 ?_;refine vm (vy (fun m c=>∃(i:Nat),m=2-i/\i<=2/\(1<=i->¬wC s=140)/\(2<=i->wC s=0)/\c.tm 0=.str s/\c.tm 5=.list 0 2 Gm/\c.tm 6=iv 2/\c.tm 7=iv i/\c.df=[]/\∃G,c.H=G) (n:=2) ?_ ?_)
 .exact⟨0,rfl,by omega,fun h=>by omega,fun h=>by omega,by simp[zb,zq],by simp[zb],by simp[zb],zt,rfl,_,rfl⟩
 .rintro m ⟨tm,df,H⟩ ⟨i,rfl,hi,hn1,hn2,h0,h5,h6,h7,rfl,G,rfl⟩;dsimp only at *
  refine vu (zj h6 h7) ?_ ?_
  .intro a;have a:i<2:=vM a;obtain⟨f,e,g,b,j,k,d⟩:∃(f e:Nat),Gm[i]?=some (.agg [.fn f [],iv e])/\∃b,FR f [.str s] (.bool b)/\(b=true->wC s=e)/\(b=false->(1<=i+1->¬wC s=140)/\(2<=i+1->wC s=0)):=by
    match i,a with
    | 0,_=>exact⟨192,140,rfl,_,O3 s,fun h=>of_decide_eq_true h,fun h=>⟨fun _=>of_decide_eq_false h,fun h=>by omega⟩⟩
    | 1,_ =>
     have h1:=hn1 zo;refine⟨195,141,rfl,_,Y2 s,fun h=>?_,fun h=>⟨fun _=>h1,fun _=>?_⟩⟩
     .have h:=of_decide_eq_true h;rcases A5 s with h2|h2|h2
      .exact absurd h2 h1
      .exact h2.2.2
      .omega
     .have h:=of_decide_eq_false h;rcases A5 s with h2|h2|h2
      .exact absurd h2 h1
      .omega
      .exact h2.1
   refine vD ?_;refine vA (vz h0 h5 h7 g) ?_;refine vK h0 ?_;refine vo j ?_;refine uH ?_
   cases b with
   | true =>
    refine uQ ?_;refine zG ?_;refine vw (wo ?_ (by simp only[go_sem]<;>rfl));exact ve.int (by grind)
   | false =>
    refine zH ?_;refine wa ?_;refine wA h7 ?_;exact⟨_,by omega,i+1,rfl,a,(d rfl).1,(d rfl).2,by simp[zb,h0],by simp[zb,h5],by simp[zb,h6],by simp[zb],rfl,_,rfl⟩
  .intro a;have a:¬i<2:=vL a;refine zO ?_;exact ve.int (by grind)
theorem V8(hl:s.length<9223372036854775808):FR 69 [.str s] (.bool (decide (¬(0∈s\/47∈s)))):=by
 refine zn (eG T69 func69) (.bool _) ?_;refine zG ?_;refine vm (vy (fun m b=>∃(i:Nat),m=s.length-i/\i<=s.length/\((0∈s\/47∈s)↔(0∈s.drop i\/47∈s.drop i))/\b.tm 0=.str s/\b.tm 3=iv i/\b.df=[]/\b.H=[]) (n:=s.length) ?_ ?_)
 .exact⟨0,rfl,Zn _,Iff.rfl,zt,zt,rfl,rfl⟩
 .rintro m ⟨tm,df,H⟩ ⟨i,rfl,hi,hd,h0,h3,rfl,rfl⟩;dsimp only at h0 h3;refine vu (zj h0 h3) ?_ ?_
  .intro a;have a:i<s.length:=vM a;have g:=Zg a;rw[Zs a]at hd;generalize s[i]=x at *
   have hid:=QR (k:=.i64) (s:=s) (j:=(i:Int)) (x:=x) (zBF9 _) (by grind);refine vD ?_;refine zB ?_
   by_cases d:x=0
   .subst d;refine zB ?_;refine vC (vh h0 h3 hid) ?_;refine zU ?_;exact ve.bool (by grind)
   .have e:¬(x:Int)=0:=zo
    by_cases h:x=47
    .have c:(x:Int)=47:=zo;have f:¬(47:Int)=0:=by decide
     refine zB ?_;refine vC (vX h0 h3 hid c f) ?_;refine zU ?_;exact ve.bool (by grind)
    .have c:¬(x:Int)=47:=zo;refine zB ?_;refine vC (vX h0 h3 hid e c) ?_;refine zH ?_;refine wa ?_;refine wA h3 ?_;exact⟨_,by omega,i+1,rfl,a,by grind,zu h0,zt,rfl,rfl⟩
  .intro a;have a:¬i<s.length:=vL a;refine zO ?_;exact ve.bool (by grind)
theorem rQ(hl:s.length<9223372036854775808):FR 33 [.str s] (iv (wC s)):=by
 refine zn (eG T33 func33) (.int _ _) ?_;have j:=JQ s;have k:=A5 s;refine zG ?_;refine ur (Q:=fun y i=>y=.norm/\i.tm 0=.str s/\i.tm 13=.bool (decide (wC s=140))/\i.df=[]/\i.H=[]) ?_ ?_
 .by_cases b:s=[]
  .subst b;refine wa ?_;refine zK ?_;exact⟨rfl,rfl,rfl,rfl,rfl⟩
  have a:decide (s=[])=false:=decide_eq_false b;refine vK a ?_;refine vo (WT s) ?_ (by first|rfl|(simp only[go_sem,a]<;>rfl)) (by simp only[go_sem,a]<;>rfl);have c:(decide (s=[46])||decide (s=[46,46]))=true↔s=[46]\/s=[46,46]:=by simp
  generalize (decide (s=[46])||decide (s=[46,46]))=d at *
  cases d with
  | true =>
   have c:s=[46]\/s=[46,46]:=c.1 rfl;refine wA a ?_;refine⟨rfl,by simp[zb,vn.put,zq],?_,rfl,rfl⟩;rw[decide_eq_true (j.2 (by rcases c with h|h<;>simp[h]))];simp[zb,vn.put]
  | false =>
   have c:¬(s=[46]\/s=[46,46]):=fun h=>zCG9 (c.2 h);refine vS a ?_;refine vo (V8 s hl) ?_ (by first|rfl|(simp only[go_sem,a]<;>rfl)) (by simp only[go_sem,a]<;>rfl);refine wA a ?_;have e:(wC s=140)↔(0∈s\/47∈s):=⟨fun e=>by
    rcases j.1 e with h|h|h|h|h
    .exact absurd h b
    .exact absurd (.inl h) c
    .exact absurd (.inr h) c
    .exact .inl h
    .exact .inr h,fun h=>j.2 (.inr (.inr (.inr h)))⟩
   refine⟨rfl,by simp[zb,vn.put,zq],?_,rfl,rfl⟩;simp[zb,vn.put,e]
 .rintro y ⟨tm,df,H⟩ ⟨rfl,b,h13,rfl,rfl⟩;dsimp only at b h13;simp only[xU,b8,gY,bk,jc,l5,if_true,reduceIte]
  by_cases f:wC s=140
  .rw[decide_eq_true f]at h13;refine mN h13 ?_;refine zO ?_;exact ve.int (by rw[f];rfl)
  rw[decide_eq_false f]at h13;refine cA h13 ?_;refine wK ?_;refine zB ?_;rcases k with h|⟨_,h,h2⟩|⟨h2,h⟩
  .exact absurd h f
  .have g:(120:Int)<(s.length:Int):=zo;refine zB ?_;refine vC (zj b g) ?_;refine zU ?_;exact ve.int (by rw[h2];rfl)
  .have g:¬(120:Int)<(s.length:Int):=zo;refine zB ?_;refine vC (zj b g) ?_;refine zH ?_;refine zO ?_;exact ve.int (by rw[h2];rfl)


theorem Ml(b:LN)(h0:k0<18446744073709551616)(h1:k1<18446744073709551616)(hb:wu b):pH k0 k1 b<18446744073709551616:=by
 have e:(vi.new k0 k1).ok:=by
  unfold vi.new;exact⟨uB h0 zy,uB h1 zy,uB h0 zy,uB h1 zy⟩
 have h2:=vi.into_ok (so e (B0 hb)) (I7 hb);unfold pH;generalize ((vi.new k0 k1).words (xW b)).into (dh b)=u at *
 rw[HQ u _ rfl];have h3:=vi.rnds_ok (n:=4) (v:=⟨u.a,u.b,Nat.xor u.c 255,u.d⟩) ⟨h2.a,h2.b,uB h2.c zy,h2.d⟩;generalize vi.rnds ⟨u.a,u.b,Nat.xor u.c 255,u.d⟩ 4=x at *
 exact uB (uB (uB h3.a h3.b) h3.c) h3.d
theorem NQ(b:LN)(h0:k0<18446744073709551616)(h1:k1<18446744073709551616)(hb:wu b)(hl0:0<b.length)(hl:b.length<=1000)(hn:1<=n/\n<=64):FR 189 [.agg [uv k0,uv k1],bv p b,iv n] (.tuple [uv (pH k0 k1 b/2 ^ (64-n)%2 ^ n),iv 0]):=by
 refine zn (eG T189 func189) (Lb.two (.int _ _) (.int _ _)) ?_;have c:=ND p k0 k1 b h0 h1 hb hl0 hl;have a:=Ml k0 k1 b h0 h1 hb;generalize pH k0 k1 b=S at *
 have d:=tL S (64-n) n a hn.1 zo;generalize S/2 ^ (64-n)%2 ^ n=R at *
 have e:(64:Int)-(n:Int)=((64-n:Nat):Int):=zo;have f:max (-1:Int) ((64-n:Nat):Int)=((64-n:Nat):Int):=zo;refine wI ?_;refine vo c ?_;refine vS (zj e f) ?_;refine vo d ?_;refine zP ?_;exact vN
theorem WA(b:LN)(h0:k0<18446744073709551616)(h1:k1<18446744073709551616)(hb:wu b)(hl:b.length<=1000)(hn:1<=n/\n<64):FR 71 [.agg [uv k0,uv k1],bv p b,iv n] (uv (pH k0 k1 b/2 ^ (64-n)%2 ^ n)):=by
 refine zn (eG T71 func71) (.int _ _) ?_;have c:=WJ p k0 k1 b h0 h1 hb hl;have a:=Ml k0 k1 b h0 h1 hb;generalize pH k0 k1 b=S at *
 have d:=Wt S (64-n) n a zo hn.2;generalize S/2 ^ (64-n)%2 ^ n=R at *
 have e:(64:Int)-(n:Int)=((64-n:Nat):Int):=zo;refine wI ?_;refine vo c ?_;refine vS e ?_;refine vo d ?_;refine zP ?_;exact ve.int rfl


theorem cT(r:Nat)(h:r<18446744073709551616):ky r<18446744073709551616:=by
 unfold ky
 cases Nat.beq (r%2) 1
 .grind
 .simp only[cond_true];exact uB zo zy
theorem Qi{r x:Nat}(h:r<18446744073709551616)(hx:x<256):bO r x<18446744073709551616:=by
 unfold bO oE;exact cT _ (cT _ (cT _ (cT _ (cT _ (cT _ (cT _ (cT _ (uB h zo))))))))
theorem Sr(r x:Nat)(hr:r<18446744073709551616)(hx:x<256):FR 336 [uv r,.int .u8 x] (uv (bO r x)) :=
 ol oK (by rfl) fun S h e f b=>by
  obtain⟨g,_,rfl,c,a⟩:=b.oc;obtain⟨i,_,rfl,d,a⟩:=a.oc;obtain rfl:=a.oN
  cases c;cases d
  refine⟨.ret (.int .u64 (.ofNat (bO r x))),h,?_,Zi _,fun _ _=>rfl,PR.int _ _⟩;show oY [.int .u64 (.ofNat r),.int .u8 (.ofNat x)] h=_;unfold oY bO;dsimp only;rw[show Nat.blt r 18446744073709551616=true by simp_all,show Nat.blt x 256=true by simp_all];rfl
theorem YT(id p:Nat)(l:LN)(hl:l.length<1000000)(P:Nat->LP)
  (hy:∀(i x:Nat),l[i]?=some x->FY ET id [.int .u8 x] (P i) fun r H'=>r=true/\H'=P (i+1)) :
  FO ET 350 [.yield id,.elem [bv p l]] (P 0) false fun e H'=>e=.ret (.tuple [])/\H'=P l.length:=by
 refine wS (eG T350 func350) ?_;refine zG ?_;refine vm (vy (fun m s=>∃i:Nat,m=l.length-i/\i<=l.length/\s.tm 0=.yield id/\s.tm 5=bv p l/\s.tm 6=iv l.length/\s.tm 7=iv i/\s.df=[]/\s.H=P i) (n:=l.length) ?_ ?_)
 .exact⟨0,rfl,Zn _,zt,zt,by simp[zb,yj],zt,rfl,rfl⟩
 .rintro m ⟨tm,df,H⟩ ⟨i,rfl,hi,h0,h5,h6,h7,rfl,rfl⟩;dsimp only at *
  refine vu (zj h6 h7) ?_ ?_
  .intro a;have a:i<l.length:=vM a;have b:=Zg a;generalize l[i]=x at *
   have c:(bl l)[i]?=some (.int .u8 x):=by rw[ti,b];rfl
   refine vD ?_;refine vA (wQ h0 h5 h7 c a yj) ?_;refine wa ?_;refine vS h0 ?_;refine FZ (id:=id) (vs:=[.int .u8 x]) rfl (by simp only[go_sem]) (FY.mono (hy i x b) fun r H' d=>?_);obtain⟨rfl,rfl⟩:=d;refine zN ?_;refine zH ?_;refine vp h7 ?_;exact⟨_,by omega,i+1,rfl,a,by simp[zb,h0],by simp[zb,h5],by simp[zb,h6],by simp[zb],rfl,rfl⟩
  .intro a;have a:¬i<l.length:=vL a;obtain rfl:i=l.length:=zo;refine c9 rfl ⟨rfl,rfl⟩
theorem UP:FP ET 335 [bv p l] (.ret (.fn 350 [.elem [bv p l]])):=by
 refine mO (eG T335 func335) ?_;refine zO ?_;refine ze.fnL ⟨.ptr (w:=bv p l) rfl (Zi _) rfl fun j x y b a=>?_,trivial⟩
 cases j with
 | zero=>simp[PV.cells]at b a;subst b;subst a;exact ze.list _ _ _
 | succ j=>simp at a
theorem Zb{x:Nat}(h:x<18446744073709551616):Nat.xor 18446744073709551615 x=18446744073709551615-x:=by
 have h1:=congrArg BitVec.toNat (BitVec.allOnes_xor (x:=BitVec.ofNat 64 x));rw[BitVec.toNat_xor,BitVec.toNat_not,BitVec.toNat_allOnes,BitVec.toNat_ofNat,zAV9 (show x<2 ^ 64 from h)]at h1;exact h1
theorem HG(x:Nat)(h:x<18446744073709551616):kG (nt .xor) [.int .u64 (x:Int)]=some (.int .u64 (18446744073709551615-x:Nat)):=by
 rw[<- Zb h];have h2:bM Nat.xor .u64 (.ofNat 18446744073709551615) (.ofNat x)=some (.int .u64 (.ofNat (Nat.xor 18446744073709551615 x))):=by
  unfold bM;dsimp only;rw[show Nat.blt 18446744073709551615 (2 ^ mz .u64)=true from rfl,show Nat.blt x (2 ^ mz .u64)=true by rw[zBI9];exact h];rfl
 have h3:∀n:Int,nt .xor (.int .u64 n)=bM Nat.xor .u64 (.ofNat 18446744073709551615) n:=fun n=>rfl;have h4:=(h3 (.ofNat x)).trans h2;generalize Nat.xor 18446744073709551615 x=y at *
 have a:∀(u:Int) (w:TV),nt .xor (.int .u64 u)=some w->kG (nt .xor) [.int .u64 u]=yB w:=fun u w h=>by unfold kG PV.toT;grind
 exact a _ _ h4
def DT:vP:=.region [⟨some 6,.mov,[.tmp 11],none⟩]
def A1:vP:=.block 1 (.region [⟨some 12,.load false 1,[.tmp 5],none⟩,⟨some 13,.mov,[.tmp 6],none⟩,⟨some 14,.call,[.fn 336,.tmp 12,.tmp 13],none⟩,⟨none,.store 1,[.tmp 5,.tmp 14],none⟩])
def eR(r:Nat)(tm:Nat->PV):LP:=[.row 402 1 0 0 [uv r],.dfr false,.loop .ready .norm tm [11] DT A1 1]
theorem US(r x:Nat)(hr:r<18446744073709551616)(hx:x<256)(tm:Nat->PV)(h5:tm 5=.ptr 0 0 0 0 1):FY ET 2 [.int .u8 x] (eR r tm) fun b H'=>b=true/\H'=eR (bO r x) tm:=by
 refine sy (tm:=tm) (ps:=[11]) (aS:=DT) (bo:=A1) rfl rfl ?_;refine wa ?_;refine zK ?_;refine⟨rfl,_,_,_,_,_,_,rfl,?_⟩;have a:=Sr r x hr hx;generalize bO r x=R at *
 unfold A1;refine vm ?_;unfold eR;refine vK h5 ?_;refine vo a ?_;refine wA h5 ?_;exact⟨rfl,.busy,.norm,tm,[11],DT,A1,1,rfl,rfl,rfl⟩
theorem Ho{b:LN}:∀{r:Nat},r<18446744073709551616->wu b->me r b<18446744073709551616:=by
 induction b with
 | nil=>exact fun h _=>h
 | cons x b c=>exact fun h a=>c (Qi h (a x (Zr ..))) fun y d=>a y (Zo _ d)
theorem Qk(r:Nat)(l:LN)(x:Nat):me r (l++[x])=bO (me r l) x:=by unfold me;grind
theorem NK(b:LN)(hb:wu b)(hl:b.length<1000000):FR 302 [.int .u64 0,bv p b] (uv (18446744073709551615-me 18446744073709551615 b)):=by
 refine zn (eG T302 func302) (.int _ _) ?_;have f:=HG 0 zy;rw[show ((0:Nat):Int)=0 from rfl,show ((18446744073709551615-0:Nat):Int)=18446744073709551615 from rfl]at f;refine vA f ?_;refine zI ?_;refine fD (UP p b) ?_;refine zN ?_;refine dW (zb (zb n9 5 (.ptr 0 0 0 0 1)) 10 (.fn 350 [.elem [bv p b]])) (yY _ _ (yY _ _ (eJ _) rfl) rfl) ?_;refine vm ?_;refine sS (g:=350) (cap:=[.elem [bv p b]]) (b:=false) (by simp only[go_sem]) ?_;have k:∀a:Nat->PV,a 5=.ptr 0 0 0 0 1->FO ET 350 [.yield 2,.elem [bv p b]] (eR 18446744073709551615 a) false fun e h=>e=.ret (.tuple [])/\h=eR (me 18446744073709551615 b) a:=fun a l=>by
  have:=YT 2 p b hl (fun i=>eR (me 18446744073709551615 (b.take i)) a) fun i x c=>?_
  .simp only[ZL]at this;exact this
  .have d:=(Zh.1 c).1;have j:x<256:=hb x (Zj c);have:=US (me 18446744073709551615 (b.take i)) x (Ho zy (hb.take _)) j a l;rw[<- Qk]at this;rw[show b.take (i+1)=b.take i++[x] by rw[ZE,c];rfl];exact this
 have d:=Ho (r:=18446744073709551615) zy hb;refine FO.mono (fun e h m=>?_) (k _ rfl);obtain⟨rfl,rfl⟩:=m;generalize me 18446744073709551615 b=R at *
 refine⟨⟨_,rfl⟩,.ready,.norm,_,_,_,_,_,by simp,rfl,?_⟩;simp only[xU,gY,reduceIte];have n:=HG R d;generalize 18446744073709551615-R=R2 at *
 unfold eR;simp only[Zp,Zz,zAH9,zAJ9];refine vA n ?_;refine vw ?_;refine C7 (vs:=[uv R2]) rfl rfl ?_;exact ve.int rfl


theorem N0(b:LN)(hb:wu b)(hl:b.length<1000000):FR 236 [bv p b] (uv (18446744073709551615-me 18446744073709551615 b)):=by
 refine zn (eG T236 func236) (.int _ _) ?_;have a:=NK p b hb hl;generalize 18446744073709551615-me 18446744073709551615 b=R at *
 refine wI ?_;refine vo a ?_;refine zP ?_;exact ve.int rfl
theorem Od(hw:∀w∈l,w<18446744073709551616)(hl:l.length<10000):FR 183 [wv p l] (uv (mI l)):=by
 refine zn (eG T183 func183) (.int _ _) ?_;have a:=Fz p l hw zo;have b:=N0 0 (uS l) (tu l) (by rw[ec];omega);unfold mI;generalize 18446744073709551615-me 18446744073709551615 (uS l)=R at *
 refine wI ?_;refine vo a ?_;refine wq ?_;refine vo b ?_;refine zP ?_;exact ve.int rfl
theorem IT:sA ((l.map uv).flatMap PV.cells):=fun v a=>by
 obtain⟨x,b,a⟩:=ZF.1 a;obtain⟨n,_,rfl⟩:=Zu.1 b;simp[PV.cells]at a;grind
theorem PZ(h0:0<l.length)(hl:l.length<10000)(ha:LF H 1 args [wv p l]):FO ET 138 args H true fun e' H'=>∃g M,e'=.ret (.sl H.length g 0 l.length (2*l.length) 1)/\M<=g/\H'=H++[.row 29 1 g M (l.map uv)]:=by
 have k:FO ET 138 [wv p l] [] false fun e' H'=>∃id g M,e'=.ret (.sl id g 0 l.length (2*l.length) 1)/\M<=g/\H'[id]?=some (.row 29 1 g M (l.map uv)):=by
  refine wS (eG T138 func138) ?_;obtain⟨x,a,rfl⟩:∃x a,l=x::a:=by
   cases l with
   | nil=>grind
   | cons x a=>grind
  have b:((x::a).length)*9<=140737488355328:=zo;have c:¬(x::a).length=0:=by simp
  have d:(x::a).map uv=uv x::a.map uv:=rfl;refine kp d ?_;generalize x::a=l at *
  refine vA (zj c b) ?_;refine vw ?_;refine wo ?_ (by simp only[go_sem]<;>rfl);exact⟨0,1,0,rfl,by omega,rfl⟩
 refine FO.own1 k ha (IT _) ?_;intro e
 simp_all
theorem XL(h0:0<l.length)(hl:l.length<10000)(hw:∀w∈l,w<18446744073709551616)(ha:LF H 1 args [wv p l]):FO ET 126 args H true fun e' H'=>∃g M,e'=.ret (.sl H.length g 0 (l++[mI l]).length (2*(l++[mI l]).length) 1)/\M<=g/\H'=H++[.row 29 1 g M ((l++[mI l]).map uv)]:=by
 have k:FO ET 126 [wv p l] [] false fun e' H'=>∃id g M,e'=.ret (.sl id g 0 (l++[mI l]).length (2*(l++[mI l]).length) 1)/\M<=g/\H'[id]?=some (.row 29 1 g M ((l++[mI l]).map uv)):=by
  refine wS (eG T126 func126) ?_;have b:=PZ (H:=[]) (args:=[wv p l]) p l h0 hl ⟨.list _ _ _,trivial⟩;have c:=Od p l hw hl;have a:(l.length+1)*9<=140737488355328:=zo;generalize mI l=S at *
  refine wI ?_;refine wW b ?_;rintro e' H' ⟨g,M,rfl,d,rfl⟩;refine wq ?_;refine vo c ?_;refine wN a ?_;refine vw ?_;refine wo ?_ (by simp only[go_sem]<;>rfl);exact⟨0,g+1,M,by simp,by omega,by grind⟩
 refine FO.own1 k ha (IT _) ?_
 simp_all
theorem VT(hl:l.length<64)(hM:M<=g)(K:LP)(s:Nat)(hK:K[s]?=some (.row 29 1 g M (l.map uv))):FO ET 125 [.sl s g 0 l.length (2*l.length) 1] K false fun e' H'=>e'=.ret (.sl s (g+1) 0 64 128 1)/\H'=K.set s (.row 29 1 (g+1) M ((l++List.replicate (64-l.length) 0).map uv)):=by
 refine wS (eG T125 func125) ?_;have a:(64:Int)-(l.length:Int)=((64-l.length:Nat):Int):=zo;have b:((64-l.length:Nat):Int)<=1000000:=zo;have c:((64-l.length:Nat):Int)*9<=140737488355328:=zo;have d:¬64-l.length=0:=zo;have e:l.length+(64-l.length)=64:=zo;have f:∀n,List.replicate n (PV.int .u64 0)=(List.replicate n 0).map uv:=fun n=>by simp_all
 refine zG ?_;refine zB ?_;refine um ?_ (by simp(disch:=omega)only[go_sem,a,b,c,d,e,hK,f,zAP9]<;>rfl);refine vw (wo ?_);exact⟨rfl,by rw[ZG]⟩


theorem oX(n lo hi:Int)(h:lo<=n/\n<=hi):FR 235 [iv n,iv lo,iv hi] (.bool true):=by
 refine zn (eG T235 func235) (.bool _) ?_;have a:=h.1;have b:=h.2;refine wm (zj a b) ?_;exact ve.bool rfl
theorem Ja(d':Nat):yS [1,1,1,1,1,1,1,1,1,1] [.int .i64 48,.int .i64 8,.int .i64 64,.int .i64 (b:Int),.int .u64 3,.int .u64 5,.int .i64 9,.int .i64 11,.int .i64 27,.int .i64 (d:Int)] [.int .i64 48,.int .i64 8,.int .i64 64,.int .i64 (b:Int),.int .u64 3,.int .u64 5,.int .i64 9,.int .i64 11,.int .i64 27,.int .i64 (d':Int)]=some (decide (d=d')):=by
 by_cases h:d=d'
 .subst h;simp[yS,fm,w8,kB]
 .have h2:¬(d:Int)=(d':Int):=zo;simp[yS,fm,w8,kB,h,h2]
theorem bX:vg (wc b d):=.agg fun x a=>by
 simp[uu]at a;rcases a with rfl|rfl|rfl|rfl|rfl|rfl|rfl|rfl|rfl|rfl<;>exact .int _ _
theorem Lb.lay:Lb (wc b d):=.agg fun x a=>by
 simp[uu]at a;rcases a with rfl|rfl|rfl|rfl|rfl|rfl|rfl|rfl|rfl|rfl<;>exact .int _ _
theorem NP(h:1<=b/\b<=40):FR 182 [.agg [iv 48,iv 8,iv 64,iv b],.agg [uv 3,uv 5]] (.tuple [wc b 28,iv 0]):=by
 refine zn (eG T182 func182) (Lb.two (Lb.lay _ _) (.int _ _)) ?_;have c:=oX 48 32 2048 zo;have d:=oX b 1 40 zo;have e:=oX 8 4 256 zo;have f:=oX 64 4 1024 zo;have a:(8:Int).tmod 4=0:=rfl;have g:(64:Int).tmod 4=0:=rfl;have i:(8:Int).tdiv 4=2:=rfl;have j:(64:Int).tdiv 4=16:=rfl;refine vq ?_;refine zI ?_;refine uH ?_;refine sU ?_;refine zB ?_;refine zI ?_;refine uH ?_;refine zB ?_;refine zI ?_;refine vo c ?_;refine wq ?_;refine vo d ?_ (by first|rfl|(simp only[go_sem,a]<;>rfl)) (by simp only[go_sem,a]<;>rfl);refine zN ?_;refine zH ?_;refine zB ?_;refine zI ?_;refine vo e ?_;refine vS a ?_;refine vo f ?_ (by first|rfl|(simp only[go_sem,a]<;>rfl)) (by simp only[go_sem,a]<;>rfl);refine wN g ?_;refine zH ?_;refine kp (zj i j) ?_;refine zG ?_;refine vw ?_;refine wo ?_ (by simp only[go_sem,a]<;>rfl);exact ze.tL ⟨(bX b 28).frz,.int _ _,trivial⟩
theorem Lf(h:1<=b/\b<=40):FR 124 [wc b d] (.bool (decide (28=d))):=by
 refine zn (eG T124 func124) (.bool _) ?_;have a:=NP b h;have c:=Ja b 28 d;rw[show ((28:Nat):Int)=28 from rfl]at c;have e:Nat.beq 10 10=true:=rfl;unfold wc uu at a⊢;refine wl a ?_;refine wm (zj c e) ?_;exact ve.bool rfl
@[reducible] def layZ:PV:=.agg [iv 0,iv 0,iv 0,iv 0,uv 0,uv 0,iv 0,iv 0,iv 0,iv 0]
theorem tZ:vg layZ:=.agg fun x a=>by
 simp only[ZD,zAX9,or_false]at a;rcases a with rfl|rfl|rfl|rfl|rfl|rfl|rfl|rfl|rfl|rfl<;>exact .int _ _
theorem Lb.layZ:Lb layZ:=.agg fun x a=>by
 simp only[ZD,zAX9,or_false]at a;rcases a with rfl|rfl|rfl|rfl|rfl|rfl|rfl|rfl|rfl|rfl<;>exact .int _ _
theorem KP(h:1<=b/\b<=40):FR 32 [.agg [iv 48,iv 8,iv 64,iv b],.agg [uv 3,uv 5]] (.tuple [wc b 28,iv 0]):=by
 refine zn (eG T32 func32) (Lb.two (Lb.lay _ _) (.int _ _)) ?_;have a:(8:Int).tmod 4=0:=rfl;have c:(64:Int).tmod 4=0:=rfl;have d:(8:Int).tdiv 4=2:=rfl;have e:(64:Int).tdiv 4=16:=rfl;have f:¬(b:Int)<1:=zo;have g:¬(40:Int)<(b:Int):=zo;refine kp (vz a c f g) ?_;refine kp (zj d e) ?_;refine zG ?_;refine vw (wo ?_ (by simp only[go_sem,a]<;>rfl));exact ze.tL ⟨(bX b 28).frz,.int _ _,trivial⟩
theorem Wz(n:Int)(h:n<1\/40<n):FR 32 [.agg [iv 48,iv 8,iv 64,iv n],.agg [uv 3,uv 5]] (.tuple [layZ,iv 2]):=by
 refine zn (eG T32 func32) (Lb.two Lb.layZ (.int _ _)) ?_;have a:(8:Int).tmod 4=0:=rfl;have b:(64:Int).tmod 4=0:=rfl
 by_cases c:n<1
 .refine wB (vh a b c) ?_;refine zG ?_;refine vw (wo ?_ (by simp only[go_sem,a]<;>rfl));exact ze.tL ⟨tZ.frz,.int _ _,trivial⟩
 .have d:40<n:=zo;refine wB (vz a b c d) ?_;refine zG ?_;refine vw (wo ?_ (by simp only[go_sem,a]<;>rfl));exact ze.tL ⟨tZ.frz,.int _ _,trivial⟩
theorem Bq(h:1<=b/\b<=40):FR 70 [wc b d] (.bool (decide (28=d))):=by
 refine zn (eG T70 func70) (.bool _) ?_;have a:=KP b h;have c:=Ja b 28 d;rw[show ((28:Nat):Int)=28 from rfl]at c;have e:Nat.beq 10 10=true:=rfl;unfold wc uu at a⊢;refine wl a ?_;refine wm (zj c e) ?_;exact ve.bool rfl


theorem FS(h:1<=b/\b<=40):∃X:LN,FR 77 [wc b 28] (.tuple [wv 0 X,iv 0]):=by
 obtain⟨l,e⟩:∃l,l=[3555397645633865032,48,8,64,b,3,5]:=⟨_,rfl⟩
 refine⟨(l++[mI l])++List.replicate (64-(l++[mI l]).length) 0,?_⟩;refine zn (eG T77 func77) (Lb.two (Lb.uvs _) (.int _ _)) ?_;have a:=Lf b 28 h;rw[decide_eq_true rfl]at a;unfold wc uu at a⊢;refine wl a ?_;refine zH ?_;refine zG ?_;have d:l.length=7:=by rw[e];rfl
 have f:∀w∈l,w<18446744073709551616:=fun w f=>by
  grind
 have m:l.map uv=[.int .u64 3555397645633865032,.int .u64 48,.int .u64 8,.int .u64 64,.int .u64 b,.int .u64 3,.int .u64 5]:=by rw[e];rfl
 have c:(b:Int)<18446744073709551616:=zo;have i:=XL (H:=[.row 32 10 0 0 [.agg [iv 48,iv 8,iv 64,iv b,uv 3,uv 5,iv 9,iv 11,iv 27,iv 28]],.row 28 4 0 0 [.agg [iv 48,iv 8,iv 64,iv b]],.row 29 1 0 0 (l.map uv)]) (args:=[.sl 2 0 0 7 14 1]) 1 l zo zo f ⟨ez rfl (Zi _) (Zi _) d.symm (Zi _),trivial⟩;have j:(l++[mI l]).length=8:=by rw[Zl,d];rfl
 generalize l++[mI l]=L at *
 rw[m]at i;refine vK c ?_;refine wW i ?_ (by first|rfl|(simp only[go_sem,c]<;>rfl)) (by simp only[go_sem]<;>rfl);rintro n o ⟨g,M,rfl,p,rfl⟩;refine wq ?_;have k:=VT g M L zo p [.row 32 10 0 0 [.agg [iv 48,iv 8,iv 64,iv b,uv 3,uv 5,iv 9,iv 11,iv 27,iv 28]],.row 28 4 0 0 [.agg [iv 48,iv 8,iv 64,iv b]],.row 29 1 0 0 [.int .u64 3555397645633865032,.int .u64 48,.int .u64 8,.int .u64 64,.int .u64 b,.int .u64 3,.int .u64 5],.row 29 1 g M (L.map uv)] 3 rfl;rw[j]at k⊢;refine wW k ?_ (by first|rfl|(simp only[go_sem,c]<;>rfl)) (by simp only[go_sem]<;>rfl);rintro n o ⟨rfl,rfl⟩;refine zP ?_;refine ze.tL ⟨ez rfl zo (Zi _) (by simp[j]) zo,.int _ _,trivial⟩
def aj:LQ:=[.agg [iv 1,.fn 303 [],.fn 304 [],iv 64,iv 0],.agg [iv 2,.fn 305 [],.fn 306 [],iv 64,iv 0],.agg [iv 3,.fn 307 [],.fn 308 [],iv 16,iv 1],.agg [iv 4,.fn 309 [],.fn 310 [],iv 16,iv 1],.agg [iv 5,.fn 311 [],.fn 304 [],iv 64,iv 0],.agg [iv 6,.fn 312 [],.fn 313 [],iv 64,iv (-1)]]
theorem IL:∀v∈aj.flatMap PV.cells,vg v:=fun v a=>by
 simp only[aj,ZZ,List.flatMap_nil,zAG9,PV.cells,Zv,ZA,ZD,zAX9,or_false]at a;have b:∀f,vg (.fn f []):=fun f=>.fn fun x c=>by cases c
 rcases a with rfl|rfl|rfl|rfl|rfl|rfl|rfl|rfl|rfl|rfl|rfl|rfl|rfl|rfl|rfl|rfl|rfl|rfl|rfl|rfl|rfl|rfl|rfl|rfl|rfl|rfl|rfl|rfl|rfl|rfl<;>first|exact .int _ _|exact b _
theorem VW:FR 237 [] (.list 0 5 aj):=by
 have c:Lb (.list 0 5 aj):=.list fun x a=>by
  have:=IL x a;simp only[aj,ZZ,List.flatMap_nil,zAG9,PV.cells,Zv,ZA,ZD,zAX9,or_false]at a;have d:∀f,Lb (.fn f []):=fun f=>.fn fun x a=>by cases a
  rcases a with rfl|rfl|rfl|rfl|rfl|rfl|rfl|rfl|rfl|rfl|rfl|rfl|rfl|rfl|rfl|rfl|rfl|rfl|rfl|rfl|rfl|rfl|rfl|rfl|rfl|rfl|rfl|rfl|rfl|rfl<;>first|exact .int _ _|exact d _
 refine zn (eG T237 func237) c ?_;refine zO ?_;exact ze.wh (e:=341) (z':=5) (l:=aj) rfl rfl rfl zy (fun v b=>by simp only[aj,ZD,zAX9,or_false]at b;rcases b with rfl|rfl|rfl|rfl|rfl|rfl<;>rfl) IL
theorem Rh:FR 309 [wc b 28] (iv 11):=by
 refine zn (eG T309 func309) (.int _ _) ?_;unfold wc uu;refine zO ?_;exact ve.int rfl
theorem UB:FR 310 [wc b 28] (iv 64):=by
 refine zn (eG T310 func310) (.int _ _) ?_;unfold wc uu;refine zO ?_;exact ve.int rfl
theorem O8(hk:k<64):FR 238 [.agg [iv 4,.fn 309 [],.fn 310 [],iv 16,iv 1],wc b 28,iv k] (iv (704+16*k:Nat)):=by
 refine zn (eG T238 func238) (.int _ _) ?_;have a:=Rh b;unfold wc uu at a⊢;refine zG ?_;refine wV ?_;refine sw a ?_ (by simp(disch:=omega)only[go_sem]<;>rfl);refine vj a ?_;refine zO ?_;have e:((704+16*k:Nat):Int)=704+(k:Int)*16:=zo;exact ve.int (by grind)
theorem V7(h:1<=b/\b<=40)(hn:1<=n/\n<=64):FR 184 [wc b 28,iv 4,iv n] (.tuple [iv (704+16*(n-1):Nat),iv 0]):=by
 refine zn (eG T184 func184) (Lb.two (.int _ _) (.int _ _)) ?_;have c:=Lf b 28 h;rw[decide_eq_true rfl]at c;have j:=UB b;have d:=O8 b (n-1) zo;have e:=oX n 1 64 zo;have k:(n:Int)-1=((n-1:Nat):Int):=zo;generalize 704+16*(n-1)=R at *
 unfold wc uu at *
 refine wl c ?_;refine zH ?_;refine wl VW ?_;refine dW (zb (zb (zb (zb (zb (zb n9 1 (iv 4)) 2 (iv n)) 8 (.ptr 1 0 0 0 10)) 16 (.list 0 5 aj)) 17 (iv 6)) 18 (iv 0)) (yY _ _ (yY _ _ (yY _ _ (yY _ _ (yY _ _ (yY _ _ (eJ _) rfl) rfl) rfl) rfl) rfl) rfl) ?_;refine vm (vy (fun m s=>∃(i:Nat) (G:LP),m=6-i/\i<=3/\s.tm 1=iv 4/\s.tm 2=iv n/\s.tm 8=.ptr 1 0 0 0 10/\s.tm 16=.list 0 5 aj/\s.tm 17=iv 6/\s.tm 18=iv i/\s.df=[]/\s.H=.row 32 10 0 0 [.agg [iv 48,iv 8,iv 64,iv b,uv 3,uv 5,iv 9,iv 11,iv 27,iv 28]]::.row 336 10 0 0 [.agg [iv 48,iv 8,iv 64,iv b,uv 3,uv 5,iv 9,iv 11,iv 27,iv 28]]::G) (n:=6) ?_ ?_)
 .exact⟨0,[],rfl,by omega,zt,zt,zt,zt,zt,zt,rfl,rfl⟩
 .rintro m ⟨tm,df,H⟩ ⟨i,G,rfl,hi,h1,h2,h8,h16,h17,h18,rfl,rfl⟩;dsimp only at *
  refine vu (zj h17 h18) ?_ ?_
  .intro _
   by_cases h3:i=3
   .subst h3;have a:aj[3]?=some (.agg [iv 4,.fn 309 [],.fn 310 [],iv 16,iv 1]):=rfl;have l:((3:Nat):Int)=3:=rfl;rw[l]at h18;refine vD ?_;refine vA (vh h16 h18 a) ?_;refine wV ?_;refine wF (vh h1 h2 h8) j ?_;refine wF (vh h1 h2 h8) e ?_;refine vj h1 ?_;refine uQ ?_;refine vK (vh h2 h8 k) ?_;refine wD d ?_;refine vw (wo ?_ (by simp only[go_sem]<;>rfl));exact vN
   .obtain⟨q,f,g,w,z,a,hq⟩:∃(q:Int) (f g:Nat) (w z:Int),aj[i]?=some (.agg [iv q,.fn f [],.fn g [],iv w,iv z])/\¬q=4:=by
     match i,h3,hi with
     | 0,_,_=>exact⟨_,_,_,_,_,rfl,by decide⟩
     | 1,_,_=>exact⟨_,_,_,_,_,rfl,by decide⟩
     | 2,_,_=>exact⟨_,_,_,_,_,rfl,by decide⟩
     | 3,h,_=>omega
    refine vD ?_;refine vA (vh h16 h18 a) ?_;refine wV ?_;refine nO (by first|exact trivial|simp only[go_sem,h1,h2,h8,hq]) (by simp(disch:=omega)only[go_sem,h1,hq]<;>rfl) rfl (by simp only[go_sem,hq]<;>rfl) (by simp only[go_sem]<;>rfl) ?_;refine nO (by first|exact trivial|simp only[go_sem,hq]) (by simp(disch:=omega)only[go_sem,hq]<;>rfl) rfl (by simp only[go_sem,hq]<;>rfl) (by simp only[go_sem]<;>rfl) ?_;refine vj h1 ?_;refine zH ?_;refine wa ?_;refine wA h18 ?_;exact⟨_,by omega,i+1,_,rfl,by omega,zu h1,zu h2,zu h8,zu h16,zu h17,zt,rfl,rfl⟩
  .intro hlt;have:=of_decide_eq_false hlt;omega
theorem NU(h:1<=b/\b<=40)(hn:1<=n/\n<=64):FR 128 [wc b 28,iv n] (.tuple [iv (704+16*(n-1):Nat),iv 0]):=by
 refine zn (eG T128 func128) (Lb.two (.int _ _) (.int _ _)) ?_;have a:=V7 b n h hn;generalize 704+16*(n-1)=R at *
 unfold wc uu at *
 refine wI ?_;refine vo a ?_;refine zP ?_;exact vN


theorem cd{s:LN}(h:wC s=0):0<s.length/\s.length<=120:=by
 rcases A5 s with h2|⟨_,_,h2⟩|⟨_,h2⟩
 .omega
 .omega
 .refine⟨?_,h2⟩
  cases s with
  | nil=>exact absurd h zy
  | cons a l=>simp
theorem NX(hk:k<18446744073709551616):FR 131 [uv k] (.tuple [uv (k/65536),iv (k%65536:Nat)]):=by
 refine zn (eG T131 func131) (Lb.two (.int _ _) (.int _ _)) ?_;have b:=tL k 0 16 hk zy zy;rw[show k/2 ^ 0%2 ^ 16=k%65536 by simp only[Nat.reducePow,Nat.pow_zero,Nat.div_one]]at b;obtain⟨D,a⟩:∃D,k/2 ^ 16=D:=⟨_,rfl⟩
 have c:k/65536=D:=by rw[<- a]
 have d:k%65536<65536:=zDB9 _ zy;rw[c];clear c;generalize k%65536=R at *
 refine wl b ?_;refine wm a ?_;exact vN
theorem FQ(h:1<=b/\b<=40)(s:LN)(hb:wu s)(hs:wC s=0):FR 130 [wc b 28,.str s] (.tuple [uv (yr b s),iv 0]):=by
 refine zn (eG T130 func130) (Lb.two (.int _ _) (.int _ _)) ?_;obtain⟨X,d⟩:=FS b h;have a:=DV s;rw[hs]at a;rw[show ((0:Nat):Int)=0 from rfl]at a;have e:=cd hs;have f:=NQ 1 3 5 b s zy zy hb e.1 zo ⟨h.1,by omega⟩;unfold yr;generalize pH 3 5 s/2 ^ (64-b)%2 ^ b=S at *
 have c:s.length<=1000000:=zo;unfold wc uu at *
 refine zG ?_;refine zB ?_;refine zM d ?_;refine zB ?_;refine zI ?_;refine uH ?_;refine zH ?_;refine zB ?_;refine zM a ?_;refine zB ?_;refine zI ?_;refine uH ?_;refine zH ?_;refine zB ?_;refine vK c ?_;refine mM f ?_ ?_;(repeat(first|exact trivial|refine And.intro ?_ ?_|exact .int _ _|exact .bool _|exact .list _ _ _|exact .elem _|exact .nilsl|exact .nil _ _|exact .str _|refine ze.aggL ?_|refine ze.fnL ?_|refine ze.tL ?_|refine .iface ?_|exact gE rfl rfl (by assumption)))
 .exact bV rfl (Zi _) (Zi _) rfl (Zi _)
 .exact⟨.int _ _,trivial⟩
 refine zP ?_;exact vN


theorem IP(n lo hi:Int):FR 135 [iv n,iv lo,iv hi] (.bool (decide (lo<=n)&&decide (n<=hi))):=by
 refine zn (eG T135 func135) (.bool _) ?_
 by_cases a:lo<=n
 .refine wm a ?_;exact ve.bool (by simp[a])
 .refine wm a ?_;exact ve.bool (by simp[a])
theorem Sk:FR 337 [.elem [iv r.ino,.str r.name]] (.bool (decide (1<=r.ino)&&decide (r.ino<=256))):=by
 refine zn (eG T337 func337) (.bool _) ?_;have a:=IP r.ino 1 256;refine wI ?_;refine vo a ?_;refine zP ?_;exact ve.bool (by grind)
theorem U5:FR 338 [.elem [iv r.ino,.str r.name]] (.bool (decide (wC r.name=0))):=by
 refine zn (eG T338 func338) (.bool _) ?_;have a:=DV r.name;refine wI ?_;refine vo a ?_;refine zP ?_;exact ve.bool (by
  grind)
theorem W9:FR 315 [pc r] (.bool (xp r)):=by
 refine zn (eG T315 func315) (.bool _) ?_;have hid:∀v∈[iv r.ino,PV.str r.name],vg v:=fun v d=>by
  simp at d;rcases d with rfl|rfl
  .exact .int _ _
  .exact .str _
 refine zG ?_;have f:∀(G:LP),G=G:=fun _=>rfl;refine vm (vy (fun m s=>∃(i:Nat),m=2-i/\i<=2/\(xp r=(if i=0 then xp r else if i=1 then decide (wC r.name=0)else true))/\s.tm 7=.sl 1 0 0 2 4 1/\s.tm 8=iv 2/\s.tm 9=iv i/\s.df=[]/\s.H=[.row 386 2 0 0 [.agg [iv r.ino,.str r.name]],.row 36 1 0 0 [.fn 337 [.ptr 0 0 0 0 2],.fn 338 [.ptr 0 0 0 0 2]]]) (n:=2) ?_ ?_)
 .exact⟨0,rfl,by omega,rfl,zt,zt,zt,rfl,rfl⟩
 .rintro m ⟨tm,df,H⟩ ⟨i,rfl,hi,e,h7,h8,h9,rfl,rfl⟩;dsimp only at h7 h8 h9;refine vu (zj h8 h9) ?_ ?_
  .intro b;have b:i<2:=vM b;refine vD ?_
   match i,b with
   | 0,_ =>
    have c:=Sk r;rw[show ((0:Nat):Int)=0 from rfl]at h9;refine vA (zj h7 h9) ?_;refine vK h7 ?_;refine vo c ?_
    by_cases g:1<=r.ino/\r.ino<=256
    .have a:(decide (1<=r.ino)&&decide (r.ino<=256))=true:=by simp[g]
     refine wN a ?_;refine zH ?_;refine wa ?_;refine wA h9 ?_;exact⟨_,by omega,1,rfl,by omega,by unfold xp;grind,by simp[zb,h7],by simp[zb,h8],by simp[zb],rfl,rfl⟩
    .have a:(decide (1<=r.ino)&&decide (r.ino<=256))=false:=by simp;omega
     refine wN a ?_;refine uQ ?_;refine zG ?_;refine vw (wo ?_ (by simp only[go_sem]<;>rfl));exact ve.bool (by unfold xp;grind)
   | 1,_ =>
    have c:=U5 r;rw[show ((1:Nat):Int)=1 from rfl]at h9;have e:xp r=decide (wC r.name=0):=e;refine vA (zj h7 h9) ?_;refine vK h7 ?_;refine vo c ?_
    by_cases g:wC r.name=0
    .have a:decide (wC r.name=0)=true:=decide_eq_true g;refine wN a ?_;refine zH ?_;refine wa ?_;refine wA h9 ?_;exact⟨_,by omega,2,rfl,by omega,by grind,by simp[zb,h7],by simp[zb,h8],by simp[zb],rfl,rfl⟩
    .have a:decide (wC r.name=0)=false:=decide_eq_false g;refine wN a ?_;refine uQ ?_;refine zG ?_;refine vw (wo ?_ (by simp only[go_sem]<;>rfl));exact ve.bool (by grind)
  .intro b;have b:¬i<2:=vL b;obtain rfl:i=2:=zo;refine zO ?_;exact ve.bool (by grind)
theorem KT:FR 243 [pc r] (iv (if xp r=true then 0 else 250:Nat)):=by
 refine zn (eG T243 func243) (.int _ _) ?_;have h:=W9 r;refine wI ?_;refine vo h ?_
 cases a:xp r with
 | true =>
  refine zN ?_;refine zH ?_;refine zO ?_;exact ve.int rfl
 | false =>
  refine zN ?_;refine zU ?_;exact ve.int rfl
theorem VU(hl:l.length<=16)(hM:M<=g)(K:LP)(s:Nat)(hK:K[s]?=some (.row 29 1 g M (l.map uv))):FO ET 245 [.sl s g 0 l.length (2*l.length) 1] K false fun e' H'=>∃g',M<=g'/\e'=.ret (.sl s g' 0 16 32 1)/\H'=K.set s (.row 29 1 g' M ((l++List.replicate (16-l.length) 0).map uv)):=by
 refine wS (eG T245 func245) ?_;have a:(16:Int)-(l.length:Int)=((16-l.length:Nat):Int):=zo;have b:((16-l.length:Nat):Int)<=1000000:=zo;have c:((16-l.length:Nat):Int)*9<=140737488355328:=zo;have d:l.length+(16-l.length)=16:=zo;have e:∀n,List.replicate n (PV.int .u64 0)=(List.replicate n 0).map uv:=fun n=>by simp_all
 by_cases f:16-l.length=0
 .refine zG ?_;refine zB ?_;refine um ?_ (by simp(disch:=omega)only[go_sem,a,b,c,f,d,hK,e,zAP9,Int.le_refl]<;>rfl);refine vw (wo ?_);have h:l.length=16:=zo;rw[h];exact⟨g,hM,rfl,by rw[zEA9,List.replicate_zero,zAG9];exact Mh hK⟩
 .refine zG ?_;refine zB ?_;refine um ?_ (by simp(disch:=omega)only[go_sem,a,b,c,f,d,hK,e,zAP9]<;>rfl);refine vw (wo ?_);exact⟨g+1,by omega,rfl,by rw[ZG]⟩
theorem Y6(w v:Nat)(hw:w<65536)(hv:v<256):FR 244 [uv w,iv 16,iv 8,uv v] (.tuple [uv (w+v*65536),iv 0]) :=
 ol oK (by rfl) fun S h m o d=>by
  obtain⟨p,_,rfl,e,a⟩:=d.oc;obtain⟨q,_,rfl,f,a⟩:=a.oc;obtain⟨r,_,rfl,g,a⟩:=a.oc;obtain⟨s,_,rfl,j,a⟩:=a.oc;obtain rfl:=a.oN
  cases e;cases f;cases g;cases j
  have k:Nat.land w ((2 ^ 8-1)*2 ^ 16)=0:=by
   refine Nat.eq_of_testBit_eq fun i=>?_;show (w &&& ((2 ^ 8-1)*2 ^ 16)).testBit i=_;rw[Nat.testBit_and,zDM9]
   by_cases c:16<=i
   .rw[Nat.testBit_lt_two_pow (ZR hw (zBB9 (n:=2) zy c))];simp
   .simp[c]
  have l:Nat.lor (Nat.xor w 0) (v*2 ^ 16)=w+v*65536:=by
   have h1:Nat.xor w 0=w:=Nat.xor_zero w;rw[h1];have h2:=Nat.two_pow_add_eq_or_of_lt (i:=16) (b:=w) hw v;show w ||| v*2 ^ 16=_;rw[Nat.or_comm,zCX9 v,<- h2];omega
  refine⟨.ret (.tuple [.int .u64 (.ofNat (w+v*65536)),.int .i64 (.ofNat 0)]),h,?_,Zi _,fun _ _=>rfl,?_⟩;rotate_left
  .have:LR (PR (S0 S h.next h.next) h) [uv (w+v*65536),iv 0] [.int .u64 (.ofNat (w+v*65536)),.int .i64 (.ofNat 0)]:=LR.cons (PR.int _ _) (LR.cons (PR.int _ _) LR.nil);exact PR.tuple this.1 this.2
  show sm [.int .u64 (.ofNat w),.int .i64 (.ofNat 16),.int .i64 (.ofNat 8),.int .u64 (.ofNat v)] h=_;unfold sm;dsimp only;rw[k,l,show Nat.blt w 18446744073709551616=true by simp;omega,show Nat.blt v (2 ^ 8)=true by simp_all];rfl


theorem bj:xp r=true↔(1<=r.ino/\r.ino<=256/\wC r.name=0):=by
 unfold xp;simp[and_assoc]
theorem WN(h:xp r=false):FR 187 [pc r] (.tuple [wv 0 [],iv 250]):=by
 refine zn (eG T187 func187) (Lb.two (Lb.uvs _) (.int _ _)) ?_;have a:=KT r;rw[h]at a;refine zG ?_;refine zB ?_;refine zM a ?_;refine zS ?_;refine zO ?_;exact vN
theorem K9(h:r.name.length<=120):yU r=((r.ino+65536*r.name.length)::uU r.name)++List.replicate (16-((r.ino+65536*r.name.length)::uU r.name).length) 0:=by
 unfold yU;rw[Zp,gH]
 congr 2
 omega
theorem WP(h:xp r=true)(hb:wu r.name):FR 187 [pc r] (.tuple [wv 0 (yU r),iv 0]):=by
 refine zn (eG T187 func187) (Lb.two (Lb.uvs _) (.int _ _)) ?_;have b:=KT r;rw[h]at b;obtain⟨h1,h2,h3⟩:=(bj r).1 h;have f:=cd h3;have g:=Y6 r.ino r.name.length zo zo;have d:=B8 1 r.name hb zo;rw[K9 r f.2];have m:=gH r.name;rw[zCX9 65536];generalize r.ino+r.name.length*65536=X at *
 generalize uU r.name=L at *
 have i:(r.ino:Int)<18446744073709551616:=zo;have j:(r.name.length:Int)<18446744073709551616:=zo;have k:r.name.length<=1000000:=zo;have a:¬L.length=0:=zo;have l:(1+L.length)*9<=140737488355328:=zo;obtain⟨ino,name⟩:=r;dsimp only at *
 refine zG ?_;refine zB ?_;refine zM b ?_;refine mL ?_;refine zB ?_;refine vK (zj i j) ?_;refine wD g ?_;refine zB ?_;refine vK k ?_;refine mM d ?_ ?_;(repeat(first|exact trivial|refine And.intro ?_ ?_|exact .int _ _|exact .bool _|exact .list _ _ _|exact .elem _|exact .nilsl|exact .nil _ _|exact .str _|refine ze.aggL ?_|refine ze.fnL ?_|refine ze.tL ?_|refine .iface ?_|exact gE rfl rfl (by assumption)))
 .exact bV rfl (Zi _) (Zi _) rfl (Zi _)
 .exact trivial
 refine vS (zj a l) ?_;have c:=VU 1 0 (X::L) (by simp;omega) (Zn _) [.row 73 2 0 0 [.agg [iv ino,.str name]],.row 29 1 1 0 ((X::L).map uv),.row 5 1 0 0 (bl name)] 1 rfl;have e:((X::L)++List.replicate (16-(X::L).length) 0).length=16:=by rw[Zl,zAP9,Zp];omega
 generalize (X::L)++List.replicate (16-(X::L).length) 0=Y at *
 rw[Zp,zBJ9 L.length 1]at c;refine wW c ?_ (by first|rfl|(simp only[go_sem,a]<;>rfl)) (by simp only[go_sem,a]<;>rfl);rintro n o ⟨p,q,rfl,rfl⟩;refine zP ?_;exact ze.tL ⟨ez rfl (Zn _) (Zi _) e.symm (Zi _),.int _ _,trivial⟩


theorem Nx(q:Nat)(a b:LN)(hl:a.length<1000000000):FR 188 [wv p a,wv q b] (.bool (decide (a=b))):=by
 refine zn (eG T188 func188) (.bool _) ?_;refine zG ?_;refine wn ?_ ?_ (by simp only[go_sem]<;>rfl)
 .intro f;have f:¬a.length=b.length:=fun e=>by grind
  refine zO ?_;exact ve.bool (by grind)
 intro g;have g:a.length=b.length:=by
  have h2:(a.length:Int)=(b.length:Int):=by simpa using g
  omega
 refine wK ?_;refine zG ?_;refine vm (vy (fun m s=>∃(i:Nat),m=a.length-i/\i<=a.length/\decide (a=b)=decide (a.drop i=b.drop i)/\s.tm 0=wv p a/\s.tm 1=wv q b/\s.tm 12=iv a.length/\s.tm 13=iv i/\s.df=[]/\s.H=[]) (n:=a.length) ?_ ?_)
 .exact⟨0,rfl,Zn _,rfl,zt,zt,zt,zt,rfl,rfl⟩
 .rintro m ⟨tm,df,H⟩ ⟨i,rfl,hi,hd,h0,h1,h12,h13,rfl,rfl⟩;dsimp only at *
  refine vu (zj h12 h13) ?_ ?_
  .intro c;have c:i<a.length:=vM c;have d:i<b.length:=zo;have j:a.drop i=a[i]::a.drop (i+1):=Zs c;have k:b.drop i=b[i]::b.drop (i+1):=Zs d;have l:(a.map uv)[i]?=some (uv a[i]):=by rw[Zt,Zg c];rfl
   have o:(b.map uv)[i]?=some (uv b[i]):=by rw[Zt,Zg d];rfl
   rw[j,k]at hd;generalize a[i]=x at *
   generalize b[i]=y at *
   refine vD ?_;refine vA h13 ?_;refine wV ?_;refine vj (ww h0 h1 h13 l o c d) ?_;refine wn ?_ ?_
   .intro f;have f:¬x=y:=fun e=>by grind
    refine zO ?_;exact ve.bool (by grind)
   intro h;have h:x=y:=by
    have h2:(x:Int)=(y:Int):=by simpa using h
    omega
   refine wK ?_;refine wa ?_;refine wA h13 ?_;exact⟨_,by omega,i+1,rfl,c,by grind,zu h0,zu h1,zu h12,zt,rfl,rfl⟩
  .intro c;have c:¬i<a.length:=vL c;refine zO ?_;exact ve.bool (by grind)
theorem Cl:∀b:LN,qj (bl b)=some (b.map fun n=>TV.int .u8 (.ofNat n))
 | []=>rfl
 | x::b=>by
  have c:=Cl b;show (match(match qj (bl b)with|some a=>some (TV.int .u8 (.ofNat x)::a)|none=>none)with|x=>x)=_
  grind
theorem Ff:∀{b:LN},wu b->qs (b.map fun n=>TV.int .u8 (.ofNat n))=some b
 | [],_=>rfl
 | x::b,h=>by
  have a:=Ff (b:=b) fun y c=>h y (Zo _ c);have d:=h x (Zr ..);show (bif Nat.blt x 256 then(match qs (b.map fun n=>TV.int .u8 (.ofNat n))with|some s=>some (x::s)|none=>none)else none)=_;rw[a,show Nat.blt x 256=true by simp_all];rfl
def ao(w:LN):FE:=match gQ w with
 | some r=>.ret (.tuple [pc r,iv 0])
 | none=>.ret (.tuple [pc ⟨0,[]⟩,iv 250])
theorem Lb.recd:Lb (pc r):=.agg fun x a=>by
 simp at a;rcases a with rfl|rfl
 .exact .int _ _
 .exact .str _
theorem Jd:gh (ao w):=by
 unfold ao
 split
 .exact Lb.two (Lb.recd _) (.int _ _)
 .exact Lb.two (Lb.recd _) (.int _ _)
theorem NO(hl:w.length=16)(hw:∀x∈w,x<18446744073709551616):FN ET 129 [wv p w] (ao w):=by
 obtain⟨h,t,rfl⟩:∃h t,w=h::t:=by
  cases w with
  | nil=>grind
  | cons h t=>grind
 have o:h<18446744073709551616:=hw h (Zr ..);have i:=tL h 0 16 o zy zy;have j:=tL h 16 8 o zy zy;rw[show h/2 ^ 0%2 ^ 16=h%65536 by omega]at i;rw[show h/2 ^ 16%2 ^ 8=h/65536%256 by simp only[Nat.reducePow]]at j;have N:h%65536<65536:=zDB9 _ zy;have O:h/65536%256<256:=zDB9 _ zy;have D:ao (h::t)=(if h/65536%256<=120/\xp ⟨h%65536,(uS t).take (h/65536%256)⟩=true/\yU ⟨h%65536,(uS t).take (h/65536%256)⟩=h::t then .ret (.tuple [pc ⟨h%65536,(uS t).take (h/65536%256)⟩,iv 0])else .ret (.tuple [pc ⟨0,[]⟩,iv 250])):=by
  unfold ao gQ;simp only[List.getD_cons_zero,zDF9,zCN9]
  split<;>rename_i h1
  .split at h1
   .rename_i h2;injection h1 with h1;subst h1;rw[if_pos h2]
   .cases h1
  .split at h1
   .cases h1
   .rename_i h2;rw[if_neg h2]
 have k:=Jd (h::t);rw[D]at k⊢;generalize h%65536=I at *
 generalize h/65536%256=m at *
 have q:t.length=15:=by simpa using hl
 have r:=Fz p t (fun x G=>hw x (Zo _ G)) zo;have s:(uS t).length=120:=by rw[ec,q]
 have u:=tu t;generalize uS t=B at *
 have n:wu (B.take m):=u.take m;have a:(h::t).map uv=uv h::t.map uv:=rfl;have f:(uv h::t.map uv).length=16:=by rw[<- a,ZB];exact hl
 refine zn (eG T129 func129) k ?_;refine zG ?_;refine sU ?_;(repeat(first|refine vq ?_|refine vC (zj a f) ?_));refine zH ?_;refine zB ?_;refine vK a ?_;refine wD i ?_;refine zB ?_;refine vK a ?_;refine wD j ?_
 by_cases d:m<=120
 rotate_left
 .have g:(120:Int)<(m:Int):=zo;refine wB g ?_;refine fL ⟨rfl,?_⟩;refine vq (wK ?_);refine zG ?_;refine vw ?_;refine⟨fun l h=>(by cases h),wo ?_⟩;rw[if_neg (fun h=>d h.1)];exact vN
 have g:¬(120:Int)<(m:Int):=zo;refine kp g ?_;refine zB ?_;have v:(uv h::t.map uv).drop 1=t.map uv:=rfl;have y:(bl B).take m=bl (B.take m):=by unfold bl;rw[zAK9]
 have J:=Cl (B.take m);have K:=Ff n;have P:(I:Int)<9223372036854775808:=zo;have L:m<=120:=d;refine zB ?_;refine xr (vh a v f) ?_;refine vo r ?_;refine wN (wQ s yj y J K L) ?_;generalize B.take m=nm at *
 refine dW (zb (zb (zb n9 0 (wv p (h::t))) 2 (.ptr 0 0 0 0 2)) 3 (iv 0)) (yY _ _ (yY _ _ (yY _ _ (eJ _) rfl) rfl) rfl) ?_;refine zB ?_
 cases c:xp ⟨I,nm⟩with
 | false =>
  have z:=WN ⟨I,nm⟩ c;refine zM z ?_;refine zS ?_;refine fL ⟨rfl,?_⟩;refine vq (wK ?_);refine zG ?_;refine vw ?_;refine⟨fun l h=>(by cases h),wo ?_⟩;rw[if_neg (fun h=>zCG9 h.2.1)];exact vN
 | true =>
  have A:=WP ⟨I,nm⟩ c n;have M:(yU ⟨I,nm⟩).length=16:=by
   have h3:=cd ((bj _).1 c).2.2;unfold yU;simp[gH];dsimp only at h3;omega
  have C:=Nx 0 p (yU ⟨I,nm⟩) (h::t) zo;generalize yU ⟨I,nm⟩=V at *
  refine zM A ?_;refine zB ?_;refine zI ?_;refine vo C ?_
  by_cases b:V=h::t
  .have e:decide (V=h::t)=true:=decide_eq_true b;refine wN e ?_;refine zH ?_;refine zG ?_;refine vw ?_;refine wo ?_;rw[if_pos ⟨d,rfl,b⟩];exact vN
  .have e:decide (V=h::t)=false:=decide_eq_false b;refine wN e ?_;refine uQ ?_;refine fL ⟨rfl,?_⟩;refine vq (wK ?_);refine zG ?_;refine vw ?_;refine⟨fun l h=>(by cases h),wo ?_⟩;rw[if_neg (fun h=>b h.2.2)];exact vN


theorem f44:ET.funcs.get 44=some T44:=eG _ func44
theorem KM(hl:r.name.length<1000000000):FR 115 [pc r] (iv (if xp r=true then 0 else 250:Nat)):=by
 refine zn (eG T115 func115) (.int _ _) ?_;have e:=rQ r.name zo;have a:=bj r
 by_cases b:(r.ino:Int)<1
 .refine wB b ?_;refine zO ?_;exact ve.int (by rw[if_neg (fun h=>by have:=a.1 h;omega)];rfl)
 by_cases d:(256:Int)<(r.ino:Int)
 .refine wB (zj b d) ?_;refine zO ?_;exact ve.int (by rw[if_neg (fun h=>by have:=a.1 h;omega)];rfl)
 refine zG ?_;refine vK (zj b d) ?_;refine vo e ?_
 by_cases c:wC r.name=0
 .rw[c];refine zN ?_;refine zH ?_;refine zO ?_;exact ve.int (by rw[if_pos (a.2 ⟨by omega,by omega,c⟩)];rfl)
 .have f:¬((wC r.name:Nat):Int)=0:=zo;refine wN f ?_;refine zU ?_;exact ve.int (by rw[if_neg (fun h=>c (a.1 h).2.2)];rfl)
theorem WK(hl:r.name.length<1000000000)(h:xp r=false):FR 63 [pc r] (.tuple [wv 0 [],iv 250]):=by
 refine zn (eG T63 func63) (Lb.two (Lb.uvs _) (.int _ _)) ?_;have a:=KM r hl;rw[h]at a;refine zG ?_;refine zB ?_;refine zM a ?_;refine zS ?_;refine zO ?_;exact vN
theorem KQ(h:xp r=true)(hb:wu r.name):FR 63 [pc r] (.tuple [wv 0 (yU r),iv 0]):=by
 refine zn (eG T63 func63) (Lb.two (Lb.uvs _) (.int _ _)) ?_;obtain⟨h1,h2,h3⟩:=(bj r).1 h;have y:=cd h3;have b:=KM r zo;rw[h]at b;have x:=Ww 1 r.name hb zo;rw[K9 r y.2];have C:=gH r.name;rw[zCX9 65536];have c:(r.ino:Int)<18446744073709551616:=zo;have d:(r.name.length:Int)<18446744073709551616:=zo;have e:r.name.length<=1000000:=zo;have f:(65536:Int)*(r.name.length:Int)=((r.name.length*65536:Nat):Int):=zo;have g:(r.ino:Int)+((r.name.length*65536:Nat):Int)=((r.ino+r.name.length*65536:Nat):Int):=zo;have i:((r.name.length*65536:Nat):Int)<18446744073709551616:=zo;have j:((r.ino+r.name.length*65536:Nat):Int)<18446744073709551616:=zo;generalize uU r.name=L at *
 have k:¬L.length=0:=zo;have A:(1+L.length)*9<=140737488355328:=zo;have a:(List.all (List.map (fun n:Nat=>PV.int .u8 (n:Int)) r.name) fun v=>(PV.cells v).all (uD 4))=true:=by
  rw[ZN];intro v l;rw[Zu]at l;obtain⟨n,_,rfl⟩:=l;rfl
 unfold PV.cells at a;obtain⟨ino,name⟩:=r;dsimp only at *
 refine zG ?_;refine zB ?_;refine zM b ?_;refine mL ?_;refine vR ?_;refine No x ?_ ?_ (by simp(disch:=omega)only[go_sem,c,d,e,f,g,i,j,a]<;>rfl);(repeat(first|exact trivial|refine And.intro ?_ ?_|exact .int _ _|exact .bool _|exact .list _ _ _|exact .elem _|exact .nilsl|exact .nil _ _|exact .str _|refine ze.aggL ?_|refine ze.fnL ?_|refine ze.tL ?_|refine .iface ?_|exact gE rfl rfl (by assumption)));(exact bV rfl (Zi _) (Zi _) rfl (Zi _);exact trivial);refine vW (kO c d e k A f g i j a) ?_;refine vj k ?_;have D:L.length<=15:=zo;have m:(16:Int)-((1+L.length:Nat):Int)=((16-(L.length+1):Nat):Int):=zo;have o:1+L.length+(16-(L.length+1))=16:=zo;have p:L.length+(16-(L.length+1))=15:=zo;generalize 16-(L.length+1)=z at *
 have q:(z:Int)<=1000000:=zo;have s:(z:Int)*9<=140737488355328:=zo;have t:∀n,List.replicate n (PV.int .u64 0)=(List.replicate n 0).map uv:=fun n=>by rw[zEP9];rfl
 have u:((ino+name.length*65536)::(L++List.replicate z 0)).length=16:=by simp;omega
 have B:(1+L.length=L.length+1)=True:=eq_true (zBJ9 _ _)
 by_cases w:z=0
 .subst w;(repeat(first|refine vq ?_|refine um ?_ (by simp(disch:=omega)only[go_sem,m,o,p,q,s,t,zAP9,Int.le_refl]<;>rfl)));refine vw (wo ?_);exact ze.tL ⟨ez (by simp only[List.replicate_zero,zAG9];rfl) (Zn _) (Zi _) (by rw[u];omega) (Zi _),.int _ _,trivial⟩
 ·(repeat(first|refine vq ?_|refine um ?_ (by simp(disch:=omega)only[go_sem,m,o,p,B,q,s,w,t,zAP9]<;>rfl)));refine vw (wo ?_);exact ze.tL ⟨ez (by rw[Z3,ZG];rfl) (Zn _) (Zi _) u.symm (Zi _),.int _ _,trivial⟩


theorem Wy(hl:w.length=16)(hw:∀x∈w,x<18446744073709551616):FN ET 44 [wv p w] (ao w):=by
 obtain⟨h,t,rfl⟩:∃h t,w=h::t:=by
  cases w with
  | nil=>simp at hl
  | cons h t=>exact⟨h,t,rfl⟩
 have U:h<18446744073709551616:=hw h (Zr ..);have X:h%65536<65536:=zDB9 _ zy;have K:h/65536%256<256:=zDB9 _ zy;have R:h=65536*(h/65536)+h%65536:=(Nat.div_add_mod h 65536).symm;have g:ao (h::t)=(if h/65536%256<=120/\xp ⟨h%65536,(uS t).take (h/65536%256)⟩=true/\yU ⟨h%65536,(uS t).take (h/65536%256)⟩=h::t then .ret (.tuple [pc ⟨h%65536,(uS t).take (h/65536%256)⟩,iv 0])else .ret (.tuple [pc ⟨0,[]⟩,iv 250])):=by
  unfold ao gQ;simp only[List.getD_cons_zero,zDF9,zCN9]
  split<;>rename_i h1
  .grind
  .grind
 have b:=Jd (h::t);have k:¬(h<16777216/\h/65536<=120)->ao (h::t)=.ret (.tuple [pc ⟨0,[]⟩,iv 250]):=fun Y=>by
  rw[g,if_neg];rintro ⟨h1,h2,h3⟩;have h4:=(bj _).1 h2;have Z:=cd h4.2.2;unfold yU at h3
  grind
 have S:(((16:Int)=((h::t).map uv).length) ):=by rw[ZB,hl];rfl
 have a:(h::t).map uv=uv h::t.map uv:=rfl;have c:(uv h::t.map uv).length=16:=by rw[<- a,ZB];exact hl
 have L:(h:Int)/65536=((h/65536:Nat):Int):=zo;have M:(h:Int)%65536=((h%65536:Nat):Int):=zo;have e:Int.tdiv (h:Int) 65536=((h/65536:Nat):Int):=by rw[zCJ9 zo];exact L
 have l:Int.tmod (h:Int) 65536=((h%65536:Nat):Int):=by rw[zDE9 zo];exact M
 by_cases i:(16777216:Int)<=(h:Int)
 .rw[k zo]at b⊢;refine zn f44 b ?_;(repeat(first|refine vq ?_|refine vC (vz a c i l) ?_));refine zU ?_;exact vN
 by_cases o:(120:Int)<((h/65536:Nat):Int)
 .rw[k zo]at b⊢;refine zn f44 b ?_;(repeat(first|refine vq ?_|refine vC (vX a c i o e) ?_));refine zU ?_;exact vN
 have r:h/65536%256=h/65536:=zo;rw[r]at g K;rw[g]at b⊢;generalize h%65536=I at *
 generalize h/65536=m at *
 have s:t.length=15:=by simpa using hl
 have u:=Ws p t (fun x N=>hw x (Zo _ N)) zo;have v:(uS t).length=120:=by rw[ec,s]
 have y:=tu t;generalize uS t=B at *
 have n:wu (B.take m):=y.take m;have q:m<=120:=zo;refine zn f44 b ?_;(repeat(first|refine vq ?_|refine vC (vX a c i o e) ?_));refine zH ?_;refine zB ?_;have z:(uv h::t.map uv).drop 1=t.map uv:=rfl;have A:(bl B).take m=bl (B.take m):=by unfold bl;rw[zAK9]
 have O:=Cl (B.take m);have P:=Ff n;refine zB ?_;refine xr (vh a z c) ?_;refine wD u ?_;refine vR ?_;refine aA ?_ (by simp(disch:=omega)only[go_sem,a,e,l,v,yj,A,O,P,q]<;>rfl);refine vj a ?_;have C:m<=120:=q;have Q:(B.take m).length<=120:=by rw[ZC];omega
 generalize B.take m=nm at *
 refine dW (zb (zb (zb n9 0 (wv p (h::t))) 2 (.ptr 0 0 0 0 2)) 5 (.ptr 1 0 0 0 2)) (yY _ _ (yY _ _ (yY _ _ (eJ _) rfl) rfl) rfl) ?_;refine zB ?_
 cases f:xp ⟨I,nm⟩with
 | false =>
  have D:=WK ⟨I,nm⟩ (by grind) f;refine zM D ?_;refine zS ?_;refine zO ?_;rw[if_neg (fun h=>zCG9 h.2.1)];exact vN
 | true =>
  have G:=KQ ⟨I,nm⟩ f n;have T:(yU ⟨I,nm⟩).length=16:=by
   have h3:=cd ((bj _).1 f).2.2;unfold yU;simp[gH];dsimp only at h3;omega
  have J:=WF 0 p (yU ⟨I,nm⟩) (h::t) zo;generalize yU ⟨I,nm⟩=V at *
  refine zM G ?_;refine zB ?_;refine zI ?_;refine vo J ?_
  by_cases d:V=h::t
  .have j:decide (V=h::t)=true:=decide_eq_true d;refine wN j ?_;refine zH ?_;refine zO ?_;rw[if_pos ⟨C,rfl,d⟩];exact vN
  .have j:decide (V=h::t)=false:=decide_eq_false d;refine wN j ?_;refine zU ?_;rw[if_neg (fun h=>d h.2.2)];exact vN


theorem WI(h:1<=b/\b<=40)(s:LN)(hl:s.length<1000000000)(hs:¬wC s=0):FR 35 [wc b 28,.str s] (.tuple [uv 0,iv (wC s)]):=by
 refine zn (eG T35 func35) (Lb.two (.int _ _) (.int _ _)) ?_;have a:=Bq b 28 h;have c:=rQ s zo;have d:¬((wC s:Nat):Int)=0:=zo;rw[show decide (28=28)=true from rfl]at a;unfold wc uu at a⊢;refine wl a ?_;refine zH ?_;refine zB ?_;refine zM c ?_;refine wB d ?_;refine zO ?_;exact vN
theorem EC(h:1<=b/\b<=40)(s:LN)(hb:wu s)(hs:wC s=0):FR 35 [wc b 28,.str s] (.tuple [uv (yr b s),iv 0]):=by
 refine zn (eG T35 func35) (Lb.two (.int _ _) (.int _ _)) ?_;have f:=cd hs;have d:s.length<=1000000:=zo;have a:=Bq b 28 h;have c:=rQ s zo;have e:=WA 1 3 5 b s zy zy hb zo zo;rw[hs]at c;unfold yr;generalize pH 3 5 s/2 ^ (64-b)%2 ^ b=R at *
 rw[show decide (28=28)=true from rfl]at a;unfold wc uu at a⊢;refine wl a ?_;refine zH ?_;refine zB ?_;refine zM c ?_;refine mL ?_;refine zB ?_;refine vK d ?_;refine mM e ?_ ?_;(repeat(first|exact trivial|refine And.intro ?_ ?_|exact .int _ _|exact .bool _|exact .list _ _ _|exact .elem _|exact .nilsl|exact .nil _ _|exact .str _|refine ze.aggL ?_|refine ze.fnL ?_|refine ze.tL ?_|refine .iface ?_|exact gE rfl rfl (by assumption)))
 .exact bV rfl (Zi _) (Zi _) rfl (Zi _)
 .exact⟨.int _ _,trivial⟩
 refine zP ?_;exact vN
theorem l8(h:1<=b/\b<=40)(s:LN):yr b s<1099511627776:=by
 unfold yr;generalize pH 3 5 s/2 ^ (64-b)=X;have h2:2 ^ b<=2 ^ 40:=zBB9 zy h.2;omega
theorem Wv(h:1<=b/\b<=40)(s:LN)(R V:Nat)(C:Int)(hC:(65536:Int)=C)(g1:C*(R:Int)=(V:Int))(g2:(V:Int)<18446744073709551616)(hc:FR 35 [wc b 28,.str s] (.tuple [uv R,iv 0])):FR 34 [wc b 28,.str s,iv 0] (.tuple [uv V,iv 0]):=by
 have a:=Bq b 28 h;refine zn (eG T34 func34) (Lb.two (.int _ _) (.int _ _)) ?_;rw[show decide (28=28)=true from rfl]at a;unfold wc uu at a hc⊢;refine wl a ?_;refine zH ?_;refine zB ?_;refine zM hc ?_;refine mL ?_;rw[hC];refine wm (zj g1 g2) ?_;exact vN
theorem KN(h:1<=b/\b<=40)(s:LN)(hb:wu s)(hs:wC s=0)(V:Nat)(hV:V=65536*yr b s):FR 34 [wc b 28,.str s,iv 0] (.tuple [uv V,iv 0]):=by
 have a:=l8 b h s;exact Wv b h s (yr b s) V 65536 rfl zo zo (EC b h s hb hs)
def gR(at_:Nat)(w:LN)(n:Nat):LJ:=(List.range n).map fun k=>(at_+(k+1)%16,w.getD ((k+1)%16) 0)
theorem BV:(gR a w n).length=n:=by simp[gR]
theorem Q6{l:LJ}:∀v∈(l.map vd).flatMap PV.cells,vg v:=fun v a=>by
 obtain⟨x,b,a⟩:=ZF.1 a;obtain⟨y,_,rfl⟩:=Zu.1 b;simp[PV.cells]at a;rcases a with rfl|rfl<;>exact .int _ _
theorem WH(ha:a<1000000000)(r:xw)(h:xp r=true)(hb:wu r.name):FR 26 [iv a,pc r] (.tuple [.list 0 2 ((gR a (yU r) 16).map vd),iv 0]):=by
 refine zn (eG T26 func26) (Lb.two (my _) (.int _ _)) ?_;have p:=KQ r h hb;have y:=cd ((bj _).1 h).2.2;have c:(yU r).length=16:=by
  unfold yU;simp[gH];omega
 generalize yU r=w at *
 refine zG ?_;refine zB ?_;refine zM p ?_;refine zG ?_;refine yD 120 2 (i:=8) rfl ?_;simp only[uF,Zp,Zz,Zv,ZA];refine zG ?_;refine vm (vy (fun m s=>∃(i:Nat),m=16-i/\i<=16/\s.tm 0=iv a/\s.tm 6=wv 0 w/\s.tm 7=iv 0/\s.tm 8=.sl 1 i 0 i (2*i) 2/\s.tm 9=iv (i+1:Nat)/\s.df=[]/\∃G,s.H=.row 73 2 0 0 [pc r]::.row 120 2 i 0 ((gR a w i).map vd)::G) (n:=16) ?_ ?_)
 .exact⟨0,rfl,Zn _,zt,zt,zt,zt,zt,rfl,[],rfl⟩
 .rintro m ⟨tm,df,H⟩ ⟨i,rfl,hi,h0,h6,h7,h8,h9,rfl,G,rfl⟩;dsimp only at *
  refine vu (vh h6 h9 c) ?_ ?_
  .intro b;have b:i<16:=vM b;have q:w[(i+1)%16]?=some (w.getD ((i+1)%16) 0):=by
    rw[Zq,Zg zo];rfl
   have f:gR a w (i+1)=gR a w i++[(a+(i+1)%16,w.getD ((i+1)%16) 0)]:=by
    unfold gR;rw[zAQ9,ZG];rfl
   have g:(w.map uv)[(i+1)%16]?=some (uv (w.getD ((i+1)%16) 0)):=vU q;have j:(gR a w i).length=i:=BV _ _ _;generalize w.getD ((i+1)%16) 0=x at *
   generalize gR a w i=S at *
   have l:((i+1:Nat):Int).tmod 16=(((i+1)%16:Nat):Int):=by rw[zDE9 zo];omega
   have t:(i+1)%16<16:=zDB9 _ zy;generalize (i+1)%16=k at *
   have o:(a:Int)+(k:Int)=((a+k:Nat):Int):=zo;refine vD ?_;have e:(i+1)*17<=140737488355328:=zo;refine vp (xI h0 h6 h8 h9 l o g c j t e) ?_;refine wa ?_;refine wA h9 ?_;refine⟨_,by omega,i+1,rfl,b,zu h0,zu h6,zu h7,zt,zt,rfl,?G,?u⟩
   case u=>rw[f,ZG];rfl
  .intro b;have b:¬i<16:=vL b;obtain rfl:i=16:=zo;refine vA (zj h7 h8) ?_;refine vw (wo ?_ (by simp only[go_sem]<;>rfl));exact ze.tL ⟨ze.wh rfl rfl (by rw[ZB,BV]) (by rw[ZB,BV];omega) (fun v d=>by rw[Zu]at d;obtain⟨x,_,rfl⟩:=d;rfl) Q6,.int _ _,trivial⟩


theorem f14:ET.funcs.get 14=some T14:=cW func14
def kz(n d:Nat)(a:Int):Bool:=decide (28=d)&&decide (n=3072)&&decide (0<=a)&&decide (a<3072)
variable {Q S b ino key:Nat}{l:List (LN)}{n:Nat}{name:LN}{r:xw}{w:LN}(e:Int)(p:Nat)
theorem fX{d:Nat}{a:Int}:kz n d a=true↔28=d/\n=3072/\0<=a/\a<3072:=by simp[kz,and_assoc]
theorem EB(b d:Nat)(h:1<=b/\b<=40)(w:LN)(hw:vE w.length)(a:Int):FR 42 [wv p w,wc b d,iv a] (.bool (kz w.length d a)):=by
 refine zn (eG T42 func42) (.bool _) ?_;have c:=Bq b d h;unfold kz;unfold wc uu at c⊢
 by_cases e:28=d
 rotate_left
 .rw[decide_eq_false e]at c⊢;refine wI ?_;refine vo c ?_;refine zP ?_;exact ve.bool rfl
 rw[decide_eq_true e]at c⊢
 by_cases i:w.length=3072
 rotate_left
 .have g:¬(w.length:Int)=3072:=zo;refine wI ?_;refine vo c ?_;refine xf g ?_;exact ve.bool (by grind)
 have g:(w.length:Int)=3072:=zo
 by_cases f:0<=a
 rotate_left
 .refine wI ?_;refine vo c ?_;refine xf (zj g f) ?_;exact ve.bool (by grind)
 refine wI ?_;refine vo c ?_;refine xf (zj g f) ?_;exact ve.bool (by grind)
theorem K5(hw:w.length=3072)(hn:n<=64):(kl w n).length=16:=by unfold kl;grind
theorem K6:∀x∈kl w n,x∈w:=fun x a=>ZQ (ZU a)
theorem Wq(b:Nat)(w:LN)(hw:w.length=3072)(n:Nat)(hn:1<=n/\n<=64):FP ET 45 [wv p w,wc b 28,iv n] (.ret (wv p (kl w n))):=by
 refine mO (eG T45 func45) ?_;unfold wc uu;have a:(n:Int)-1=((n-1:Nat):Int):=zo;have c:(16:Int)*((n-1:Nat):Int)=((16*(n-1):Nat):Int):=zo;have d:(704:Int)+((16*(n-1):Nat):Int)=((704+16*(n-1):Nat):Int):=zo;have e:((704+16*(n-1):Nat):Int)+16=((704+16*(n-1)+16:Nat):Int):=zo;have f:0<w.length:=zo;have g:List.drop (704+16*(n-1)) (List.take (704+16*(n-1)+16) (w.map uv))=(kl w n).map uv:=by
  unfold kl;rw[zBL9,zCB9,zAK9,Z1]
 have h:704+16*(n-1)<=704+16*(n-1)+16:=zo;have i:704+16*(n-1)+16<=w.length:=zo;refine wm (kQ a c d e f g h i) ?_;exact ze.list _ _ _
theorem QK(k k1 k2:IntKind)(x y z x' y' z':Int)(s s':LN):yS [1,1,1,3] [.int k x,.int k1 y,.int k2 z,.str s] [.int k x',.int k1 y',.int k2 z',.str s']=some (decide (x=x')&&decide (y=y')&&decide (z=z')&&decide (s=s')):=by
 by_cases h:x=x'<;>by_cases h2:y=y'<;>by_cases h3:z=z'<;>by_cases h4:s=s'<;>simp[yS,fm,kB,D5,h,h2,h3,h4]
def nu(x:Pr):LJ->Nat
 | []=>0
 | y::l=>if y.1<x.1 then nu x l+1 else 0
theorem El(x:Pr):∀l,nu x l<=l.length
 | []=>Zi _
 | y::l=>by
  have:=El x l;unfold nu
  grind
def kD(out:LJ)(x:Pr):LJ:=out.take (nu x out)++x::out.drop (nu x out)
theorem Wi(out:LJ)(x:Pr):(kD out x).length=out.length+1:=by
 have:=El x out;unfold kD
 grind
def kI(l:LJ):LJ:=l.foldl kD []
theorem De:∀(l out:LJ),(l.foldl kD out).length=out.length+l.length
 | [],_=>rfl
 | x::l,out=>by rw[zDH9,De l,Wi,Zp];omega
theorem E7(l:LJ):(kI l).length=l.length:=by unfold kI;rw[De];simp
theorem Ii:∀(l out:LJ),∀x∈l.foldl kD out,x∈out\/x∈l
 | [],_,x,h=>.inl h
 | y::l,out,x,h=>by
  rcases Ii l _ x h with h|h
  .unfold kD at h
   grind
  grind
theorem Mq{l:LJ}:∀x∈kI l,x∈l:=fun x h=>by
 rcases Ii l [] x h with h|h
 .cases h
 .exact h
theorem dq(n:Nat):(n==n+1)=false:=by simp
theorem pE(n:Nat):(n+1==n)=false:=by simp
theorem WG(l:LJ)(hl:l.length<=100):FR 37 [vJ p l] (vJ 0 (kI l)):=by
 refine zn (eG T37 func37) (Lb.pvs _) ?_;refine zG ?_;refine yD 92 2 (i:=3) rfl ?_;refine sQ 3 0 (w:=vJ 0 []) (o:=.row 92 2 0 0 []) rfl (ze.wh (l:=[]) (lI rfl) rfl rfl (Zi _) (fun v R=>by grind) (fun v R=>by simp at R)) ?_;refine zG ?_;refine vm (vy (fun m s=>∃(i:Nat) (G:LP),m=l.length-i/\i<=l.length/\s.tm 0=vJ p l/\s.tm 3=vJ 0 ((l.take i).foldl kD [])/\s.tm 4=iv i/\s.df=[]/\s.H=G) (n:=l.length) ?_ ?_)
 .exact⟨0,_,rfl,Zn _,zt,zt,zt,rfl,rfl⟩
 rintro m ⟨L,M,H⟩ ⟨i,G,rfl,hi,a,h3,h4,rfl,rfl⟩;dsimp only at a h3 h4;refine vu (zj a h4) ?_ ?_;rotate_left
 .intro b;have b:¬i<l.length:=vL b;obtain rfl:i=l.length:=zo;rw[ZL]at h3;refine wm h3 ?_;exact ze.list _ _ _
 intro b;have b:i<l.length:=vM b;obtain⟨x,S⟩:=wX (l:=l) b;have e:(l.map pv)[i]?=some (pv x):=vU S;have V:(l.take (i+1)).foldl kD []=kD ((l.take i).foldl kD []) x:=by
  rw[ZE,S,List.foldl_append];rfl
 have ab:((l.take i).foldl kD []).length<=100:=by rw[De,ZC,Zz];omega
 generalize (l.take i).foldl kD []=out at *
 refine vD ?_;refine zG ?_;refine ur (Q:=fun D d=>D=.norm/\d.tm 0=vJ p l/\d.tm 3=vJ 0 out/\d.tm 4=iv i/\d.tm 5=iv (nu x out)/\d.df=[]/\d.H=H) (vm (vy (fun m s=>∃k:Nat,m=out.length-k/\k<=out.length/\nu x out=k+nu x (out.drop k)/\s.tm 0=vJ p l/\s.tm 3=vJ 0 out/\s.tm 4=iv i/\s.tm 5=iv k/\s.df=[]/\s.H=H) (n:=out.length) ?_ ?_)) ?_
 .exact⟨0,rfl,Zn _,by simp,zu a,zu h3,zu h4,zt,rfl,rfl⟩
 .clear a h3 h4;rintro m ⟨L,M,H⟩ ⟨k,rfl,hk,C,a,h3,h4,c,rfl,rfl⟩;dsimp only at *
  refine vR ?_
  by_cases J:k<out.length
  rotate_left
  .obtain rfl:k=out.length:=zo;rw[ZS]at C;have K:¬(out.length:Int)<(out.length:Int):=zo;refine vj (vX a h3 h4 c K) ?_;refine uq ?_;refine bL ?_;exact⟨rfl,a,h3,h4,by rw[C];exact c,rfl,rfl⟩
  obtain⟨y,T⟩:=wX (l:=out) J;have P:(out.map pv)[k]?=some (pv y):=vU T;have X:out.drop k=y::out.drop (k+1):=pX T;rw[X,nu]at C;have K:(k:Int)<(out.length:Int):=zo
  by_cases O:y.1<x.1
  .have g:(y.1:Int)<(x.1:Int):=zo;rw[if_pos O]at C;refine vj (kO a h3 h4 c J b e P g K) ?_;refine uQ ?_;refine wK ?_;refine vm ?_;refine vp c ?_;exact⟨_,by omega,k+1,rfl,J,by omega,zu a,zu h3,zu h4,zu c,rfl,rfl⟩
  .have g:¬(y.1:Int)<(x.1:Int):=zo;rw[if_neg O]at C;refine vj (kO a h3 h4 c J b e P g K) ?_;refine uq ?_;refine bL ?_;exact⟨rfl,a,h3,h4,by rw[C];exact c,rfl,rfl⟩
 clear a h3 h4;rintro D ⟨L,M,N⟩ ⟨rfl,a,h3,h4,c,rfl,rfl⟩;dsimp only at *
 have r:=El x out;have Y:kD out x=out.take (nu x out)++x::out.drop (nu x out):=rfl;generalize nu x out=k at *
 have t:(out.map pv).take k=(out.take k).map pv:=zAK9.symm;have u:(out.map pv).drop k=(out.drop k).map pv:=Z1.symm;have ad:(out.take k).length=k:=by rw[ZC];omega
 have ah:(out.drop k).length=out.length-k:=ZX;generalize out.take k=A at *
 generalize out.drop k=B at *
 have z:A.length*17<=140737488355328:=zo;have f:(A.length+1)*17<=140737488355328:=zo;have h:(A.length+1+B.length)*17<=140737488355328:=zo;have j:(1+B.length)*17<=140737488355328:=zo;refine ur (Q:=fun D d=>D=.norm/\∃g U n,n=(kD out x).length/\d.tm 0=vJ p l/\d.tm 3=.sl N.length g 0 n (2*n) 2/\d.tm 4=iv i/\d.df=[]/\d.H=N++.row 92 2 g 0 ((kD out x).map pv)::U) (wV ?_) ?_
 .rw[Y,ZG,Z3,Zl,Zp]
  by_cases I:A.length=0
  .obtain rfl:=Z6 I
   by_cases q:B.length=0
   .obtain rfl:=Z6 q;refine uY (wP a h3 h4 c e r t u pE b z (ww f h j dq zyB zyC zyA)) ?_;refine uY (zj pE zyA) ?_;refine uY pE ?_;refine kM (wP pE a h3 h4 c e b r t u z (ww f h j dq zyA zyB zyC)) ?_;refine wY ?_;simp only[go_sem]
    simp_all
   .refine uY (wP a h3 h4 c e r t u pE q b (kQ z f h j dq zyB zyC zyA)) ?_;refine uY (zj pE zyA) ?_;refine uY (vz q j pE zyA) ?_;refine kM (wP pE q a h3 h4 c e b r t u (kQ z f h j dq zyA zyB zyC)) ?_;refine wY ?_;simp only[go_sem];exact⟨2,_,_,by omega,a,rfl,h4,rfl⟩
  .by_cases q:B.length=0
   .obtain rfl:=Z6 q;refine uY (wP I a h3 h4 c e r t u z pE (kQ b f h j dq zyA zyB zyC)) ?_;refine uY (vh f pE zyA) ?_;refine uY pE ?_;refine kM (wP pE I a h3 h4 c e b r t u (kQ z f h j dq zyA zyB zyC)) ?_;refine wY ?_;simp only[go_sem]
    simp_all
   .refine uY (wP I a h3 h4 c e r t u z pE (pZ q b f h j dq zyA zyB zyC)) ?_;refine uY (vh f pE zyA) ?_;refine uY (vX q h pE zyA zyB) ?_;refine kM (wP pE I q a h3 h4 c e b r t (pZ u z f h j dq zyA zyB zyC)) ?_;refine wY ?_;simp only[go_sem]
    grind
 clear a h3 h4 c;rintro D ⟨L,M,H⟩ ⟨rfl,g,U,n,Z,a,h3,h4,rfl,rfl⟩;dsimp only at a h3 h4;subst Z;refine sQ 3 N.length (w:=vJ 0 (kD out x)) (o:=.row 92 2 g 0 ((kD out x).map pv)) (by grind) (by
  dsimp only;rw[h3];exact ze.wh (l:=(kD out x).map pv) (lI (by simp only[il]<;>rfl)) rfl (by simp) (by simp) uG bS) ?_
 refine vp h4 ?_;refine⟨_,?m,i+1,_,rfl,b,zu a,by rw[V];simp[zb],zu h4,rfl,rfl⟩;omega


theorem Jj:∀(l:LB),∀x∈wU l,∃n∈l,x∈n.pairs
 | [],x,h=>by simp[wU]at h
 | n::l,x,h=>by
  rw[wU]at h;rcases ZW.1 h with h|h
  .exact⟨n,Zr ..,(zAU9.1 h).1⟩
  .obtain⟨k,hk,hx⟩:=Jj l x h;exact⟨k,Zo _ hk,hx⟩
theorem Gd(hw:WB w)(hl:w.length<=131072)(a:Int):PB (xM w a).1:=by
 unfold xM
 split
 rotate_left
 .exact fun c b=>by cases b
 split
 rotate_left
 .exact fun c b=>by cases b
 rename_i h g;obtain⟨f1,f2,f3,f4,f5⟩:=dI (w:=w) (T:=(wg w a.toNat).1) hl a.toNat (by rw[<- g]);have f:=f1 _ (Zj (rb f3).1);intro c b;obtain⟨n,d,b⟩:=Jj _ c b;rw[f.lv.is]at d;obtain⟨k,_,rfl⟩:=Zu.1 d;exact(RW (w:=zc w k) (fun x e=>hw x (by
  unfold zc at e;exact ZU (ZQ e)))).pairs c b
def ke(w:LN)(b d:Nat)(a:Int):List ub×Nat :=
 if kz w.length d a=true then(if(xM w a).2=0 then(match kc w b [] (xM w a).1 with
  | some out=>(out,0)
  | none=>([],260))else([],(xM w a).2))else([],2)
theorem K7(h:gQ w=some r):xp r=true/\wu r.name/\wC r.name=0/\r.ino<=256:=by
 unfold gQ at h;dsimp only at h
 split at h
 rotate_left
 .cases h
 rename_i a;injection h with h;subst h;refine⟨a.2.1,(tu _).take _,((bj _).1 a.2.1).2.2,((bj _).1 a.2.1).2.1⟩
theorem tI{p:Pr}(h:¬(1<=p.2/\p.2<=64)):gu w b p=none:=by unfold gu;rw[if_neg h]
theorem Hv{p:Pr}(h:gQ (kl w p.2)=none):gu w b p=none:=by
 unfold gu
 split
 .rw[h]
 .rfl
theorem Hz{p:Pr}(hp:1<=p.2/\p.2<=64)(h:gQ (kl w p.2)=some r):gu w b p=if yr b r.name=p.1/65536 then some ⟨p.1,p.2,r.ino,r.name⟩else none:=by
 unfold gu;rw[if_pos hp,h]
theorem Hy{p:Pr}(hp:1<=p.2/\p.2<=64)(h:gQ (kl w p.2)=some ⟨ino,name⟩)(hS:yr b name=S)(hQ:p.1/65536=Q)(hk:¬S=Q):gu w b p=none:=by
 rw[Hz hp h];subst hS hQ;exact if_neg hk
theorem Hw{p:Pr}(hp:1<=p.2/\p.2<=64)(h:gQ (kl w p.2)=some ⟨ino,name⟩)(hS:yr b name=S)(hQ:p.1/65536=Q)(hk:S=Q):gu w b p=some ⟨p.1,p.2,ino,name⟩:=by
 rw[Hz hp h];subst hS hQ;exact if_pos hk
theorem DE{acc:List ub}{p:Pr}{l:LJ}:kc w b acc (p::l)=match gu w b p with
  | some x=>if cR acc x=true then none else kc w b (acc++[x]) l
  | none=>none:=rfl
theorem Jr:∀{l:LJ} {acc out:List ub},kc w b acc l=some out->out.length=acc.length+l.length
 | [],acc,out,h=>by injection h with h;subst h;rfl
 | p::l,acc,out,h=>by
  rw[DE]at h
  split at h
  .split at h
   .cases h
   .have:=Jr h;rw[Zl]at this;simp only[Zp,Zz]at this⊢;omega
  .cases h
theorem Lb.ent(x:ub):Lb (ut x):=.agg fun v a=>by
 simp at a;rcases a with rfl|rfl|rfl|rfl
 .exact .int _ _
 .exact .int _ _
 .exact .int _ _
 .exact .str _
theorem Lb.esv(l:List ub):Lb (esv 0 l):=.list fun x a=>by
 obtain⟨y,b,a⟩:=ZF.1 a;obtain⟨e,_,rfl⟩:=Zu.1 b;simp[PV.cells]at a;rcases a with rfl|rfl|rfl|rfl
 .exact .int _ _
 .exact .int _ _
 .exact .int _ _
 .exact .str _
theorem Ie{l:List ub}:∀v∈(l.map ut).flatMap PV.cells,vg v:=fun v a=>by
 obtain⟨x,b,a⟩:=ZF.1 a;obtain⟨y,_,rfl⟩:=Zu.1 b;simp[PV.cells]at a;rcases a with rfl|rfl|rfl|rfl
 .exact .int _ _
 .exact .int _ _
 .exact .int _ _
 .exact .str _


theorem f13:ET.funcs.get 13=some T13:=eG _ func13
theorem Dm(b:Nat):vg (.agg [iv 48,iv 8,iv 64,iv b,uv 3,uv 5,iv 9,iv 11,iv 27,iv 28]):=.agg fun v a=>by
 simp at a;rcases a with rfl|rfl|rfl|rfl|rfl|rfl|rfl|rfl|rfl|rfl<;>exact .int _ _
theorem Wx(b:Nat)(h:1<=b/\b<=40)(w:LN)(hwl:w.length=3072)(hw:WB w)(a:Int)(hr:FR 42 [wv p w,wc b 28,iv a] (.bool true))(L:LJ)(hL:L.length<=60000)(hLb:PB L)(hall:FR 43 [wv p w,iv a] (.tuple [vJ 0 L,iv 0]))(e:FE)(he:e=match kc w b [] L with
  | some out=>.ret (.tuple [esv 0 out,iv 0])
  | none=>.ret (.tuple [esv 0 [],iv 260])):FN ET 13 [wv p w,wc b 28,iv a] e:=by
 have bad:kc w b [] L=none->e=.ret (.tuple [esv 0 [],iv 260]):=fun D=>by grind
 refine zn f13 ?_ ?_
 .rw[he]
  split
  .exact Lb.two (Lb.esv _) (.int _ _)
  .exact Lb.two (Lb.esv _) (.int _ _)
 unfold wc uu at hr⊢;refine wl hr ?_;refine zH ?_;refine zB ?_;refine zM hall ?_;refine mL ?_;refine zG ?_;refine yD 47 4 (i:=10) rfl ?_;simp only[uF,Zp,Zz,Zv,ZA];refine zG ?_;refine vm (vy (fun m s=>∃(i:Nat) (out:List ub) (G:LP),m=L.length-i/\i<=L.length/\kc w b [] L=kc w b out (L.drop i)/\out.length<=i/\s.tm 0=wv p w/\s.tm 4=.ptr 0 0 0 0 10/\s.tm 8=vJ 0 L/\s.tm 10=.sl 1 out.length 0 out.length (2*out.length) 4/\s.tm 11=iv i/\s.df=[]/\s.H=.row 32 10 0 0 [.agg [iv 48,iv 8,iv 64,iv b,uv 3,uv 5,iv 9,iv 11,iv 27,iv 28]]::.row 47 4 out.length 0 (out.map ut)::G) (n:=L.length) ?_ ?_)
 .exact⟨0,[],[],rfl,Zn _,rfl,Zi _,zt,zt,zt,zt,zt,rfl,rfl⟩
 rintro m ⟨tm,df,H⟩ ⟨i,out,G,rfl,hi,f,a9,u,h4,d,q,c,rfl,rfl⟩;dsimp only at *
 refine vu (zj d c) ?_ ?_;rotate_left
 .intro j;have j:¬i<L.length:=vL j;obtain rfl:i=L.length:=zo;rw[ZS]at f;have a2:e=.ret (.tuple [esv 0 out,iv 0]):=by rw[he,f];rfl
  rw[a2];refine vA q ?_;refine vw (wo ?_ (by simp only[go_sem]<;>rfl));exact ze.tL ⟨ze.wh rfl rfl (by grind) (by grind) (fun v hv=>by rw[Zu]at hv;obtain⟨x,_,rfl⟩:=hv;rfl) Ie,.int _ _,trivial⟩
 intro j;have j:i<L.length:=vM j;obtain⟨pr,V⟩:=wX (l:=L) j;have t:(L.map pv)[i]?=some (pv pr):=vU V;obtain⟨a1,a8⟩:=hLb pr (Zj V);have a3:L.drop i=pr::L.drop (i+1):=pX V;rw[a3,DE]at f;refine vD ?_;refine vR ?_
 by_cases O:1<=pr.2
 rotate_left
 .have g:(pr.2:Int)<1:=zo;rw[tI (fun h=>O h.1)]at f;rw[bad f];refine vj (ww u h4 d c j t g) ?_;refine zU ?_;exact vN
 have g1:¬(pr.2:Int)<1:=zo
 by_cases K:pr.2<=64
 rotate_left
 .have g:(64:Int)<pr.2:=zo;rw[tI (fun h=>K h.2)]at f;rw[bad f];refine vj (kQ u h4 d c j t g1 g) ?_;refine zU ?_;exact vN
 have g2:¬(64:Int)<pr.2:=zo;refine vj (kQ u h4 d c j t g1 g2) ?_;refine zH ?_;refine zB ?_;have m6:=Wq p b w hwl pr.2 ⟨O,K⟩;have A:=Wy p (kl w pr.2) (K5 hwl K) (fun x hx=>hw x (K6 x hx));unfold wc uu at m6;have M:(IntKind.i64.wrap (pr.2:Int))=(pr.2:Int):=wrap_i64 zo zo;generalize ah:kl w pr.2=RA at *
 unfold ao at A
 cases J:gQ RA with
 | none =>
  rw[J]at A;dsimp only at A;rw[Hv (by grind)]at f;rw[bad f];refine wV ?_;refine dL m6 ⟨.list _ _ _,Dm b,.int _ _,trivial⟩ ?_ (by simp(disch:=omega)only[go_sem,u,h4,d,c,t,M]<;>rfl);refine sw A ?_ (by simp(disch:=omega)only[go_sem]<;>rfl);refine vW (zj zyA zyB) ?_;refine kK zyB ?_;refine wY ?_;simp only[go_sem];have B:=WI b h [] zy zy;unfold wc uu at B;refine zB ?_;refine zB ?_;refine xr (vh h4 zyA zyB) ?_;refine wD B ?_;refine zS ?_;refine zO ?_;exact vN
 | some r =>
  obtain⟨a4,av,a0,_⟩:=K7 J;obtain⟨ino,name⟩:=r;have U:gQ (kl w pr.2)=some ⟨ino,name⟩:=by rw[ah];exact J
  rw[J]at A;dsimp only at *
  have B:=EC b h name av a0;unfold wc uu at B;obtain⟨S,P⟩:∃S,yr b name=S:=⟨_,rfl⟩
  rw[P]at B;obtain⟨Q,hQ⟩:∃Q,pr.1/65536=Q:=⟨_,rfl⟩
  have X:Int.tdiv (pr.1:Int) 65536=(Q:Int):=by rw[zCJ9 zo];omega
  have hq:(pr.1:Int)/65536=(Q:Int):=zo;refine wV ?_;refine dL m6 ⟨.list _ _ _,Dm b,.int _ _,trivial⟩ ?_ (by simp(disch:=omega)only[go_sem,u,h4,d,c,t,M]<;>rfl);refine sw A ?_ (by simp(disch:=omega)only[go_sem]<;>rfl);refine vW (zj zyA zyB) ?_;refine kK zyB ?_;refine wY ?_;simp only[go_sem];refine zB ?_;refine zB ?_;refine xr (vh h4 zyA zyB) ?_;refine wD B ?_;refine zB ?_;have Y:(Q:Int)<18446744073709551616:=by have:pr.1<18446744073709551616:=a1;omega
  by_cases I:S=Q
  rotate_left
  .have R:¬(S:Int)=(Q:Int):=fun h=>I (Int.ofNat.inj h);rw[Hy ⟨O,K⟩ U P hQ I]at f;rw[bad f];refine zB ?_;refine vC (kQ d c j t X hq Y R) ?_;refine zU ?_;exact vN
  have R:(S:Int)=(Q:Int):=congrArg Nat.cast I;rw[Hw ⟨O,K⟩ U P hQ I]at f;refine zB ?_;refine vC (kQ d c j t X hq Y R) ?_;refine zH ?_;refine zG ?_;have ab:kc w b [] L=if cR out ⟨pr.1,pr.2,ino,name⟩=true then none else kc w b (out++[⟨pr.1,pr.2,ino,name⟩]) (L.drop (i+1)):=f;clear f B A m6 J U ah P hQ X hq Y R I a4 av a0;refine vm (vy (fun m s=>∃(k:Nat),m=out.length-k/\k<=out.length/\cR out ⟨pr.1,pr.2,ino,name⟩=(out.drop k).any (fun y=>decide (y.name=name)||decide (y.num=pr.2))/\s.tm 0=wv p w/\s.tm 4=.ptr 0 0 0 0 10/\s.tm 8=vJ 0 L/\s.tm 10=.sl 1 out.length 0 out.length (2*out.length) 4/\s.tm 11=iv i/\s.tm 12=.ptr (G.length+1+1) 0 0 0 2/\s.tm 16=iv k/\s.df=[]/\s.H=.row 32 10 0 0 [.agg [iv 48,iv 8,iv 64,iv b,uv 3,uv 5,iv 9,iv 11,iv 27,iv 28]]::.row 47 4 out.length 0 (out.map ut)::(G++[.row 73 2 0 0 [.agg [iv ino,.str name]]])) (n:=out.length) ?_ ?_)
  .exact⟨0,rfl,Zn _,rfl,zu u,zu h4,zu d,zu q,zu c,zt,zt,rfl,rfl⟩
  clear u h4 d q c;rintro m ⟨tm,df,H⟩ ⟨k,rfl,I,z,u,h4,d,q,c,N,C,rfl,rfl⟩;dsimp only at *
  refine vu (zj q C) ?_ ?_
  .intro o;have o:k<out.length:=vM o;obtain⟨y,hy⟩:=wX (l:=out) o;have Z:(out.map ut)[k]?=some (ut y):=vU hy;obtain⟨a5,a6⟩:=Zh.1 hy;rw[Zs a5,a6,zER9]at z;have ad:cR out ⟨pr.1,pr.2,ino,name⟩=true->e=.ret (.tuple [esv 0 [],iv 260]):=fun h=>bad (by grind);refine vD ?_;refine vR ?_
   by_cases D:y.name=name
   .rw[decide_eq_true D,Bool.true_or,Bool.true_or]at z;rw[ad z];refine kK (kQ q N C o Z D zyA zyB) ?_;refine wY ?_;simp only[go_sem];refine zU ?_;exact vN
   rw[decide_eq_false D,zCS9]at z
   by_cases T:y.num=pr.2
   .have g:(y.num:Int)=(pr.2:Int):=congrArg Nat.cast T;rw[decide_eq_true T,Bool.true_or]at z;rw[ad z];refine kK (wP d q c N C o t Z D M g (zj zyA zyB)) ?_;refine wY ?_;simp only[go_sem];refine zU ?_;exact vN
   have g:¬(y.num:Int)=(pr.2:Int):=fun h=>T (Int.ofNat.inj h);rw[decide_eq_false T,zCS9]at z;refine kK (wP d q c N C o t Z D M g (zj zyA zyB)) ?_;refine wY ?_;simp only[go_sem];refine zH ?_;refine vp C ?_;exact⟨_,by omega,k+1,rfl,o,z,zu u,zu h4,zu d,zu q,zu c,zu N,zu C,rfl,rfl⟩
  intro o;have o:¬k<out.length:=vL o;obtain rfl:k=out.length:=zo;rw[ZS]at z;rw[if_neg (by grind)]at ab;refine vR ?_;have a7:(out.length+1)*41<=140737488355328:=zo;refine vW (pZ d q c N t M a7 zyA zyB) ?_;refine vj d ?_;refine vp c ?_;refine⟨_,?m,i+1,out++[⟨pr.1,pr.2,ino,name⟩],?G,rfl,j,ab,by grind,zu u,zu h4,zu d,zt,zu c,rfl,?H⟩
  case m=>omega
  case H=>rw[ZG];simp only[Zl,Zp,Zz,Z3,zAW9,ZT];rfl
def bZ(w:LN)(b d:Nat)(a:Int):FE:=.ret (.tuple [esv 0 (ke w b d a).1,iv ((ke w b d a).2:Nat)])
theorem Ty(w:LN)(b d:Nat)(a:Int):gh (bZ w b d a):=Lb.two (Lb.esv _) (.int _ _)
theorem KO(b d:Nat)(h:1<=b/\b<=40)(w:LN)(hs:vE w.length)(hw:WB w)(a:Int):FN ET 13 [wv p w,wc b d,iv a] (bZ w b d a):=by
 have c:=EB p b d h w hs a;have f:=Ty w b d a
 by_cases i:kz w.length d a=true
 rotate_left
 .have j:bZ w b d a=.ret (.tuple [esv 0 [],iv 2]):=by unfold bZ ke;rw[if_neg i];rfl
  rw[j]at f⊢;rw[show kz w.length d a=false by grind]at c;refine zn f13 f ?_;unfold wc uu at c⊢;refine wl c ?_;refine zU ?_;exact vN
 obtain⟨rfl,l,o,h1⟩:=fX.1 i;have e:=Wo p w a hs;rw[Cj]at e;rw[i]at c
 by_cases k:(xM w a).2=0
 rotate_left
 .have j:bZ w b 28 a=.ret (.tuple [esv 0 [],iv ((xM w a).2:Nat)]):=by unfold bZ ke;rw[if_pos i,if_neg k]
  rw[j]at f⊢;generalize (xM w a).2=no at *
  have g:¬(no:Int)=0:=zo;refine zn f13 f ?_;unfold wc uu at c⊢;refine wl c ?_;refine zH ?_;refine zB ?_;refine zM e ?_;refine wB g ?_;refine zO ?_;exact vN
 have m:=Gd hw zo a;have n:=Ck w a zo;rw[k]at e;refine Wx p b h w l hw a c (xM w a).1 n m e _ ?_;unfold bZ ke
 grind


theorem aN:FR 78 [.bool true,iv e] (.tuple []):=by
 refine zn (eG T78 func78) Lb.unit ?_;refine mL ?_;exact⟨[],rfl,ze.tL trivial⟩
theorem nV:FN ET 78 [.bool false,iv e] (.panic (wy e)):=by
 refine zn (eG T78 func78) (.iface (.int _ _)) ?_;refine zS ?_;refine wa ?_;refine wq ?_;refine Cd (ty:=38) (v:=.int .i64 e) rfl (by simp[zY,ev,zC,zb]) ?_;exact ze.iface (.int _ _)
theorem tF:FR 61 [iv 0] (.tuple []):=by
 refine zn (eG T61 func61) Lb.unit ?_;refine wa ?_;refine wq ?_;refine vo (aN 0) ?_;refine zK ?_;exact⟨[],rfl,ze.tL trivial⟩
theorem Hs(h:¬e=0):FN ET 61 [iv e] (.panic (wy e)):=by
 refine zn (eG T61 func61) (.iface (.int _ _)) ?_;refine wa ?_;refine vS h ?_;refine wE (nV e) ?_;exact ze.iface (.int _ _)
@[reducible] def ay (p:Nat) (w:LN) (b:Nat) (a:Int):PV:=.agg [iv 48,iv 8,iv 64,iv b,uv 3,uv 5,iv 9,iv 11,iv 27,iv 28,wv p w,iv a]
theorem Vl(b:Nat)(h:1<=b/\b<=40)(w:LN)(hs:vE w.length)(a:Int)(hd:kz w.length 28 a=true):FP ET 40 [wv p w,wc b 28,iv a] (.ret (ay p w b a)):=by
 obtain⟨_,f,d,h1⟩:=fX.1 hd;obtain⟨X,c⟩:=FS b h;refine mO (eG T40 func40) ?_;unfold wc uu at c⊢;have g:(w.length:Int)=3072:=zo;have e:a<3072:=h1;refine wl c ?_;refine vK (vh g d e) ?_;refine wD (aN 2) ?_;refine zO ?_;exact vN
def mW(w:LN)(b:Nat)(pr:Pr):FE:=match gu w b pr with
 | some x=>.ret (ut x)
 | none=>.panic (wy 260)
theorem Tv(w:LN)(b:Nat)(pr:Pr):gh (mW w b pr):=by
 unfold mW
 split
 .exact Lb.ent _
 .exact .iface (.int _ _)
theorem QA(b:Nat)(h:1<=b/\b<=40)(w:LN)(hwl:w.length=3072)(hw:WB w)(a:Int)(pr:Pr)(hkey:pr.1<18446744073709551616):FN ET 80 [ay p w b a,pv pr] (mW w b pr):=by
 have bad:gu w b pr=none->mW w b pr=.panic (wy 260):=fun h=>by unfold mW;rw[h]
 have y:∀x,gu w b pr=some x->mW w b pr=.ret (ut x):=fun x h=>by unfold mW;rw[h]
 refine zn (eG T80 func80) (Tv w b pr) ?_;generalize mW w b pr=e at *
 refine zG ?_
 by_cases i:1<=pr.2
 rotate_left
 .have g:¬(1:Int)<=pr.2:=zo;refine vK g ?_;refine wE (nV 260) ?_;exact uy (bad (tI fun h=>i h.1))
 have u:(1:Int)<=pr.2:=zo
 by_cases d:pr.2<=64
 rotate_left
 .have g:¬(pr.2:Int)<=64:=zo;refine vK (zj g u) ?_;refine wE (nV 260) ?_;exact uy (bad (tI fun h=>d h.2))
 have D:(pr.2:Int)<=64:=zo;refine vK (zj D u) ?_;refine wD (aN 260) ?_;have s:=NU b pr.2 h ⟨i,d⟩;unfold wc uu at s;have t:(IntKind.i64.wrap (pr.2:Int))=(pr.2:Int):=wrap_i64 zo zo;have c:=NO p (kl w pr.2) (K5 hwl d) (fun x G=>hw x (K6 x G));have I:((704+16*(pr.2-1):Nat):Int)+16=((704+16*(pr.2-1)+16:Nat):Int):=zo;have J:0<w.length:=zo;have K:List.drop (704+16*(pr.2-1)) (List.take (704+16*(pr.2-1)+16) (w.map uv))=(kl w pr.2).map uv:=by
  unfold kl;rw[zBL9,zCB9,zAK9,Z1]
 have L:704+16*(pr.2-1)<=704+16*(pr.2-1)+16:=zo;have N:704+16*(pr.2-1)+16<=w.length:=zo;generalize z:kl w pr.2=RA at *
 unfold ao at c;generalize 704+16*(pr.2-1)=A at *
 refine vK t ?_;refine wD s ?_;refine vK (vX I J K L N) ?_
 cases f:gQ RA with
 | none =>
  rw[f]at c;dsimp only at c;refine wD c ?_;refine zI ?_;refine wE (nV 260) ?_;exact uy (bad (Hv (by grind)))
 | some r =>
  obtain⟨O,B,C,_⟩:=K7 f;obtain⟨ino,name⟩:=r;have q:gQ (kl w pr.2)=some ⟨ino,name⟩:=by rw[z];exact f
  rw[f]at c;dsimp only at *
  have l:=FQ b h name B C;unfold wc uu at l;obtain⟨S,m⟩:∃S,yr b name=S:=⟨_,rfl⟩
  rw[m]at l;obtain⟨Q,n⟩:∃Q,pr.1/65536=Q:=⟨_,rfl⟩
  have k:=NX pr.1 hkey;rw[n]at k;obtain⟨M,v⟩:∃M,pr.1%65536=M:=⟨_,rfl⟩
  rw[v]at k;clear v;refine wD c ?_;refine zM (aN 260) ?_;refine zM l ?_;refine zM k ?_
  by_cases j:S=Q
  rotate_left
  .have o:¬(S:Int)=(Q:Int):=fun h=>j (Int.ofNat.inj h);refine vK o ?_;refine wE (nV 260) ?_;exact uy (bad (Hy ⟨i,d⟩ q m n j))
  have o:(S:Int)=(Q:Int):=congrArg Nat.cast j;rw[y _ (Hw ⟨i,d⟩ q m n j)];refine vK o ?_;refine wD (aN 260) ?_;refine wm t ?_;exact vN


def FH(mn mr:za)(out:List ub):Prop:=(out=[]/\mn=.map0/\mr=.map0)\/∃m1 m2,mn=.mapS m1/\mr=.mapI .i64 m2/\(∀s,m1 s=if out.any (fun y=>decide (y.name=s))=true then some (iv 1)else none)/\(∀q:Int,m2 q=if out.any (fun y=>decide ((y.num:Int)=q))=true then some (iv 1)else none)
theorem He(x:ub):∀out:List ub,cR out x=(out.any (fun y=>decide (y.name=x.name))||out.any (fun y=>decide ((y.num:Int)=(x.num:Int))))
 | []=>rfl
 | y::out=>by
  have a:=He x out;unfold cR at a⊢
  grind
theorem Uj(b:Nat)(h:1<=b/\b<=40)(w:LN)(hwl:w.length=3072)(hw:WB w)(a:Int)(L:LJ)(hL:L.length<=60000)(hLb:PB L)(hall:FR 79 [wv p w,iv a] (.tuple [vJ 0 L,iv 0]))(e:FE)(he:e=match kc w b [] L with
  | some out=>.ret (esv 0 out)
  | none=>.panic (wy 260)):FN ET 41 [ay p w b a] e:=by
 have bad:kc w b [] L=none->e=.panic (wy 260):=fun V=>by grind
 refine zn (eG T41 func41) ?_ ?_
 .rw[he]
  split
  .exact Lb.esv _
  .exact .iface (.int _ _)
 refine wl hall ?_;refine zM tF ?_;refine zG ?_;refine yD 47 4 (i:=2) rfl ?_;simp only[uF,Zp,Zz,Zv,ZA];refine zG ?_;refine vm (vy (fun m s=>∃(i:Nat) (out:List ub) (M N:za) (G:LP),m=L.length-i/\i<=L.length/\kc w b [] L=kc w b out (L.drop i)/\out.length<=i/\FH M N out/\s.tm 1=.ptr 0 0 0 0 12/\s.tm 2=.sl 3 out.length 0 out.length (2*out.length) 4/\s.tm 5=.map 1/\s.tm 6=.map 2/\s.tm 22=vJ 0 L/\s.tm 23=iv L.length/\s.tm 24=iv i/\s.df=[]/\s.H=.row 100 12 0 0 [ay p w b a]::M::N::.row 47 4 out.length 0 (out.map ut)::G) (n:=L.length) ?_ ?_)
 .exact⟨0,[],.map0,.map0,[],rfl,Zn _,rfl,Zi _,.inl ⟨rfl,rfl,rfl⟩,zt,zt,zt,zt,zt,zt,zt,rfl,rfl⟩
 rintro m ⟨S,X,H⟩ ⟨i,out,M,N,G,rfl,hi,z,a2,D,h1,h2,d,f,k,o,j,rfl,rfl⟩;dsimp only at *
 refine vu (zj o j) ?_ ?_;rotate_left
 .intro r;have r:¬i<L.length:=vL r;obtain rfl:i=L.length:=zo;rw[ZS]at z;have ad:e=.ret (esv 0 out):=by rw[he,z];rfl
  rw[ad];refine vA h2 ?_;refine vw (wo ?_ (by simp only[go_sem]<;>rfl));exact ze.wh rfl rfl (by grind) (by grind) (fun v Y=>by rw[Zu]at Y;obtain⟨x,_,rfl⟩:=Y;rfl) Ie
 intro r;have r:i<L.length:=vM r;obtain⟨pr,R⟩:=wX (l:=L) r;have ah:(L.map pv)[i]?=some (pv pr):=vU R;obtain⟨Z,a1⟩:=hLb pr (Zj R);have av:L.drop i=pr::L.drop (i+1):=pX R;rw[av,DE]at z;have O:=QA p b h w hwl hw a pr Z;refine vD ?_;refine vA (vz k j r ah) ?_
 cases A:gu w b pr with
 | none =>
  have V:kc w b [] L=none:=by rw[z,A]
  have I:mW w b pr=.panic (wy 260):=by unfold mW;rw[A]
  rw[I]at O;refine zB ?_;refine xr (vh h1 zyA zyB) ?_;refine wE O ?_;exact uy (bad V)
 | some x =>
  have U:kc w b [] L=if cR out x=true then none else kc w b (out++[x]) (L.drop (i+1)):=by rw[z,A]
  have I:mW w b pr=.ret (ut x):=by unfold mW;rw[A]
  rw[I]at O;have a3:=He x out;clear z A I;refine zB ?_;refine xr (vh h1 zyA zyB) ?_;refine vo O ?_;refine vS (zj zyA zyB) ?_;refine uH ?_;refine xg (fun t=>t 1=.ptr 0 0 0 0 12/\t 2=.sl 3 out.length 0 out.length (2*out.length) 4/\t 5=.map 1/\t 6=.map 2/\t 9=.ptr (G.length+1+1+1+1+1) 0 0 0 4/\t 22=vJ 0 L/\t 23=iv L.length/\t 24=iv i) ⟨zu h1,zu h2,zu d,zu f,zt,zu k,zu o,zu j⟩ ?_;clear h1 h2 d f k o j;rintro S ⟨h1,h2,d,f,g,k,o,j⟩;refine zB ?_
  by_cases P:out.any (fun y=>decide (y.name=x.name))=true
  .rcases D with⟨rfl,rfl,rfl⟩|⟨m1,m2,rfl,rfl,ye,yz⟩
   .cases P
   have u:=ye x.name;rw[if_pos P]at u;refine zB ?_;refine xr (wQ d f g u zyA zyB) ?_;refine wE (nV 260) ?_;exact uy (bad (by grind))
  by_cases T:out.any (fun y=>decide ((y.num:Int)=(x.num:Int)))=true
  .rcases D with⟨rfl,rfl,rfl⟩|⟨m1,m2,rfl,rfl,ye,yz⟩
   .cases T
   have u:=ye x.name;rw[if_neg P]at u;have B:=yz x.num;rw[if_pos T]at B;refine zB ?_;refine xr (ww d f g u B zyA zyB) ?_;refine wE (nV 260) ?_;exact uy (bad (by grind))
  rw[if_neg (by grind)]at U;refine ur (Q:=fun C c=>C=.norm/\c.tm 1=.ptr 0 0 0 0 12/\c.tm 2=.sl 3 out.length 0 out.length (2*out.length) 4/\c.tm 5=.map 1/\c.tm 6=.map 2/\c.tm 9=.ptr (G.length+1+1+1+1+1) 0 0 0 4/\c.tm 22=vJ 0 L/\c.tm 23=iv L.length/\c.tm 24=iv i/\c.df=[]/\c.H=.row 100 12 0 0 [ay p w b a]::M::N::.row 47 4 out.length 0 (out.map ut)::(G++[.row 92 2 0 0 [pv pr],.row 47 4 0 0 [ut x]])) (wa ?_) ?_
  .rcases D with⟨rfl,rfl,rfl⟩|⟨m1,m2,rfl,rfl,ye,yz⟩
   .refine vS (vX d f g zyA zyB) ?_;refine vo (aN 260) ?_;refine zK ?_;exact⟨rfl,h1,h2,d,f,g,k,o,j,rfl,rfl⟩
   .have u:=ye x.name;rw[if_neg P]at u;have B:=yz x.num;rw[if_neg T]at B;refine vS (ww d f g u B zyA zyB) ?_;refine vo (aN 260) ?_;refine zK ?_;exact⟨rfl,h1,h2,d,f,g,k,o,j,rfl,rfl⟩
  clear h1 h2 d f g k o j;rintro C ⟨S,X,H⟩ ⟨rfl,h1,h2,d,f,g,k,o,j,rfl,rfl⟩;dsimp only at *
  refine zB ?_;refine ur (Q:=fun C c=>C=.norm/\c.tm 1=.ptr 0 0 0 0 12/\c.tm 2=.sl 3 out.length 0 out.length (2*out.length) 4/\c.tm 5=.map 1/\c.tm 6=.map 2/\c.tm 9=.ptr (G.length+1+1+1+1+1) 0 0 0 4/\c.tm 22=vJ 0 L/\c.tm 23=iv L.length/\c.tm 24=iv i/\c.df=[]/\∃J K,FH J K (out++[x])/\c.H=.row 100 12 0 0 [ay p w b a]::J::K::.row 47 4 out.length 0 (out.map ut)::(G++[.row 92 2 0 0 [pv pr],.row 47 4 0 0 [ut x]])) (wV ?_) ?_
  .rcases D with⟨rfl,rfl,rfl⟩|⟨m1,m2,rfl,rfl,ye,yz⟩
   .refine vW (vX d f g zyA zyB) ?_;refine vW zyB ?_;refine vj d ?_;refine⟨h1,h2,d,f,g,k,o,j,_,_,.inr ⟨_,_,rfl,rfl,fun s=>?_,fun q=>?_⟩,rfl⟩
    .grind
    grind
   .refine vW (vX d f g zyA zyB) ?_;refine vW zyB ?_;refine vj d ?_;refine⟨h1,h2,d,f,g,k,o,j,_,_,.inr ⟨_,_,rfl,rfl,fun s=>?_,fun q=>?_⟩,rfl⟩
    .grind
    grind
  clear h1 h2 d f g k o j;rintro C ⟨S,X,H⟩ ⟨rfl,h1,h2,d,f,g,k,o,j,rfl,J,K,ab,rfl⟩;dsimp only at *
  have a0:(out.length+1)*41<=140737488355328:=zo;refine zB ?_;refine zB ?_;refine xr (vX h2 g a0 zyA zyB) ?_;refine yR ?_;refine vp j ?_;refine⟨_,?m,i+1,out++[x],J,K,?G,rfl,r,U,by grind,ab,zu h1,zt,zu d,zu f,zu k,zu o,zt,rfl,?H⟩
  case m=>omega
  case H=>rw[ZG];simp only[Zl,Zp,Zz,Z3,zAW9,ZT];rfl
def Ar(w:LN)(b:Nat)(a:Int):FE:=if(xM w a).2=0 then(match kc w b [] (xM w a).1 with
  | some out=>.ret (esv 0 out)
  | none=>.panic (wy 260))else .panic (wy ((xM w a).2:Nat))
theorem Uk(b:Nat)(h:1<=b/\b<=40)(w:LN)(hwl:w.length=3072)(hw:WB w)(hs:vE w.length)(a:Int):FN ET 41 [ay p w b a] (Ar w b a):=by
 have c:=Nt p w a hs;rw[Cj]at c;unfold Ar
 by_cases d:(xM w a).2=0
 rotate_left
 .rw[if_neg d];generalize (xM w a).2=no at *
  have g:¬(no:Int)=0:=zo;refine zn (eG T41 func41) (.iface (.int _ _)) ?_;refine wl c ?_;refine zI ?_;refine wE (Hs no g) ?_;exact uy rfl
 rw[if_pos d];have e:=Gd hw zo a;have f:=Ck w a zo;rw[d]at c;exact Uj p b h w hwl hw a (xM w a).1 f e c _ rfl


theorem f12:ET.funcs.get 12=some T12:=cW func12
theorem Pv:ET.caught.get 38=some ():=by kernel_rfl


theorem Vd:FR 15 [iv e] (iv e):=by
 refine zn (eG T15 func15) (.int _ _) ?_;refine zG ?_;refine vw ?_;exact⟨[iv e],rfl,ze.int _ _⟩
def mw(b:Nat):List (LN)->Nat->Nat
 | [],key=>key
 | n::l,key=>mw b l (if yr b n=key/65536 then key+1 else key)
theorem S5{n:LN}(hS:yr b n=S)(hQ:key/65536=Q)(hk:S=Q):mw b (n::l) key=mw b l (key+1):=by
 subst hS hQ
 conv=>lhs;unfold mw
 rw[if_pos hk]
theorem S6{n:LN}(hS:yr b n=S)(hQ:key/65536=Q)(hk:¬S=Q):mw b (n::l) key=mw b l key:=by
 subst hS hQ
 conv=>lhs;unfold mw
 rw[if_neg hk]
theorem Du(b:Nat):∀(l:List (LN)) (key:Nat),key<=mw b l key/\mw b l key<=key+l.length
 | [],key=>⟨Zi _,Zi _⟩
 | n::l,key=>by
  unfold mw;have h1:=Du b l key;have h2:=Du b l (key+1)
  split
  .rw[Zp];omega
  .rw[Zp];omega
def ir(b:Nat)(done:List (LN))(nm:LN):Nat:=mw b done (65536*yr b nm)
def dA(i:Nat)(nm:LN):LJ:=gR (704+16*i) (yU ⟨1+i%8,nm⟩) 16
variable {done:List (LN)}{nm:LN}{ps:LJ}(j:Nat)
def xQ(b:Nat):List (LN)->List (LN)->LN->LJ->Option (LN×LJ)
 | _,[],w,ps=>some (w,ps)
 | done,nm::l,w,ps=>if wC nm=0/\¬nm∈done then xQ b (done++[nm]) l (vH w (dA done.length nm)) (ps++[(ir b done nm,done.length+1)])else none
theorem eO(h:¬(wC nm=0/\¬nm∈done)):xQ b done (nm::l) w ps=none:=by unfold xQ;grind
theorem iF{X:LJ}{K:Nat}(h1:wC nm=0)(h2:¬nm∈done)(hX:dA done.length nm=X)(hK:ir b done nm=K):xQ b done (nm::l) w ps=xQ b (done++[nm]) l (vH w X) (ps++[(K,done.length+1)]):=by
 subst hX hK
 conv=>lhs;unfold xQ
 grind
def x9(l:LJ)(fr:LG):Nat×LJ×Nat×Nat:=if(kC l&&xR [] fr)=true then match aJ l (fr.map Int.toNat)with
 | none=>(0,[],0,221)
 | some T=>(rU T,pj T.reverse,(T.reverse.flatMap Prod.fst).length,0)else(0,[],0,2)
theorem Pl(l:LJ)(fr:LG):nU l fr=.ret (.tuple [iv (x9 l fr).1,.list 0 2 ((x9 l fr).2.1.map vd),iv (x9 l fr).2.2.1,iv (x9 l fr).2.2.2]):=by
 unfold nU x9
 grind
theorem GP(l:LJ)(fr:LG)(hl:l.length<=500):(x9 l fr).2.1.length<=64*fr.length/\(x9 l fr).2.2.1<=fr.length/\(x9 l fr).1<2048/\(PB l->BB (x9 l fr).2.1):=by
 unfold x9
 by_cases m:kC l=true
 rotate_left
 .rw[show kC l=false by grind];exact⟨Zn _,Zn _,zAN9 _,fun _=>BB.nil⟩
 by_cases o:xR [] fr=true
 rotate_left
 .rw[show xR [] fr=false by grind,Bool.and_false];exact⟨Zn _,Zn _,zAN9 _,fun _=>BB.nil⟩
 rw[m,o];obtain⟨a,rfl,d⟩:=Kj o;have p:(a.map fun(b:Nat)=>(b:Int)).map Int.toNat=a:=by rw[zBS9];exact List.map_id a
 rw[p];simp only[Bool.and_self,if_true]
 cases c:aJ l a with
 | none=>exact⟨Zn _,Zn _,by decide,fun _=>BB.nil⟩
 | some T =>
  have f:=GR m d hl c;obtain⟨j,u,e⟩:=f.blocks;obtain⟨b,n,v,k,_⟩:=f.one;have t:(pj T.reverse).length=64*(a.take j).length:=by
   rw[M5 _ fun M g=>f.len M (zBT9.1 g),e]
  have r:b∈a:=ZU (i:=j) (by rw[<- e,k];simp);have q:rU T=b:=by rw[k];rfl
  refine⟨by grind,by grind,by dsimp only;rw[q];exact(((lG a).1 d).1 b r).2,fun h=>MZ fun M g=>GD (fun b c=>(((lG a).1 d).1 b c).2) 4 _ _ _ _ zy (Ub h) (fun L s=>by simp at s) c M (zBT9.1 g)⟩
def kx(w:LN)(l:List (Int×Nat)):LN:=l.foldl (fun w x=>if 0<=x.1/\x.1<(w.length:Int)then w.set x.1.toNat x.2 else w) w
theorem Ct:∀(l:List (Int×Nat)) (w:LN),(kx w l).length=w.length
 | [],_=>rfl
 | x::l,w=>by
  show (kx (if 0<=x.1/\x.1<(w.length:Int)then w.set x.1.toNat x.2 else w) l).length=_;rw[Ct l]
  grind
theorem Gu:∀(l:List (Int×Nat)) (w:LN),WB w->(∀x∈l,yQ x.2)->WB (kx w l)
 | [],_,h,_=>h
 | x::l,w,h,a=>by
  show WB (kx (if 0<=x.1/\x.1<(w.length:Int)then w.set x.1.toNat x.2 else w) l);refine Gu l _ ?_ fun y b=>a y (Zo _ b)
  split
  .exact h.set (a x (Zr ..)) _
  .exact h
def bU(j:Nat):LG:=(List.range j).map fun k=>((28+k:Nat):Int)
theorem oT:(bU j).length=j:=by simp[bU]
theorem Ra:bU (j+1)=bU j++[((28+j:Nat):Int)]:=by unfold bU;rw[zAQ9,ZG];rfl
def yT:LG:=bU 20
structure dP where
 names:List (LN)
 bits:Int
 bent:List (Int×Nat)
@[reducible] def ph (l:List (LN)):LQ:=l.map PV.str
def n7(h:dP)(b:Nat):Option (LN×LG×Bool) :=
 if h.names.length<=60/\h.bent.length<=20 then match xQ b [] h.names (List.replicate 3072 0) []with
  | none=>none
  | some (w,ps)=>some (kx ((vH w (x9 (kI ps) yT).2.1).set 600 (x9 (kI ps) yT).1) h.bent,yT.drop (x9 (kI ps) yT).2.2.1,decide ((x9 (kI ps) yT).2.2.2=0))
 else none
def rm(h:dP):FE:=if 1<=h.bits/\h.bits<=40 then match n7 h h.bits.toNat with
  | none=>.ret (.tuple [wv 0 [],wc h.bits.toNat 28,.list 0 1 [],.bool false])
  | some (w,fr,c)=>.ret (.tuple [wv 0 w,wc h.bits.toNat 28,.list 0 1 (fr.map iv),.bool c])
 else .ret (.tuple [wv 0 [],layZ,.list 0 1 [],.bool false])
theorem DL:∀{l done:List (LN)} {w w':LN} {ps ps':LJ},xQ b done l w ps=some (w',ps')->ps'.length=ps.length+l.length
 | [],done,w,w',ps,ps',h=>by
  unfold xQ at h
  grind
 | nm::l,done,w,w',ps,ps',h=>by
  by_cases a:wC nm=0/\¬nm∈done
  rotate_left
  .rw[eO a]at h;cases h
  rw[iF a.1 a.2 rfl rfl]at h;have:=DL h
  grind
theorem W6{r:xw}(hb:wu r.name)(h1:r.ino<65536)(h2:r.name.length<=120):WB (yU r):=fun x a=>by
 unfold yU at a;rcases ZD.1 a with rfl|a
 .show _<18446744073709551616;omega
 rcases ZW.1 a with a|a
 .exact Dz hb x a
 .rw[zBO9 a];exact zAN9 _
theorem Yq{a:Nat}(h:WB w)(n:Nat):BB (gR a w n):=fun c b=>by
 unfold gR at b;obtain⟨k,_,rfl⟩:=Zu.1 b;exact h.get _
theorem K8(i:Nat){nm:LN}(hb:wu nm)(hn:wC nm=0):(dA i nm).length=16/\BB (dA i nm):=by
 have h:=cd hn;unfold dA;refine⟨BV _ _ _,Yq (W6 hb ?_ ?_) _⟩
 .dsimp only;omega
 .dsimp only;omega


theorem T1(h:dP):gh (rm h):=by
 unfold rm
 split
 .split
  .exact Lb.four (Lb.uvs []) (Lb.lay _ _) (Lb.ivs []) (.bool _)
  .exact Lb.four (Lb.uvs _) (Lb.lay _ _) (Lb.ivs _) (.bool _)
 .exact Lb.four (Lb.uvs []) Lb.layZ (Lb.ivs []) (.bool _)
theorem Rp{α:Type}(H G:List α)(a x:α):(H++a::(G++[x]))[H.length+(G.length+1)]?=some x:=by
 grind
theorem Uu(q1 q2:Nat)(names:List (LN))(bits:Int)(bent:List (Int×Nat))(hn:∀s∈names,wu s/\s.length<9223372036854775808)(hbe:∀x∈bent,yQ x.2):FN ET 10 [.agg [.list q1 1 (ph names),iv bits,.list q2 2 (pW bent)]] (rm ⟨names,bits,bent⟩):=by
 refine zn (eG T10 func10) (T1 _) ?_;unfold rm n7;dsimp only
 by_cases bw:1<=bits/\bits<=40
 rotate_left
 .rw[if_neg bw];have b1:=Wz bits zo;refine wl b1 ?_;refine zS ?_;refine vR ?_;refine vW bw ?_;refine vj bw ?_;refine vw (wo ?_);exact ze.tL ⟨.nil _ _,tZ.frz,.nil _ _,.bool _,trivial⟩
 rw[if_pos bw];obtain⟨b,rfl⟩:∃b:Nat,bits=b:=⟨bits.toNat,by omega⟩
 rw[Z4];have hb:1<=b/\b<=40:=zo;have b1:=KP b hb;unfold wc uu at b1;refine wl b1 ?_
 by_cases c1:60<names.length
 .have P:(60:Int)<(names.length:Nat):=zo;rw[if_neg (fun h=>by omega)];refine wB P ?_;refine vR ?_;refine vW P ?_;refine vj P ?_;refine vw (wo ?_);exact ze.tL ⟨.nil _ _,(bX b 28).frz,.nil _ _,.bool _,trivial⟩
 have P:¬(60:Int)<(names.length:Nat):=zo
 by_cases c2:20<bent.length
 .have p:(20:Int)<(bent.length:Nat):=zo;rw[if_neg (fun h=>by omega)];refine wB (zj P p) ?_;refine vR ?_;refine vW P ?_;refine vj P ?_;refine vw (wo ?_);exact ze.tL ⟨.nil _ _,(bX b 28).frz,.nil _ _,.bool _,trivial⟩
 have p:¬(20:Int)<(bent.length:Nat):=zo;rw[if_pos ⟨by omega,by omega⟩];refine kp (zj P p) ?_;refine zG ?_;refine yD 92 2 (i:=9) rfl ?_;simp only[uF,Zp,Zz,Zv,ZA];have dp:∀(O:Nat->PV) (H:LP),O 2=.nilsl->O 3=.ptr 1 0 0 0 10->O 4=.nilsl->O 5=.bool false->H[1]?=some (.row 32 10 0 0 [.agg [iv 48,iv 8,iv 64,iv b,uv 3,uv 5,iv 9,iv 11,iv 27,iv 28]])->yG ET T10 (fun e' H=>ve H 0 e' (.ret (.tuple [wv 0 [],wc b 28,.list 0 1 [],.bool false]))) .ret ⟨O,[],H⟩:=fun O H h2 h3 h4 h5 hH=>by
  refine yd (vs:=[.nilsl,wc b 28,.nilsl,.bool false]) ?_ (ze.tL ⟨.nil _ _,(bX b 28).frz,.nil _ _,.bool _,trivial⟩);simp[T10,xT,zr,zC,h2,h3,h4,h5,zR,zF,zW,hH]
  try rfl
 have ds:List.replicate 3072 (PV.int .u64 0)=(List.replicate 3072 0).map uv:=by rw[zEP9];rfl
 rw[ds];have ca:(List.replicate 3072 0:LN).length=3072:=zAP9;have c8:WB (List.replicate 3072 0):=fun x hx=>by rw[zBO9 hx];exact zAN9 _
 generalize A:xQ b [] names (List.replicate 3072 0) []=R;have A:R=xQ b [] names (List.replicate 3072 0) []:=A.symm;generalize List.replicate 3072 0=W0 at *
 refine vm (vy (fun m s=>∃(i id g M:Nat) (w:LN) (ps:LJ),m=names.length-i/\i<=names.length/\R=xQ b (names.take i) (names.drop i) w ps/\w.length=3072/\WB w/\PB ps/\ps.length=i/\M<=g/\(∀s∈names.take i,wC s=0)/\s.tm 1=.ptr 0 0 0 0 3/\s.tm 3=.ptr 1 0 0 0 10/\s.tm 6=.ptr 2 0 0 0 10/\s.tm 8=.sl id g 0 w.length (2*w.length) 1/\s.tm 9=.sl 4 ps.length 0 ps.length (2*ps.length) 2/\s.tm 10=iv i/\s.df=[]/\s.H[0]?=some (.row 25 3 0 0 [.agg [.list q1 1 (ph names),iv b,.list q2 2 (pW bent)]])/\s.H[1]?=some (.row 32 10 0 0 [layZ])/\s.H[2]?=some (.row 32 10 0 0 [.agg [iv 48,iv 8,iv 64,iv b,uv 3,uv 5,iv 9,iv 11,iv 27,iv 28]])/\s.H[4]?=some (.row 92 2 ps.length 0 (ps.map pv))/\s.H[id]?=some (.row 29 1 g M (w.map uv))) (n:=names.length) ?_ ?_)
 .exact⟨0,3,0,0,W0,[],rfl,Zn _,A,ca,c8,fun c Z=>(by cases Z),rfl,Zi _,fun s hs=>(by cases hs),zt,zt,zt,by simp[zb,ca],zt,zt,rfl,rfl,rfl,rfl,rfl,rfl⟩
 clear A ca c8 ds;rintro m ⟨O,df,H⟩ ⟨i,id,g,M,w,ps,rfl,hi,A,b2,cl,cs,fa,T,dx,h1,h3,f,d,t,v,rfl,q,z,u,e4,r⟩;dsimp only at h1 h3 f d t v q z u e4 r;refine vu (vh h1 v q) ?_ ?_
 .intro D;have D:i<names.length:=vM D;obtain⟨nm,b3⟩:=wX (l:=names) D;have bb:(names.map PV.str)[i]?=some (.str nm):=vU b3;obtain⟨cu,fb⟩:=hn nm (Zj b3);have cx:names.drop i=nm::names.drop (i+1):=pX b3;have fk:names.take (i+1)=names.take i++[nm]:=by rw[ZE,b3];rfl
  have fl:(names.take i).length=i:=by rw[ZC];omega
  have dT:∀k,k<i->(names.take i)[k]?=names[k]?:=fun k hk=>by grind
  rw[cx]at A;have hC:=rQ nm fb;have bm:∀x:za,(H.set 1 x)[1]?=some x:=fun x=>Zw (Zh.1 z).1;generalize names.take i=done at *
  refine vD ?_;refine zB ?_;refine vK (vX h1 v q bb D) ?_;refine vo hC ?_
  by_cases ad:wC nm=0
  rotate_left
  .have gN:¬(wC nm:Int)=0:=fun h=>ad (Int.ofNat.inj h);rw[A,eO (fun h=>ad h.1)];refine wN gN ?_;refine uQ ?_;refine vR ?_;refine vW (vz h3 f z u) ?_;refine vj h3 ?_;refine vw ?_;exact dp _ _ rfl h3 rfl rfl (bm _)
  have gN:(wC nm:Int)=0:=by rw[ad];rfl
  refine wN gN ?_;refine zH ?_;obtain⟨V,hV⟩:∃V,V=65536*yr b nm:=⟨_,rfl⟩
  have hK:=KN b hb nm cu ad V hV;unfold wc uu at hK;have gr:V<72057594037927936:=by have:=l8 b hb nm;omega
  refine vR ?_;refine wF (ww h1 f v q u bb D) hK ?_;refine vj h1 ?_;refine zG ?_;have I:ir b done nm=mw b done V:=by rw[hV];rfl
  refine vm (vy (fun m s=>∃(k key:Nat),m=i-k/\k<=i/\ir b done nm=mw b (done.drop k) key/\key<=V+k/\(nm∈done↔nm∈done.drop k)/\s.tm 1=.ptr 0 0 0 0 3/\s.tm 3=.ptr 1 0 0 0 10/\s.tm 6=.ptr 2 0 0 0 10/\s.tm 8=.sl id g 0 w.length (2*w.length) 1/\s.tm 9=.sl 4 ps.length 0 ps.length (2*ps.length) 2/\s.tm 10=iv i/\s.tm 11=uv key/\s.tm 13=iv k/\s.df=[]/\s.H=H) (n:=i) ?_ ?_)
  .exact⟨0,V,rfl,Zn _,I,Zi _,Iff.rfl,zu h1,zu h3,zu f,zu d,zu t,zu v,zt,zt,rfl,rfl⟩
  clear I h1 h3 f d t v;rintro m ⟨O,df,H2⟩ ⟨k,key,rfl,hk,I,go,a8,h1,h3,f,d,t,v,bo,ah,rfl,rfl⟩;dsimp only at *
  refine vu (zj v ah) ?_ ?_
  .intro ab;have ab:k<i:=vM ab;obtain⟨ok,cb⟩:∃x,names[k]?=some x:=⟨_,Zg zo⟩
   have cc:(names.map PV.str)[k]?=some (.str ok):=vU cb;have dd:=(dT k ab).trans cb;obtain⟨e6,gp⟩:=hn ok (Zj cb);have e7:=dx ok (Zj dd);have fn:done.drop k=ok::done.drop (k+1):=by
    obtain⟨h,e⟩:=Zh.1 dd;rw[Zs h,e]
   rw[fn]at I a8;have c0:k<names.length:=zo;refine vD ?_;refine vR ?_
   by_cases he:ok=nm
   .rw[A,eO (fun h=>h.2 (a8.2 (by rw[he];simp)))];refine vj (pZ h1 v ah q bb cc D c0 he) ?_;refine uQ ?_;refine vR ?_;refine vW (vz h3 f z u) ?_;refine vj h3 ?_;refine vw ?_;exact dp _ _ rfl h3 rfl rfl (bm _)
   have c7:nm∈done↔nm∈done.drop (k+1):=a8.trans (by rw[ZD];grind);have ch:=EC b hb ok e6 e7;unfold wc uu at ch;obtain⟨S,hS⟩:∃S,yr b ok=S:=⟨_,rfl⟩
   rw[hS]at ch;obtain⟨Q,hQ⟩:∃Q,key/65536=Q:=⟨_,rfl⟩
   have ea:Int.tdiv (key:Int) 65536=(Q:Int):=by rw[zCJ9 zo];omega
   have hq:(key:Int)/65536=(Q:Int):=zo;have eb:(Q:Int)<18446744073709551616:=zo;refine vj (pZ h1 v ah q bb cc D c0 he) ?_;refine zH ?_;refine vR ?_;refine wF (ww h1 f ah q u cc c0) ch ?_;refine vj h1 ?_;refine zB ?_
   by_cases b4:S=Q
   rotate_left
   .have g3:¬(S:Int)=(Q:Int):=fun h=>b4 (Int.ofNat.inj h);rw[S6 hS hQ b4]at I;refine zB ?_;refine vC (vX bo ea hq eb g3) ?_;refine zH ?_;refine vp ah ?_;exact⟨_,by omega,k+1,key,rfl,ab,I,by omega,c7,zu h1,zu h3,zu f,zu d,zu t,zu v,zu bo,zu ah,rfl,rfl⟩
   have g3:(S:Int)=(Q:Int):=congrArg Nat.cast b4;rw[S5 hS hQ b4]at I;have fs:(key:Int)+1=((key+1:Nat):Int):=zo;have e8:((key+1:Nat):Int)<18446744073709551616:=zo;refine zB ?_;refine vC (vX bo ea hq eb g3) ?_;refine uQ ?_;refine vp (vh bo fs e8) ?_;refine vp ah ?_;exact⟨_,by omega,k+1,key+1,rfl,ab,I,by omega,c7,zu h1,zu h3,zu f,zu d,zu t,zu v,zt,zu ah,rfl,rfl⟩
  intro ab;have ab:¬k<i:=vL ab;obtain rfl:k=i:=zo;rw[zBQ9 zo]at I a8;have I:ir b done nm=key:=I;have fv:¬nm∈done:=fun h=>by grind
  obtain⟨X,hX⟩:∃X,dA k nm=X:=⟨_,rfl⟩
  obtain⟨fz,ed⟩:=K8 k cu ad;have gs:k%8<8:=zDB9 _ zy;have ef:=WH (704+16*k) zo ⟨1+k%8,nm⟩ ((bj _).2 ⟨zDT9 1 _,by grind,ad⟩) cu;rw[show gR (704+16*k) (yU ⟨1+k%8,nm⟩) 16=X from hX]at ef;rw[hX]at fz ed;rw[iF (X:=X) ad fv (by grind) I]at A;have ga:(k:Int).tmod 8=((k%8:Nat):Int):=by rw[zDE9 zo];omega
  have a1:(16:Int)*(k:Int)=((16*k:Nat):Int):=zo;have a2:(704:Int)+((16*k:Nat):Int)=((704+16*k:Nat):Int):=zo;generalize k%8=r8 at *
  have a3:(1:Int)+(r8:Int)=((1+r8:Nat):Int):=zo;clear hK hV I a8 dT hC;refine vR ?_;refine wF (xI h1 f v q u bb D ga a1 a2 a3) ef ?_;refine vj h1 ?_;refine zB ?_;have b5:=Gi 0 H2 id g (2*w.length) M w X zo ⟨by omega,by omega⟩ T r;refine vK d ?_;refine wW b5 ?_ (by first|rfl|(simp only[go_sem,d]<;>rfl)) (by simp only[go_sem]<;>rfl);rintro e H1 ⟨U,J,p,M2,rfl,b6,K⟩;refine zN ?_;have c3:=kw X w;have f0:=U _ _ q;have f1:=U _ _ z;have f2:=U _ _ u;have f4:=U _ _ e4;have gb:J≠4:=by rintro rfl;rw[f4]at K;cases K
  have gd:∀Y,(H1++Y)[4]?=some (.row 92 2 ps.length 0 (ps.map pv)):=fun Y=>wi f4;have c4:(ps.length+1)*17<=140737488355328:=zo;have a4:(k:Int)+1=((k+1:Nat):Int):=zo;have a5:((k+1:Nat):Int)<18446744073709551616:=zo;refine zB ?_;refine vp (ww t v bo gd c4 a4 a5) ?_;refine vp v ?_;rw[fl]at A;have ge:ps.map pv++[pv (key,k+1)]=(ps++[(key,k+1)]).map pv:=by rw[ZG];rfl
  have ej:ps.length+1=(ps++[(key,k+1)]).length:=by rw[Zl];rfl
  refine⟨_,?m,k+1,J,p,M2,vH w X,ps++[(key,k+1)],rfl,D,by grind,by omega,ox cl ed,?PB,by omega,b6,?OK,zu h1,zu h3,zu f,by simp[zb,c3],zt,zu v,rfl,?H0,?H1,?H2,?H4,?HR⟩
  case m=>omega
  case PB =>
   intro c Z;rcases ZW.1 Z with Z|Z
   .exact cs c Z
   .obtain rfl:=ZI.1 Z;omega
  case OK =>
   rw[fk];intro s hs;rcases ZW.1 hs with hs|hs
   .grind
   .obtain rfl:=ZI.1 hs;exact ad
  case H0=>exact(Zx zy).trans (wi f0)
  case H1=>exact(Zx zy).trans (wi f1)
  case H2=>exact(Zx zy).trans (wi f2)
  case H4 =>
   rw[<- ge,<- ej];exact Zw (Zh.1 (wi f4)).1
  case HR=>exact(Zx gb.symm).trans (wi K)
 intro D;have D:¬i<names.length:=vL D;obtain rfl:i=names.length:=zo;rw[ZL,ZS]at A;have A:R=some (w,ps):=A;rw[A];clear A dx hi D;refine vA (zj f u) ?_;refine yD 3 1 (i:=18) rfl ?_;simp only[uF];refine vm (vy (fun m s=>∃(j:Nat) (G:LP),m=20-j/\j<=20/\s.tm 1=.ptr 0 0 0 0 3/\s.tm 3=.ptr 1 0 0 0 10/\s.tm 6=.ptr 2 0 0 0 10/\s.tm 8=.sl id g 0 w.length (2*w.length) 1/\s.tm 9=.sl 4 ps.length 0 ps.length (2*ps.length) 2/\s.tm 18=.sl H.length j 0 j (2*j) 1/\s.tm 19=iv (28+j:Nat)/\s.df=[]/\s.H=H++.row 3 1 j 0 ((bU j).map iv)::G) (n:=20) ?_ ?_)
 .exact⟨0,[],rfl,Zn _,zu h1,zu h3,zu f,zu d,zu t,zt,zt,rfl,rfl⟩
 clear h1 h3 f d t v;rintro m ⟨O,df,H9⟩ ⟨j,G,rfl,hj,h1,h3,f,d,t,y,b7,rfl,rfl⟩;dsimp only at *
 have gj:((28+j:Nat):Int)<48↔j<20:=zo;refine vu b7 ?_ ?_
 .intro av;have av:j<20:=vM av;have c4:(j+1)*9<=140737488355328:=zo;have es:=oT j;have gg:((28+j:Nat):Int)+1=((28+(j+1):Nat):Int):=zo;refine vD ?_;refine zB ?_;refine aB ?_ (by simp(disch:=omega)only[go_sem,y,b7,c4,es,il,Rp,E2,ZK,Zl]<;>rfl);refine yR ?_;refine vp (zj b7 gg) ?_;refine⟨_,?m,j+1,?G,rfl,av,zu h1,zu h3,zu f,zu d,zu t,zt,zt,rfl,?H⟩
  case m=>omega
  case H=>rw[Ra,ZG];rfl
 intro av;have av:¬j<20:=vL av;obtain rfl:j=20:=zo;refine xg (fun L=>L 1=.ptr 0 0 0 0 3/\L 3=.ptr 1 0 0 0 10/\L 6=.ptr 2 0 0 0 10/\L 8=.sl id g 0 w.length (2*w.length) 1/\L 9=.sl 4 ps.length 0 ps.length (2*ps.length) 2/\L 18=.sl H.length 20 0 20 40 1) ⟨zu h1,zu h3,zu f,zu d,zu t,zu y⟩ ?_;clear h1 h3 f d t y b7 gj;rintro O ⟨h1,h3,f,d,t,y⟩;refine sQ 18 H.length (w:=.list 0 1 (yT.map iv)) (o:=.row 3 1 20 0 ((bU 20).map iv)) (by grind) (by
  dsimp only;rw[y];exact ze.wh (l:=(bU 20).map iv) (lI (by simp only[il]<;>rfl)) rfl (by rw[ZB,oT]) (by rw[ZB,oT];decide) uG If) ?_
 simp only[E2];refine xg (fun L=>L 1=.ptr 0 0 0 0 3/\L 3=.ptr 1 0 0 0 10/\L 6=.ptr 2 0 0 0 10/\L 8=.sl id g 0 w.length (2*w.length) 1/\L 9=.sl 4 ps.length 0 ps.length (2*ps.length) 2/\L 18=.list 0 1 (yT.map iv)) ⟨zu h1,zu h3,zu f,zu d,zu t,by simp[zb]⟩ ?_;clear h1 h3 f d t y;rintro O ⟨h1,h3,f,d,t,y⟩;have f0:=wi (X:=.void::G) q;have f1:=wi (X:=.void::G) z;have f2:=wi (X:=.void::G) u;have f4:=wi (X:=.void::G) e4;have fr:=wi (X:=.void::G) r;generalize H++za.void::G=H5 at *
 clear q z u e4 r;have et:ze H5 1 (.sl 4 ps.length 0 ps.length (2*ps.length) 2) (vJ 1 ps):=ze.wh (l:=ps.map pv) f4 rfl (by simp) (by simp) uG bS;have ex:=WG 1 ps zo;have ej:=E7 ps;have gk:PB (kI ps):=fun c Z=>cs c (Mq c Z);have hB:=Wr 0 0 (kI ps) yT zo zy;rw[Pl]at hB;obtain⟨ey,c5,eB,eK⟩:=GP (kI ps) yT zo;have q5:=eK gk;clear eK;dsimp only;generalize x9 (kI ps) yT=bp at *
 obtain⟨root,ck,a9,no⟩:=bp;dsimp only at hB ey c5 eB q5⊢;generalize kI ps=sp at *
 have es:yT.length=20:=oT 20;refine vK t ?_;refine mM ex ?_ ?_;exact⟨et,trivial⟩;refine vS y ?_;refine wD hB ?_;refine zB ?_;have b5:=Gi 0 H5 id g (2*w.length) M w ck zo ⟨by omega,by omega⟩ T fr;refine vK d ?_;refine wW b5 ?_ (by first|rfl|(simp only[go_sem,d]<;>rfl)) (by simp only[go_sem]<;>rfl);rintro e H1 ⟨U,J,p,M2,rfl,b6,K⟩;refine zN ?_;have c3:=kw ck w;have dm:=ox cl q5;have k0:=U _ _ f0;have k1:=U _ _ f1;have k2:=U _ _ f2;have bx:J≠0:=by rintro rfl;rw[k0]at K;cases K
 have a0:J≠1:=by rintro rfl;rw[k1]at K;cases K
 have b0:J≠2:=by rintro rfl;rw[k2]at K;cases K
 clear f0 f1 f2 f4 fr U b5 hB ex et;generalize vH w ck=w1' at *
 have r5:600<w1'.length:=zo;have r6:IntKind.u64.wrap (root:Int)=(root:Int):=ku;obtain⟨o5,eU⟩:∃o,w1'[600]?=some o:=⟨_,Zg r5⟩
 have z5:(w1'.map uv)[600]?=some (uv o5):=vU eU;have y5:(w1'.map uv).set 600 (.int .u64 (root:Int))=(w1'.set 600 root).map uv:=zBR9.symm;have r7:600<w.length:=zo;refine zB ?_;refine vC (ww K b6 r5 r6 r7 z5 y5) ?_;refine zG ?_;have s0:(H1.set J (.row 29 1 p p ((w1'.set 600 root).map uv)))[0]?=some (.row 25 3 0 0 [.agg [.list q1 1 (ph names),iv b,.list q2 2 (pW bent)]]):=(Zx bx).trans k0;have s1:(H1.set J (.row 29 1 p p ((w1'.set 600 root).map uv)))[1]?=some (.row 32 10 0 0 [layZ]):=(Zx a0).trans k1;have s2:(H1.set J (.row 29 1 p p ((w1'.set 600 root).map uv)))[2]?=some (.row 32 10 0 0 [.agg [iv 48,iv 8,iv 64,iv b,uv 3,uv 5,iv 9,iv 11,iv 27,iv 28]]):=(Zx b0).trans k2;have sr:(H1.set J (.row 29 1 p p ((w1'.set 600 root).map uv)))[J]?=some (.row 29 1 p p ((w1'.set 600 root).map uv)):=Zw (Zh.1 K).1;have eV:(w1'.set 600 root).length=3072:=by rw[Z2];omega
 have e9:WB (w1'.set 600 root):=dm.set (show root<18446744073709551616 by omega) _;rw[show w.length=(w1'.set 600 root).length by omega];clear k0 k1 k2 K z5 y5 eU r5 r6 r7 c3 dm ey eB q5 b2 cl T cs fa;generalize H1.set J (.row 29 1 p p ((w1'.set 600 root).map uv))=H6 at *
 generalize w1'.set 600 root=W2 at *
 refine vm (vy (fun m s=>∃(k id g M:Nat) (w:LN),m=bent.length-k/\k<=bent.length/\w.length=3072/\M<=g/\kx W2 bent=kx w (bent.drop k)/\s.tm 1=.ptr 0 0 0 0 3/\s.tm 3=.ptr 1 0 0 0 10/\s.tm 6=.ptr 2 0 0 0 10/\s.tm 8=.sl id g 0 w.length (2*w.length) 1/\s.tm 18=.list 0 1 (yT.map iv)/\s.tm 22=iv a9/\s.tm 23=iv no/\s.tm 24=iv k/\s.df=[]/\s.H[0]?=some (.row 25 3 0 0 [.agg [.list q1 1 (ph names),iv b,.list q2 2 (pW bent)]])/\s.H[1]?=some (.row 32 10 0 0 [layZ])/\s.H[2]?=some (.row 32 10 0 0 [.agg [iv 48,iv 8,iv 64,iv b,uv 3,uv 5,iv 9,iv 11,iv 27,iv 28]])/\s.H[id]?=some (.row 29 1 g M (w.map uv))) (n:=bent.length) ?_ ?_)
 .exact⟨0,J,p,p,W2,rfl,Zn _,eV,Zi _,rfl,zu h1,zu h3,zu f,zt,zu y,zt,zt,zt,rfl,s0,s1,s2,sr⟩
 clear h1 h3 f d t y s0 s1 s2 sr eV e9 bx a0 b0 b6;rintro m ⟨O,df,H⟩ ⟨k,id,g,M,w,rfl,hk,b2,T,B,h1,h3,f,d,y,a6,a7,N,rfl,q,z,u,r⟩;dsimp only at h1 h3 f d y a6 a7 N q z u r;refine vu (vh h1 N q) ?_ ?_
 .intro C;have C:k<bent.length:=vM C;obtain⟨x,hx⟩:=wX (l:=bent) C;have bs:(pW bent)[k]?=some (.agg [iv x.1,uv x.2]):=by rw[Zt,hx];rfl
  have cx:bent.drop k=x::bent.drop (k+1):=pX hx;rw[cx]at B;have bx:id≠0:=by rintro rfl;rw[q]at r;cases r
  have a0:id≠1:=by rintro rfl;rw[z]at r;cases r
  have b0:id≠2:=by rintro rfl;rw[u]at r;cases r
  refine vD ?_
  by_cases c6:0<=x.1/\x.1<(w.length:Nat)
  .have B:kx W2 bent=kx (w.set x.1.toNat x.2) (bent.drop (k+1)):=by rw[B];show kx (if 0<=x.1/\x.1<(w.length:Int)then w.set x.1.toNat x.2 else w) _=_;rw[if_pos c6]
   obtain⟨a,ha⟩:∃a:Nat,x.1=a:=⟨x.1.toNat,by omega⟩
   have P:(0:Int)<=(a:Nat):=zo;have p:((a:Nat):Int)<(w.length:Nat):=zo;have g3:a<w.length:=zo;rw[ha]at bs B;rw[Z4]at B;obtain⟨o,ho⟩:=wX (l:=w) g3;have z1:(w.map uv)[a]?=some (uv o):=vU ho;have y1:(w.map uv).set a (.int .u64 (x.2:Int))=(w.set a x.2).map uv:=zBR9.symm;refine wB (kO h1 d N q bs C r T P p) ?_;refine vR ?_;refine vW (wP h1 d N q bs C r T P p g3 (zj z1 y1)) ?_;refine vj d ?_;refine vp N ?_;refine⟨_,?m8,k+1,id,g,g,w.set a x.2,rfl,C,by grind,Zi _,B,zu h1,zu h3,zu f,zu d,zu y,zu a6,zu a7,zu N,zt,(Zx bx).trans q,(Zx a0).trans z,(Zx b0).trans u,?gv⟩
   case m8=>omega
   grind
  have B:kx W2 bent=kx w (bent.drop (k+1)):=by rw[B];show kx (if 0<=x.1/\x.1<(w.length:Int)then w.set x.1.toNat x.2 else w) _=_;rw[if_neg c6]
  by_cases h0:(0:Int)<=x.1
  .have p:¬x.1<(w.length:Nat):=fun h=>c6 ⟨h0,h⟩;refine kp (kO h1 d N q bs C r T h0 p) ?_;refine vp N ?_;exact⟨_,by omega,k+1,id,g,M,w,rfl,C,b2,T,B,zu h1,zu h3,zu f,zu d,zu y,zu a6,zu a7,zu N,rfl,q,z,u,r⟩
  .refine kp (pZ h1 d N q bs C r T h0) ?_;refine vp N ?_;exact⟨_,by omega,k+1,id,g,M,w,rfl,C,b2,T,B,zu h1,zu h3,zu f,zu d,zu y,zu a6,zu a7,zu N,rfl,q,z,u,r⟩
 intro C;have C:¬k<bent.length:=vL C;rw[zBQ9 zo]at B;have B:kx W2 bent=w:=B;rw[B];refine vR ?_;have a0:id≠1:=by rintro rfl;rw[z]at r;cases r
 have e3:List.drop a9 (yT.map iv)=(yT.drop a9).map iv:=Z1.symm;have bm:∀x:za,(H.set 1 x)[1]?=some x:=fun x=>Zw (Zh.1 z).1;have gl:∀x:za,(H.set 1 x)[id]?=some (.row 29 1 g M (w.map uv)):=fun x=>(Zx a0.symm).trans r;have fin:∀(c:Bool) (x:za) (lay:PV),vg lay->ve (H.set 1 x) 0 (.ret (.tuple [.sl id g 0 w.length (2*w.length) 1,lay,.list 0 1 ((yT.drop a9).map iv),.bool c])) (.ret (.tuple [wv 0 w,lay,.list 0 1 ((yT.drop a9).map iv),.bool c])):=fun c x lay hl=>ze.tL ⟨ze.wM (gl x) T rfl (by simp) (by simp) uG tQ,hl.frz,.list _ _ _,.bool _,trivial⟩
 by_cases e5:no=0
 .have gn:(no:Int)=0:=zo;rw[decide_eq_true e5];refine vW (xI h3 f d y a6 a7 z u e3 c5 gn) ?_;refine vj h3 ?_;refine vw (wo ?_ (by simp only[go_sem,h3,bm]<;>rfl));exact fin _ _ _ (bX b 28)
 .have gn:¬(no:Int)=0:=zo;rw[decide_eq_false e5];refine vW (xI h3 f d y a6 a7 z u e3 c5 gn) ?_;refine vj h3 ?_;refine vw (wo ?_ (by simp only[go_sem,h3,bm]<;>rfl));exact fin _ _ _ (bX b 28)


theorem JC:∀{l done:List (LN)} {w w':LN} {ps ps':LJ},xQ b done l w ps=some (w',ps')->(∀s∈l,wu s)->WB w->w'.length=w.length/\WB w'
 | [],done,w,w',ps,ps',h,_,c=>by
  unfold xQ at h
  grind
 | nm::l,done,w,w',ps,ps',h,d,c=>by
  by_cases a:wC nm=0/\¬nm∈done
  rotate_left
  .rw[eO a]at h;cases h
  rw[iF a.1 a.2 rfl rfl]at h;obtain⟨h1,h2⟩:=JC h (fun s e=>d s (Zo _ e)) (ox c (K8 _ (d nm (Zr ..)) a.1).2);exact⟨h1.trans (kw _ _),h2⟩
theorem JE(hb:1<=b/\b<=40):∀{l done:List (LN)} {w w':LN} {ps ps':LJ},xQ b done l w ps=some (w',ps')->done.length+l.length<=1000->PB ps->PB ps'
 | [],done,w,w',ps,ps',h,_,d=>by
  unfold xQ at h;injection h with h;injection h with _ h;subst h;exact d
 | nm::l,done,w,w',ps,ps',h,g,d=>by
  by_cases e:wC nm=0/\¬nm∈done
  rotate_left
  .rw[eO e]at h;cases h
  obtain⟨K,f⟩:∃K,ir b done nm=K:=⟨_,rfl⟩
  rw[iF e.1 e.2 rfl f]at h;rw[Zp]at g;refine JE hb h (by grind) fun c a=>?_;rcases ZW.1 a with a|a
  .exact d c a
  .obtain rfl:=ZI.1 a;have h1:=(Du b done (65536*yr b nm)).2;have h2:=l8 b hb nm;have h3:K<=65536*yr b nm+done.length:=by rw[<- f];exact h1
   omega
theorem Uv{h:dP}(hb:1<=b/\b<=40){fr:LG}{c:Bool}(ho:n7 h b=some (w,fr,c))(hn:∀s∈h.names,wu s)(hbe:∀x∈h.bent,yQ x.2):w.length=3072/\WB w/\fr.length<=20:=by
 unfold n7 at ho
 split at ho
 rotate_left
 .cases ho
 rename_i a
 split at ho
 .cases ho
 rename_i n ps d;have f:=DL d;have g:=JE hb d (by grind) (fun c a=>by cases a);obtain⟨e,i⟩:=JC d hn (fun x j=>by rw[zBO9 j];exact zAN9 _);rw[zAP9]at e;simp only[Zz]at f;have m:=E7 ps;obtain⟨o,p,q,k⟩:=GP (kI ps) yT zo;have l:=k (fun c a=>g c (Mq c a));generalize x9 (kI ps) yT=bp at *
 injection ho with ho;injection ho with h1 h2;injection h2 with h2 h3;subst h1 h2;refine⟨?_,?_,?_⟩
 .rw[Ct,Z2,kw,e]
 .exact Gu _ _ ((ox i l).set (show bp.1<18446744073709551616 by omega) _) hbe
 .rw[ZX,show yT.length=20 from oT 20];omega
theorem DG(w:LN)(b d:Nat)(a:Int)(hw:w.length<=131072):(ke w b d a).1.length<=60000:=by
 unfold ke;have h:=Ck w a hw
 split
 .split
  .split
   .rename_i hg;have:=Jr hg
    grind
   grind
  grind
 grind
theorem f11:FR 11 [] (.bool true):=Ny (by kernel_rfl) (by rfl)
theorem f3:ET.funcs.get 3=some T3:=eG _ func3


theorem f17:ET.funcs.get 17=some T17:=cW func17
def uh(w:LN)(b d:Nat)(a:Int)(name:LN):List ub×Nat:=if kz w.length d a=true then if wC name=0 then ke w b d a else([],wC name)else([],2)
variable {F:PV}{L:LJ}{fr:LN}{iP iW id k left r u:Nat}(p:Nat)(w:LN)(P:LJ)(b:Nat)(l:List ub)(d i:Nat)(a:Int)(x:Pr)(name:LN)
theorem Cp(hw:w.length<=131072):(uh w b d a name).1.length<=60000:=by
 have:=DG w b d a hw;unfold uh
 grind
def Co(w:LN)(b d:Nat)(a:Int)(name:LN):FE:=.ret (.tuple [esv 0 (uh w b d a name).1,iv ((uh w b d a name).2:Nat)])
theorem Wp(h:1<=b/\b<=40)(w:LN)(hs:vE w.length)(hw:WB w)(a:Int)(name:LN)(hnl:name.length<9223372036854775808):FN ET 48 [wv p w,wc b d,iv a,.str name] (Co w b d a name):=by
 have c:=EB p b d h w hs a;have f:=rQ name hnl;have i:=KO p b d h w hs hw a;unfold bZ at i;refine zn (eG T48 func48) (Lb.two (Lb.esv _) (.int _ _)) ?_;unfold Co uh;unfold wc uu at c i⊢
 by_cases j:kz w.length d a=true
 rotate_left
 .rw[if_neg j];rw[show kz w.length d a=false by grind]at c;refine wl c ?_;refine zU ?_;exact vN
 rw[if_pos j];rw[j]at c
 by_cases e:wC name=0
 rotate_left
 .rw[if_neg e];have g:¬(wC name:Int)=0:=fun h=>e (Int.ofNat.inj h);refine wl c ?_;refine zH ?_;refine zB ?_;refine zM f ?_;refine wB g ?_;refine zO ?_;exact vN
 rw[if_pos e];rw[e]at f;refine wl c ?_;refine zH ?_;refine zB ?_;refine zM f ?_;refine mL ?_;refine zB ?_;refine zI ?_;refine vo i ?_;refine zP ?_;exact vN
def kY(name:LN)(y:ub):Bool:=decide (y.name=name)
theorem Wu(hl:vE l.length):FR 49 [esv p l,.str name] (iv (kX (kY name) l)):=by
 refine zn (eG T49 func49) (.int _ _) ?_;refine zG ?_;refine vm (vy (fun m s=>∃i:Nat,m=l.length-i/\i<=l.length/\l.findIdx? (kY name)=((l.drop i).findIdx? (kY name)).map (· + i)/\s.tm 0=esv p l/\s.tm 1=.str name/\s.tm 5=iv i/\s.df=[]/\s.H=[]) (n:=l.length) ?_ ?_)
 .exact⟨0,by simp[zb,zq]⟩
 .rintro m ⟨tm,df,H⟩ ⟨i,rfl,hi,hf,h0,h1,h5,rfl,rfl⟩;dsimp only at h0 h1 h5;refine vu (zj h0 h5) ?_ ?_
  .intro a;have a:i<l.length:=vM a;obtain⟨y,d⟩:=wX (l:=l) a;have c:(l.map ut)[i]?=some (ut y):=vU d;obtain⟨e,f⟩:=Zh.1 d;rw[Zs e,f,zCF9]at hf;refine vD ?_;refine zB ?_
   by_cases b:y.name=name
   .rw[show kY name y=true from decide_eq_true b,if_pos rfl]at hf;refine zB ?_;refine vC (wQ h0 h1 h5 a c b) ?_;refine Zd h5 ?_;exact ve.int (by unfold kX;grind)
   .rw[show kY name y=false from decide_eq_false b,if_neg zCG9]at hf;refine zB ?_;refine vC (wQ h0 h1 h5 a c b) ?_;refine zH ?_;refine vp h5 ?_;refine⟨_,?_,i+1,rfl,a,?_,zu h0,zu h1,zt,zt,zt⟩
    .omega
    .rw[hf]
     cases (l.drop (i+1)).findIdx? (kY name)with
     | none=>rfl
     | some j=>grind
  .intro a;have a:¬i<l.length:=vL a;obtain rfl:i=l.length:=zo;rw[ZS]at hf;refine zO ?_;exact ve.int (by unfold kX;grind)
theorem IM(pr:ub->Bool)(l:List ub):(l.find? pr=none/\kX pr l=-1)\/∃(i:Nat) (x:ub),l.find? pr=some x/\l[i]?=some x/\i<l.length/\kX pr l=i:=by
 unfold kX
 cases h:l.findIdx? pr with
 | none =>
  grind
 | some i =>
  right
  obtain⟨a,h1,h2⟩:=List.findIdx?_eq_some_iff_getElem.1 h;refine⟨i,l[i],?_,Zg a,a,rfl⟩;rw[List.find?_eq_some_iff_getElem]
  grind
@[reducible] def zE:ub:=⟨0,0,0,[]⟩
def C8(w:LN)(b d:Nat)(a:Int)(name:LN):ub×Bool×Nat:=match(uh w b d a name).1.find? (kY name)with
 | some x=>(x,true,0)
 | none=>(zE,false,(uh w b d a name).2)
def gz(w:LN)(b d:Nat)(a:Int)(name:LN):FE:=.ret (.tuple [ut (C8 w b d a name).1,.bool (C8 w b d a name).2.1,iv ((C8 w b d a name).2.2:Nat)])
theorem Gl{w:LN}{b d:Nat}{a:Int}{name:LN}(h:(uh w b d a name).2=0):kz w.length d a=true/\wC name=0/\uh w b d a name=ke w b d a:=by
 unfold uh at h⊢
 grind
def pG:List ub->Nat->Nat
 | [],k=>k
 | x::l,k=>pG l (if x.key=k then k+1 else k)
theorem Lj{x:ub}{l:List ub}(h:x.key=k):pG (x::l) k=pG l (k+1):=by
 conv=>lhs;unfold pG
 grind
theorem Lk{x:ub}{l:List ub}(h:¬x.key=k):pG (x::l) k=pG l k:=by
 conv=>lhs;unfold pG
 grind
def pP(w:LN)(b d:Nat)(a:Int)(name:LN):Nat×Nat:=if(uh w b d a name).2=0 then match(uh w b d a name).1.find? (kY name)with
  | some _=>(0,191)
  | none=>(pG (uh w b d a name).1 (65536*yr b name),0)
 else(0,(uh w b d a name).2)
def EP(w:LN)(b d:Nat)(a:Int)(name:LN):FE:=.ret (.tuple [uv (pP w b d a name).1,iv ((pP w b d a name).2:Nat)])
theorem WE(h:1<=b/\b<=40)(w:LN)(hs:vE w.length)(hwl:w.length<=131072)(hw:WB w)(a:Int)(name:LN)(hnb:wu name)(hnl:name.length<9223372036854775808):FN ET 19 [wv p w,wc b d,iv a,.str name] (EP w b d a name):=by
 have j:=Wp p b d h w hs hw a name hnl;have A:=Cp w b d a name hwl;have r:=Wu 0 (uh w b d a name).1 name (by unfold vE;omega);have u:=Gl (w:=w) (b:=b) (d:=d) (a:=a) (name:=name);refine zn (eG T19 func19) (Lb.two (.int _ _) (.int _ _)) ?_;unfold Co at j;unfold EP pP;obtain⟨L,N⟩:∃L,uh w b d a name=L:=⟨_,rfl⟩
 rw[N]at j A r u⊢;obtain⟨l,C⟩:=L;dsimp only at j A r u⊢;unfold wc uu at j⊢
 by_cases D:C=0
 rotate_left
 .rw[if_neg D];have g:¬(C:Int)=0:=zo;refine wl j ?_;refine wB g ?_;refine zO ?_;exact vN
 subst D;rw[if_pos rfl];obtain⟨O,P,_⟩:=u rfl;obtain⟨rfl,_,_,_⟩:=fX.1 O;obtain⟨V,v⟩:∃V,V=65536*yr b name:=⟨_,rfl⟩
 have G:=KN b h name hnb P V v;have U:V<72057594037927936:=by have:=l8 b h name;omega
 unfold wc uu at G;rw[<- v];clear v;rcases IM (kY name) l with⟨z,I⟩|⟨i,x,z,I,X,Q⟩;rotate_left
 .rw[z];rw[Q]at r;have R:(0:Int)<=i:=zo;refine wl j ?_;refine mL ?_;refine zB ?_;refine zI ?_;refine vo r ?_;refine wN R ?_;refine zU ?_;exact vN
 rw[z];rw[I]at r;refine wl j ?_;refine mL ?_;refine zB ?_;refine zM r ?_;refine zH ?_;refine zB ?_;refine zM G ?_;refine zG ?_;refine vm (vy (fun m s=>∃(i k:Nat),m=l.length-i/\i<=l.length/\pG l V=pG (l.drop i) k/\k<=V+i/\s.tm 10=esv 0 l/\s.tm 12=uv k/\s.tm 14=iv i/\s.df=[]) (n:=l.length) ?_ ?_)
 .exact⟨0,V,rfl,Zn _,rfl,Zi _,zt,zt,zt,rfl⟩
 rintro m ⟨Y,Z,H⟩ ⟨i,k,rfl,hi,e,hk,o,q,f,rfl⟩;dsimp only at o q f;refine vu (zj o f) ?_ ?_
 .intro c;have c:i<l.length:=vM c;obtain⟨y,J⟩:=wX (l:=l) c;have B:(l.map ut)[i]?=some (ut y):=vU J;obtain⟨K,M⟩:=Zh.1 J;rw[Zs K,M]at e;refine vD ?_;refine zB ?_
  by_cases t:y.key=k
  .have g:(y.key:Int)=(k:Int):=congrArg Nat.cast t;rw[Lj t]at e;have S:(k:Int)+1=((k+1:Nat):Int):=rfl;have T:((k+1:Nat):Int)<18446744073709551616:=zo;refine zB ?_;refine vC (wQ o q f c B g) ?_;refine uQ ?_;refine vp (vh q S T) ?_;refine vp f ?_;exact⟨_,by omega,i+1,k+1,rfl,c,e,by omega,zu o,zt,zu f,rfl⟩
  .have g:¬(y.key:Int)=(k:Int):=fun h=>t (Int.ofNat.inj h);rw[Lk t]at e;refine zB ?_;refine vC (wQ o q f c B g) ?_;refine zH ?_;refine vp f ?_;exact⟨_,by omega,i+1,k,rfl,c,e,by omega,zu o,zu q,zu f,rfl⟩
 intro c;have c:¬i<l.length:=vL c;rw[zBQ9 zo]at e;have e:pG l V=k:=e;rw[e];refine wm q ?_;exact vN


theorem f47:ET.funcs.get 47=some T47:=eG _ func47
theorem f16:ET.funcs.get 16=some T16:=cW func16
theorem R9(x:ub):vg (ut x):=.agg fun v a=>by
 simp at a;rcases a with rfl|rfl|rfl|rfl
 .exact .int _ _
 .exact .int _ _
 .exact .int _ _
 .exact .str _
theorem Sg(hl:vE l.length)(g:Nat)(caps:LQ)(hc:∀v∈caps,vg v)(pr:ub->Bool)(hg:∀x∈l,FN ET g (ut x::caps) (.ret (.bool (pr x)))):FR 134 [esv p l,.fn g caps] (iv (kX pr l)):=by
 refine zn (eG T134 func134) (.int _ _) ?_;refine zG ?_;refine vm (vy (fun m s=>∃i:Nat,m=l.length-i/\i<=l.length/\l.findIdx? pr=((l.drop i).findIdx? pr).map (· + i)/\s.tm 0=esv p l/\s.tm 1=.fn g caps/\s.tm 7=iv l.length/\s.tm 8=iv i/\s.df=[]/\s.H=[]) (n:=l.length) ?_ ?_)
 .exact⟨0,by simp[zb,zq]⟩
 .rintro m ⟨tm,df,H⟩ ⟨i,rfl,hi,hf,h0,h1,h7,h8,rfl,rfl⟩;dsimp only at *
  refine vu (vz h0 h1 h7 h8) ?_ ?_
  .intro a;have a:i<l.length:=vM a;have c:(l.map ut)[i]?=some (ut l[i]):=by rw[Zt,Zg a];rfl
   refine vq (vm ?_);refine vA h8 ?_;refine vK (vz h0 h1 c a) ?_;refine pt (caps:=caps) (vs:=[ut l[i]]) rfl ?_ (hg _ (ZV a)) (rg _ (fun v c=>?_)) ?_
   .simp only[go_sem,h1]
   .rcases ZD.1 c with rfl|c
    .exact R9 _
    .exact hc v c
   refine zN ?_;rw[Zs a,zCF9]at hf;refine wn ?_ ?_
   .intro b;have b:pr l[i]=true:=b;refine zO ?_;rw[if_pos b]at hf;exact ve.int (by simp[kX,hf])
   .intro b;have b:pr l[i]=false:=b;refine wK ?_;refine vp h8 ?_;refine⟨_,?_,i+1,rfl,a,?_,zu h0,zu h1,zu h7,zt,zt,zt⟩
    .omega
    .rw[hf,b]
     cases (l.drop (i+1)).findIdx? pr with
     | none=>rfl
     | some j=>simp;omega
  .intro a;have a:¬i<l.length:=vL a;obtain rfl:i=l.length:=zo;rw[ZS]at hf;refine zO ?_;exact ve.int (by simp[kX,hf])
def oS(pr:ub->Bool)(l:List ub):FE:=match l.find? pr with
 | some x=>.ret (.tuple [ut x,.bool true])
 | none=>.ret (.tuple [ut zE,.bool false])
theorem Io(hl:vE l.length)(g:Nat)(caps:LQ)(hc:∀v∈caps,vg v)(pr:ub->Bool)(hg:∀x∈l,FN ET g (ut x::caps) (.ret (.bool (pr x)))):FN ET 87 [esv p l,.fn g caps] (oS pr l):=by
 have e:=Sg p l hl g caps hc pr hg;refine zn (eG T87 func87) ?_ ?_
 .unfold oS;split
  .exact Lb.two (Lb.ent _) (.bool _)
  .exact Lb.two (Lb.ent _) (.bool _)
 unfold oS;refine wI ?_;refine pt (caps:=[]) (vs:=[esv p l,.fn g caps]) rfl ?_ e ?_ ?_
 .simp only[go_sem]
 .exact rg _ fun v a=>by
   rcases ZD.1 a with rfl|a
   .exact .list _ _ _
   .obtain rfl:=ZI.1 a;exact .fn hc
 refine zN ?_;rcases IM pr l with⟨b,c⟩|⟨i,x,b,c,f,h⟩
 .rw[b,c];refine mL ?_;refine zO ?_;exact vN
 .rw[b,h];have j:(0:Int)<=i:=zo;have d:(l.map ut)[i]?=some (ut x):=vU c;refine wB j ?_;refine wm (zj d f) ?_;exact vN
theorem Su(x:ub):FR 88 [ut x,.elem [.str name]] (.bool (kY name x)):=by
 refine zn (eG T88 func88) (.bool _) ?_;unfold kY;refine zO ?_;exact ze.bool _
theorem Ul{w:LN}{b:Nat}{a:Int}(hd:kz w.length 28 a=true):Ar w b a=if(ke w b 28 a).2=0 then .ret (esv 0 (ke w b 28 a).1)else .panic (wy ((ke w b 28 a).2:Nat)):=by
 unfold Ar ke
 grind
def mA(w:LN)(b:Nat)(a:Int)(name:LN):FE:=if(uh w b 28 a name).2=0 then match(uh w b 28 a name).1.find? (kY name)with
  | some x=>.ret (.tuple [esv 0 (uh w b 28 a name).1,ut x,.bool true])
  | none=>.ret (.tuple [esv 0 (uh w b 28 a name).1,ut zE,.bool false])
 else .panic (wy ((uh w b 28 a name).2:Nat))
theorem Tz:gh (mA w b a name):=by
 unfold mA
 split
 .split
  .exact Lb.three (Lb.esv _) (Lb.ent _) (.bool _)
  .exact Lb.three (Lb.esv _) (Lb.ent _) (.bool _)
 .exact .iface (.int _ _)
theorem Un(h:1<=b/\b<=40)(w:LN)(hs:vE w.length)(hw:WB w)(a:Int)(hd:kz w.length 28 a=true)(name:LN):FN ET 47 [ay p w b a,.str name] (mA w b a name):=by
 obtain⟨_,q,_,_⟩:=fX.1 hd;have m:=DV name;have c:=Uk p b h w q hw hs a;rw[Ul hd]at c;have d:=Tz w b a name
 by_cases i:wC name=0
 rotate_left
 .have r:mA w b a name=.panic (wy (wC name:Nat)):=by unfold mA uh;rw[if_pos hd,if_neg i,if_neg i]
  rw[r]at d⊢;have g:¬(wC name:Int)=0:=fun h=>i (Int.ofNat.inj h);refine zn f47 d ?_;refine wI ?_;refine vo m ?_;refine wq ?_;refine wE (Hs _ g) ?_;exact uy rfl
 have s:uh w b 28 a name=ke w b 28 a:=by unfold uh;rw[if_pos hd,if_pos i]
 rw[i]at m;have z:=DG w b 28 a zo;unfold mA at d⊢;rw[s]at d⊢;generalize ke w b 28 a=L at *
 obtain⟨l,t⟩:=L;dsimp only at *
 by_cases n:t=0
 rotate_left
 .rw[if_neg n]at c d⊢;refine zn f47 d ?_;refine wI ?_;refine vo m ?_;refine wq ?_;refine wD tF ?_;refine zI ?_;refine wE c ?_;exact uy rfl
 rw[if_pos n]at c d⊢;have e:=Io 0 l (by unfold vE;omega) 88 [.elem [.str name]] (fun v u=>by obtain rfl:=ZI.1 u;exact .elem _) (kY name) (fun x _=>Su name x);refine zn f47 d ?_;refine wI ?_;refine vo m ?_;refine wq ?_;refine wD tF ?_;refine zM c ?_;unfold oS at e;refine zB ?_
 cases o:l.find? (kY name)with
 | none =>
  rw[o]at e;dsimp only at e;refine zI ?_;refine pt (caps:=[]) (vs:=[esv 0 l,.fn 88 [.ptr 1 0 0 0 1]]) rfl ?_ e ?_ ?_
  .simp only[go_sem]
  .refine⟨.list _ _ _,ze.fnL ⟨.ptr (w:=.str name) rfl (Zi _) rfl fun j x y k f=>?_,trivial⟩,trivial⟩
   cases j with
   | zero=>simp[PV.cells]at k f;subst k;subst f;exact ze.str _
   | succ j=>simp at f
  refine zN ?_;refine vR ?_;refine vW c ?_;refine vj c ?_;refine vw (wo ?_);exact vN
 | some x =>
  rw[o]at e;dsimp only at e;refine zI ?_;refine pt (caps:=[]) (vs:=[esv 0 l,.fn 88 [.ptr 1 0 0 0 1]]) rfl ?_ e ?_ ?_
  .simp only[go_sem]
  .refine⟨.list _ _ _,ze.fnL ⟨.ptr (w:=.str name) rfl (Zi _) rfl fun j x y k f=>?_,trivial⟩,trivial⟩
   cases j with
   | zero=>simp[PV.cells]at k f;subst k;subst f;exact ze.str _
   | succ j=>simp at f
  refine zN ?_;refine vR ?_;refine vW c ?_;refine vj c ?_;refine vw (wo ?_);exact vN


theorem f51:ET.funcs.get 51=some T51:=eG _ func51
theorem f18:ET.funcs.get 18=some T18:=cW func18
theorem NF(s:LN)(R V:Nat)(e1:R*2 ^ 16%18446744073709551616=V)(e2:Nat.lor V 0=V)(hV:(V:Int)<18446744073709551616)(hc:FR 130 [wc b 28,.str s] (.tuple [uv R,iv 0])):FR 89 [wc b 28,.str s,iv 0] (.tuple [uv V,iv 0]):=by
 have h1:=IP 0 0 65535;rw[show (decide ((0:Int)<=0)&&decide ((0:Int)<=65535))=true from rfl]at h1;refine zn (eG T89 func89) (Lb.two (.int _ _) (.int _ _)) ?_;unfold wc uu at hc⊢;refine wl h1 ?_;refine zH ?_;refine zB ?_;refine zM hc ?_;refine mL ?_;refine zB ?_;refine zB ?_;refine vC (vh e1 e2 hV) ?_;refine vw (wo ?_);exact vN
theorem NG(h:1<=b/\b<=40)(s:LN)(hb:wu s)(hs:wC s=0)(V:Nat)(hV:V=65536*yr b s):FR 89 [wc b 28,.str s,iv 0] (.tuple [uv V,iv 0]):=by
 have a:=l8 b h s;exact NF b s (yr b s) V zo (Nat.or_zero V) zo (FQ b h s hb hs)
def rT(w:LN)(b:Nat)(a:Int)(name:LN):FE:=if(uh w b 28 a name).2=0 then match(uh w b 28 a name).1.find? (kY name)with
  | some _=>.panic (wy 191)
  | none=>.ret (.tuple [esv 0 (uh w b 28 a name).1,uv (pG (uh w b 28 a name).1 (65536*yr b name))])
 else .panic (wy ((uh w b 28 a name).2:Nat))
theorem T6:gh (rT w b a name):=by
 unfold rT
 split
 .split
  .exact .iface (.int _ _)
  .exact Lb.two (Lb.esv _) (.int _ _)
 .exact .iface (.int _ _)
theorem Xg(h:1<=b/\b<=40)(w:LN)(hs:vE w.length)(hw:WB w)(a:Int)(hd:kz w.length 28 a=true)(name:LN)(hnb:wu name):FN ET 51 [ay p w b a,.str name] (rT w b a name):=by
 obtain⟨_,T,_,_⟩:=fX.1 hd;have e:=Un p b h w hs hw a hd name;have c:=T6 w b a name;have C:=Cp w b 28 a name zo;have t:=Gl (w:=w) (b:=b) (d:=28) (a:=a) (name:=name);unfold rT at c⊢;unfold mA at e;obtain⟨L,O⟩:∃L,uh w b 28 a name=L:=⟨_,rfl⟩
 rw[O]at e c C t⊢;obtain⟨l,P⟩:=L;dsimp only at e c C t⊢
 by_cases z:P=0
 rotate_left
 .rw[if_neg z]at e c⊢;refine zn f51 c ?_;refine wI ?_;refine wE e ?_;exact uy rfl
 rw[if_pos z]at e c⊢;obtain⟨_,Q,_⟩:=t z;obtain⟨V,A⟩:∃V,V=65536*yr b name:=⟨_,rfl⟩
 have D:=NG b h name hnb Q V A;have U:V<72057594037927936:=by have:=l8 b h name;omega
 unfold wc uu at D;rw[<- A]at c⊢;clear A
 cases I:l.find? (kY name)with
 | some x =>
  rw[I]at e c;dsimp only at e c⊢;refine zn f51 c ?_;refine wl e ?_;refine zI ?_;refine wE (nV 191) ?_;exact uy rfl
 | none =>
  rw[I]at e c;dsimp only at e c⊢;refine zn f51 c ?_;refine wl e ?_;refine zM (aN 191) ?_;refine zM D ?_;refine zM tF ?_;refine zG ?_;refine vm (vy (fun m s=>∃(i k:Nat) (G:LP),m=l.length-i/\i<=l.length/\pG l V=pG (l.drop i) k/\k<=V+i/\s.tm 6=esv 0 l/\s.tm 9=uv k/\s.tm 32=esv 0 l/\s.tm 33=iv l.length/\s.tm 34=iv i/\s.df=[]/\s.H=G) (n:=l.length) ?_ ?_)
  .exact⟨0,V,_,rfl,Zn _,rfl,Zi _,zt,zt,zt,zt,zt,rfl,rfl⟩
  rintro m ⟨X,Y,H⟩ ⟨i,k,G,rfl,Z,j,hk,B,o,u,v,q,rfl,rfl⟩;dsimp only at *
  refine vu (zj v q) ?_ ?_
  .intro f;have f:i<l.length:=vM f;obtain⟨y,J⟩:=wX (l:=l) f;have K:(l.map ut)[i]?=some (ut y):=vU J;obtain⟨M,N⟩:=Zh.1 J;rw[Zs M,N]at j;refine vD ?_;refine vA (vz u q f K) ?_;refine zB ?_
   by_cases r:y.key=k
   .have g:(y.key:Int)=(k:Int):=congrArg Nat.cast r;rw[Lj r]at j;have R:(k:Int)+1=((k+1:Nat):Int):=rfl;have S:((k+1:Nat):Int)<18446744073709551616:=zo;refine zB ?_;refine vC (zj o g) ?_;refine uQ ?_;refine vp (vh o R S) ?_;refine vp q ?_;exact⟨_,by omega,i+1,k+1,_,rfl,f,j,by omega,zu B,zt,zu u,zu v,zt,rfl,rfl⟩
   .have g:¬(y.key:Int)=(k:Int):=fun h=>r (Int.ofNat.inj h);rw[Lk r]at j;refine zB ?_;refine vC (zj o g) ?_;refine zH ?_;refine vp q ?_;exact⟨_,by omega,i+1,k,_,rfl,f,j,by omega,zu B,zu o,zu u,zu v,zt,rfl,rfl⟩
  intro f;have f:¬i<l.length:=vL f;rw[zBQ9 zo]at j;have j:pG l V=k:=j;rw[j];refine wm (zj B o) ?_;exact vN


theorem XG(q:Pr):FR 258 [pv q,.elem [uv x.1,uv x.2]] (.bool (decide (q.2=x.2))):=by
 refine zn (eG T258 func258) (.bool _) ?_
 by_cases h:q.2=x.2
 .have g:(q.2:Int)=x.2:=zo;refine wm g ?_;exact ve.bool (decide_eq_true h).symm
 .have g:¬(q.2:Int)=x.2:=zo;refine wm g ?_;exact ve.bool (decide_eq_false h).symm
theorem RS(l:LJ)(x:Nat):(l.any fun q=>decide (q.2=x))=yL l x:=by
 unfold yL
 induction l with
 | nil=>rfl
 | cons a l b=>simp only[zER9,Z3,zEL9,b];congr 1;by_cases h:a.2=x<;>grind
def bN(left:Nat)(w:LN)(x:Pr):FE:=if uW left w x=0 then .ret (.tuple [vJ 0 (vG left w),iv (yI (vG left w) x.1:Nat),.bool (yq (vG left w) x.1)])else .panic (wy (uW left w x:Nat))
theorem Ir{i:Nat}{x:Pr}{lab:Nat}(h:zF H i 0 0=some (pv x)):ze H lab (.ptr i 0 0 0 2) (.elem [uv x.1,uv x.2]) :=
 .ptr (w:=pv x) h (Zi _) rfl fun j a b d c=>by
  match j with
  | 0=>simp[PV.cells]at d c;subst d;subst c;exact ze.int _ _
  | 1=>simp[PV.cells]at d c;subst d;subst c;exact ze.int _ _
  | j+2=>simp at c
theorem P9(left:Nat)(w:LN)(x:Pr)(hw:vE w.length):FN ET 203 [pQ p w left,pv x] (bN left w x):=by
 have t:=EK p w left hw;have e:=Mi p w left hw;refine zn (eG T203 func203) ?_ ?_
 .unfold bN;split
  .exact Lb.three (Lb.pvs _) (.int _ _) (.bool _)
  .exact .iface (.int _ _)
 have bad:(w9 left w.length && !decide (x.2=0) && !decide (x.2=left))=false->bN left w x=.panic (wy (2:Nat)):=fun h=>by
  have:uW left w x=2:=by unfold uW;rw[h];rfl
  unfold bN;rw[this];rfl
 refine wI ?_;refine vo t ?_
 by_cases a:w9 left w.length=true
 rotate_left
 .have a:w9 left w.length=false:=by simpa using a
  rw[a];refine wq ?_;refine wE (nB 2) ?_;rw[bad (by rw[a];rfl)];exact uy rfl
 rw[a]
 by_cases u:x.2=0
 .have f:(x.2:Int)=0:=zo;refine vS f ?_;refine wE (nB 2) ?_;rw[bad (by rw[a,u];rfl)];exact uy rfl
 have f:¬(x.2:Int)=0:=zo
 by_cases h1:x.2=left
 .have k:(x.2:Int)=left:=zo;have z:¬(left:Int)=0:=zo;refine vS (vh f z k) ?_;refine wE (nB 2) ?_;rw[bad (by rw[a,decide_eq_true h1];simp)];exact uy rfl
 have k:¬(x.2:Int)=left:=zo;refine vS (zj f k) ?_;refine wD (cq 2) ?_;have l:(w9 left w.length && !decide (x.2=0) && !decide (x.2=left))=true:=by rw[a,decide_eq_false u,decide_eq_false h1];rfl
 have d:uW left w x=if(decide (uf left w=0)&&yL (vG left w) x.2)=true then 2 else uf left w:=by unfold uW;rw[if_pos l]
 by_cases h2:kE left w=true
 rotate_left
 .have b:xS left w=.panic (wy 190):=by simp[xS,a,h2]
  have g:uf left w=190:=by simp[uf,a,h2]
  have C:uW left w x=190:=by rw[d,g];rfl
  have D:bN left w x=.panic (wy (190:Nat)):=by unfold bN;rw[C];rfl
  rw[b]at e;refine zI ?_;refine wE e ?_;rw[D];exact uy rfl
 have b:xS left w=.ret (vJ 0 (wO left w)):=by simp[xS,a,h2]
 have g:uf left w=0:=by simp[uf,a,h2]
 have m:wO left w=vG left w:=by unfold wO;rw[if_pos a]
 have A:=cn left w;have j:=h2;unfold kE at j;simp only[Zm,decide_eq_true_eq]at j;obtain⟨⟨⟨⟨n,_⟩,_⟩,y⟩,_⟩:=j;rw[m]at b A n;rw[b]at e;have o:=Hk 0 (vG left w) (by unfold vE;omega) 258 [.elem [uv x.1,uv x.2]] (fun v G=>by obtain rfl:=ZI.1 G;exact .elem _) (fun q=>decide (q.2=x.2)) (fun q _=>XG x q);rw[RS]at o;have B:=VZ 0 (vG left w) x.1 n zo;rw[g]at d;have r:bN left w x=if yL (vG left w) x.2=true then .panic (wy (2:Nat))else .ret (.tuple [vJ 0 (vG left w),iv (yI (vG left w) x.1:Nat),.bool (yq (vG left w) x.1)]):=by
  unfold bN;rw[d]
  by_cases c:yL (vG left w) x.2=true
  .rw[c];rfl
  .have c:yL (vG left w) x.2=false:=by simpa using c
   rw[c];rfl
 rw[r];clear bad r b d l t h2 g m y;generalize c:yL (vG left w) x.2=hb at *
 generalize vG left w=L at *
 generalize yI L x.1=i at *
 generalize yq L x.1=s at *
 refine zM e ?_;refine zI ?_;refine pt (caps:=[]) (vs:=[vJ 0 L,.fn 258 [.ptr 1 0 0 0 2]]) rfl ?_ o ?_ ?_
 .simp only[go_sem]
 .exact⟨.list _ _ _,ze.fnL ⟨Ir rfl,trivial⟩,trivial⟩
 cases hb with
 | true =>
  refine wq ?_;refine wE (nB 2) ?_;exact uy rfl
 | false =>
  refine wq ?_;refine wD (cq 2) ?_;refine zM B ?_;refine zO ?_;exact vN


theorem P7(c:Nat)(hc:¬c=0)(hC:FR 197 [wv p w] (.tuple [vl 0 kN,iv c])):FR 140 [wv p w,pv x] (iv (c:Nat)):=by
 refine zn (eG T140 func140) (.int _ _) ?_;refine wl hC ?_;have g:¬(c:Int)=0:=zo;refine vD ?_;refine wB g ?_;refine zO ?_;exact ze.int _ _
theorem P6(n:zi)(hC:FR 197 [wv p w] (.tuple [vl 0 n,iv 0])):FR 140 [wv p w,pv x] (iv ((if wR n x=true then 0 else 2:Nat))):=by
 refine zn (eG T140 func140) (.int _ _) ?_;have a:=JI 0 n x;refine wl hC ?_;refine vD ?_;refine zT ?_
 cases b:wR n x with
 | false =>
  rw[b]at a;refine zM a ?_;refine zU ?_;exact ze.int _ _
 | true =>
  rw[b]at a;refine zM a ?_;refine zH ?_;refine zO ?_;exact ze.int _ _
theorem P8(hw:vE w.length):FR 140 [wv p w,pv x] (iv (xz w x:Nat)):=by
 have b:=BN p w hw;unfold xz
 by_cases a:wd w=0
 .rw[if_pos a];rw[DX w a]at b;exact P6 p w x _ b
 .rw[if_neg a];rw[DY w a]at b;exact P7 p w x _ a b


theorem Eo:lT T96.body=true:=by kernel_rfl


theorem PT(X:LP)(x:za)(y:PV)(hy:y.cells.length=1):FO ET 202 [.ptr 1 0 0 0 1] (x::.row 57 1 0 0 [y]::X) false fun e H'=>e=.ret (.tuple [])/\H'=x::.row 57 1 0 0 [.nilsl]::X:=by
 refine wS (eG T202 func202) ?_;refine vp hy ?_;exact⟨[],rfl,rfl,rfl⟩
theorem YP(j:Nat)(hij:i<=j)(hj:j<P.length)(a b:Nat)(hp:P[j]?=some (a,b)):xq P i (j+1)=(2*j+3,b)::(2*j+2,a)::xq P i j:=by
 rw[xq,if_pos hij]
 grind
theorem YQ:xq P i i=[]:=by
 cases i with
 | zero=>rfl
 | succ n=>rw[xq,if_neg zo]
theorem XA{w:LN}{x:Pr}(h:uW left w x=0):uk left w x=if yq (vG left w) x.1=true then([],191)else if w.length/2<=(vG left w).length+1 then([],3)else(dH left w (vG left w) (yI (vG left w) x.1) x,0):=by unfold uk;grind
theorem We(left:Nat)(x:Pr)(w:LN)(hw:w.length<1000000):FR 143 [uv left,wv p w,pv x] (bC (uk left w x)):=by
 refine zn (eG T143 func143) (Ai _) ?_;refine wI ?_;refine fK (f:=201) (p:=.ptr 2 0 0 0 1) (cl:=.fn 202 [.ptr 1 0 0 0 1]) ?_ ?_ GV ?_
 .rfl
 .simp only[go_sem]<;>rfl
 refine zN ?_;have S:=P9 p left w x (by unfold vE;omega);have bad:∀(l:Nat->PV) (n:Nat) (X:LP) (y:za),uk left w x=([],n)->l 6=.ptr 1 0 0 0 1->l 7=.ptr 2 0 0 0 1->yG ET T143 (fun e' H=>ve H 0 e' (.ret (bC (uk left w x)))) (.panic (wy n)) ⟨l,[.caught (.ptr 2 0 0 0 1) (.fn 202 [.ptr 1 0 0 0 1])],y::.row 57 1 0 0 [.nilsl]::.row 38 1 0 0 [iv 0]::X⟩:=fun l n X y hn c J=>by
  refine⟨n,202,[.ptr 1 0 0 0 1],false,2,0,1,rfl,rfl,rfl,(PT _ y _ rfl).mono fun e H he=>?_⟩;obtain⟨rfl,rfl⟩:=he;refine⟨rfl,_,rfl,[.nilsl,iv n],?_,?_⟩
  .simp[T143,xT,zr,zC,c,J,zR,zF,zW];rfl
  .rw[hn];exact vN
 unfold bN at S;refine wI ?_
 by_cases Y:uW left w x=0
 rotate_left
 .rw[if_neg Y]at S;refine wE S ?_;exact bad _ (uW left w x) _ _ (by unfold uk;rw[if_neg Y]) rfl rfl
 rw[if_pos Y]at S;have O:=XA Y;obtain⟨hr,bs⟩:=Bn Y;have bw:=EZ hr;have bb:=BF (vG left w) x.1;have a5:=iG p w (by unfold vE;omega);refine wD S ?_
 cases hI:yq (vG left w) x.1 with
 | true =>
  rw[hI,if_pos rfl]at O;refine wI ?_;refine wE (nB 191) ?_;exact bad _ 191 _ _ O rfl rfl
 | false =>
  rw[hI,if_neg zy]at O;refine wl (cq 191) ?_;refine zI ?_;refine vo a5 ?_
  by_cases a6:w.length/2<=(vG left w).length+1
  .rw[if_pos a6]at O;have g:¬((vG left w).length:Int)+1<(w.length/2:Nat):=zo;refine vS g ?_;refine wE (nB 3) ?_;exact bad _ 3 _ _ O rfl rfl
  have g:((vG left w).length:Int)+1<(w.length/2:Nat):=zo;rw[if_neg a6]at O;refine vS g ?_;refine wD (cq 3) ?_;have bm:=Gc p w left (yI (vG left w) x.1) (by unfold vE;omega) zo;clear bad S a5;rw[O];unfold dH;generalize xF left w (yI (vG left w) x.1)=ah at *
  generalize yI (vG left w) x.1=i at *
  generalize vG left w=P at *
  refine cL 120 2 (id:=1) (v:=.nilsl) (v':=.sl 4 0 0 0 0 2) rfl rfl (fun k u v hu hv=>?_) ?_
  .cases k with
   | zero=>simp[PV.cells]at hu hv;subst hu hv;exact .inr ⟨rfl,rfl⟩
   | succ k=>simp[PV.cells]at hu
  refine xg (fun l=>l 5=.ptr 0 0 0 0 2/\l 6=.ptr 1 0 0 0 1/\l 7=.ptr 2 0 0 0 1/\l 8=.ptr 3 0 0 0 2/\l 9=vJ 0 P/\l 10=iv i/\l 12=iv P.length) ⟨zt,zt,zt,zt,zt,zt,by simp[zb]⟩ ?_;rintro l ⟨A,c,J,G,Q,z,ab⟩;have I:=Em (P.length+1) zo;have T:(P.length:Int)+1=((P.length+1:Nat):Int):=zo;have bo:2*(P.length+1)+1=2*P.length+3:=zo;rw[bo]at I;have R:=Er (H:=[.row 92 2 0 0 [pv x],.row 57 1 0 0 [.sl 4 0 0 0 0 2],.row 38 1 0 0 [iv 0],.row 299 2 0 0 [pQ p w left],.row 120 2 0 0 [],.row 29 1 0 0 [uv (2*P.length+3:Nat),uv 0]]) (idL:=4) (g:=0) (M:=0) (k:=1) (L:=[]) (more:=[2*P.length+3,0]) (.inr ⟨5,by decide,rfl,rfl⟩) rfl zy rfl zy (fun j x hx=>by
   match j with
   | 0=>simp at hx;omega
   | j+1=>rw[zAB9 (by simp;omega)]at hx;cases hx)
  simp only[zAJ9,zAH9,Zv,ZA];refine vR ?_;refine wF (vz A c ab T) I ?_;refine cB (vh c ab T) R ?_;rintro e Z ⟨rfl,d,a7⟩;refine⟨_,by simp only[go_sem]<;>rfl,?_⟩;have k1:=d 1 _ zy rfl;refine vW (zj c k1) ?_;refine vj c ?_;have B:(Z.set 1 (.row 57 1 0 0 [.sl 4 1 0 1 2 2]))[0]?=some (.row 92 2 0 0 [pv x]):=get_set (d 0 _ zy rfl) zy;have o:(Z.set 1 (.row 57 1 0 0 [.sl 4 1 0 1 2 2]))[1]?=some (.row 57 1 0 0 [.sl 4 1 0 1 2 2]):=Zw (Zh.1 k1).1;have U:(Z.set 1 (.row 57 1 0 0 [.sl 4 1 0 1 2 2]))[2]?=some (.row 38 1 0 0 [iv 0]):=get_set (d 2 _ zy rfl) zy;have C:(Z.set 1 (.row 57 1 0 0 [.sl 4 1 0 1 2 2]))[3]?=some (.row 299 2 0 0 [pQ p w left]):=get_set (d 3 _ zy rfl) zy;have K:(Z.set 1 (.row 57 1 0 0 [.sl 4 1 0 1 2 2]))[4]?=some (.row 120 2 1 0 ([(2*P.length+3,0)].map vd)):=get_set a7 zy;refine aG fun H2 a8=>?_;rw[<- a8]at B o U C K;clear a8 d a7 k1 R;refine vA ab ?_;refine vm (vy (fun mm s=>∃(r:Nat) (V:LJ) (t:LP),mm=r-i/\i<=r/\r<=P.length/\(2*P.length+3,0)::xq P i P.length=V++xq P i r/\V.length+2*r=1+2*P.length/\t[0]?=some (.row 92 2 0 0 [pv x])/\t[1]?=some (.row 57 1 0 0 [.sl 4 V.length 0 V.length (2*V.length) 2])/\t[2]?=some (.row 38 1 0 0 [iv 0])/\t[3]?=some (.row 299 2 0 0 [pQ p w left])/\t[4]?=some (.row 120 2 V.length 0 (V.map vd))/\s.tm 5=.ptr 0 0 0 0 2/\s.tm 6=.ptr 1 0 0 0 1/\s.tm 7=.ptr 2 0 0 0 1/\s.tm 8=.ptr 3 0 0 0 2/\s.tm 9=vJ 0 P/\s.tm 10=iv i/\s.tm 13=iv ((r:Int)-1)/\s.df=[.caught (.ptr 2 0 0 0 1) (.fn 202 [.ptr 1 0 0 0 1])]/\s.H=t) (n:=P.length-i) ?_ ?_)
  .exact⟨P.length,[(2*P.length+3,0)],_,rfl,bb,Zi _,rfl,by simp,B,o,U,C,K,zu A,zu c,zu J,zu G,zu Q,zu z,zt,rfl,rfl⟩
  clear B o U C K A c J G Q z ab;rintro mm ⟨l,df,t⟩ ⟨r,V,bx,rfl,b5,b6,hU,b7,B,o,U,C,K,A,c,J,G,Q,z,N,rfl,rfl⟩;dsimp only at *
  by_cases ca:i<r
  .obtain⟨j,rfl⟩:∃j,r=j+1:=⟨r-1,by omega⟩
   have ej:(((j+1:Nat):Int)-1)=(j:Int):=zo;rw[ej]at N;have g1:(i:Int)<=(j:Int):=zo;refine vu (vh z N g1) ?_ ?_;rotate_left
   .intro h;cases h
   intro _;obtain⟨⟨a,b⟩,a9⟩:∃y,P[j]?=some y:=⟨_,Zg zo⟩
   have a2:(P.map pv)[j]?=some (pv (a,b)):=vU a9;have ad:j<P.length:=zo;have I:=Em (j+1) zo;have av:=IV (j+1) zo;have T:(j:Int)+1=((j+1:Nat):Int):=zo;rw[show 2*(j+1)+1=2*j+3 by omega]at I;rw[show 2*(j+1)=2*j+2 by omega]at av;have bp:4<t.length:=(Zh.1 K).1;have R:=Er (H:=t++[.row 29 1 0 0 [uv (2*j+3:Nat),uv b,uv (2*j+2:Nat),uv a]]) (idL:=4) (g:=V.length) (M:=0) (k:=2) (L:=V) (more:=[2*j+3,b,2*j+2,a]) (.inr ⟨t.length,by omega,rfl,by simp⟩) (wi K) zo rfl zy (fun q y D=>by
    match q with
    | 0=>simp at D;omega
    | 1=>simp at D;omega
    | q+2=>rw[zAB9 (by simp;omega)]at D;cases D)
   refine vD ?_;refine wV ?_;refine wF (ww c Q N o a2 ad T) I ?_;refine wF (ww c Q N o a2 ad T) av ?_;refine cB (ww c Q N o a2 ad T) R ?_;rintro e H3 ⟨rfl,d,a0⟩;refine⟨_,by simp only[go_sem]<;>rfl,?_⟩;have k1:=d 1 _ zy (wi o);refine vW (zj c k1) ?_;refine vj c ?_;refine vp N ?_;have a3:V.length+2=(V++gO [2*j+3,b,2*j+2,a]).length:=by rw[Zl];rfl
   refine⟨_,?m,j,V++gO [2*j+3,b,2*j+2,a],_,rfl,by omega,by omega,?eU,by rw[<- a3];omega,get_set (d 0 _ zy (wi B)) zy,?c1,get_set (d 2 _ zy (wi U)) zy,get_set (d 3 _ zy (wi C)) zy,?c4,zu A,zu c,zu J,zu G,zu Q,zu z,zt,rfl,rfl⟩
   case m=>omega
   case eU=>rw[hU,YP P i j zo ad a b a9,ZK];rfl
   case c1=>rw[<- a3];exact Zw (Zh.1 k1).1
   case c4=>rw[<- a3];exact get_set a0 zy
  .obtain rfl:r=i:=zo;have g1:¬(r:Int)<=(r:Int)-1:=zo;refine vu (vh z N g1) ?_ ?_
   .intro h;cases h
   intro _;rw[YQ,zAG9]at hU;have I:=Em r zo;have av:=IV r zo;have bp:4<t.length:=(Zh.1 K).1;have R:=Er (H:=t++[.row 29 1 0 0 [uv (2*r+1:Nat),uv ah,uv (2*r:Nat),uv x.1,uv (2*r+1:Nat),uv x.2]]) (idL:=4) (g:=V.length) (M:=0) (k:=3) (L:=V) (more:=[2*r+1,ah,2*r,x.1,2*r+1,x.2]) (.inr ⟨t.length,by omega,rfl,by simp⟩) (wi K) zo rfl zy (fun q y D=>by
    match q with
    | 0=>simp at D;omega
    | 1=>simp at D;omega
    | 2=>simp at D;omega
    | q+3=>rw[zAB9 (by simp;omega)]at D;cases D)
   refine vR ?_;refine wF (ww A c G z B o C) I ?_;refine wF (ww A c G z B o C) bm ?_;refine wF (ww A c G z B o C) av ?_;refine wF (ww A c G z B o C) I ?_;refine cB (ww A c G z B o C) R ?_;rintro e H3 ⟨rfl,d,a0⟩;refine⟨_,by simp only[go_sem]<;>rfl,?_⟩;have k1:=d 1 _ zy (wi o);have k2:=d 2 _ zy (wi U);have a4:∀y,(H3.set 1 y)[2]?=_:=fun y=>get_set k2 zy;refine vW (zj c k1) ?_;refine vW (zj J a4) ?_;refine vj c ?_;refine aG fun H5 a1=>?_;have i1:H5[1]?=some (.row 57 1 0 0 [.sl 4 (V.length+3) 0 (V.length+3) (2*(V.length+3)) 2]):=by rw[a1];exact get_set (Zw (Zh.1 k1).1) zy
   have i2:H5[2]?=some (.row 38 1 0 0 [iv 0]):=by rw[a1];exact Zw (Zh.1 (a4 _)).1
   have i4:H5[4]?=some (.row 120 2 (V.length+3) 0 ((V++gO [2*r+1,ah,2*r,x.1,2*r+1,x.2]).map vd)):=by rw[a1];exact get_set (get_set a0 zy) zy
   clear a1 a4 k1 k2 d a0;refine vw ?_;refine⟨[.sl 4 (V.length+3) 0 (V.length+3) (2*(V.length+3)) 2,iv 0],by simp[zr,zC,zb,c,J,zR,zF,zW,i1,i2,PV.cells],?_⟩;have hL:(2*P.length+3,0)::(xq P r P.length++[(2*r+1,ah),(2*r,x.1),(2*r+1,x.2)])=V++gO [2*r+1,ah,2*r,x.1,2*r+1,x.2]:=by rw[<- hU];rfl
   rw[hL];exact ze.tL ⟨ze.wh i4 rfl (by simp[gO]) (by simp[gO]) uG mf,.int _ _,trivial⟩


theorem Wd(left:Nat)(x:Pr)(w:LN)(hw:w.length<1000000):FR 142 [uv left,wv p w,.elem [uv x.1,uv x.2]] (bC (uk left w x)):=by
 refine zn (eG T142 func142) (Ai _) ?_;have h:=We p left x w hw;refine wI ?_;refine vo h ?_;refine zP ?_;exact vN
theorem XC{w:LN}{x:Pr}(hw:w.length=56)(h:(uk left w x).2=0):0<(uk left w x).1.length/\(uk left w x).1.length<=70/\∀y∈(uk left w x).1,y.1<56:=by
 obtain⟨h1,h2⟩:=Lw hw h;refine⟨?_,h1,h2⟩;unfold uk at h⊢
 split
 .rename_i hp;rw[if_pos hp]at h
  split
  .rename_i hs;rw[if_pos hs]at h
   cases h
  .rename_i hs;rw[if_neg hs]at h
   split
   .rename_i hf;rw[if_pos hf]at h
    cases h
   .unfold dH;simp
 .rename_i hp;rw[if_neg hp]at h;exact absurd h hp
theorem PC(w:LN)(hw:w.length=64):FR 141 [wv p w,iv 1,.fn 142 [.elem [uv x.1,uv x.2]]] (bC (mc w 1 0 (uk (w.getD 3 0) (w.drop 8) x))):=by
 refine zn (eG T141 func141) (Ai _) ?_;have h3:(w.map uv)[3]?=some (uv (w.getD 3 0)):=by rw[Zt,Zg zo,Zq,Zg zo];rfl
 have h4:(w.map uv)[4]?=some (uv (w.getD 4 0)):=by rw[Zt,Zg zo,Zq,Zg zo];rfl
 have t:List.drop 8 (w.map uv)=(w.drop 8).map uv:=by rw[Z1]
 have l:3<w.length:=zo;have m:4<w.length:=zo;have u:8<=w.length:=zo;have q:(w.drop 8).length=56:=by rw[ZX];omega
 have v:=Wd p (w.getD 3 0) x (w.drop 8) (by rw[ZX];omega);have k:=fun h=>XC (left:=w.getD 3 0) (w:=w.drop 8) (x:=x) q h;have r:mJ w 1=if w.getD 4 0=1 then[]else[(4,1)]:=rfl;generalize uk (w.getD 3 0) (w.drop 8) x=S at *
 obtain⟨S,f⟩:=S;dsimp only at k;refine zG ?_;refine wV ?_;refine wF (vz h3 t l u) v ?_;refine vj l ?_;unfold mc;rw[if_pos rfl]
 by_cases d:f=0
 rotate_left
 .have g:¬(f:Int)=0:=zo;rw[if_neg d];refine wB g ?_;refine zO ?_;exact vN
 have g:(f:Int)=0:=zo;rw[if_pos d];obtain⟨y,D,z⟩:=k d;have a:=UT 0 S zo y fun x A=>by have:=z x A;omega
 have s:(y7 S).map vd ≠ []:=fun h=>by
  have:=congrArg List.length h;rw[ZB,DU,Zz]at this;omega
 have a:=FO.own1 (H:=[]) (args:=[.list 0 2 (S.map vd)]) a ⟨.list _ _ _,trivial⟩ (IS _) s;have b:=DU S;generalize y7 S=N at *
 refine xH g ?_;refine vY ?_;refine zI ?_;refine wW a ?_;rintro e B ⟨C,M,rfl,a,rfl⟩;refine zN ?_;rw[r];have n:¬(1:Int)=0:=by decide
 by_cases j:w.getD 4 0=1
 .have i:((w.getD 4 0:Nat):Int)=1:=zo;rw[if_pos j];refine xH (vz h4 m i n) ?_;refine vY ?_;refine zO ?_;rw[ZA];exact ze.tL ⟨ze.wM rfl a rfl (by rw[ZB,b]) (by rw[ZB,b];exact Zi _) uG mf,.int _ _,trivial⟩
 .have i:¬((w.getD 4 0:Nat):Int)=1:=zo;rw[if_neg j];have o:=Nz (c:=(4,1)) QO Ya (H:=[.row 120 2 C M (N.map vd),.row 120 2 0 0 [vd (4,1)]]) (id:=0) (ix:=1) (L:=N) rfl a rfl (Zi _) zy zo zo;rw[b]at o;refine wB (vz h4 m i n) ?_;refine zI ?_;refine wW o ?_;rintro e B ⟨rfl,rfl⟩;refine zN ?_;refine zO ?_;exact ze.tL ⟨ze.wM rfl (Zi _) rfl (by simp[b]) (by simp[b]) uG mf,.int _ _,trivial⟩
theorem Et(w:LN)(hw:w.length=64):FR 95 [wv p w,pv x] (bC (wj w x)):=by
 refine zn (eG T95 func95) (Ai _) ?_;have d:=P8 p w x (by unfold vE;omega);have f:=PC p x w hw;have b:wj w x=mc w 1 (xz w x) (uk (w.getD 3 0) (w.drop 8) x):=rfl;rw[b];generalize xz w x=c at *
 generalize uk (w.getD 3 0) (w.drop 8) x=S at *
 refine wl d ?_
 by_cases a:c=0
 rotate_left
 .have g:¬(c:Int)=0:=zo;have e:mc w 1 c S=([],c):=by unfold mc;rw[if_neg a]
  rw[e];refine wB g ?_;refine zO ?_;exact vN
 have g:(c:Int)=0:=zo;rw[a];refine xH g ?_;refine vY ?_;refine zI ?_;refine mM f ?_ ?_;(repeat(first|exact trivial|refine And.intro ?_ ?_|exact .int _ _|exact .bool _|exact .list _ _ _|exact .elem _|exact .nilsl|exact .nil _ _|exact .str _|refine ze.aggL ?_|refine ze.fnL ?_|refine ze.tL ?_|refine .iface ?_|exact gE rfl rfl (by assumption)))
 .exact Ir rfl
 .exact trivial
 .exact trivial
 refine zP ?_;exact vN


theorem Yl(w:LN)(c:Nat)(hc:¬c=0)(hC:FR 197 [wv p w] (.tuple [vl 0 kN,iv c])):FR 145 [wv p w,iv a] (.tuple [wv 0 [],.list 0 2 (([]:LJ).map vd),iv (c:Nat)]):=by
 refine zn (eG T145 func145) (Lb.three (Lb.uvs _) (my _) (.int _ _)) ?_;refine wl hC ?_;have g:¬(c:Int)=0:=zo;(repeat(first|refine vq ?_|refine vC zyC ?_));refine vm ?_;refine wB g ?_;refine zO ?_;exact da _
theorem Yk(w:LN)(n:zi)(h12:n.level<=12)(hsb:n.sib<2048)(hpl:n.pairs.length<=28)(hO:FR 197 [wv p w] (.tuple [vl 0 n,iv 0])):FN ET 145 [wv p w,iv a] (pR n a):=by
 refine zn (eG T145 func145) ?_ ?_
 .unfold pR;split<;>exact Lb.three (Lb.uvs _) (my _) (.int _ _)
 refine wl hO ?_;have l:nC n a=false->pR n a=.ret (.tuple [wv 0 [],.list 0 2 (([]:LJ).map vd),iv 2]):=fun h=>by unfold pR;rw[h];rfl
 by_cases o:a<1
 .refine zG ?_;refine vm ?_;refine zT ?_;refine wB o ?_;refine zO ?_;rw[l (by unfold nC;rw[decide_eq_false (show ¬1<=a by omega)];rfl)];exact da _
 by_cases z:2048<=a
 .refine zG ?_;refine vm ?_;refine zT ?_;refine wB (zj o z) ?_;refine zO ?_;rw[l (by unfold nC;rw[decide_eq_false (show ¬a<=2047 by omega)];simp)];exact da _
 by_cases b3:n.pairs.length<2
 .have A:(n.pairs.length:Int)<2:=zo;refine zG ?_;refine vm ?_;refine zT ?_;refine wB (vh o z A) ?_;refine zO ?_;rw[l (by unfold nC;rw[decide_eq_false (show ¬2<=n.pairs.length by omega)];simp)];exact da _
 have A:¬(n.pairs.length:Int)<2:=zo;have L:pR n a=.ret (.tuple [wv 0 (vI (vF n)),.list 0 2 ((yh n a.toNat).map vd),iv 0]):=by
  unfold pR;rw[if_pos (by unfold nC;rw[decide_eq_true (show 1<=a by omega),decide_eq_true (show a<=2047 by omega),decide_eq_true (show 2<=n.pairs.length by omega)];rfl)]
 rw[L];clear l L;obtain⟨b,rfl⟩:∃b:Nat,a=b:=⟨a.toNat,by omega⟩
 rw[Z4];have Z:IntKind.i64.wrap ((n.pairs.length:Int).tdiv 2)=((n.pairs.length/2:Nat):Int):=by rw[IntWalk.i64_quo _ _ zo];omega
 refine zG ?_;refine vm ?_;refine zT ?_;refine kp (vh o z A) ?_;refine vA Z ?_;have i:n.pairs.length/2<n.pairs.length:=zo;have u:(n.pairs.map pv)[n.pairs.length/2]?=some (pv (n.pairs.getD (n.pairs.length/2) (0,0))):=by rw[Zt,get_lt _ i];rfl
 have U:List.drop (n.pairs.length/2) (n.pairs.map pv)=(n.pairs.drop (n.pairs.length/2)).map pv:=by rw[Z1]
 have M:List.drop (n.pairs.length/2+1) (n.pairs.map pv)=(n.pairs.drop (n.pairs.length/2+1)).map pv:=by rw[Z1]
 have ab:n.pairs.length/2<=14:=zo;have B:=I3 0 (vF n) h12 hsb (Zn _) (by
  show (if 0<n.level then n.pairs.drop (n.pairs.length/2+1)else n.pairs.drop (n.pairs.length/2)).length<=28
  split<;>rw[ZX]<;>omega)
 have N:yh n b=(1,b)::yF (n.pairs.length/2) n.pairs.length:=rfl;rw[N];have O:vl 0 (vF n)=.agg [iv n.level,iv n.sib,uv (n.pairs.getD (n.pairs.length/2) (0,0)).1,uv (if 0<n.level then(n.pairs.getD (n.pairs.length/2) (0,0)).2 else 9223372036854775808:Nat),iv 0,vJ 0 (if 0<n.level then n.pairs.drop (n.pairs.length/2+1)else n.pairs.drop (n.pairs.length/2))]:=rfl;rw[O]at B;rw[show yp (vF n) (vF n).pairs.length=vI (vF n)from rfl]at B;generalize vI (vF n)=LW at *
 clear N O;have T:n.pairs.length/2<=n.pairs.length:=zo;have K:n.pairs.length/2+1<=n.pairs.length:=zo;generalize ad:n.pairs.length/2=m at *
 generalize n.pairs.getD m (0,0)=y at *
 refine vR ?_;refine vW (vz i u U T) ?_;refine kM i ?_;refine wY ?_;simp only[go_sem];refine vq (ur (Q:=fun P f=>P=.norm/\f.tm 1=iv b/\f.tm 7=.ptr 0 0 0 0 6/\f.tm 9=iv n.pairs.length/\f.tm 10=iv m/\f.tm 11=.ptr 1 0 0 0 6/\f.df=[]/\f.H=[.row 291 6 0 0 [vl 0 n],.row 143 6 0 0 [.agg [iv n.level,iv n.sib,uv y.1,uv (if 0<n.level then y.2 else 9223372036854775808:Nat),iv 0,vJ 0 (if 0<n.level then n.pairs.drop (m+1)else n.pairs.drop m)]]]) ?_ ?_)
 .by_cases r:0<n.level
  .have g:(0:Int)<n.level:=zo;rw[if_pos r,if_pos r];have R:(m:Int)+1=((m+1:Nat):Int):=zo;refine wB g ?_;refine vR ?_;refine vW (vX i u R M K) ?_;refine vW (vX i u R M K) ?_;refine kM i ?_;refine wY ?_;simp only[go_sem]
  .have g:¬(0:Int)<n.level:=zo;rw[if_neg r,if_neg r];refine kp g ?_;exact⟨rfl,zt,zt,zt,zt,zt,rfl,rfl⟩
 rintro P ⟨tm,df,H⟩ ⟨rfl,h1,C,I,c,d,rfl,rfl⟩;dsimp only at h1 C I c d;have w1:IntKind.u64.wrap (b:Int)=(b:Int):=ku;refine vA (vz h1 C I w1) ?_;generalize X:PV.agg [iv n.level,iv n.sib,uv y.1,uv (if 0<n.level then y.2 else 9223372036854775808:Nat),iv 0,vJ 0 (if 0<n.level then n.pairs.drop (m+1)else n.pairs.drop m)]=NV at *
 generalize hD:(1,b)::yF m n.pairs.length=D;refine vm (vy (fun k s=>∃(V:LQ) (g:Nat) (G:LP),m<=k/\k<=n.pairs.length/\V.length<=1+(n.pairs.length-k)/\D.map vd=V++(yF m k).map vd/\s.tm 10=iv m/\s.tm 11=.ptr 1 0 0 0 6/\s.tm 12=.sl 2 g 0 V.length (2*V.length) 2/\s.tm 13=iv ((k:Int)-1)/\s.df=[]/\s.H=.row 291 6 0 0 [vl 0 n]::.row 143 6 0 0 [NV]::.row 120 2 g 0 V::G) (n:=n.pairs.length) ?_ ?_)
 .exact⟨[vd (1,b)],0,[],by omega,Zi _,by simp,by rw[<- hD];rfl,zu c,zu d,zt,zt,rfl,rfl⟩
 .clear h1 C I c d;rintro k ⟨tm,df,H⟩ ⟨V,g,G,ah,av,a0,j,c,d,t,e,rfl,rfl⟩;dsimp only at c d t e
  by_cases hk:m<k
  .obtain⟨q,rfl⟩:∃q,k=q+1:=⟨k-1,by omega⟩
   rw[show ((q+1:Nat):Int)-1=(q:Nat) by omega]at e;rw[yF,if_pos zo]at j;have J:(m:Int)<=(q:Nat):=zo;have w2:IntKind.i64.wrap (2*(q:Int))=((2*q:Nat):Int):=wx;have w3:IntKind.i64.wrap (8+((2*q:Nat):Int))=((8+2*q:Nat):Int):=wx;have w5:((8+2*q:Nat):Int)+1=((9+2*q:Nat):Int):=zo;have hb:(V.length+1)*17<=140737488355328:=zo;refine vu (vh c e J) ?_ ?_
   .intro _;refine vD ?_;refine vp (wQ t e w2 w3 w5 hb) ?_;refine vp e ?_;refine⟨q,Z5 _,V++[vd (9+2*q,0)],g+1,?G2,by omega,by omega,by simp;omega,(by rw[j];simp),zu c,zu d,zt,zu e,zt,?H⟩
    case H=>rfl
   .intro h;cases h
  .obtain rfl:k=m:=zo;have J:¬(k:Int)<=(k:Int)-1:=zo;have Y:yF k k=[]:=by cases k with
    | zero=>rfl
    | succ q=>rw[yF,if_neg zo]
   rw[Y,zAW9,zAG9]at j;refine vu (vh c e J) ?_ ?_
   .intro h;cases h
   intro _;subst X;refine vK d ?_;refine vo B ?_;refine xf t ?_;refine ze.tL ⟨.list _ _ _,?_,.int _ _,trivial⟩;rw[j];exact ze.wh rfl rfl rfl (Zi _) (fun v S=>by rw[<- j]at S;obtain⟨x,_,rfl⟩:=Zu.1 S;rfl) (by rw[<- j];exact mf)
theorem Ms(w:LN)(hw:vE w.length):FN ET 145 [wv p w,iv a] (iH w a):=by
 have c:=BN p w hw;unfold iH
 by_cases b:wd w=0
 .rw[if_pos b];rw[DX w b]at c;have d:=eF (n8 b);exact Yk p a w _ d.1 d.2.1 (yM w) c
 .rw[if_neg b];rw[DY w b]at c;exact Yl p a w _ b c


theorem Vn(a:Nat)(l m:LJ):vx a (l++m)=vx a l++vx a m:=ZG
theorem wT.lt{w:LN}{a:Nat}(h:wT H id iW iP w L F u a):id<H.length/\iW<H.length/\iP<H.length:=by
 obtain⟨⟨gP,b,c,h1,h2,h3,h4,d⟩,e,f,g⟩:=h;exact⟨(Zh.1 h1).1,(Zh.1 h2).1,(Zh.1 h4).1⟩
theorem D4{w:LN}{a:Nat}(hU:wT H id iW iP w L (wz r fr) u a)(hu:u<fr.length)(hfl:fr.length<1000000):
  FO ET 144 [.ptr id 0 0 0 5] H false fun e H'=>e=.ret (iv (fr.getD u 0:Nat))/\wT H' id iW iP w L (wz r fr) (u+1) a/\uw [id,iW,iP] H H':=by
 refine wS (eG T144 func144) ?_;obtain⟨⟨gP,g,h,d,n,o,p,q⟩,i,j,s⟩:=hU;have t:(u:Int)<(fr.length:Nat):=zo;have v:(u:Int)+1=((u+1:Nat):Int):=zo;have x:((u+1:Nat):Int)-1=(u:Int):=zo;have l:(fr.map fun(b:Nat)=>iv (b:Int))[u]?=some (iv (fr.getD u 0:Nat)):=by rw[Zt,Zg hu,Zq,Zg hu];rfl
 refine zG ?_;refine vR ?_;refine wF (zj d t) (mB 221) ?_;refine vj d ?_;refine vA (zj d v) ?_;refine aG fun f c=>?_;have k:f[id]?=some (.row 178 5 0 0 [.agg [.sl iW 1 0 w.length (2*w.length) 1,.sl iP gP 0 L.length (2*L.length) 2,wz r fr,iv (u+1:Nat),iv a]]):=by rw[c];exact Zw (Zh.1 d).1
 have y:uw [id,iW,iP] H f:=by rw[c];exact(uw.refl _ _).set (by simp) _
 have z:f[iW]?=some (.row 29 1 1 h (w.map uv)):=by rw[c];exact get_set n i.symm
 have A:f[iP]?=some (.row 120 2 gP g (L.map vd)):=by rw[c];exact get_set p j.symm
 clear c;refine vR ?_;have m:u<fr.length:=hu;refine vj (vz k x l m) ?_;refine vw ?_;exact⟨[iv (fr.getD u 0:Nat)],by simp[T144,xT,zr,zC,zb],rfl,⟨⟨gP,g,h,k,z,o,A,q⟩,i,j,s⟩,y⟩
theorem JR{w:LN}{a:Nat}(hU:wT H id iW iP w L (wz r fr) u a)(hu:fr.length<=u)(hul:u<1000000):
  FO ET 144 [.ptr id 0 0 0 5] H false fun e H'=>e=.panic (wy 221)/\H'=H:=by
 refine wS (eG T144 func144) ?_;obtain⟨⟨gP,d,f,b,g,h,i,j⟩,k,l,m⟩:=hU;have c:¬(u:Int)<(fr.length:Nat):=zo;refine zG ?_;refine vR ?_;refine Ze (zj b c) (pD 221) ?_;exact⟨rfl,rfl⟩
theorem HM{w:LN}{a:Nat}(hU:wT H id iW iP w L F u a)(b r:Nat)(ws:LN)(hin:64*b+ws.length<=w.length)(hw:w.length<=131072)(hL:L.length+ws.length<=900000):
  FO ET 147 [.ptr id 0 0 0 2,iv b,wv r ws] H false fun e H'=>e=.ret (.tuple [])/\wT H' id iW iP (vH w (vx (64*b) (wJ ws))) (L++vx (64*b) (wJ ws)) F u a/\uw [id,iW,iP] H H':=by
 refine wS (eG T147 func147) ?_;have G:IntKind.i64.wrap ((64:Int)*(b:Int))=((64*b:Nat):Int):=wx;refine zG ?_;refine vm (vy (fun m s=>∃(i:Nat) (d:LP),m=ws.length-i/\i<=ws.length/\wT d id iW iP (vH w (vx (64*b) ((wJ ws).take i))) (L++vx (64*b) ((wJ ws).take i)) F u a/\uw [id,iW,iP] H d/\s.tm 0=.ptr id 0 0 0 2/\s.tm 1=iv b/\s.tm 8=wv r ws/\s.tm 9=iv ws.length/\s.tm 10=iv i/\s.df=[]/\s.H=d) (n:=ws.length) ?_ ?_)
 .exact⟨0,H,rfl,Zn _,by simpa[vx,vH]using hU,.refl _ _,zt,zt,zt,zt,zt,rfl,rfl⟩
 rintro m ⟨N,O,d⟩ ⟨i,M,rfl,P,f,h,k,h1,l,p,g,rfl,rfl⟩;dsimp only at k h1 l p g f h;refine vu (zj p g) ?_ ?_
 .intro c;have c:i<ws.length:=vM c;have v:(ws.map uv)[i]?=some (uv (ws.getD i 0)):=by rw[Zt,Zg c,Zq,Zg c];rfl
  have y:(wJ ws).take (i+1)=(wJ ws).take i++[(i,ws.getD i 0)]:=by rw[ZE,HA ws i c];rfl
  have z:=kw (vx (64*b) ((wJ ws).take i)) w;have A:((wJ ws).take i).length=i:=by rw[ZC,aQ];omega
  obtain⟨Q,R,S⟩:=f.lt;have q:=tC (f.app [.row 120 2 0 0 [vd (i,ws.getD i 0)]]) (64*b) [(i,ws.getD i 0)] (x:=.sl d.length 0 0 1 2 2) (.inr ⟨d.length,by simp;omega,rfl,zf _ _⟩) (fun s I=>by obtain rfl:=ZI.1 I;rw[z];dsimp only;omega) zo (by rw[Zl,dv,A];simp;omega);rw[<- ow,ZK,<- Vn,<- y]at q;refine vD ?_;refine vA (vz l g v c) ?_;refine vK (vh k h1 G) ?_;refine wW q ?_;rintro e J ⟨rfl,B,C⟩;refine zK ?_;refine vp g ?_;refine⟨_,?D,i+1,J,rfl,c,B,fun j o t K=>C j o t (wi (h j o t K)),zu k,zu h1,zu l,zu p,zt,rfl,rfl⟩
  case D=>omega
 .intro c;have c:¬i<ws.length:=vL c;obtain rfl:i=ws.length:=zo;rw[ZO (by rw[aQ];exact Zi _)]at f;exact⟨[],rfl,rfl,f,h⟩


theorem f149:ET.funcs.get 149=some T149:=eG _ func149
theorem Xj{w:LN}{a:Nat}(hU:wT H id iW iP w L (wz r fr) u a)(hu:u<fr.length)(hfl:fr.length<1000000)(b lv:Nat)(x:Pr)(to:Nat)(hto:fr.getD u 0=to)(hn:uM ⟨lv,0,0,b,0,[x]⟩)(hin:64*to+64<=w.length)(hat:a<w.length)(hw:w.length<=131072)(hL:L.length+65<=900000):
  FO ET 149 [.ptr id 0 0 0 5,iv b,iv lv,pv x] H false fun e H'=>e=.ret (.tuple [])/\wT H' id iW iP (vH (vH w (vx (64*to) (wJ (vI ⟨lv,0,0,b,0,[x]⟩)))) (vx 0 [(a,to)])) ((L++vx (64*to) (wJ (vI ⟨lv,0,0,b,0,[x]⟩)))++vx 0 [(a,to)]) (wz r fr) (u+1) a/\uw [id,iW,iP] H H':=by
 refine wS f149 ?_;have c:=NI 1 ⟨lv,0,0,b,0,[x]⟩ (by unfold vE;simp);rw[hn.make]at c;unfold Ay at c;rw[if_pos rfl]at c;have t:(lv:Int)<=12:=by have:=hn.level;dsimp only at this;omega
 have y:(vI ⟨lv,0,0,b,0,[x]⟩).length=64:=kb _;have z:vl 1 ⟨lv,0,0,b,0,[x]⟩=.agg [iv lv,iv 0,uv 0,uv b,iv 0,vJ 1 [x]]:=rfl;rw[z]at c;have A:(b:Int)<18446744073709551616:=by
  rcases hn.left with⟨_,h⟩|⟨_,h⟩
  .dsimp only at h;rw[h];decide
  .have:=(nS _).1 h;dsimp only at this;omega
 have M:IntKind.u64.wrap (b:Int)=(b:Int):=wrap_u64 zo A;have wt:IntKind.u64.wrap (to:Int)=(to:Int):=ku;generalize vI ⟨lv,0,0,b,0,[x]⟩=LW at *
 obtain⟨R,S,T⟩:=hU.lt;have m:=D4 (hU.app [.row 92 2 0 0 [pv x]]) hu hfl;rw[hto]at m;refine wI ?_;refine wW m ?_;rintro e U ⟨rfl,B,n⟩;refine zN ?_;have N:=n H.length _ (by simp;omega) (zf _ _);refine vK t ?_;refine wD (mB 3) ?_;refine vK (zj N M) ?_;have O:∀X:LP,ze (X++[.row 92 2 0 0 [pv x]]) 1 (.sl X.length 0 0 1 2 2) (vJ 1 [x]):=fun X=>ze.wh (l:=[pv x]) (zf _ _) rfl rfl (Zi _) (fun v d=>by simp at d;subst d;rfl) (fun v d=>by simp[PV.cells]at d;rcases d with rfl|rfl<;>exact .int _ _);refine mM c ?_ ?_;exact⟨ze.aggL ⟨.int _ _,.int _ _,.int _ _,.int _ _,.int _ _,O _,trivial⟩,trivial⟩;refine zN ?_;refine zM Fg ?_;have C:=HM (B.app [.row 92 2 0 0 [pv x]]) to 0 LW zo hw zo;refine zI ?_;refine wW C ?_;rintro e i ⟨rfl,g,D⟩;refine zN ?_;have q:uw [id,iW,iP] H i:=fun j o f k=>D j o f (wi (n j o f (wi k)));have G:=kw (vx (64*to) (wJ LW)) w;have I:(L++vx (64*to) (wJ LW)).length=L.length+64:=by rw[Zl,dv,aQ,y]
 obtain⟨V,Y,Z⟩:=g.lt;have P:=tC (g.app [.row 120 2 0 0 [vd (a,to)]]) 0 [(a,to)] (x:=.sl i.length 0 0 1 2 2) (.inr ⟨i.length,by simp;omega,rfl,zf _ _⟩) (fun s Q=>by obtain rfl:=ZI.1 Q;rw[G];dsimp only;omega) zo (by rw[I];simp;omega);obtain⟨⟨gP,MP,MW,p,u2,u3,u4,u5⟩,n1,n2,n3⟩:=g;refine vR ?_;refine cB (zj p wt) P ?_;rintro e H3 ⟨rfl,J,K⟩;refine⟨_,by simp only[go_sem]<;>rfl,?_⟩;refine vj p ?_;exact⟨[],rfl,rfl,J,fun j o f k=>K j o f (wi (q j o f k))⟩


def yw(H:LP)(id iW iP a:Nat)(F:PV)(no:Nat)(W:LN)(L:LJ)(u:Nat)(v:PV)(e:FE)(H':LP):Prop:=if no=0 then e=.ret v/\wT H' id iW iP W L F u a/\uw [id,iW,iP] H H' else e=.panic (wy no)/\uw [id,iW,iP] H H'
variable {n:zi}{w:LN}
theorem E8{H:LP}{id iW iP:Nat}{L:LJ}{r:Nat}{fr:LN}{u a:Nat}(hU:wT H id iW iP w L (wz r fr) u a)(hu:u<fr.length)(hfl:fr.length<1000000)(hw:w.length<=131072)(hL:L.length+300<=900000)(io g q k:Nat)(ws:LN)(hio:H[io]?=some (.row 3 1 g 0 (ui ws)))(hni:io ∉ [id,iW,iP])(hk1:1<=k)(hkl:k<=ws.length)(hq:2*ws.length<=q)(hwl:ws.length<=20)(b to:Nat)(hb:ws[k-1]?=some b)(hto:fr.getD u 0=to)(hbin:64*b+64<=w.length)(htin:64*to+64<=w.length)(LW:LN)(D:LJ)(n2:zi)(hsp:FR 145 [wv 1 (zc w b),iv to] (.tuple [wv 0 LW,.list 0 2 (D.map vd),iv 0]))(hLW:LW.length=64)(hD:D.length<=30/\∀s∈D,s.1<64)(hof:FR 148 [wv 0 LW] (.tuple [vl 0 n2,iv 0]))(hn2:n2.level<=12)(W2:LN)(L2:LJ)(hW2:W2=vH (vH w (vx (64*to) (wJ LW))) (vx (64*b) D))(hL2:L2=(L++vx (64*to) (wJ LW))++vx (64*b) D)(no:Nat)(W4:LN)(L4:LJ)(u4:Nat)(hone:k=1->∀H2,wT H2 id iW iP W2 L2 (wz r fr) (u+1) a->FO ET 149 [.ptr id 0 0 0 5,iv b,iv (n2.level+1:Nat),pv (n2.low,to)] H2 false (yw H2 id iW iP a (wz r fr) no W4 L4 u4 (.tuple [])))(ab ab':Nat)(n3:zi)(W3:LN)(L3:LJ)(u3 to1 low1 no1:Nat)(tk:LJ)(hab:2<=k->ws[k-2]?=some ab/\64*ab+64<=w.length/\FR 148 [wv 1 (zc W2 ab)] (.tuple [vl 0 n3,iv 0]))(hrec:2<=k->27<=n3.pairs.length->(∀H2,wT H2 id iW iP W2 L2 (wz r fr) (u+1) a->H2[io]?=some (.row 3 1 g 0 (ui ws))->FO ET 98 [.ptr id 0 0 0 5,.sl io g 0 (k-1) q 1] H2 false (yw H2 id iW iP a (wz r fr) no1 W3 L3 u3 (.tuple [iv to1,uv low1])))/\(¬no1=0->no=no1)/\ab'=if low1<=n2.low then to1 else ab)(hnot:2<=k->¬27<=n3.pairs.length->no1=0/\W3=W2/\L3=L2/\u3=u+1/\ab'=ab)(hput:2<=k->no1=0->W3.length=w.length/\64*ab'+64<=w.length/\FR 95 [wv 1 (zc W3 ab'),pv (n2.low,to)] (bC (tk,0))/\tk.length<=71/\(∀s∈tk,s.1<64)/\L3.length+71<=900000/\no=0/\W4=vH W3 (vx (64*ab') tk)/\L4=L3++vx (64*ab') tk/\u4=u3):
  FO ET 98 [.ptr id 0 0 0 5,.sl io g 0 k q 1] H false (yw H id iW iP a (wz r fr) no W4 L4 u4 (.tuple [iv to,uv n2.low])):=by
 refine wS (eG T98 func98) ?_;have e1:(k:Int)-1=((k-1:Nat):Int):=zo;have e2:k-1<k:=zo;have cb:(ui ws)[k-1]?=some (iv b):=by rw[Zt,hb];rfl
 have a9:=D4 hU hu hfl;rw[hto]at a9;refine vA (vz hio e1 e2 cb) ?_;refine zI ?_;refine wW a9 ?_;rintro e H1 ⟨rfl,ah,a6⟩;refine zN ?_;have ds:=a6 io _ hni hio;obtain⟨⟨gP,V,Y,A,v,uz,I,Z⟩,cc,ch,ck⟩:=ah;refine vK A ?_;refine wW (lE v uz b hbin hw) ?_;rintro e H2 ⟨q2,rfl,cl,rfl⟩;refine wq ?_;refine mM hsp ?_ ?_;exact⟨ij v uz b hbin cl,.int _ _,trivial⟩;refine zN ?_;refine zM Fg ?_;have ah:wT H2 id iW iP w L (wz r fr) (u+1) a:=⟨⟨gP,V,Y,A,v,uz,I,Z⟩,cc,ch,ck⟩
 have b2:=HM ah to 0 LW zo hw zo;refine zI ?_;refine wW b2 ?_;rintro e H3 ⟨rfl,b3,bp⟩;refine zN ?_;have cs:=kw (vx (64*to) (wJ LW)) w;have cu:(L++vx (64*to) (wJ LW)).length=L.length+64:=by rw[Zl,dv,aQ,hLW]
 have hd:=tC b3 (64*b) D (x:=.list 0 2 (D.map vd)) (.inl ⟨0,rfl⟩) (fun s hs=>by have:=hD.2 s hs;rw[cs];omega) zo (by rw[cu];omega);have cx:IntKind.i64.wrap ((64:Int)*(b:Int))=((64*b:Nat):Int):=wx;refine vK cx ?_;refine wW hd ?_;rintro e h ⟨rfl,av,bs⟩;refine zN ?_;rw[<- hW2,<- hL2]at av;have b4:uw [id,iW,iP] H h:=((a6.trans bp).trans bs)
 have wt:IntKind.u64.wrap (to:Int)=(to:Int):=ku;refine zM hof ?_;refine vA wt ?_;refine aG fun G O=>?_;have t:G[h.length]?=some (.row 143 6 0 0 [vl 0 n2]):=by rw[O];simp
 have d:G[h.length+1]?=some (.row 92 2 0 0 [pv (n2.low,to)]):=by rw[O];simp
 have dx:(h++[za.row 143 6 0 0 [vl 0 n2]]).length=h.length+1:=by simp
 have P:wT G id iW iP W2 L2 (wz r fr) (u+1) a:=by rw[O];exact(av.app _).app _
 have a0:uw [id,iW,iP] H G:=by rw[O];exact(b4.app _).app _
 have a7:=a0 io _ hni hio;obtain⟨l1,l2,l3⟩:=av.lt;have bb:h.length ∉ [id,iW,iP]:=by simp;omega
 have c0:h.length+1 ∉ [id,iW,iP]:=by simp;omega
 refine xg (fun c=>c 0=.ptr id 0 0 0 5/\c 1=.sl io g 0 k q 1/\c 4=iv to/\c 6=iv b/\c 10=.ptr h.length 0 0 0 6/\c 12=.ptr (h.length+1) 0 0 0 2/\c 68=.bool (decide ((k:Int)=1))) ⟨zt,zt,zt,zt,zt,zt,by simp[zb,zq]⟩ ?_;rintro c ⟨i,h1,h4,h6,m,f,R⟩;clear O bp bs a6 a9 b2 hd A v I ah b3 av b4
 by_cases hk:k=1
 .rw[decide_eq_true (show (k:Int)=1 by omega)]at R;have e5:(n2.level:Int)+1=((n2.level+1:Nat):Int):=zo;refine mN R ?_;refine vK (ww i h6 m f t d e5) ?_;refine wW (hone hk G P) ?_;intro e H6 y;unfold yw at y
  by_cases K:no=0
  rotate_left
  .rw[if_neg K]at y;obtain⟨rfl,a4⟩:=y;show yw _ _ _ _ _ _ _ _ _ _ _ _ _;unfold yw;rw[if_neg K];exact⟨rfl,fun j o p C=>a4 j o p (a0 j o p C)⟩
  rw[if_pos K]at y;obtain⟨rfl,c1,a4⟩:=y;refine zN ?_;have a8:=a4 _ _ bb t;refine vR ?_;refine vj (vh h4 m a8) ?_;refine vw ?_;refine⟨[iv to,uv n2.low],by simp[T98,xT,zr,zC,zb],?_⟩;show yw _ _ _ _ _ _ _ _ _ _ _ _ _;unfold yw;rw[if_pos K];exact⟨rfl,c1,fun j o p C=>a4 j o p (a0 j o p C)⟩
 rw[decide_eq_false (show ¬(k:Int)=1 by omega)]at R;have M:2<=k:=zo;obtain⟨a1,a2,a3⟩:=hab M;have c2:(ui ws)[k-2]?=some (iv ab):=by rw[Zt,a1];rfl
 have e7:((k-1:Nat):Int)-1=((k-2:Nat):Int):=zo;have i1:k-1<=q/2:=zo;have i3:0<q:=zo;have i4:¬q=0:=zo;have i2:k-2<k-1:=zo;have bw:W2.length=w.length:=by rw[hW2,kw,kw]
 obtain⟨⟨gP,V,Y,A,v,J,I,Z⟩,c3,c4,c5⟩:=P;refine cA R ?_;refine wK ?_;refine vA (wQ h1 e1 i1 i3 i4 a7) ?_;refine vA (vz e7 i2 c2 a7) ?_;refine vK (zj i A) ?_;refine wW (lE v J ab (by rw[bw];exact a2) zo) ?_;rintro e H6 ⟨q3,rfl,c6,b5⟩;rw[b5];clear b5 H6;refine wq ?_;refine mM a3 ?_ ?_;exact⟨ij v J ab (by rw[bw];exact a2) c6,trivial⟩;refine zN ?_;have P:wT G id iW iP W2 L2 (wz r fr) (u+1) a:=⟨⟨gP,V,Y,A,v,J,I,Z⟩,c3,c4,c5⟩
 have bm:=P.app [.row 143 6 0 0 [vl 0 n3]];have b6:(G++[za.row 143 6 0 0 [vl 0 n3]])[G.length]?=some (.row 143 6 0 0 [vl 0 n3]):=zf _ _;have t:=wi (X:=[za.row 143 6 0 0 [vl 0 n3]]) t;have d:=wi (X:=[za.row 143 6 0 0 [vl 0 n3]]) d;have bx:=wi (X:=[za.row 143 6 0 0 [vl 0 n3]]) a7;have a5:=a0.app [za.row 143 6 0 0 [vl 0 n3]];refine aG fun H7 b7=>?_;rw[<- b7]at bm b6 t d bx a5;refine vA b6 ?_;refine xg (fun c=>c 0=.ptr id 0 0 0 5/\c 4=iv to/\c 10=.ptr h.length 0 0 0 6/\c 12=.ptr (h.length+1) 0 0 0 2/\c 13=.sl io g 0 (k-1) q 1/\c 14=iv ab/\c 104=.bool (decide ((27:Int)<=(n3.pairs.length:Nat)))) ⟨zu i,zu h4,zu m,zu f,zt,zt,by simp[zb]⟩ ?_;clear i h1 h4 h6 m f R A v I P b7;rintro c ⟨i,h4,m,f,c7,B,ad⟩;refine(ur (Q:=fun yy l=>(yy=.norm/\no1=0/\l.tm 0=.ptr id 0 0 0 5/\l.tm 4=iv to/\l.tm 10=.ptr h.length 0 0 0 6/\l.tm 12=.ptr (h.length+1) 0 0 0 2/\l.tm 14=iv ab'/\l.df=[]/\wT l.H id iW iP W3 L3 (wz r fr) u3 a/\uw [id,iW,iP] H l.H/\l.H[h.length]?=some (.row 143 6 0 0 [vl 0 n2])/\l.H[h.length+1]?=some (.row 92 2 0 0 [pv (n2.low,to)]))\/(¬no1=0/\yy=.panic (wy no1)/\l.df=[]/\uw [id,iW,iP] H l.H)) ?_ ?_)
 .by_cases S:27<=n3.pairs.length
  rotate_left
  .have bo:¬(27:Int)<=(n3.pairs.length:Nat):=zo;obtain⟨r1,r2,N,r4,r5⟩:=hnot M S;rw[decide_eq_false bo]at ad;refine cA ad ?_;refine wK ?_;refine .inl ⟨rfl,r1,zu i,zu h4,zu m,zu f,by simp[zb,B,r5],rfl,?_,a5,t,d⟩;rw[r2,N,r4];exact bm
  have bo:(27:Int)<=(n3.pairs.length:Nat):=zo;obtain⟨r1,r2,N⟩:=hrec M S;rw[decide_eq_true bo]at ad;refine mN ad ?_;refine vK (zj i c7) ?_;refine wW (r1 H7 bm bx) ?_;intro e H8 y;unfold yw at y
  by_cases z:no1=0
  rotate_left
  .rw[if_neg z]at y;obtain⟨rfl,n⟩:=y;exact .inr ⟨z,rfl,rfl,fun j o p C=>n j o p (a5 j o p C)⟩
  rw[if_pos z]at y;obtain⟨rfl,T,n⟩:=y;refine zN ?_;have t:=n _ _ bb t;have d:=n _ _ c0 d;have n:uw [id,iW,iP] H H8:=fun j o p C=>n j o p (a5 j o p C)
  by_cases ca:low1<=n2.low
  .have g3:(low1:Int)<=(n2.low:Nat):=zo;rw[if_pos ca]at N;refine wB (vh f d g3) ?_;refine zJ ?_;refine .inl ⟨rfl,z,zu i,zu h4,zu m,zu f,by simp[zb,N],rfl,T,n,t,d⟩
  .have g3:¬(low1:Int)<=(n2.low:Nat):=zo;rw[if_neg ca]at N;refine kp (vh f d g3) ?_;refine .inl ⟨rfl,z,zu i,zu h4,zu m,zu f,by simp[zb,B,N],rfl,T,n,t,d⟩
 rintro yy l (⟨rfl,z,i,h4,m,f,B,U,T,n,t,d⟩|⟨z,rfl,U,n⟩);rotate_left
 .obtain⟨c,df,H6⟩:=l;dsimp only at U n;subst U;show yw _ _ _ _ _ _ _ _ _ _ _ _ _;have K:no=no1:=by
   by_cases S:27<=n3.pairs.length
   .exact(hrec M S).2.1 z
   .exact absurd (hnot M S).1 z
  unfold yw;rw[if_neg zo,K];exact⟨rfl,n⟩
 obtain⟨p1,p2,p3,p4,p5,p6,p7,p8,p9,c8⟩:=hput M z;obtain⟨c,df,H6⟩:=l;dsimp only at i h4 m f B U T n t d;subst U;obtain⟨⟨gP,V,Y,A,v,J,I,Z⟩,n1,dd,dm⟩:=T;have v1:W3.length<=131072:=zo;have v2:64*ab'+64<=W3.length:=zo;show W ET ET.caught none (vP.seq _ _) _ _;refine vR ?_;refine cB (vX i f B A d) (FO.pure f96 Eo (lE v J ab' v2 v1)) ?_;rintro e H9 ⟨q,rfl,hq,rfl⟩;refine⟨_,by simp only[go_sem]<;>rfl,?_⟩;refine fJ (s1:=?_) (caps:=?_) (vs:=?_) (nm':=?_) ?_ ?_ rfl rfl ?_ ?_ p3 ?_ ?_ ?_;rotate_left 4;(first|exact trivial|(simp only[go_sem,f,d]));(simp(disch:=omega)only[go_sem,f,d]<;>rfl);(first|rfl|(simp only[go_sem,f,d]<;>rfl));(simp only[go_sem,f,d]<;>rfl);exact⟨ij v J ab' v2 hq,ze.aggL ⟨.int _ _,.int _ _,trivial⟩,trivial⟩;(simp only[go_sem,f,d]<;>rfl);refine vj f ?_;have hU:wT H9 id iW iP W3 L3 (wz r fr) u3 a:=⟨⟨gP,V,Y,A,v,J,I,Z⟩,n1,dd,dm⟩
 refine xg (fun c=>c 0=.ptr id 0 0 0 5/\c 4=iv to/\c 10=.ptr h.length 0 0 0 6/\c 14=iv ab'/\c 19=.list 0 2 (tk.map vd)/\c 9=iv 0) ⟨zu i,zu h4,zu m,zu B,zt,by simp[zb]⟩ ?_;clear i h4 m f B;rintro c ⟨i,h4,m,B,dp,h9⟩;refine vK (vz i B dp h9) ?_;refine wW (GY hU ab' tk (fun s hs=>by have:=p5 s hs;omega) zo v1 zo) ?_;rintro e dT ⟨rfl,b0,b1⟩;refine zN ?_;have a8:=b1 _ _ bb t;refine vR ?_;refine vj (vh h4 m a8) ?_;refine vw ?_;refine⟨[iv to,uv n2.low],by simp[T98,xT,zr,zC,zb],?_⟩;show yw _ _ _ _ _ _ _ _ _ _ _ _ _;unfold yw;rw[if_pos p7];rw[<- p8,<- p9,<- c8]at b0;exact⟨rfl,b0,fun j o p C=>b1 j o p (n j o p C)⟩


theorem Ly(rest:LN):∀Q:LJ,(∀p∈Q,p.2≠0)->vV (w7 Q++rest)=Q.length+vV rest
 | [],_=>by show vV rest=0+_;omega
 | a::Q,h=>by
  have b:=Ly rest Q fun p c=>h p (Zo _ c);have h1:=h a (Zr ..);rw[ii,Zv,Zv,vV,if_neg h1,b,Zp];omega
theorem Nr(rest:LN)(h0:vV rest=0)(hz:kF rest=true):∀C:LJ,(∀c∈C,c.2=0)->vV (w7 C++rest)=0/\kF (w7 C++rest)=true
 | [],_=>⟨h0,hz⟩
 | a::C,h=>by
  have b:=Nr rest h0 hz C fun p d=>h p (Zo _ d);have h1:=h a (Zr ..);rw[ii,Zv,Zv,vV,if_pos h1,kF,h1,b.2]
  grind
theorem Hq(m:Nat)(hd:LN)(h8:hd.length=8):∀(k:Nat) (A:LJ) (rest:LN),A.length=k->∃C:LJ,(∀c∈C,c.2=0)/\vH (hd++(w7 A++rest)) (yF m k)=hd++(w7 (A.take m)++(w7 C++rest))
 | 0,A,rest,h=>⟨[],(fun c d=>by cases d),by rw[zBH9.1 h];simp[yF,vH,w7]⟩
 | k+1,A,rest,h=>by
  rw[yF]
  by_cases f:m<=k
  rotate_left
  .rw[if_neg f];exact⟨[],(fun c d=>by cases d),by rw[ZO zo];rfl⟩
  rw[if_pos f];obtain⟨b,a,rfl⟩:∃b a,A=b++[a]:=⟨A.dropLast,A.getLast (fun e=>by grind),(zCZ9 _).symm⟩
  have g:b.length=k:=by simp at h;exact h
  obtain⟨C,j,i⟩:=Hq m hd h8 k b (a.1::0::rest) g;refine⟨C++[(a.1,0)],fun c d=>?_,?_⟩
  .grind
  have e:(hd++(w7 (b++[a])++rest)).set (9+2*k) 0=hd++(w7 b++(a.1::0::rest)):=by
   have:=UN (hd++w7 b) rest a.1 a.2 0 (9+2*k) (by rw[Zl,h8,eq,g];omega);rw[Da];simpa using this
  show vH ((hd++(w7 (b++[a])++rest)).set (9+2*k) 0) (yF m k)=_;rw[e,i,zAT9 zo,Da];simp
structure NN(w:LN)(n:zi):Prop where
 good:uM n
 len:w.length=64
 head:headB w=true
 row:∃rest,w.drop 8=w7 n.pairs++rest/\vV rest=0/\kF rest=true
theorem mC(h:wd w=0):NN w (headN w):=by
 have a:=n8 h;obtain⟨m,n,o⟩:=eF a;unfold wd at h;rw[if_pos a]at h;have b:gL w=true:=by grind
 unfold gL at b;rw[Zm,decide_eq_true_eq]at b;obtain⟨d,t⟩:=b;have f:=Xv d;have i:(headN w).pairs=vG (headN w).left (w.drop 8):=by
  have:(headN w).pairs=wO (headN w).left (w.drop 8):=by unfold headN;rfl
  rw[this];unfold wO;rw[if_pos f]
 unfold uf at d;rw[if_pos f]at d;have c:kE (headN w).left (w.drop 8)=true:=by grind
 unfold kE wO at c;rw[if_pos f,<- i]at c;simp only[Zm,decide_eq_true_eq]at c;obtain⟨⟨⟨⟨h1,h2⟩,h3⟩,h4⟩,u⟩:=c;obtain⟨g,e,q,r⟩:=Lu (w.drop 8) (headN w).left (by grind);rw[<- i]at e r;have s:w.length=64:=by
  unfold headB at a;simp only[Zm,decide_eq_true_eq]at a;exact a.1.1
 have j:uO 3 (pM (w.getD 0 0)) (w.getD 3 0)=true:=by
  unfold headB at a;rw[Zm,ZN]at a;exact a.2 3 zy
 have k:(headN w).level=pM (w.getD 0 0):=by unfold headN;rfl
 have l:(headN w).left=w.getD 3 0:=by unfold headN;rfl
 rw[<- k,<- l]at j;rw[uO]at j;refine⟨⟨m,n,o,by grind,h1,h2,fun p b=>?_,?_⟩,s,a,g,e,q,?_⟩
 .grind
 .grind
 .have:(w.drop 8).drop (2*(headN w).pairs.length)=g:=by
   conv=>lhs;rw[e]
   rw[<- eq,zDL9]
  grind
theorem U7(hl:w.length=64)(h0:pM (w.getD 0 0)=n.level)(h1:w.getD 1 0=n.sib)(h2:w.getD 2 0=n.low)(h3:w.getD 3 0=n.left)(h4:w.getD 4 0=n.way)(hB:headB w=true)(hg:uM n){rest:LN}(hr:w.drop 8=w7 n.pairs++rest)(hr0:vV rest=0)(hz:kF rest=true):wd w=0/\headN w=n:=by
 have b:∀p∈n.pairs,p.2≠0:=fun p a=>rt (hg.may p a);have d:w9 n.left (w.drop 8).length=true:=by
  rw[ZX,hl];unfold w9;simp[hg.left0]
 have g:vG n.left (w7 n.pairs++rest)=n.pairs:=by
  rw[Lv rest n.pairs n.left (Wa hg.ptrs) b];have:=E0 rest (tG n.left n.pairs);rw[hr0]at this;rw[zBH9.1 (by omega:(vG (tG n.left n.pairs) rest).length=0),zAG9]
 have c:wO n.left (w.drop 8)=n.pairs:=by unfold wO;rw[if_pos d,hr,g]
 have e:headN w=n:=IJ h0 h1 h2 h3 h4 c;refine⟨?_,e⟩;have f:(w7 n.pairs++rest).length=56:=by rw[<- hr,ZX,hl]
 have h:uf n.left (w.drop 8)=0:=by
  unfold uf;rw[if_pos d,if_pos];unfold kE;rw[c,hg.rise,hg.ptrs,hr,Ly _ _ b,hr0,f];have i:(w7 n.pairs++rest).drop (2*n.pairs.length)=rest:=by rw[<- eq,zDL9]
  rw[i,hz];have:=hg.few;simp;omega
 unfold wd gL;rw[if_pos hB,if_pos];rw[e,h];simp only[decide_true,Z9,zAZ9,zEU9];intro p a;rw[hg.may p a];simp
@[reducible] def rj (n:zi) (to:Nat):zi:={ n with sib:=to,pairs:=n.pairs.take (n.pairs.length / 2) }
theorem Uq{to:Nat}(h:uM n)(hto:to<2048):uM (rj n to):=by
 refine⟨h.level,hto,h.way,?_,EO h.rise _,?_,fun p a=>?_,h.left⟩
 .show (n.pairs.take _).length<=27;have:=h.few
  grind
 .have:=(nv _ _).1 h.ptrs;refine(nv _ _).2 ⟨?_,fun p a=>this.2 p (ZU a)⟩
  grind
 .exact h.may p (ZU a)
theorem RX{to:Nat}(hto:to<2048)(h:headB w=true):headB (w.set 1 to)=true:=by
 unfold headB at h⊢;rw[Zm,Zm,decide_eq_true_eq]at h;obtain⟨⟨h1,h2⟩,h3⟩:=h;rw[ZN]at h3;rw[Zm,Zm,decide_eq_true_eq];have g:∀i,¬i=1->(w.set 1 to).getD i 0=w.getD i 0:=fun i a=>by
  grind
 refine⟨⟨by grind,?_⟩,ZN.2 fun i a=>?_⟩
 .have:((w.set 1 to).take 8).drop 5=(w.take 8).drop 5:=by
   apply zBD9
   intro j;rw[zAA9,zAA9,ZY,ZY,Zx zo]
  grind
 .have h4:=h3 i a;have c:i<5:=zAL9.1 a;rw[g 0 zy]
  by_cases b:i=1
  .subst b;have:(w.set 1 to).getD 1 0=to:=by rw[Zq,Zw zo];rfl
   rw[this,uO]
   grind
  grind
theorem Jx(h:wd w=0){to:Nat}(hto:to<2048):wd (vH w (yh (headN w) to))=0/\headN (vH w (yh (headN w) to))=rj (headN w) to:=by
 obtain⟨o,p,q,b,r,s,t⟩:=mC h;have g:∀i,¬i=1->(w.set 1 to).getD i 0=w.getD i 0:=fun i k=>by
  grind
 have B:(w.set 1 to).getD 1 0=to:=by
  rw[Zq,Zw zo];rfl
 have l:w.set 1 to=(w.set 1 to).take 8++(w7 (headN w).pairs++b):=by
  rw[<- r]
  conv=>lhs;rw[<- zBV9 8 (w.set 1 to)]
  congr 1
  apply zBD9
  intro j;rw[zAA9,zAA9,Zx zo]
 have c:=RX hto q;have d:((w.set 1 to).take 8).length=8:=by rw[ZC,Z2];omega
 obtain⟨C,u,e⟩:=Hq ((headN w).pairs.length/2) ((w.set 1 to).take 8) d (headN w).pairs.length (headN w).pairs b rfl;rw[<- l]at e;have v:vH w (yh (headN w) to)=vH (w.set 1 to) (yF ((headN w).pairs.length/2) (headN w).pairs.length):=rfl;have f:(vH w (yh (headN w) to)).length=64:=by rw[kw];exact p
 rw[v]at f⊢;have a:∀i,i<8->(vH (w.set 1 to) (yF ((headN w).pairs.length/2) (headN w).pairs.length)).getD i 0=(w.set 1 to).getD i 0:=fun i k=>by
  grind
 have x:(vH (w.set 1 to) (yF ((headN w).pairs.length/2) (headN w).pairs.length)).drop 8=w7 ((headN w).pairs.take ((headN w).pairs.length/2))++(w7 C++b):=by
  rw[e];exact List.drop_left' d
 have y:(vH (w.set 1 to) (yF ((headN w).pairs.length/2) (headN w).pairs.length)).take 8=(w.set 1 to).take 8:=by
  rw[e];exact List.take_left' d
 generalize vH (w.set 1 to) (yF ((headN w).pairs.length/2) (headN w).pairs.length)=w' at *
 have m:headB w'=true:=by
  unfold headB at c⊢;rw[Zm,Zm,decide_eq_true_eq]at c;obtain⟨⟨_,h2⟩,h3⟩:=c;rw[ZN]at h3;rw[Zm,Zm,decide_eq_true_eq,y,a 0 zy];exact⟨⟨f,h2⟩,ZN.2 fun i k=>by grind⟩
 obtain⟨z,A⟩:=Nr b s t C u;refine U7 (n:=rj (headN w) to) f ?_ ?_ ?_ ?_ ?_ m (Uq o hto) x z A
 .rw[a 0 zy,g 0 zy];rfl
 .grind
 .rw[a 2 zy,g 2 zy];rfl
 .rw[a 3 zy,g 3 zy];rfl
 .rw[a 4 zy,g 4 zy];rfl
theorem Mr(n:zi):(vF n).low=(n.pairs.getD (n.pairs.length/2) (0,0)).1:=rfl
theorem BZ(h:uM n)(h2:2<=n.pairs.length):uM (vF n):=by
 have r:n.pairs.length/2<n.pairs.length:=zo;obtain⟨x,d⟩:∃x,n.pairs[n.pairs.length/2]?=some x:=⟨_,Zg r⟩
 have s:=getD_some d;have t:=Zj d;have b:=(nv _ _).1 h.ptrs;have q:∀k p,n.pairs[n.pairs.length/2+k+1]?=some p->x.1<p.1:=fun k p b=>pO h.rise k _ x p d b;have e:=h.may;generalize u:n.pairs.length/2=m at *
 unfold vF;rw[u,s];rcases h.left with⟨c,i⟩|⟨c,i⟩
 .have l:¬0<n.level:=zo;rw[if_neg l,if_neg l];refine⟨h.level,h.sib,by show 0<=2;omega,?_,lX h.rise _,?_,fun p b=>?_,.inl ⟨c,rfl⟩⟩
  .show (n.pairs.drop m).length<=27;have:=h.few;rw[ZX];omega
  .refine(nv _ _).2 ⟨?_,fun p f=>?_⟩
   .show ((n.pairs.drop m).map Prod.snd).Nodup;rw[Z1];exact b.1.sublist (zEW9 _ _)
   .have:=b.2 p (ZQ f);rw[i]at this;exact this
  .have h1:=e p (ZQ b);obtain⟨j,a⟩:=Z8.1 b;rw[zAA9]at a;unfold wR at h1⊢;rw[if_pos c]at h1;rw[if_pos c];simp only[Zm,decide_eq_true_eq]at h1⊢;refine⟨h1.1,?_⟩
   cases j with
   | zero=>rw[zBA9]at a;rw[d]at a;injection a with a;rw[a];exact Zi _
   | succ k=>have:=q k p a;omega
 .rw[if_pos c,if_pos c];refine⟨h.level,h.sib,by grind,?_,lX h.rise _,?_,fun p b=>?_,.inr ⟨c,?_⟩⟩
  .show (n.pairs.drop (m+1)).length<=27;have:=h.few
   grind
  .refine(nv _ _).2 ⟨?_,fun p f g=>?_⟩
   .grind
   .have g:p.2=x.2:=ZI.1 g;obtain⟨j,a⟩:=Z8.1 f;rw[zAA9]at a;have o:(n.pairs.map Prod.snd)[m]?=some x.2:=vU d;have v:(n.pairs.map Prod.snd)[m+1+j]?=some x.2:=by rw[Zt,a,<- g];rfl
    have:=(List.getElem?_inj (Zh.1 o).1 b.1).1 (o.trans v.symm);omega
  .have h1:=e p (ZQ b);obtain⟨j,a⟩:=Z8.1 b;rw[zAA9]at a;unfold wR at h1⊢
   grind
  .have h1:=e x t;unfold wR at h1
   grind
theorem Wj{x:Pr}(h:wd w=0)(hm:wR (headN w) x=true)(hl:¬x.2=(headN w).left)(hp:∀q∈(headN w).pairs,¬q.2=x.2)(hk:∀q∈(headN w).pairs,¬q.1=x.1)(hr:(headN w).pairs.length<27):(wj w x).2=0:=by
 obtain⟨i,c,j,s,t,u,v⟩:=mC h;have d:w.getD 3 0=(headN w).left:=by unfold headN;rfl
 have f:=rt hm;unfold wj mc;have k:xz w x=0:=by unfold xz;rw[if_pos h,if_pos hm]
 rw[k,if_pos rfl,d];have a:w9 (headN w).left (w.drop 8).length=true:=by
  rw[ZX,c];unfold w9;simp[i.left0]
 have b:vG (headN w).left (w.drop 8)=(headN w).pairs:=by
  have:(headN w).pairs=wO (headN w).left (w.drop 8):=by unfold headN;rfl
  rw[this];unfold wO;rw[if_pos a]
 have l:uf (headN w).left (w.drop 8)=0:=by
  unfold wd at h;rw[if_pos j]at h;have hp:gL w=true:=by grind
  unfold gL at hp;rw[Zm,decide_eq_true_eq]at hp;exact hp.1
 have m:uW (headN w).left (w.drop 8) x=0:=by
  unfold uW;have n:yL (headN w).pairs x.2=false:=by
   unfold yL;rw[zCM9,decide_eq_false_iff_not];intro g;obtain⟨q,o,p⟩:=Zu.1 g;exact hp q o p
  rw[a,b,l,n,decide_eq_false f,decide_eq_false hl];rfl
 have r:yq (headN w).pairs x.1=false:=by
  unfold yq
  cases e:(headN w).pairs[yI (headN w).pairs x.1]? with
  | none=>rfl
  | some q=>grind
 have:(uk (headN w).left (w.drop 8) x).2=0:=by
  unfold uk;rw[m,if_pos rfl,b,r,if_neg zy,if_neg (by grind)]
 grind
end Fv
end Go.Proofs.YtkeknmgnoceogaaGreat
