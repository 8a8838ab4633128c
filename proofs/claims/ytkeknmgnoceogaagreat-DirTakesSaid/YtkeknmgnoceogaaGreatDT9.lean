/- part 9 of the proof of dir_takes. -/
import Derived.Test.YtkeknmgnoceogaaGreatDT8
import Derived.Shelf.Strings.Search3
import Derived.KernelRfl
set_option linter.unusedSimpArgs false
set_option linter.unusedVariables false
set_option maxRecDepth 100000
set_option maxHeartbeats 4000000
namespace Go.Proofs.YtkeknmgnoceogaaGreat
open Tryz
open Go.RowKit
def zDH:Go.Shelf.Ren:=⟨fun|143=>248|144=>194|217=>344|219=>320|224=>346|225=>345|266=>358|267=>347|314=>359|n=>n,fun|3=>3|4=>4|5=>5|9=>9|46=>227|51=>381|146=>432|n=>n,fun|1=>0|n=>n⟩
theorem zHQ:Go.Proofs.Lays.n144 prog zDH where
 mixed:=by kernel_rfl
 f143:=func248.trans (congrArg some (by kernel_rfl))
 f144:=func194.trans (congrArg some (by kernel_rfl))
 f217:=func344.trans (congrArg some (by kernel_rfl))
 f219:=func320.trans (congrArg some (by kernel_rfl))
 f224:=func346.trans (congrArg some (by kernel_rfl))
 f225:=func345.trans (congrArg some (by kernel_rfl))
 f266:=func358.trans (congrArg some (by kernel_rfl))
 f267:=func347.trans (congrArg some (by kernel_rfl))
 f314:=func359.trans (congrArg some (by kernel_rfl))
 t3:=underlying3
 a3:=Tryz.isAgg3
 z3:=Tryz.sizeOf3
 v3:=Tryz.zeroValue3
 t4:=underlying4
 a4:=Tryz.isAgg4
 z4:=Tryz.sizeOf4
 v4:=Tryz.zeroValue4
 t5:=underlying5
 a5:=Tryz.isAgg5
 z5:=Tryz.sizeOf5
 v5:=Tryz.zeroValue5
 t9:=underlying9
 a9:=Tryz.isAgg9
 z9:=Tryz.sizeOf9
 v9:=Tryz.zeroValue9
 t46:=underlying227
 a46:=Tryz.isAgg227
 z46:=Tryz.sizeOf227
 v46:=Tryz.zeroValue227
 t51:=underlying381
 a51:=Tryz.isAgg381
 z51:=Tryz.sizeOf381
 v51:=Tryz.zeroValue381
 t146:=underlying432
 a146:=Tryz.isAgg432
 z146:=Tryz.sizeOf432
 v146:=Tryz.zeroValue432
 g1:=by kernel_rfl
namespace Tw
theorem zjy(c:UInt8):∀l:List UInt8,decide (0<=Lib.indexByte l c)=zpm c.toNat (l.map (·.toNat))
 | []=>rfl
 | b::l=>by
  have ih:=zjy c l;have hge:=Lib.indexByte_ge l c;rw[zBY9,Lib.indexByte,zpm]
  by_cases h:b=c
  .subst h;simp
  .have h2:Nat.beq b.toNat c.toNat=false:=by
    cases hb:Nat.beq b.toNat c.toNat
    .rfl
    .exact absurd (UInt8.toNat_inj.1 (zAL9 hb)) h
   rw[h2,cond_false,<- ih];have h3:(b==c)=false:=by simpa using h
   simp only[h3,zCQ9,if_false]
   split
   .rename_i h4;have h4:Lib.indexByte l c=-1:=by simpa using h4
    rw[h4]<;>rfl
   .rename_i h4;have h4:Lib.indexByte l c ≠ -1:=by simpa using h4
    have e1:0<=Lib.indexByte l c:=by omega
    simp[e1]<;>omega
theorem zvb(Z:Nat)(ρ:Rho)(w:World)(args:LK)(args':LM)(h:TH)(r:TE)(h':TH)(hr:znF args h=some (r,h'))(k:WR prog Z ρ h w)(hZ:Z<=w.heap.size)(hv:VL ρ args args') :
  (∀w,(callFunc 194 args'.toArray).run prog w=.ok (.enter 194 args'.toArray) w)/\CallsIn (Fr none) 0 prog 194 args'.toArray w (zgp prog Z ρ h h' w r):=by
 refine⟨fun w=>enters_of func194 (by kernel_rfl) rfl _ w,?_⟩;unfold znF at hr
 split at hr
 .rename_i s c;injection hr with hr;injection hr with hr1 hr2;subst hr1;subst hr2;obtain⟨y1,_,rfl,v1,hv⟩:=hv.oc;obtain⟨y2,_,rfl,v2,hv⟩:=hv.oc;obtain rfl:=hv.oN;generalize hc:[c]=cs at v2
  cases v1 with
  | str s =>
   cases v2 with
   | str sub =>
    obtain⟨⟨l⟩⟩:=sub
    match l,hc with
    | [b],hc =>
     simp at hc;subst hc;refine zmP k hZ (.bool _) (callsIn_wide.2 ((Any.strings_Contains_one zHQ s b w).mono ?_));rintro e w' ⟨rfl,rfl⟩;exact⟨by rw[zjy],Below.refl _ _⟩
 .cases hr
end Tw
namespace Tw
variable {f:Nat}
theorem zm6(hf:zmY.get f=some ()):ziH prog 38 f:=by
 have hf:(((Tr.set .nil 38 (some ())).set 91 (some ())).set 201 (some ()):LH).get f=some ():=hf;rw[Tr.get_set,Tr.get_set,Tr.get_set]at hf
 split at hf
 .rename_i e;subst e;exact zDe
 .split at hf
  .rename_i e;subst e;exact zDr
  .split at hf
   .rename_i e;subst e;exact zDy
   .cases hf
theorem zqK{g:LK->TH->Option (TE×TH)}(hg:zk6 f=some g)(Z:Nat)(ρ:Rho)(w:World)(args:LK)(args':LM)(h:TH)(r:TE)(h':TH)(hr:g args h=some (r,h'))(k:WR prog Z ρ h w)(hZ:Z<=w.heap.size)(hv:VL ρ args args'):
  (∀w,(callFunc f args'.toArray).run prog w=.ok (.enter f args'.toArray) w)/\CallsIn (Fr none) 0 prog f args'.toArray w (zgp prog Z ρ h h' w r):=by
 unfold zk6 at hg
 cases h1:Nat.beq f 200 with
 | true =>
  rw[h1]at hg;obtain rfl:=zAL9 h1;injection hg with hg;subst hg;exact⟨fun w=>enters_of func200 (by kernel_rfl) rfl _ w,zDf k hZ hv hr⟩
 | false =>
  rw[h1,cond_false]at hg
  cases h2:Nat.beq f 185 with
  | true=>rw[h2]at hg;obtain rfl:=zAL9 h2;injection hg with hg;subst hg;exact zBT Z ρ w args args' h r h' hr k hZ hv
  | false =>
   rw[h2,cond_false]at hg
   cases h3:Nat.beq f 244 with
   | true=>rw[h3]at hg;obtain rfl:=zAL9 h3;injection hg with hg;subst hg;exact zD4 Z ρ w args args' h r h' hr k hZ hv
   | false =>
    rw[h3,cond_false]at hg
    cases h4:Nat.beq f 352 with
    | true=>rw[h4]at hg;obtain rfl:=zAL9 h4;injection hg with hg;subst hg;exact zDm Z ρ w args args' h r h' hr k hZ hv
    | false =>
     rw[h4,cond_false]at hg
     cases h5:Nat.beq f 194 with
     | true=>rw[h5]at hg;obtain rfl:=zAL9 h5;injection hg with hg;subst hg;exact zvb Z ρ w args args' h r h' hr k hZ hv
     | false =>
      rw[h5,cond_false]at hg;obtain⟨h6,hg⟩:=zac hg;obtain rfl:=zAL9 h6;injection hg with hg;subst hg;exact zCR Z ρ w args args' h r h' hr k hZ hv
theorem zGn:zhU prog E16:=⟨by kernel_rfl,fun f F h=>zov f F (zGD h),fun _ _ hg Z ρ w args args' h r h' hr k hZ hv=>zqK hg Z ρ w args args' h r h' hr k hZ hv,fun _ hf=>zm6 hf⟩
theorem zA5{x:Option (TE×TH)}(h:zp3 x=true):∃h',x=some (.ret (.bool true),h'):=by
 unfold zp3 at h
 split at h
 .exact⟨_,rfl⟩
 .cases h
end Tw
theorem zBN(w:World):Calls prog 11 #[] w fun e w'=>e=.returned (.bool true)/\Below w.heap.size w w':=by
 obtain⟨h',hr⟩:=Tw.zA5 Tw.w16;obtain⟨_,h2⟩:=Tw.zAl Tw.zGn hr w;refine(callsIn_wide.1 h2).mono ?_;rintro e w' ⟨hb,ρ,v',rfl,hv⟩
 cases hv
 exact⟨rfl,hb⟩
namespace Fv
open Tw
theorem zHb:zhU prog ET:=by
 refine⟨by kernel_rfl,fun f F h=>zov f F (znL h),fun f g hg Z ρ w args args' h r h' hr k hZ hv=>?_,fun f hf=>zm6 hf⟩;have hg:(bif Nat.beq f 11 then some zp6 else bif Nat.beq f 172 then some (zkr 3)else zk6 f)=some g:=hg
 cases h2:Nat.beq f 11 with
 | true =>
  rw[h2]at hg;obtain rfl:=zAL9 h2;injection hg with hg2;subst hg2;exact zFS (fun w=>enters_of func11 (by kernel_rfl) rfl _ w) (fun w=>callsIn_wide.2 (zBN w)) Z ρ w args args' h r h' hr k hZ hv
 | false =>
  rw[h2,cond_false]at hg
  cases h3:Nat.beq f 172 with
  | true =>
   rw[h3,cond_true]at hg;obtain rfl:=zAL9 h3;injection hg with hg2;subst hg2;exact⟨fun w=>enters_of func172 (by kernel_rfl) rfl _ w,zB3 k hZ hv hr⟩
  | false =>
  rw[h3,cond_false]at hg;exact zqK hg Z ρ w args args' h r h' hr k hZ hv


@[reducible] def bv (p:Nat) (l:LN):PV:=.list p 1 (bl l)
variable {G:Nat}{H:LP}{M a e g i id:Nat}{α:Type}{l:List α}{lab q z:Nat}(x p:Nat)(v:Sip)(w n:Nat)
theorem Lb.bvs(l:LN):Lb (.list 0 z (bl l)):=.list fun x hx=>by
 obtain⟨y,hy,hx⟩:=zAU9.1 hx;obtain⟨n,_,rfl⟩:=zAH9.1 hy;simp[PV.cells]at hx;subst hx;exact .int _ _
theorem zxA{n:Nat}{l:LQ}(hH:H[id]?=some (.row e 1 G M l))(hM:M<=g)(hg:g<=G)(hl:n=l.length)(hq:2*n<=q)(hs:∀v∈l,v.cells=[v]/\Frz H lab v v):Frz H lab (.sl id g 0 n q 1) (.list lab 1 l):=by
 have hf:l.flatMap PV.cells=l:=by
  clear hl hH
  induction l with
  | nil=>rfl
  | cons x l ih=>simp_all
 have hd:(l.drop 0).take n=l:=by rw[zER9,zBR9 zo]
 refine .sl hH hM hg zo hq hl.symm (fun v hv=>by grind) (by rw[hd]) fun i x y hx hy=>?_;rw[hd,hf]at hx;rw[hf,hx]at hy
 cases hy
 exact(hs x (zAI9 hx)).2
theorem zjO{n:Nat}{l:LN}(hH:H[id]?=some (.row e 1 G M (l.map uv)))(hM:M<=g)(hg:g<=G)(hl:n=l.length)(hq:2*n<=q):Frz H lab (.sl id g 0 n q 1) (wv lab l) :=
 zxA hH hM hg (by grind) hq fun v hv=>by obtain⟨x,_,rfl⟩:=zAH9.1 hv;exact⟨rfl,.int _ _⟩
theorem zh3{n:Nat}{l:LN}(hH:H[id]?=some (.row e 1 G M (bl l)))(hM:M<=g)(hg:g<=G)(hl:n=l.length)(hq:2*n<=q):Frz H lab (.sl id g 0 n q 1) (bv lab l) :=
 zxA hH hM hg (by simpa[zcV]using hl) hq fun v hv=>by obtain⟨x,_,rfl⟩:=zAH9.1 hv;exact⟨rfl,.int _ _⟩
theorem zuD(b:LN)(hb:zbT b)(hl:b.length<1000000):FR 246 [bv p b] (wv 0 (zdQ b)):=by
 refine zfn (eG T246 func246) (Lb.uvs _) ?_;refine zG ?_;refine zcL 29 1 (i:=3) rfl ?_;simp only[lzy,zAN9,zAV9];refine ze (zbk (fun m s=>∃(i n M:Nat) (L:LN) (G:LP),m=b.length-i/\i<=b.length/\L=zdQ (b.take i)/\n=L.length/\M<=n/\s.tm 3=.sl 0 n 0 n (2*n) 1/\s.tm 6=bv p b/\s.tm 7=iv b.length/\s.tm 8=iv i/\s.df=[]/\s.H=.row 29 1 n M (L.map uv)::G) (n:=b.length) ?_ ?_)
 .exact⟨0,0,0,[],[],rfl,zAJ9 _,by simp[zdQ],rfl,zAJ9 _,zt,zt,by simp[upd,zcV],zt,rfl,rfl⟩
 .rintro m ⟨tm,df,H⟩ ⟨i,n,M,L,G,rfl,hi,hL,hn,hM,h3,h6,h7,h8,rfl,rfl⟩;dsimp only at *
  have hLl:n=(i+7)/8:=by rw[hn,hL,zee,zAT9];omega
  refine zLh (zr2 h7 h8) ?_ ?_
  .intro hlt;have hlt:i<b.length:=ztd hlt;have hx:=zAA9 hlt;have hx2:b[i]<256:=hb _ (zBK9 hlt);have htk:b.take (i+1)=b.take i++[b[i]]:=by rw[zBB9,hx];rfl
   generalize b[i]=x at *
   have hxv:(bl b)[i]?=some (.int .u8 x):=by rw[zqZ,hx];rfl
   have e8:(i:Int).tmod 8=((i%8:Nat):Int):=rfl;have q8:(i:Int).tdiv 8=((i/8:Nat):Int):=rfl;refine zBb ?_;refine zGF (zr5 h6 h8 hxv hlt zcV) ?_;refine zcJ (Q:=fun y s'=>y=.norm/\∃(n M y':Nat) (L':LN) (G:LP),i/8<n/\n=L'.length/\M<=n/\L'[i/8]?=some y'/\y'<18446744073709551616/\zdQ (b.take (i+1))=L'.set (i/8) (Nat.lor y' (x*2 ^ (8*(i%8))%18446744073709551616))/\s'.tm 3=.sl 0 n 0 n (2*n) 1/\s'.tm 4=iv i/\s'.tm 5=.int .u8 x/\s'.tm 6=bv p b/\s'.tm 7=iv b.length/\s'.tm 8=iv i/\s'.df=[]/\s'.H=.row 29 1 n M (L'.map uv)::G) ?_ ?_
   .have hx64:x*2 ^ (8*(i%8))%18446744073709551616=x*2 ^ (8*(i%8)):=by
     refine zDA9 ?_;have h1:2 ^ (8*(i%8))<=2 ^ 56:=zDK9 zo zo;have h2:x*2 ^ (8*(i%8))<=255*2 ^ 56:=Nat.mul_le_mul zo h1;omega
    have htl:(b.take i).length=i:=by rw[zAT9];omega
    have hbt:=hb.take i;rw[hx64,htk]
    by_cases h0:i%8=0
    .refine zct ?_ (by simp only[go_sem,e8,h0]<;>rfl);refine zae ?_;have hcap:(n+1)*9<=140737488355328:=zo;subst hn;refine zKF (zr2 h3 hcap) ?_;refine⟨rfl,L.length+1,M,0,L++[0],_,by omega,by simp,by omega,by grind,by omega,?_,zt,zt,zt,zu h6,zu h7,zu h8,rfl,by rw[zBE9];rfl⟩;rw[zC9 (by omega),<- hL,List.set_append,if_neg zo,show i/8-L.length=0 by omega,h0];simp
    .have hd:decide (((i%8:Nat):Int)=0)=false:=decide_eq_false zo;refine zcf ?_ (by simp only[go_sem,e8,hd]<;>rfl);refine zr ?_;refine⟨rfl,n,M,L.getD (i/8) 0,L,_,by omega,hn,hM,?_,?_,?_,zu h3,zt,zt,zu h6,zu h7,zu h8,rfl,rfl⟩
     .grind
     .have hs:=zmj hbt;rw[<- hL]at hs;rw[zAK9,zAA9 zo]
      simp_all
     .have:=zB2 (x:=x) hbt (by omega)
      grind
   .clear h3 h6 h7 h8 hL hn hM hLl;rintro y ⟨tm,df,H⟩ ⟨rfl,n,M,y,L,G,hlt8,hn,hM,hy,hy64,hL,h3,h4,h5,h6,h7,h8,rfl,rfl⟩;dsimp only at *
    refine zaB ?_;have hyv:(L.map uv)[i/8]?=some (uv y):=zmg hy;have et:(8*((i%8:Nat):Int)).toNat=8*(i%8):=zo;have g1:(0:Int)<=8*((i%8:Nat):Int):=zo;refine zcs (zr9 h3 h4 h5 e8 q8 hyv et hlt8 hM) ?_;refine zQF h3 ?_;refine zae ?_;refine zKF h8 ?_;refine⟨_,?m,i+1,n,n,L.set (i/8) (Nat.lor y (x*2 ^ (8*(i%8))%18446744073709551616)),G,rfl,hlt,hL.symm,by simp[hn],zAE9 _,zu h3,zu h6,zu h7,zt,rfl,?H⟩
    case m=>omega
    simp_all
  .intro hlt;have hlt:¬i<b.length:=zfd hlt;obtain rfl:i=b.length:=zo;refine zGF h3 ?_;refine zbN (zfr ?_ (by simp only[go_sem]<;>rfl));rw[zBF9]at hL;subst hL;exact zjO rfl hM (zAE9 _) hn (zAE9 _)


theorem zpi(h:n<64):FR 179 [iv n] (uv (2 ^ n:Nat)):=by
 refine zfn (eG T179 func179) (.int _ _) ?_;refine zG ?_;refine ze (zbk (fun m s=>∃(i q:Nat),m=n-i/\i<=n/\q=2 ^ i/\s.tm 0=iv n/\s.tm 3=uv q/\s.tm 4=iv i/\s.df=[]/\s.H=[]) (n:=n) ?_ ?_)
 .exact⟨0,1,rfl,zAJ9 _,rfl,zt,zt,zt,rfl,rfl⟩
 .rintro m ⟨tm,df,H⟩ ⟨i,q,rfl,hi,hq,h0,h3,h4,rfl,rfl⟩;dsimp only at h0 h3 h4;refine zLh (zr2 h0 h4) ?_ ?_
  .intro hlt;have hlt:i<n:=ztd hlt;have h2:2 ^ (i+1)<=2 ^ 63:=zDK9 zo zo;rw[Nat.pow_succ,<- hq]at h2;have e2:(2:Int)*(q:Int)=((q*2:Nat):Int):=zo;refine zBb ?_;refine zJF (zr2 h3 e2) ?_;refine zae ?_;refine zKF h4 ?_;exact⟨_,by omega,i+1,q*2,rfl,hlt,by omega,zu h0,zt,zt,rfl,rfl⟩
  .intro hlt;have hlt:¬i<n:=zfd hlt;obtain rfl:i=n:=zo;refine zGF h3 ?_;refine zbN (zfr ?_ (by simp only[go_sem]<;>rfl));rw[<- hq];exact zbp.int rfl
theorem zBs(a n:Nat)(hw:w<18446744073709551616)(ha:a<64)(hn:n<64):FR 120 [uv w,iv a,iv n] (uv (w/2 ^ a%2 ^ n:Nat)):=by
 refine zfn (eG T120 func120) (.int _ _) ?_;refine zG ?_;have p1:0<2 ^ a:=Nat.two_pow_pos a;have p2:0<2 ^ n:=Nat.two_pow_pos n;have hq:(w:Int).tdiv ((2 ^ a:Nat):Int)=((w/2 ^ a:Nat):Int):=Int.ofNat_tdiv ..;have hr:((w/2 ^ a:Nat):Int).tmod ((2 ^ n:Nat):Int)=((w/2 ^ a%2 ^ n:Nat):Int):=Int.ofNat_tmod ..;have hle:w/2 ^ a<=w:=zGA9 _ _;have g1:¬((2 ^ a:Nat):Int)=0:=zo;have g2:¬((2 ^ n:Nat):Int)=0:=zo;have hp:=zpi a ha;have hp2:=zpi n hn;generalize 2 ^ a=A at *
 generalize 2 ^ n=N at *
 generalize w/A=X at *
 have hR:X%N<=X:=Nat.mod_le _ _;generalize X%N=R at *
 refine zI ?_;refine zca hp ?_;refine zNF (zr2 hq g1) ?_;refine zB ?_;have g3:¬(n:Int)=64:=zo;refine zB ?_;refine zbj g3 ?_;refine zH ?_;refine zI ?_;refine zca hp2 ?_;refine zNF (zr2 hr g2) ?_;refine zbN (zfr ?_ (by simp only[go_sem]<;>rfl));exact zbp.int rfl
theorem zxL(l:LN)(hb:zbT l)(hl:l.length<1000000):FR 175 [bv p l] (uv (zcc (l.take 8))):=by
 refine zfn (eG T175 func175) (.int _ _) ?_;refine zGF zcV ?_;have hm:min (8:Int) (l.length:Int)=((min 8 l.length:Nat):Int):=zo;have hlen:(l.take 8).length=min 8 l.length:=zAT9 ..;refine ze (zbk (fun m s=>∃(i q:Nat),m=i/\i<=min 8 l.length/\q=zcc ((l.take 8).drop i)/\s.tm 0=bv p l/\s.tm 3=uv q/\s.tm 4=iv ((i:Int)-1)/\s.df=[]/\s.H=[]) (n:=min 8 l.length) ?_ ?_)
 .exact⟨min 8 l.length,0,rfl,zAE9 _,by rw[<- hlen,zBH9];rfl,zt,zt,by simp[upd,hm],rfl,rfl⟩
 .rintro i ⟨tm,df,H⟩ ⟨_,q,rfl,hi,hq,h0,h3,h4,rfl,rfl⟩;dsimp only at h0 h3 h4;refine zLh h4 ?_ ?_
  .intro hlt;have hlt:0<i:=ztd hlt;obtain⟨j,rfl⟩:∃j,i=j+1:=⟨i-1,by omega⟩
   have hj:j<l.length:=zo;have hx:=zAA9 hj;have hx2:l[j]<256:=hb _ (zBK9 hj);have hd:zcc ((l.take 8).drop j)=l[j]+256*q:=by
    rw[zAM9 zo,zcc,hq,zHP9]
   have hq2:zcc ((l.take 8).drop j)<18446744073709551616:=zgZ ((hb.take 8).drop j) (by grind);generalize l[j]=x at *
   have hxv:(bl l)[j]?=some (.int .u8 x):=by rw[zqZ,hx];rfl
   have e1:((j+1:Nat):Int)-1=(j:Int):=zo;refine zBb ?_;refine zJF (zr7 h0 h3 h4 e1 hxv hj zcV) ?_;refine zae ?_;refine zKF (zr2 h4 e1) ?_;refine⟨_,by omega,j,x+256*q,rfl,by omega,hd.symm,zu h0,?_,zt,rfl,rfl⟩;simp[upd];omega
  .intro hlt;have hlt:¬0<i:=zfd hlt;obtain rfl:i=0:=zo;refine zGF h3 ?_;refine zbN (zfr ?_ (by simp only[go_sem]<;>rfl));rw[hq];exact zbp.int rfl
theorem zto{l:LN}{j:Nat}(h:8*j<l.length):(zdQ l).take (j+1)=(zdQ l).take j++[zcc ((l.drop (8*j)).take 8)]:=by
 rw[zBB9,zl9 h];rfl
theorem zFX(l:LN)(hb:zbT l)(hl:l.length<1000000):FR 116 [bv p l] (wv 0 (zdQ l)):=by
 refine zfn (eG T116 func116) (Lb.uvs _) ?_;refine zG ?_;refine zcL 29 1 (i:=3) rfl ?_;simp only[lzy,zAN9,zAV9];refine zG ?_;refine ze (zbk (fun m s=>∃(j:Nat) (G:LP),m=(l.length+7)/8-j/\j<=(l.length+7)/8/\s.tm 0=bv p l/\s.tm 3=.sl 0 j 0 j (2*j) 1/\s.tm 4=iv (8*j:Nat)/\s.df=[]/\s.H=.row 29 1 j 0 (((zdQ l).take j).map uv)::G) (n:=(l.length+7)/8) ?_ ?_)
 .exact⟨0,[],rfl,zAJ9 _,zt,zt,zt,rfl,rfl⟩
 .rintro m ⟨tm,df,H⟩ ⟨j,G,rfl,hj,h0,h3,h4,rfl,rfl⟩;dsimp only at h0 h3 h4;have hjl:((zdQ l).take j).length=j:=by rw[zAT9,zee];omega
  refine zLh (zr3 h0 h4 zcV) ?_ ?_
  .intro hlt;have hlt:8*j<l.length:=ztd hlt;have hcap:(j+1)*9<=140737488355328:=zo;have hle:8*j<=l.length:=zo;have hbd:bl (l.drop (8*j))=(bl l).drop (8*j):=by unfold bl;rw[zCA9]
   have hw:FR 175 [.list p 1 ((bl l).drop (8*j))] (uv (zcc ((l.drop (8*j)).take 8))):=by
    rw[<- hbd];exact zxL p (l.drop (8*j)) (hb.drop _) (by grind)
   refine zBb ?_;refine zIF (zr5 h0 h3 h4 hle zcV) ?_;refine zca hw ?_;refine zKF (zr2 hcap hjl) ?_;refine zae ?_;refine zKF h4 ?_;refine⟨_,?m,j+1,?G,rfl,by omega,zu h0,zt,?_,rfl,?H⟩
   case m=>omega
   case H=>rw[zto hlt,zBE9];rfl
   simp[upd];omega
  .intro hlt;have hlt:¬8*j<l.length:=zfd hlt;refine zGF h3 ?_;refine zbN (zfr ?_ (by simp only[go_sem]<;>rfl));rw[zBR9 (by rw[zee];omega)];refine zjO rfl (zAJ9 _) (zAE9 _) (by rw[zee];omega) (zAE9 _)


theorem zyc:IntKind.u8.wrap (n:Int)=((n%256:Nat):Int):=by
 rw[show ((n%256:Nat):Int)=(n:Int)%256 by simp];simp[IntKind.wrap,IntKind.bits,IntKind.signed]
theorem zGj{n:Nat}(l:LN):NRO n (.row e z G M (bl l)):=fun x hx=>by
 obtain⟨y,hy,hx⟩:=zAU9.1 hx;obtain⟨m,_,rfl⟩:=zAH9.1 hy;simp[PV.cells]at hx;subst hx;exact .int _ _
def byH(n w:Nat)(B:LN)(G:LP):LP:=.row 137 1 0 0 [.sl 1 n 0 n (2*n) 1]::.row 5 1 n 0 (bl B)::(G++[.row 29 1 0 0 [uv w]])
theorem zBG(k n w:Nat)(B:LN)(G:LP)(hk:k<8)(hw:w<18446744073709551616)(hn:n=B.length)(hc:n<10000000):FO ET 242 [iv k,.ptr 0 0 0 0 1,.ptr (G.length+2) 0 0 0 1] (byH n w B G) false fun e H'=>e=.ret (.tuple [])/\H'=byH (n+1) w (B++[w/2 ^ (8*k)%256]) G:=by
 have et:(8*(k:Int)).toNat=8*k:=zo;have hq:w/2 ^ (8*k)<=w:=zGA9 _ _;have hb:(n+1)*2<=140737488355328:=zo;subst hn;refine FO.gc ?_;unfold byH;refine zro (eG T242 func242) ?_;refine zaB ?_;refine zcs (zr4 et zyc hb zcV) ?_;refine zda ?_ (by simp(disch:=omega)only[go_sem]<;>rfl);refine zQ ?_;generalize w/2 ^ (8*k)=X at *
 refine zfg (vs:=[]) rfl ?_;have hb2:bl (B++[X%256])=bl B++[.int .u8 (X%256:Nat)]:=by unfold bl;rw[zBE9];rfl
 rw[hb2];refine⟨_,_,zjS.front (A:=[.row 137 1 0 0 [.sl 1 B.length 0 B.length (2*B.length) 1],.row 5 1 B.length 0 (bl B)]) (A':=[.row 137 1 0 0 [.sl 1 (B.length+1) 0 (B.length+1) (2*(B.length+1)) 1],.row 5 1 (B.length+1) 0 (bl B++[.int .u8 (X%256:Nat)])]) (C:=G++[.row 29 1 0 0 [uv w]]) (G:=[.row 5 1 0 0 [.int .u8 (X%256:Nat)]]) rfl (fun id o ho=>?_),NR.tuple fun x hx=>(by cases hx),rfl,rfl⟩
 match id with
 | 0=>cases ho;intro x hx;simp[PV.cells]at hx;subst hx;exact .sl _ _ _ _ _ (show 1<2 by decide)
 | 1=>cases ho;rw[<- hb2];exact zGj _
 | _+2=>simp at ho
theorem zoW(k:Nat)(h:k<8):(zdG w).take (k+1)=(zdG w).take k++[w/2 ^ (8*k)%256]:=by
 rw[zBB9];simp[zdG,h]
theorem zow(l:LN)(hw:∀w∈l,w<18446744073709551616)(hl:l.length<1000000):FR 186 [wv p l] (bv 0 (zcK l)):=by
 refine zfn (eG T186 func186) (Lb.bvs _) ?_;refine zG ?_;refine zfF 5 1 (id:=0) (v:=.nilsl) (v':=.sl 1 0 0 0 0 1) (e0:=137) (z0:=1) (G:=0) (M:=0) rfl rfl (fun k x y hx hy=>?_) ?_
 .match k with
  | 0=>injection hx with hx;injection hy with hy;subst hx hy;exact .inr ⟨rfl,rfl⟩
  | k+1=>simp[PV.cells]at hx
 simp only[zAS9,zAV9,zCE9];refine zG ?_;refine ze (zbk (fun m s=>∃(i n:Nat) (G:LP),m=l.length-i/\i<=l.length/\n=8*i/\s.tm 3=.ptr 0 0 0 0 1/\s.tm 8=wv p l/\s.tm 9=iv l.length/\s.tm 10=iv i/\s.df=[]/\s.H=.row 137 1 0 0 [.sl 1 n 0 n (2*n) 1]::.row 5 1 n 0 (bl (zcK (l.take i)))::G) (n:=l.length) ?_ ?_)
 .exact⟨0,0,[],rfl,zAJ9 _,rfl,zt,zt,zt,zt,rfl,rfl⟩
 .rintro m ⟨tm,df,H⟩ ⟨i,n,G,rfl,hi,hn,h3,h8,h9,h10,rfl,rfl⟩;dsimp only at *
  refine zLh (zr2 h9 h10) ?_ ?_
  .intro hlt;have hlt:i<l.length:=ztd hlt;have hx:=zAA9 hlt;have hx2:=hw _ (zBK9 hlt);have htk:zcK (l.take (i+1))=zcK (l.take i)++zdG l[i]:=by rw[zBB9,hx];exact zoY _ _
   have hBl:(zcK (l.take i)).length=n:=by rw[zf0,zAT9];omega
   generalize l[i]=w at *
   have hxv:(l.map uv)[i]?=some (uv w):=zmg hx;generalize zcK (l.take i)=B at *
   refine zBb ?_;refine zGF (zr5 h3 h8 h10 hxv hlt) ?_;refine ze (zbk (fun m s=>∃(k n:Nat) (B':LN),m=8-k/\k<=8/\n=B'.length/\B'=B++(zdG w).take k/\s.tm 3=.ptr 0 0 0 0 1/\s.tm 6=.fn 242 [.ptr 0 0 0 0 1,.ptr (G.length+2) 0 0 0 1]/\s.tm 8=wv p l/\s.tm 9=iv l.length/\s.tm 10=iv i/\s.tm 15=iv k/\s.df=[]/\s.H=byH n w B' G) (n:=8) ?_ ?_)
   .exact⟨0,n,B,rfl,zAJ9 _,hBl.symm,by simp,zu h3,zu h3,zu h8,zu h9,zu h10,zt,rfl,rfl⟩
   .clear h3 h8 h9 h10;rintro m ⟨tm,df,H⟩ ⟨k,n',B',rfl,hk,hn',hB,h3,h6,h8,h9,h10,h15,rfl,rfl⟩;dsimp only at *
    refine zLh h15 ?_ ?_
    .intro hlt8;have hlt8:k<8:=ztd hlt8;have hc:n'<10000000:=by rw[hn',hB,zAB9,zAT9];omega
     refine zBb ?_;refine zGF h15 ?_;refine zIF h6 ?_;refine zco (zBG k n' w B' G hlt8 hx2 hn' hc) ?_ (by first|rfl|(simp only[go_sem,h6]<;>rfl)) (by simp only[go_sem]<;>rfl);rintro e H' ⟨rfl,rfl⟩;refine zcr ?_;refine zae ?_;refine zKF h15 ?_;exact⟨_,by omega,k+1,n'+1,_,rfl,hlt8,by grind,by rw[zoW w k hlt8,<- zAD9,<- hB],by simp[upd,h3],by simp[upd,h6],by simp[upd,h8],by simp[upd,h9],by simp[upd,h10],by simp[upd],rfl,rfl⟩
    .intro hlt8;have hlt8:¬k<8:=zfd hlt8;obtain rfl:k=8:=zo;refine zae ?_;refine zKF h10 ?_;have hb8:(zdG w).take 8=zdG w:=zBR9 (by simp[zdG]);have hl8:(zdG w).length=8:=by simp[zdG]
     rw[hb8]at hB;refine⟨_,?m,i+1,n',?G,rfl,hlt,?N,zu h3,zu h8,zu h9,zt,rfl,?H⟩
     case m=>omega
     case N=>grind
     case H=>rw[htk,<- hB];rfl
  .intro hlt;have hlt:¬i<l.length:=zfd hlt;obtain rfl:i=l.length:=zo;refine zGF h3 ?_;refine zbN (zfr ?_ (by simp only[go_sem]<;>rfl));rw[zBF9];exact zh3 rfl (zAJ9 _) (zAE9 _) (by rw[zf0];omega) (zAE9 _)


theorem zAS(l:LN)(hw:∀w∈l,w<18446744073709551616)(hl:l.length<1000000):FR 84 [wv p l] (bv 0 (zcK l)):=by
 refine zfn (eG T84 func84) (Lb.bvs _) ?_;refine zG ?_;refine zcL 5 1 (i:=3) rfl ?_;simp only[lzy,zAN9,zAV9];refine zG ?_;refine ze (zbk (fun m s=>∃(i n:Nat) (G:LP),m=l.length-i/\i<=l.length/\n=8*i/\s.tm 0=wv p l/\s.tm 3=.sl 0 n 0 n (2*n) 1/\s.tm 4=iv i/\s.df=[]/\s.H=.row 5 1 n 0 (bl (zcK (l.take i)))::G) (n:=l.length) ?_ ?_)
 .exact⟨0,0,[],rfl,zAJ9 _,rfl,zt,zt,zt,rfl,rfl⟩
 .rintro m ⟨tm,df,H⟩ ⟨i,n,G,rfl,hi,hn,h0,h3,h4,rfl,rfl⟩;dsimp only at h0 h3 h4;refine zLh (zr2 h0 h4) ?_ ?_
  .intro hlt;have hlt:i<l.length:=ztd hlt;have hx:=zAA9 hlt;have hx2:=hw _ (zBK9 hlt);have htk:zcK (l.take (i+1))=zcK (l.take i)++zdG l[i]:=by rw[zBB9,hx];exact zoY _ _
   have hBl:(zcK (l.take i)).length=n:=by rw[zf0,zAT9];omega
   generalize l[i]=w at *
   have hxv:(l.map uv)[i]?=some (uv w):=zmg hx;generalize zcK (l.take i)=B at *
   refine zBb ?_;refine zGF (zr4 h0 h4 hxv hlt) ?_;refine ze (zbk (fun m s=>∃(k n X:Nat) (B':LN) (G:LP),m=8-k/\k<=8/\n=B'.length/\B'=B++(zdG w).take k/\X=w/2 ^ (8*k)/\s.tm 0=wv p l/\s.tm 3=.sl 0 n 0 n (2*n) 1/\s.tm 4=iv i/\s.tm 5=uv X/\s.tm 6=iv k/\s.df=[]/\s.H=.row 5 1 n 0 (bl B')::G) (n:=8) ?_ ?_)
   .exact⟨0,n,w,B,G,rfl,zAJ9 _,hBl.symm,by simp,by simp,zu h0,zu h3,zu h4,zt,zt,rfl,rfl⟩
   .clear h0 h3 h4;rintro m ⟨tm,df,H⟩ ⟨k,n',X,B',G,rfl,hk,hn',hB,hX,h0,h3,h4,h5,h6,rfl,rfl⟩;dsimp only at *
    refine zLh h6 ?_ ?_
    .intro hlt8;have hlt8:k<8:=ztd hlt8;have hc:n'<10000000:=by rw[hn',hB,zAB9,zAT9];omega
     have hcap:(n'+1)*2<=140737488355328:=zo;have hX2:X<=w:=by rw[hX];exact zGA9 _ _
     have hrm:(X:Int).tmod 256=((X%256:Nat):Int):=rfl;have hqo:(X:Int).tdiv 256=((X/256:Nat):Int):=rfl;have hXs:X/256=w/2 ^ (8*(k+1)):=by rw[hX,Nat.div_div_eq_div_mul,show 8*(k+1)=8*k+8 by omega,Nat.pow_add]
     have hw8:IntKind.u8.wrap ((X%256:Nat):Int)=((X%256:Nat):Int):=by rw[zyc,Nat.mod_mod]
     have hbk:=zoW w k hlt8;rw[<- hX]at hbk;subst hn';refine zBb ?_;refine zGF (zr6 h3 h5 hrm hw8 hcap zcV) ?_;refine zJF (zr2 h5 hqo) ?_;refine zae ?_;refine zKF h6 ?_;refine⟨_,?m1,k+1,B'.length+1,X/256,B'++[X%256],?G1,rfl,hlt8,by simp,by grind,hXs,zu h0,zt,zu h4,zt,zt,rfl,?H1⟩
     case m1=>omega
     case H1=>unfold bl;rw[zBE9];rfl
    .intro hlt8;have hlt8:¬k<8:=zfd hlt8;obtain rfl:k=8:=zo;refine zae ?_;refine zKF h4 ?_;have hb8:(zdG w).take 8=zdG w:=zBR9 (by simp[zdG]);have hl8:(zdG w).length=8:=by simp[zdG]
     rw[hb8]at hB;refine⟨_,?mm,i+1,n',?G,rfl,hlt,?N,zu h0,zu h3,zt,rfl,?H⟩
     case mm=>omega
     case N=>grind
     case H=>rw[htk,<- hB]
  .intro hlt;have hlt:¬i<l.length:=zfd hlt;obtain rfl:i=l.length:=zo;refine zGF h3 ?_;refine zbN (zfr ?_ (by simp only[go_sem]<;>rfl));rw[zBF9];exact zh3 rfl (zAJ9 _) (zAE9 _) (by rw[zf0];omega) (zAE9 _)
theorem zDI(q:Nat)(a b:LN)(hl:a.length<1000000000):FR 85 [wv p a,wv q b] (.bool (decide (a=b))):=by
 refine zfn (eG T85 func85) (.bool _) ?_;refine zG ?_;refine zfc ?_ ?_ (by simp only[go_sem]<;>rfl)
 .intro hne;have hne:¬a.length=b.length:=fun e=>by grind
  refine zO ?_;exact zbp.bool (by grind)
 intro heq;have heq:a.length=b.length:=by
  have h2:(a.length:Int)=(b.length:Int):=by simpa using heq
  omega
 refine zr ?_;refine zG ?_;refine ze (zbk (fun m s=>∃(i:Nat),m=a.length-i/\i<=a.length/\decide (a=b)=decide (a.drop i=b.drop i)/\s.tm 0=wv p a/\s.tm 1=wv q b/\s.tm 5=iv i/\s.df=[]/\s.H=[]) (n:=a.length) ?_ ?_)
 .exact⟨0,rfl,zAJ9 _,rfl,zt,zt,zt,rfl,rfl⟩
 .rintro m ⟨tm,df,H⟩ ⟨i,rfl,hi,hd,h0,h1,h5,rfl,rfl⟩;dsimp only at h0 h1 h5;refine zLh (zr2 h0 h5) ?_ ?_
  .intro hlt;have hlt:i<a.length:=ztd hlt;have hltb:i<b.length:=zo;have hda:a.drop i=a[i]::a.drop (i+1):=zAM9 hlt;have hdb:b.drop i=b[i]::b.drop (i+1):=zAM9 hltb;have hxa:(a.map uv)[i]?=some (uv a[i]):=by rw[zAF9,zAA9 hlt];rfl
   have hxb:(b.map uv)[i]?=some (uv b[i]):=by rw[zAF9,zAA9 hltb];rfl
   rw[hda,hdb]at hd;generalize a[i]=x at *
   generalize b[i]=y at *
   refine zBb ?_;refine zBd ?_;refine zQF (zr7 h0 h1 h5 hxa hxb hlt hltb) ?_;refine zfc ?_ ?_
   .intro hne;have hne:¬x=y:=fun e=>by grind
    refine zO ?_;exact zbp.bool (by grind)
   intro he;have he:x=y:=by
    have h2:(x:Int)=(y:Int):=by simpa using he
    omega
   refine zr ?_;refine zae ?_;refine zKF h5 ?_;exact⟨_,by omega,i+1,rfl,hlt,by grind,zu h0,zu h1,zt,rfl,rfl⟩
  .intro hlt;have hlt:¬i<a.length:=zfd hlt;refine zO ?_;exact zbp.bool (by grind)


theorem znT(h:a<18446744073709551616):(a:Int)<18446744073709551616:=zo
theorem zc0{b:Nat}(h1:a<18446744073709551616)(h2:b<18446744073709551616):sc2 (zc6 .xor) [.int .u64 (a:Int),.int .u64 (b:Int)]=some (.int .u64 (Nat.xor a b:Nat)):=zaT (zDO9 _) (znT h1) (zDO9 _) (znT h2)
theorem zz4{x:Nat}(hx:x<18446744073709551616):sc2 (zc6 .or) [.int .u64 (x*2 ^ n%18446744073709551616:Nat),.int .u64 (x/2 ^ (64-n):Nat)]=some (.int .u64 (zgV x n:Nat)) :=
 zbK (zDO9 _) (znT zo) (zDO9 _) (znT (zHJ9 (zGA9 _ _) hx))
theorem zF3(hx:x<18446744073709551616)(hn:n<=64):FR 234 [uv x,uv n] (uv (zgV x n)):=by
 refine zfn (eG T234 func234) (.int _ _) ?_;have et:((64:Int)-(n:Int)).toNat=64-n:=zo;have hr:=zz4 n hx;refine zOF (zr2 et hr) ?_;exact zbp.int rfl
theorem zGz(hx:x<18446744073709551616)(hn:n<64):FR 357 [uv x,iv n] (uv (zgV x n)):=by
 refine zfn (eG T357 func357) (.int _ _) ?_;have et:((64:Int)-(n:Int)).toNat=64-n:=zo;have el:Nat.land n 63=n:=by
  have:=Nat.and_two_pow_sub_one_eq_mod n 6;have h2:n%2 ^ 6=n:=zDA9 zo;exact this.trans h2
 have hr:=zz4 n hx;refine zOF (zr3 et el hr) ?_;exact zbp.int rfl
theorem zjx(hx:x<18446744073709551616)(hn:n<=64):∃V,zgV x n=V/\V<18446744073709551616/\FR 234 [uv x,uv n] (uv V):=⟨_,rfl,zhC n hx,zF3 x n hx hn⟩
theorem zg2(hx:x<18446744073709551616)(hn:n<64):∃V,zgV x n=V/\V<18446744073709551616/\FR 357 [uv x,iv n] (uv V):=⟨_,rfl,zhC n hx,zGz x n hx hn⟩
def zuH(v:Sip):LQ:=[uv v.a,uv v.b,uv v.c,uv v.d]
theorem zgv(a b:Nat):IntKind.u64.wrap ((a:Int)+(b:Int))=((zd4 a b:Nat):Int):=by
 have:=zpt (a+b);rw[Int.natCast_add]at this;exact this
theorem Lb.sip:Lb (.agg (zuH v)):=.agg fun x hx=>by
 simp[zuH]at hx;rcases hx with rfl|rfl|rfl|rfl<;>exact .int _ _
theorem zCj(hv:v.ok):FR 180 [.agg (zuH v)] (.agg (zuH v.rnd)):=by
 refine zfn (eG T180 func180) (Lb.sip _) ?_;obtain⟨a,b,c,d⟩:=v;obtain⟨ha,hb,hc,hd⟩:=hv;dsimp only at ha hb hc hd;unfold zuH;dsimp only;refine zG ?_;refine zaB ?_;refine zxj (s1:=?_) ?_ ?_ rfl ?_;rotate_left 1;(first|exact trivial|(simp only[go_sem]));(simp(maxSteps:=2000000) (disch:=omega)only[go_sem]<;>rfl);refine zb4 ?_;simp only[go_sem];(repeat(first|refine zHW ?_|refine zbj zgv ?_));have ga:=zdg a b;generalize hA:zd4 a b=A at *
 obtain⟨V1,e1,g1,k1⟩:=zjx b 13 hb zy;refine zI ?_;refine zca k1 ?_;refine zNF (zc0 g1 ga) ?_;have gb:=zcn g1 ga;generalize hB:Nat.xor V1 A=B at *
 obtain⟨V2,e2,g2,k2⟩:=zjx A 32 ga zy;refine zM k2 ?_;(repeat(first|refine zHW ?_|refine zbj zgv ?_));have gc:=zdg c d;generalize hC:zd4 c d=C at *
 obtain⟨V3,e3,g3,k3⟩:=zjx d 16 hd zy;refine zI ?_;refine zca k3 ?_;refine zNF (zc0 g3 gc) ?_;have gd:=zcn g3 gc;generalize hD:Nat.xor V3 C=D at *
 (repeat(first|refine zHW ?_|refine zbj zgv ?_));have ga:=zdg V2 D;generalize hA3:zd4 V2 D=A3 at *
 obtain⟨V4,e4,g4,k4⟩:=zjx D 21 gd zy;refine zI ?_;refine zca k4 ?_;refine zNF (zc0 g4 ga) ?_;have gd2:=zcn g4 ga;generalize hD2:Nat.xor V4 A3=D2 at *
 (repeat(first|refine zHW ?_|refine zbj zgv ?_));have gc2:=zdg C B;generalize hC2:zd4 C B=C2 at *
 obtain⟨V5,e5,g5,k5⟩:=zjx B 17 gb zy;refine zI ?_;refine zca k5 ?_;refine zNF (zc0 g5 gc2) ?_;generalize hE:Nat.xor V5 C2=B2 at *
 obtain⟨V6,e6,g6,k6⟩:=zjx C2 32 gc2 zy;refine zM k6 ?_;refine zO ?_;have e:Sip.rnd ⟨a,b,c,d⟩=⟨A3,B2,V6,D2⟩:=by
  unfold Sip.rnd Sip.h1;dsimp only;rw[hA,e1,hB,e2];unfold Sip.h2;dsimp only;rw[hC,e3,hD];unfold Sip.h3;dsimp only;rw[hA3,e4,hD2];unfold Sip.h4;dsimp only;rw[hC2,e5,hE,e6]
 rw[e];exact zLF
@[reducible] def zG0:PV:=.agg [iv 13,iv 32,iv 16,iv 21,iv 17,iv 32]
@[reducible] def zc9:zc:=.row 428 6 0 0 [.agg [iv 13,iv 32,iv 16,iv 21,iv 17,iv 32]]
theorem zEd:FR 355 [] zG0:=by
 refine zfn (eG T355 func355) (.agg fun x hx=>by simp at hx;rcases hx with rfl|rfl|rfl|rfl|rfl|rfl<;>exact .int _ _) ?_;refine zO ?_;exact zLF


theorem zfM{X:List α}{x:α}(h:l[i]?=some x):(l++X)[i]?=some x:=by grind
theorem zHZ(s n:Nat)(K:LP)(e z:Nat)(a b c d A B V:Nat)(R:LQ){x y r:Nat}{i j m:Int}{L L2:LQ}(hq:(x=a/\y=b/\r=13/\i=0/\j=1/\m=0/\L=uv A::uv b::uv c::uv d::R/\L2=uv A::uv B::uv c::uv d::R)\/(x=c/\y=d/\r=16/\i=2/\j=3/\m=2/\L=uv a::uv b::uv A::uv d::R/\L2=uv a::uv b::uv A::uv B::R)\/(x=a/\y=d/\r=21/\i=0/\j=3/\m=3/\L=uv A::uv b::uv c::uv d::R/\L2=uv A::uv b::uv c::uv B::R)\/(x=c/\y=b/\r=17/\i=2/\j=1/\m=4/\L=uv a::uv b::uv A::uv d::R/\L2=uv a::uv B::uv A::uv d::R))(hx:x<18446744073709551616)(hy:y<18446744073709551616)(hA:zd4 x y=A)(hV:zgV y r=V)(hB:Nat.xor V A=B)(hK:K[s]?=some (.row e z 0 0 [.agg (uv a::uv b::uv c::uv d::R)]))(hz:4+R.length=z)(hn:K.length=n):FO ET 356 [iv i,iv j,iv m,.ptr n 0 0 0 1,.ptr (n+1) 0 0 0 6] (K++[.row 427 1 0 0 [.ptr s 0 0 0 4],zc9]) false fun e' H'=>e'=.ret (.tuple [])/\H'=K.set s (.row e z 0 0 [.agg L2])++[.row 427 1 0 0 [.ptr s 0 0 0 4],zc9]:=by
 subst hn;have hs:s<K.length:=(zAC9.1 hK).1;have k1:∀X,(K++X)[s]?=_:=fun X=>zfM hK;have k2:∀K':LP,K'.length=K.length->(K'++[.row 427 1 0 0 [.ptr s 0 0 0 4],zc9])[K.length]?=some (.row 427 1 0 0 [.ptr s 0 0 0 4]):=fun K' h=>by grind
 have k3:∀K':LP,K'.length=K.length->(K'++[.row 427 1 0 0 [.ptr s 0 0 0 4],zc9])[K.length+1]?=some zc9:=fun K' h=>by simp_all
 have k4:∀X y,(K++X).set s y=K.set s y++X:=fun X y=>List.set_append_left _ _ hs;have k2':=k2 K rfl;have k3':=k3 K rfl;have ga:=zdg x y;have hw:=zgv x y;rw[hA]at ga hw;obtain⟨V',e1,g1,q1⟩:=zg2 y r hy zo;have e1:=e1.symm.trans hV;subst e1;clear hV hA;subst hz;have z1:∀i,i<4->i+1<=R.length+1+1+1+1:=fun i h=>by omega
 have z2:4+R.length=R.length+1+1+1+1:=zo;have hK1:(K.set s (.row e (4+R.length) 0 0 [.agg L]))[s]?=_:=zAZ9 hs;have hl1:(K.set s (.row e (4+R.length) 0 0 [.agg L])).length=K.length:=zBT9 ..;have hset:∀r,(K.set s (.row e (4+R.length) 0 0 [.agg L])).set s r=K.set s r:=fun r=>zEM9 ..;simp only[z2]at hK1 hl1 hset;generalize hKe:K.set s (.row e (R.length+1+1+1+1) 0 0 [.agg L])=K1 at *
 rcases hq with⟨rfl,rfl,rfl,rfl,rfl,rfl,hL,rfl⟩|⟨rfl,rfl,rfl,rfl,rfl,rfl,hL,rfl⟩|⟨rfl,rfl,rfl,rfl,rfl,rfl,hL,rfl⟩|⟨rfl,rfl,rfl,rfl,rfl,rfl,hL,rfl⟩
 all_goals
  refine zro (eG T356 func356) ?_;refine zHW ?_;refine zaB ?_;refine zH5 (zr6 k1 k2' k4 hw z2 k3') ?_;refine zQF k1 ?_;simp only[z2];rw[<- hL,hKe];subst hL;have k1:∀X,(K1++X)[s]?=_:=fun X=>zfM hK1;have k2':=k2 K1 hl1;have k3':=k3 K1 hl1;have k4:∀X y,(K1++X).set s y=K1.set s y++X:=fun X y=>List.set_append_left _ _ zo;have hx2:=zc0 g1 ga;refine zaB ?_;refine zcu (zr3 k1 k2' k3') q1 ?_;refine zcs (zr3 k1 k4 hx2) ?_;refine zQF k1 ?_;refine zfg (vs:=[]) rfl ?_
  simp_all
theorem zuR{x:α}(h:l[i]?=some x):l=l.set i x:=by
 obtain⟨hi,rfl⟩:=zAC9.1 h
 simp_all
@[reducible] def zj5 (e:Nat) (R:LQ) (a b c d:Nat):zc:=.row e (R.length + 1 + 1 + 1 + 1) 0 0 [.agg (uv a::uv b::uv c::uv d::R)]
variable {E:Env}{args:LQ}(k:zc)(p q b id p0:Nat)(v:Sip)(k0 a p1:Nat)(r:zfm)(s:LN)(u:Sip)(d k1:Nat)(l l0 l1:LN)(w n:Nat)
theorem ztB(s m e:Nat)(K:LP)(v:Sip)(R:LQ)(hv:v.ok)(hK:K[s]?=some (zj5 e R v.a v.b v.c v.d))(hR:∀x∈R,NR K.length x)(hm:m<100):FO ET 343 [.ptr s 0 0 0 4,iv m] K false fun e' H'=>e'=.ret (.tuple [])/\H'=K.set s (zj5 e R (v.rnds m).a (v.rnds m).b (v.rnds m).c (v.rnds m).d):=by
 have hs:s<K.length:=(zAC9.1 hK).1;have j1:∀r,(K.set s r)[s]?=some r:=fun r=>zAZ9 hs;have k1:∀r X,(K.set s r++X)[s]?=some r:=fun r X=>zfM (j1 r);have k2:∀r,(K.set s r++[.row 427 1 0 0 [.ptr s 0 0 0 4],zc9])[K.length]?=some (.row 427 1 0 0 [.ptr s 0 0 0 4]):=fun r=>by simp
 have k3:∀r,(K.set s r++[.row 427 1 0 0 [.ptr s 0 0 0 4],zc9])[K.length+1]?=some zc9:=fun r=>by simp
 have k4:∀r X y,(K.set s r++X).set s y=K.set s y++X:=fun r X y=>by simp_all
 have hl:∀r,(K.set s r).length=K.length:=fun r=>zBT9 ..;have hz:4+R.length=R.length+1+1+1+1:=zo;refine FO.gc ?_;refine zro (eG T343 func343) ?_;refine zGI ?_;refine zca zEd ?_;have k6:(K++[zc.row 427 1 0 0 [.ptr s 0 0 0 4]]).length=K.length+1:=by simp
 refine zN ?_;rw[k6];(repeat(first|refine zHW ?_|refine zgo ?_ (by simp(disch:=omega)only[go_sem]<;>rfl)));have k9:K++[zc.row 427 1 0 0 [.ptr s 0 0 0 4]]++[zc9]=K++[.row 427 1 0 0 [.ptr s 0 0 0 4],zc9]:=by simp
 have hsame:K=K.set s (zj5 e R v.a v.b v.c v.d):=zuR hK;refine ze (zbk (fun q st=>∃(i:Nat) (u:Sip),q=m-i/\i<=m/\v.rnds m=u.rnds (m-i)/\u.ok/\st.tm 2=.ptr K.length 0 0 0 1/\st.tm 4=.ptr (K.length+1) 0 0 0 6/\st.tm 5=.fn 356 [.ptr K.length 0 0 0 1,.ptr (K.length+1) 0 0 0 6]/\st.tm 8=iv m/\st.tm 9=iv i/\st.df=[]/\st.H=K.set s (zj5 e R u.a u.b u.c u.d)++[.row 427 1 0 0 [.ptr s 0 0 0 4],zc9]) (n:=m) ?_ ?_)
 .exact⟨0,v,rfl,zAJ9 _,rfl,hv,zt,zt,zt,zt,zt,rfl,by grind⟩
 .rintro q ⟨tm,df,H⟩ ⟨i,u,rfl,hi,hu,hok,h2,h4,h5,h8,h9,rfl,rfl⟩;dsimp only at *
  refine zLh (zr2 h8 h9) ?_ ?_
  .intro hlt;have hlt:i<m:=ztd hlt;rw[show m-i=(m-(i+1))+1 by omega,Sip.rnds]at hu;have hok2:=Sip.rnd_ok hok;obtain⟨a,b,c,d⟩:=u;obtain⟨ha,hb,hc,hd⟩:=hok;dsimp only at *
   obtain⟨V1,e1,g1,q1⟩:=zg2 b 13 hb zy;obtain⟨A,hA⟩:∃A,zd4 a b=A:=⟨_,rfl⟩
   have gA:=zdg a b;rw[hA]at gA;obtain⟨B,hB⟩:∃B,Nat.xor V1 A=B:=⟨_,rfl⟩
   have gB:=zcn g1 gA;rw[hB]at gB;obtain⟨A2,e2,g2,q2⟩:=zg2 A 32 gA zy;obtain⟨V3,e3,g3,q3⟩:=zg2 d 16 hd zy;obtain⟨C,hC⟩:∃C,zd4 c d=C:=⟨_,rfl⟩
   have gC:=zdg c d;rw[hC]at gC;obtain⟨D,hD⟩:∃D,Nat.xor V3 C=D:=⟨_,rfl⟩
   have gD:=zcn g3 gC;rw[hD]at gD;obtain⟨V4,e4,g4,q4⟩:=zg2 D 21 gD zy;obtain⟨A3,hA3⟩:∃A3,zd4 A2 D=A3:=⟨_,rfl⟩
   obtain⟨D2,hD2⟩:∃D2,Nat.xor V4 A3=D2:=⟨_,rfl⟩
   obtain⟨V5,e5,g5,q5⟩:=zg2 B 17 gB zy;obtain⟨C2,hC2⟩:∃C2,zd4 C B=C2:=⟨_,rfl⟩
   have gC2:=zdg C B;rw[hC2]at gC2;obtain⟨B2,hB2⟩:∃B2,Nat.xor V5 C2=B2:=⟨_,rfl⟩
   obtain⟨C3,e6,g6,q6⟩:=zg2 C2 32 gC2 zy;have hr:Sip.rnd ⟨a,b,c,d⟩=⟨A3,B2,C3,D2⟩:=by
    unfold Sip.rnd Sip.h1;dsimp only;rw[hA,e1,hB,e2];unfold Sip.h2;dsimp only;rw[hC,e3,hD];unfold Sip.h3;dsimp only;rw[hA3,e4,hD2];unfold Sip.h4;dsimp only;rw[hC2,e5,hB2,e6]
   rw[hr]at hu hok2;clear hr;refine zBb ?_;refine zB ?_;refine zIF h5 ?_;refine zco (zHZ s K.length (K.set s (zj5 e R a b c d)) e _ a b c d A B V1 R (.inl ⟨rfl,rfl,rfl,rfl,rfl,rfl,rfl,rfl⟩) ha hb hA e1 hB (j1 _) hz (hl _)) ?_ (by first|rfl|(simp only[go_sem,h5]<;>rfl)) (by simp only[go_sem]<;>rfl);rintro e' H' ⟨rfl,rfl⟩;refine zcd ?_;rw[zEM9];refine zBd ?_;refine zcu (zr5 k1 k2 k3 h2 h4) q2 ?_;refine zcs (zr3 k1 k4 h4) ?_;refine zQF k1 ?_;refine zB ?_;refine zIF h5 ?_;refine zco (zHZ s K.length (K.set s (zj5 e R A2 B c d)) e _ A2 B c d C D V3 R (.inr (.inl ⟨rfl,rfl,rfl,rfl,rfl,rfl,rfl,rfl⟩)) hc hd hC e3 hD (j1 _) hz (hl _)) ?_ (by first|rfl|(simp only[go_sem,h5]<;>rfl)) (by simp only[go_sem]<;>rfl);rintro e' H' ⟨rfl,rfl⟩;refine zcd ?_;rw[zEM9];refine zB ?_;refine zIF h5 ?_;refine zco (zHZ s K.length (K.set s (zj5 e R A2 B C D)) e _ A2 B C D A3 D2 V4 R (.inr (.inr (.inl ⟨rfl,rfl,rfl,rfl,rfl,rfl,rfl,rfl⟩))) g2 gD hA3 e4 hD2 (j1 _) hz (hl _)) ?_ (by first|rfl|(simp only[go_sem,h5]<;>rfl)) (by simp only[go_sem]<;>rfl);rintro e' H' ⟨rfl,rfl⟩;refine zcd ?_;rw[zEM9];refine zB ?_;refine zIF h5 ?_;refine zco (zHZ s K.length (K.set s (zj5 e R A3 B C D2)) e _ A3 B C D2 C2 B2 V5 R (.inr (.inr (.inr ⟨rfl,rfl,rfl,rfl,rfl,rfl,rfl,rfl⟩))) gC gB hC2 e5 hB2 (j1 _) hz (hl _)) ?_ (by first|rfl|(simp only[go_sem,h5]<;>rfl)) (by simp only[go_sem]<;>rfl);rintro e' H' ⟨rfl,rfl⟩;refine zcd ?_;rw[zEM9];refine zaB ?_;refine zcu (zr5 k1 k2 k3 h2 h4) q6 ?_;refine zcs (zr3 k1 k4 h4) ?_;refine zQF k1 ?_;refine zae ?_;refine zKF h9 ?_;exact⟨_,by omega,i+1,⟨A3,B2,C3,D2⟩,rfl,hlt,hu,hok2,by simp[upd,h2],by simp[upd,h4],by simp[upd,h5],by simp[upd,h8],by simp[upd],rfl,rfl⟩
  .intro hlt;have hlt:¬i<m:=zfd hlt;obtain rfl:i=m:=zo;rw[zGV9,Sip.rnds]at hu;rw[hu];simp only[zgB,zgz,if_true];refine zfg (vs:=[]) rfl ?_;refine⟨_,_,⟨rfl,hl _,fun id o ho=>?_⟩,NR.tuple fun x hx=>(by cases hx),rfl,rfl⟩
   by_cases he:s=id
   .subst he;rw[j1]at ho
    cases ho
    refine .inr fun x hx=>?_;simp only[zBQ9,List.flatMap_nil,zCY9,PV.cells,zBA9]at hx;rcases hx with rfl|rfl|rfl|rfl|hx
    .exact .int _ _
    .exact .int _ _
    .exact .int _ _
    .exact .int _ _
    .exact hR x hx
   grind


theorem zvu(s e w:Nat)(K:LP)(v:Sip)(R:LQ)(hv:v.ok)(hw:w<18446744073709551616)(hK:K[s]?=some (zj5 e R v.a v.b v.c v.d))(hR:∀x∈R,NR K.length x):FO ET 342 [.ptr s 0 0 0 4,uv w] K false fun e' H'=>e'=.ret (.tuple [])/\H'=K.set s (zj5 e R (v.into w).a (v.into w).b (v.into w).c (v.into w).d):=by
 have hs:s<K.length:=(zAC9.1 hK).1;have j1:∀r,(K.set s r)[s]?=some r:=fun r=>zAZ9 hs;have j2:∀r y,(K.set s r).set s y=K.set s y:=fun r y=>zEM9 ..;obtain⟨D,hD⟩:∃D,Nat.xor v.d w=D:=⟨_,rfl⟩
 have gD:=zcn hv.d hw;have x1:=zc0 hv.d hw;rw[hD]at gD x1;have ho:Sip.ok ⟨v.a,v.b,v.c,D⟩:=⟨hv.a,hv.b,hv.c,gD⟩
 have e1:v.into w=(Sip.rnds ⟨v.a,v.b,v.c,D⟩ 2).low w:=by unfold Sip.into;rw[hD]
 have ho2:=Sip.rnds_ok (n:=2) ho;have hr:=ztB s 2 e (K.set s (zj5 e R v.a v.b v.c D)) ⟨v.a,v.b,v.c,D⟩ R ho (j1 _) (by simpa using hR) zy;generalize Sip.rnds ⟨v.a,v.b,v.c,D⟩ 2=u at *
 obtain⟨A,hA⟩:∃A,Nat.xor u.a w=A:=⟨_,rfl⟩
 have x2:=zc0 ho2.a hw;rw[hA]at x2;have e2:u.low w=⟨A,u.b,u.c,u.d⟩:=by unfold Sip.low;rw[hA]
 rw[e1,e2];simp only[j2]at hr;obtain⟨a,b,c,d⟩:=v;obtain⟨a',b',c',d'⟩:=u;dsimp only at hK x1 x2 hr⊢;refine zro (eG T342 func342) ?_;refine zHW ?_;refine zaB ?_;refine zcs (zr2 hK x1) ?_;refine zQF j1 ?_;refine zB ?_;refine zI ?_;refine zco hr ?_;rintro e' H' ⟨rfl,rfl⟩;refine zcd ?_;refine zaB ?_;refine zcs (zr3 j1 j2 x2) ?_;refine zQF j1 ?_;refine zfg (vs:=[]) rfl ?_;exact⟨rfl,rfl⟩
theorem zGx(h0:k0<18446744073709551616)(h1:k1<18446744073709551616)(H:LP)(v:Sip)(hv:Sip.new k0 k1=v):FO ET 317 [.agg [uv k0,uv k1]] H false fun e' H'=>e'=.ret (.ptr (H.length+1) 0 0 0 7)/\H'=H++[.row 30 2 0 0 [.agg [uv k0,uv k1]],.row 410 7 0 0 [.agg [uv v.a,uv v.b,uv v.c,uv v.d,.nilsl,iv 0,.bool true]]]:=by
 subst hv;have x1:=zc0 h0 (b:=8317987319222330741) zy;have x2:=zc0 h1 (b:=7237128888997146477) zy;have x3:=zc0 h0 (b:=7816392313619706465) zy;have x4:=zc0 h1 (b:=8387220255154660723) zy;unfold Sip.new;dsimp only;generalize Nat.xor k0 8317987319222330741=a at *
 generalize Nat.xor k1 7237128888997146477=b at *
 generalize Nat.xor k0 7816392313619706465=c at *
 generalize Nat.xor k1 8387220255154660723=d at *
 have e1:((8317987319222330741:Nat):Int)=8317987319222330741:=rfl;have e2:((7237128888997146477:Nat):Int)=7237128888997146477:=rfl;have e3:((7816392313619706465:Nat):Int)=7816392313619706465:=rfl;have e4:((8387220255154660723:Nat):Int)=8387220255154660723:=rfl;rw[e1]at x1;rw[e2]at x2;rw[e3]at x3;rw[e4]at x4;have k1:∀x,(H++[x])[H.length]?=some x:=fun x=>by simp
 refine zro (eG T317 func317) ?_;refine zOF (zr5 x1 x2 x3 x4 k1) ?_;exact⟨by simp,by simp⟩
theorem zxS(s e:Nat)(K:LP)(a b c d L:PV)(n:Int)(hK:K[s]?=some (.row e 7 0 0 [.agg [a,b,c,d,L,iv n,.bool true]])):FO ET 339 [.ptr s 0 0 0 7] K false fun e' H'=>e'=.ret (.bool false)/\H'=K:=by
 refine zro (eG T339 func339) ?_;refine zOF hK ?_;exact⟨rfl,rfl⟩


theorem zwY(p:Nat)(l:LN)(hl:l.length<1000000)(n:Nat)(hn:n=(l.length+7)/8)(P:Nat->LP)(hy:∀i,i<n->FY ET id [bv p ((l.drop (8*i)).take 8)] (P i) fun r H'=>r=true/\H'=P (i+1)):
  FO ET 361 [.yield id,.elem [bv p l],.elem [iv 8]] (P 0) false fun e H'=>e=.ret (.tuple [])/\H'=P n:=by
 refine zro (eG T361 func361) ?_;refine zG ?_;refine ze (zbk (fun m s=>∃i:Nat,m=l.length-8*i/\i<=n/\s.tm 0=.yield id/\s.tm 1=.elem [bv p l]/\s.tm 2=.elem [iv 8]/\s.tm 4=iv (8*i:Nat)/\s.df=[]/\s.H=P i) (n:=l.length) ?_ ?_)
 .exact⟨0,by simp[upd,zn]⟩
 .rintro m ⟨tm,df,H⟩ ⟨i,rfl,hi,h0,h1,h2,h4,rfl,rfl⟩;dsimp only at *
  refine zLh (zr5 h0 h1 h2 h4 zcV) ?_ ?_
  .intro hlt;have hlt:8*i<l.length:=ztd hlt;have hic:i<n:=zo;refine zBb ?_;refine zBd ?_;have a1:(((8*i:Nat):Int)).toNat=8*i:=zo;have a2:min (8:Int) ((l.length-8*i:Nat):Int)=((min 8 (l.length-8*i):Nat):Int):=zo;have a3:(0:Int)<=((8*i:Nat):Int):=zo;have a4:8*i<=l.length:=zo;refine zdl ?_ (by simp(disch:=omega)only[go_sem,h1,h2,h4,a1,a2,a3,a4,zBJ9,zcV]<;>rfl);refine zb4 ?_;simp only[go_sem];obtain⟨q,hq⟩:∃q,q=min 8 (l.length-8*i):=⟨_,rfl⟩
   rw[<- hq];have b1:((8*i:Nat):Int)+(q:Nat)=((8*i+q:Nat):Int):=zo;have b2:8*i+q<=l.length:=zo;have b3:8*i<=8*i+q:=zo;have b4:0<l.length:=zo;have b5:((8*i:Nat):Int)+8=((8*(i+1):Nat):Int):=zo;have c1:List.drop (8*i) (List.take (8*i+q) (bl l))=bl ((l.drop (8*i)).take 8):=by
    unfold bl;rw[zCN9,zCA9,zDJ9,zDR9,hq];rw[<- (show (l.map fun n:Nat=>PV.int .u8 n).length=l.length from zAP9 ..),<- zBJ9,zGO9 (i:=8)]
   refine zBr ?_;refine zb2 (zh5 h0 h1 h2 h4 b1 b2 b3 b4 c1 zcV) ?_;refine zlT (id:=id) (vs:=[bv p ((l.drop (8*i)).take 8)]) rfl (by simp only[go_sem]) (FY.mono (hy i hic) fun r H' hh=>?_);obtain⟨rfl,rfl⟩:=hh;refine zN ?_;refine zH ?_;refine zJF (zr3 h2 h4 b5) ?_;refine⟨_,?_,i+1,rfl,by omega,zu h0,zu h1,zu h2,zt,rfl,rfl⟩;omega
  .intro hlt;have hlt:¬8*i<l.length:=zfd hlt;have hic:i=n:=zo;refine zfh rfl ⟨rfl,by rw[hic]⟩
theorem zCm:FP ET 354 [bv p l,iv 8] (.ret (.fn 361 [.elem [bv p l],.elem [iv 8]])):=by
 refine zfp (eG T354 func354) ?_;refine zT ?_;refine zSk ?_;refine zO ?_;refine Frz.fnL ⟨.ptr (w:=bv p l) rfl (zAE9 _) rfl fun j x y hx hy=>?_,.ptr (w:=iv 8) rfl (zAE9 _) rfl fun j x y hx hy=>?_,trivial⟩
 .cases j with
  | zero=>simp[PV.cells]at hx hy;subst hx;subst hy;exact Frz.list _ _ _
  | succ j=>simp at hy
 .cases j with
  | zero=>simp[PV.cells]at hx hy;subst hx;subst hy;exact Frz.int _ _
  | succ j=>simp at hy
theorem zCo:FP ET 341 [bv p l] (.ret (.fn 353 [.elem [bv p l]])):=by
 refine zfp (eG T341 func341) ?_;refine zO ?_;refine Frz.fnL ⟨.ptr (w:=bv p l) rfl (zAE9 _) rfl fun j x y hx hy=>?_,trivial⟩
 cases j with
 | zero=>simp[PV.cells]at hx hy;subst hx;subst hy;exact Frz.list _ _ _
 | succ j=>simp at hy
def whA:zbS:=.region [⟨some 3,.mov,[.tmp 14],none⟩]
def whB:zbS:=.block 1 (.seq (.region [⟨some 15,.mov,[.tmp 3],none⟩,⟨some 16,.call,[.fn 246,.tmp 15],none⟩,⟨some 4,.mov,[.tmp 16],none⟩]) (.seq (.drawn [⟨[],[⟨some 17,.load false 1,[.tmp 2],none⟩,⟨some 18,.mov,[.tmp 4],none⟩,⟨some 19,.iaddr 1,[.new 18,.const (.int .i64 (.ofNat 0))],none⟩,⟨some 20,.load false 1,[.new 19],none⟩],some ⟨some 21,.call,[.new 17,.new 20],none⟩⟩,⟨[],[⟨some 22,.un .not,[.new 21],none⟩],none⟩] [17,18,19,20,21,22]) (.cond (.tmp 22) .ret .skip)))
theorem zFv(N id p i:Nat)(b:LN)(hb:zbT b)(hi:8*i+8<=b.length)(tm:Nat->PV)(h2:tm 2=.ptr N 0 0 0 1)(K K':LP)(hK:K.length=N)(hK':K'.length=N)
  (hy:∀G,FY ET id [uv (zcc ((b.drop (8*i)).take 8))] (K++G) fun r H'=>r=true/\H'=K'++G) :
  FY ET (N+2) [bv p ((b.drop (8*i)).take 8)] (K++[.row 275 1 0 0 [.yield id],.dfr false,.loop .ready .norm tm [14] whA whB (N+1)]) fun r H'=>r=true/\H'=K'++[.row 275 1 0 0 [.yield id],.dfr false,.loop .ready .norm tm [14] whA whB (N+1)]:=by
 have q2:∀(K:LP) (_:K.length=N) (x y z:zc),(K++[x,y,z])[N+2]?=some z:=fun K h x y z=>by grind
 have q0:∀(x y z:zc),(K++[x,y,z])[N]?=some x:=fun x y z=>by simp_all
 have s2:∀(K:LP) (_:K.length=N) (x y z w:zc),(K++[x,y,z]).set (N+2) w=K++[x,y,w]:=fun K h x y z w=>by simp_all
 have hL:=zuD p ((b.drop (8*i)).take 8) ((hb.drop _).take _) (by grind);have hl:zdQ ((b.drop (8*i)).take 8)=[zcc ((b.drop (8*i)).take 8)]:=by
  have:((b.drop (8*i)).take 8).length=8:=by rw[zAT9,zBJ9];omega
  unfold zdQ;rw[this];simp[zCJ9,zFF9]
 rw[hl]at hL;generalize zcc ((b.drop (8*i)).take 8)=w at *
 refine ziE (tm:=tm) (ps:=[14]) (aS:=whA) (bo:=whB) (q2 K hK _ _ _) rfl ?_;refine zae ?_;refine zK ?_;refine⟨rfl,_,_,_,_,_,_,q2 K hK _ _ _,?_⟩;rw[s2 K hK];unfold whB;refine ze ?_;refine zB ?_;refine zM hL ?_;refine zBd ?_;refine zvV (s1:=?_) (id:=?_) (vs:=?_) ?_ ?_ rfl rfl ?_ ?_ ?_;rotate_left 3;(first|exact trivial|(simp only[go_sem,h2,q0]));(simp(disch:=omega)only[go_sem,h2,q0]<;>rfl);(first|rfl|(simp only[go_sem,h2,q0]<;>rfl));(simp only[go_sem,q0]<;>rfl);refine FY.mono (hy _) fun r H' hh=>?_;obtain⟨rfl,rfl⟩:=hh;refine⟨_,by simp only[go_sem]<;>rfl,?_⟩;refine zQF h2 ?_;refine zH ?_;simp only[zgz,reduceIte];exact⟨rfl,.busy,.norm,tm,[14],whA,whB,N+1,q2 K' hK' _ _ _,rfl,s2 K' hK' _ _ _ _⟩
theorem zuO(p:Nat)(b:LN)(hb:zbT b)(hl:b.length<1000000)(n:Nat)(hn:n=b.length/8)(P:Nat->LP)(hP:∀i,(P i).length=(P 0).length)(hN:∀(i k:Nat) (o:zc),(P i)[k]?=some o->NRO (P 0).length o)(hy:∀i G,i<n->FY ET id [uv (zcc ((b.drop (8*i)).take 8))] (P i++G) fun r H'=>r=true/\H'=P (i+1)++G):
  FO ET 353 [.yield id,.elem [bv p b]] (P 0) false fun e H'=>e=.ret (.tuple [])/\H'=P n:=by
 refine FO.gc ?_;refine zro (eG T353 func353) ?_;refine zG ?_;have hr:(b.length:Int).tmod 8=((b.length%8:Nat):Int):=rfl;have hs:(b.length:Int)-((b.length%8:Nat):Int)=((8*n:Nat):Int):=zo;have hle:8*n<=b.length:=zo;have hbt:bl (b.take (8*n))=(bl b).take (8*n):=by unfold bl;rw[zCN9]
 have hk:FP ET 354 [.list p 1 ((bl b).take (8*n)),iv 8] (.ret (.fn 361 [.elem [.list p 1 ((bl b).take (8*n))],.elem [iv 8]])):=by
  rw[<- hbt];exact zCm p (b.take (8*n))
 refine zIF (zr4 hr hs hle zcV) ?_;refine zcp hk ?_;refine zN ?_;refine ze ?_;refine zit (g:=361) (cap:=[.elem [.list p 1 ((bl b).take (8*n))],.elem [iv 8]]) (b:=false) (by simp only[go_sem]) ?_;have hP2:∀tm:Nat->PV,tm 2=.ptr (P 0).length 0 0 0 1->FO ET 361 [.yield ((P 0).length+2),.elem [.list p 1 (bl (b.take (8*n)))],.elem [iv 8]] (P 0++[.row 275 1 0 0 [.yield id],.dfr false,.loop .ready .norm tm [14] whA whB ((P 0).length+1)]) false fun e H'=>e=.ret (.tuple [])/\H'=P n++[.row 275 1 0 0 [.yield id],.dfr false,.loop .ready .norm tm [14] whA whB ((P 0).length+1)]:=fun tm h2=>by
  refine zwY ((P 0).length+2) p (b.take (8*n)) (by grind) n (by grind) (fun i=>P i++[.row 275 1 0 0 [.yield id],.dfr false,.loop .ready .norm tm [14] whA whB ((P 0).length+1)]) fun i hi=>?_;have hb8:=zFv (P 0).length id p i (b.take (8*n)) (hb.take _) (by grind) tm h2 (P i) (P (i+1)) (hP _) (hP _) fun G=>by
   have e8:((b.take (8*n)).drop (8*i)).take 8=(b.drop (8*i)).take 8:=by
    rw[zDJ9,zFF9,zDV9 zo]
   rw[e8];exact hy i G hi
  exact hb8
 simp only[hbt]at hP2;simp only[zAD9,zAS9,zAV9,zAB9,zAG9,zAN9];refine FO.mono (fun e H' he=>?_) (hP2 _ rfl);obtain⟨rfl,rfl⟩:=he;have q2:∀x y z,(P n++[x,y,z])[(P 0).length+2]?=some z:=fun x y z=>by simp_all
 have s2:∀x y z w,(P n++[x,y,z]).set ((P 0).length+2) w=P n++[x,y,w]:=fun x y z w=>by simp_all
 refine⟨⟨_,rfl⟩,.ready,.norm,_,_,_,_,_,by simp,q2 _ _ _,?_⟩;simp only[zgz,reduceIte];rw[s2];have q1:∀x y z,(P n++[x,y,z])[(P 0).length+(0+1)]?=some y:=fun x y z=>by simp_all
 have s1:∀x y z w,(P n++[x,y,z]).set ((P 0).length+(0+1)) w=P n++[x,w,z]:=fun x y z w=>by simp_all
 refine zBJ (vs:=[]) (q1 _ _ _) rfl ?_;rw[s1];exact⟨P n,_,⟨rfl,hP n,fun k o ho=>.inr (hN n k o ho)⟩,NR.tuple fun x hx=>(by cases hx),rfl,rfl⟩


theorem zEX{f:Nat}{g:LK->TH->Option (TE×TH)}(hf:E.funcs.get f=none)(hg:E.spec f=some g){us:LK}{h h':TH}{r:TE}(h1:g us h=some (r,h')):Ev E (fun C _=>C.fn f us h=some (r,h')):=⟨1,fun N hN d hd=>by
 obtain⟨d,rfl⟩:∃i,d=i+1:=⟨d-1,by omega⟩
 show Tw.zbm (EN E N) (zdX (EN E N) d) f us h=_;unfold Tw.zbm;rw[show (EN E N).funcs.get f=none from hf];dsimp only;rw[show (EN E N).spec f=some g from hg];exact h1⟩
theorem zFd(h0:0<n)(hn:n<=1000000)(H:LP):FO ET 352 [.nilsl,iv n] H true fun e' H'=>e'=.ret (.sl H.length 0 0 0 0 1)/\H'=H++[.row 5 1 0 0 []]:=fun B c h us hr ha=>by
 obtain⟨y1,_,rfl,v1,hv⟩:=ha.oc;obtain⟨y2,_,rfl,v2,hv⟩:=hv.oc;obtain rfl:=hv.oN;obtain rfl:y1=.nilsl:=by cases v1 with|pure v1=>cases v1;rfl
 obtain rfl:=v2.int_inv;obtain⟨m1,k1⟩:=zhh hr (e:=5) (ER.nil (R:=VR c h) (z:=1));refine⟨.ret (.sl h.next 0 0 0 0 1),h.push (zcW 5 []),_,_,_,zEX zjD (by rfl) ?_,⟨rfl,rfl⟩,m1,k1,?_,fun _ id x hx=>?_⟩
 .show zpO 5 [.nilsl,.int .i64 (.ofNat n)] h=_;unfold zpO;dsimp only;rw[zoi zo,zcG hn];rfl
 .have:=VR.sl (h:=h.push (zcW 5 [])) (g:=0) (o:=0) (n:=0) (q:=0) (add_same c H.length h.next 0 1);show VR _ _ _ _;simpa using this
 .rw[TH.gP,if_neg (by have:=(hr.own _ _ hx).2.1;omega)]
theorem zuw{R:FE->LP->Prop}(h0:0<l0.length+l1.length)(hl:l0.length+l1.length<=1000000)(hR:∀H g,H[0]?=some (.row 5 1 g 0 (bl (l0++l1)))->R (.ret (.sl 0 g 0 (l0++l1).length (2*(l0++l1).length) 1)) H):
  W ET ET.caught none T340.body ⟨zn [.list q 1 [bv p0 l0,bv p1 l1]],[],[]⟩ (zev ET T340 R):=by
 unfold T340 xT;dsimp only;refine zG ?_;refine ze (zbk (fun m s=>∃(i n:Nat),m=2-i/\i<=2/\n=(if i=0 then 0 else if i=1 then l0.length else l0.length+l1.length)/\s.tm 0=.list q 1 [bv p0 l0,bv p1 l1]/\s.tm 3=iv n/\s.tm 9=.list q 1 [bv p0 l0,bv p1 l1]/\s.tm 10=iv 2/\s.tm 11=iv i/\s.df=[]/\s.H=[]) (n:=2) ?_ ?_)
 .exact⟨0,0,rfl,by omega,rfl,zt,zt,zt,zt,zt,rfl,rfl⟩
 .rintro m ⟨tm,df,H⟩ ⟨i,n,rfl,hi,hn,h0',h3,h9,h10,h11,rfl,rfl⟩;dsimp only at h0' h3 h9 h10 h11;refine zLh (zr2 h10 h11) ?_ ?_
  .intro hlt;have hlt:i<2:=ztd hlt;obtain⟨p,l,hx⟩:∃p l,([bv p0 l0,bv p1 l1]:LQ)[i]?=some (bv p l)/\l.length+n=(if i+1=0 then 0 else if i+1=1 then l0.length else l0.length+l1.length):=by
    grind
   obtain⟨hx,hs⟩:=hx;have hs1:l.length+n<=1000000:=by rw[hs];split;omega;grind
   refine zBb ?_;refine zGF (zr5 h3 h9 h11 hx zcV) ?_;have hneg:decide ((n:Int)+(l.length:Int)<0)=false:=decide_eq_false zo;refine zfc ?_ ?_
   .intro h;rw[hneg]at h;cases h
   intro _;refine zr ?_;refine zae ?_;refine zKF h11 ?_;refine⟨_,by omega,i+1,l.length+n,rfl,hlt,hs,zu h0',by simp[upd];omega,zu h9,zu h10,zt,rfl,rfl⟩
  .intro hlt;have hlt:¬i<2:=zfd hlt;obtain rfl:i=2:=zo;have hn:n=l0.length+l1.length:=hn;rw[<- hn]at h0 hl;refine zG ?_;refine zIF h3 ?_;refine zco (zFd n h0 hl []) ?_;rintro e' H' ⟨rfl,rfl⟩;refine zN ?_;refine zGF h0' ?_;refine ze (zbk (fun m s=>∃(i g:Nat) (L:LN),m=2-i/\i<=2/\L=(if i=0 then[]else if i=1 then l0 else l0++l1)/\s.tm 6=.sl 0 g 0 L.length (2*L.length) 1/\s.tm 25=.list q 1 [bv p0 l0,bv p1 l1]/\s.tm 26=iv 2/\s.tm 27=iv i/\s.df=[]/\s.H=[.row 5 1 g 0 (bl L)]) (n:=2) ?_ ?_)
   .exact⟨0,0,[],rfl,by omega,rfl,by simp[upd],by simp[upd,h0'],zt,zt,rfl,rfl⟩
   .clear h3 h9 h10 h11;rintro m ⟨tm,df,H⟩ ⟨i,g,L,rfl,hi,hL,h6,h25,h26,h27,rfl,rfl⟩;dsimp only at *
    refine zLh (zr2 h26 h27) ?_ ?_
    .intro hlt;have hlt:i<2:=ztd hlt;obtain⟨p,l,hx,hs⟩:∃p l,([bv p0 l0,bv p1 l1]:LQ)[i]?=some (bv p l)/\L++l=(if i+1=0 then[]else if i+1=1 then l0 else l0++l1):=by
      grind
     have hs1:L.length+l.length<=1000000:=by
      rw[<- zAB9,hs]
      split
      .simp
      .grind
     have hcap:(L.length+l.length)*2<=140737488355328:=zo;refine zBb ?_;refine zGF (zr3 h25 h27 hx) ?_
     by_cases hz:l.length=0
     .obtain rfl:l=[]:=zDQ9.1 hz;refine zJF (zr3 h6 zcV hz) ?_;refine zae ?_;refine zKF h27 ?_;exact⟨_,by omega,i+1,g,L,rfl,hlt,by grind,zt,zu h25,zu h26,zt,rfl,rfl⟩
     .refine zJF (zr4 h6 zcV hz hcap) ?_;refine zae ?_;refine zKF h27 ?_;exact⟨_,by omega,i+1,g+1,L++l,rfl,hlt,hs,zt,zu h25,zu h26,zt,rfl,by unfold bl;grind⟩
    .intro hlt;have hlt:¬i<2:=zfd hlt;obtain rfl:i=2:=zo;have hL:L=l0++l1:=hL;subst hL;refine zGF h6 ?_;refine zbN ?_;refine zfr ?_ (by simp only[go_sem]<;>rfl);exact hR _ _ rfl
theorem zAF(h0:0<l0.length+l1.length)(hl:l0.length+l1.length<=1000000):FR 340 [.list q 1 [bv p0 l0,bv p1 l1]] (bv 0 (l0++l1)):=by
 refine zEH (eG T340 func340) (zAW9 rfl) (Lb.bvs _) (zuw q p0 p1 l0 l1 h0 hl fun H g hH=>?_);exact zh3 hH (zAJ9 _) (zAE9 _) rfl (zAE9 _)
theorem zFj:zyl ((bl l).flatMap PV.cells):=fun v hv=>by
 obtain⟨x,hx,hv⟩:=zAU9.1 hv;obtain⟨n,_,rfl⟩:=zAH9.1 hx;simp[PV.cells]at hv;grind
theorem zzt(h0:0<l0.length+l1.length)(hl:l0.length+l1.length<=1000000)(ha:LF H 1 args [.list q 1 [bv p0 l0,bv p1 l1]]):FO ET 340 args H true fun e' H'=>∃g M,e'=.ret (.sl H.length g 0 (l0++l1).length (2*(l0++l1).length) 1)/\M<=g/\H'=H++[.row 5 1 g M (bl (l0++l1))]:=by
 have k:FO ET 340 [.list q 1 [bv p0 l0,bv p1 l1]] [] false fun e' H'=>∃id g M,e'=.ret (.sl id g 0 (l0++l1).length (2*(l0++l1).length) 1)/\M<=g/\H'[id]?=some (.row 5 1 g M (bl (l0++l1))) :=
  zro (eG T340 func340) (zuw q p0 p1 l0 l1 h0 hl fun H g hH=>⟨0,g,0,rfl,zAJ9 _,hH⟩)
 refine FO.own1 k ha (zFj _) ?_;intro e;have:=congrArg List.length e;rw[zcV,zAB9,zAN9]at this;omega


theorem zjR{caught:LH}{rnd:LC}{code:zbS}{s:FSt}{Q:FX->FSt->Prop}(tm':Nat->PV)(h:∀i,tm' i=.bad\/tm' i=s.tm i)(k:W E caught rnd code ⟨tm',s.df,s.H⟩ Q):W E caught rnd code s Q:=fun B c t rnd' hs hn=>k B c t rnd' ⟨hs.hr,fun i=>(h i).elim .inl fun e=>by show tm' i=.bad\/∃u,_/\VR c t.h (tm' i) u;rw[e];exact hs.tm i,hs.df⟩ hn
def zkc:Nat->PV:=fun _=>.bad
theorem zir(s:Nat->PV):∀i,zkc i=.bad\/zkc i=s i:=fun _=>.inl rfl
theorem zcM{t s:Nat->PV}(v:PV)(h:∀i,t i=.bad\/t i=s i)(hv:v=s d):∀i,upd t d v i=.bad\/upd t d v i=s i:=fun i=>by
 unfold upd
 grind
theorem zHp{n:Nat}:∀i,zkc i=.bad\/NR n (zkc i):=fun _=>.inl rfl
@[reducible] def stR (v:Sip) (L:PV) (n:Nat):zc:=.row 410 7 0 0 [.agg [uv v.a,uv v.b,uv v.c,uv v.d,L,iv n,.bool true]]
def wrA:zbS:=.region [⟨some 6,.mov,[.tmp 27],none⟩]
def wrB:zbS:=.block 1 (.region [⟨some 28,.load false 1,[.tmp 2],none⟩,⟨some 29,.nilchk,[.tmp 28],none⟩,⟨some 30,.faddr 0 4,[.tmp 29],none⟩,⟨some 31,.mov,[.tmp 6],none⟩,⟨some 32,.call,[.fn 342,.tmp 30,.tmp 31],none⟩])
def wrH(k:zc)(p n:Nat)(b:LN)(tm:Nat->PV)(st:LoopState)(v:Sip):LP:=[k,k,stR v .nilsl n,.row 388 1 0 0 [.ptr 2 0 0 0 7],.row 137 1 0 0 [.nilsl,bv p b],.dfr false,.loop st .norm tm [27] wrA wrB 5]
theorem zEL(w:Nat)(b:LN)(tm:Nat->PV)(h2:tm 2=.ptr 3 0 0 0 1)(v:Sip)(hv:v.ok)(hw:w<18446744073709551616)(G:LP):FY ET 6 [uv w] (wrH k p n b tm .ready v++G) fun r H'=>r=true/\H'=wrH k p n b tm .ready (v.into w)++G:=by
 refine ziE (tm:=tm) (ps:=[27]) (aS:=wrA) (bo:=wrB) rfl rfl ?_;refine zae ?_;refine zK ?_;refine⟨rfl,_,_,_,_,_,_,rfl,?_⟩;have hR:∀x∈[PV.nilsl,iv n,.bool true],∀N,NR N x:=fun x hx N=>by
  simp at hx;rcases hx with rfl|rfl|rfl
  .exact .nilsl
  .exact .int _ _
  .exact .bool _
 unfold wrB;refine ze ?_;unfold wrH;refine zIF h2 ?_;refine zco (zvu 2 410 w _ v [.nilsl,iv n,.bool true] hv hw rfl fun x hx=>hR x hx _) ?_ (by first|rfl|(simp only[go_sem,h2]<;>rfl)) (by simp only[go_sem]<;>rfl);rintro e' H' ⟨rfl,rfl⟩;refine zcr ?_;exact⟨rfl,.busy,.norm,tm,[27],wrA,wrB,5,rfl,rfl,rfl⟩
theorem zqT{b:LN}{i:Nat}(h:i<b.length/8):(zdW b).take (i+1)=(zdW b).take i++[zcc ((b.drop (8*i)).take 8)]:=by
 have hl:(b.take (8*(b.length/8))).length=8*(b.length/8):=by rw[zAT9];omega
 unfold zdW;rw[zto zo,zDJ9,zFF9,zDV9 zo]
theorem zq8(b:LN):(zdW b).length=b.length/8:=by
 unfold zdW;rw[zee,zAT9];omega
theorem zpE:v.words (l++[w])=(v.words l).into w:=by unfold Sip.words;grind
theorem zkb{v:Sip}:∀{l:LN},v.ok->(∀w∈l,w<18446744073709551616)->(v.words l).ok
 | [],h,_=>h
 | w::l,h,hl=>zkb (l:=l) (v:=v.into w) (Sip.into_ok h (hl w (zAR9 ..))) fun x hx=>hl x (zAQ9 _ hx)
theorem zhP{b:LN}(hb:zbT b):∀w∈zdW b,w<18446744073709551616:=zmj (hb.take _)
theorem zuN{id e:Nat}{x y x' y':PV}(hH:H[id]?=some (.row e 1 0 0 [x,y]))(h1:x.cells=[x]/\x'.cells=[x'])(h2:y.cells=[y]/\y'.cells=[y'])(hx:Frz H 1 x x')(hy:Frz H 1 y y'):Frz H 1 (.sl id 0 0 2 4 1) (.list 1 1 [x',y']):=by
 refine .sl hH (zAE9 _) (zAE9 _) (zAE9 _) (zAE9 _) rfl (fun v hv=>?_) ?_ fun i a b ha hb=>?_
 .grind
 .grind
 .simp[h1.1,h2.1]at ha;simp[h1.2,h2.2]at hb
  match i with
  | 0=>injection ha with ha;injection hb with hb;subst ha hb;exact hx
  | 1=>injection ha with ha;injection hb with hb;subst ha hb;exact hy
  | _+2=>simp at ha
theorem zCz(hk:NRO 3 k)(p:Nat)(b:LN)(hb:zbT b)(h0:0<b.length)(hl:b.length<=1000)(v:Sip)(hv:v.ok):FO ET 318 [.ptr 2 0 0 0 7,bv p b] [k,k,stR v .nilsl 0] false fun e' H'=>e'=.ret (iv 0)/\H'=[k,k,stR (v.words (zdW b)) (bv 0 (b.drop (8*(b.length/8)))) b.length]:=by
 refine FO.gc ?_;refine zro (eG T318 func318) ?_;refine zGI ?_;refine zco (zxS 2 410 _ (uv v.a) (uv v.b) (uv v.c) (uv v.d) .nilsl 0 rfl) ?_;rintro e' H' ⟨rfl,rfl⟩;refine zcd ?_;refine zH ?_;(repeat(first|refine zHW ?_|refine zgo ?_ (by simp(disch:=omega)only[go_sem,zcV,Int.zero_add]<;>rfl)));refine zI ?_;have hc:FR 340 [.list 1 1 [bv 1 [],bv p b]] (bv 0 b):=by
  have:=zAF 1 1 p [] b (by omega) (by grind);exact this
 refine zcl hc ?_ ?_;(repeat(first|exact trivial|refine And.intro ?_ ?_|exact .int _ _|exact .bool _|exact .list _ _ _|exact .elem _|exact .nilsl|exact .nil _ _|exact .str _|refine Frz.aggL ?_|refine Frz.fnL ?_|refine Frz.tL ?_|refine .iface ?_|exact zdq rfl rfl (by assumption)))
 .exact zuN rfl ⟨rfl,rfl⟩ ⟨rfl,rfl⟩ (.nil _ _) (.list _ _ _)
 .exact trivial
 refine zN ?_;refine zB ?_;refine zI ?_;refine zcp (zCo 0 b) ?_;refine zN ?_;refine zjR (upd (upd (upd zkc 2 (.ptr 3 0 0 0 1)) 5 (bv 0 b)) 26 (.fn 353 [.elem [bv 0 b]])) (zcM _ _ (zcM _ _ (zcM _ _ (zir _) rfl) rfl) rfl) ?_;refine ze ?_;refine zit (g:=353) (cap:=[.elem [bv 0 b]]) (b:=false) (by simp only[go_sem]) ?_;have hP:∀tm:Nat->PV,tm 2=.ptr 3 0 0 0 1->(∀i,tm i=.bad\/NR 7 (tm i))->FO ET 353 [.yield 6,.elem [bv 0 b]] (wrH k p b.length b tm .ready v) false fun e H'=>e=.ret (.tuple [])/\H'=wrH k p b.length b tm .ready (v.words (zdW b)):=fun tm h2 hnr=>by
  have:=zuO 6 0 b hb zo (b.length/8) rfl (fun i=>wrH k p b.length b tm .ready (v.words ((zdW b).take i))) (fun i=>rfl) (fun i q o ho=>?_) fun i G hi=>?_
  .have ht:(zdW b).take (b.length/8)=zdW b:=zBR9 (by rw[zq8];exact zAE9 _);simp only[ht]at this;exact this
  .match q with
   | 0=>cases ho;exact NRO.mono (show 3<=7 by decide) hk
   | 1=>cases ho;exact NRO.mono (show 3<=7 by decide) hk
   | 2=>cases ho;intro x hx;simp[PV.cells]at hx;rcases hx with rfl|rfl|rfl|rfl|rfl|rfl|rfl<;>constructor
   | 3=>cases ho;intro x hx;simp[PV.cells]at hx;subst hx;exact .ptr _ _ _ _ (show 2<7 by decide)
   | 4=>cases ho;intro x hx;simp[PV.cells]at hx;rcases hx with rfl|rfl<;>constructor
   | 5=>cases ho;trivial
   | 6=>cases ho;exact⟨show 5<7 by decide,hnr,trivial⟩
   | q+7=>simp[wrH]at ho
  .have hw:=zqT hi;have hok:=zkb (l:=(zdW b).take i) hv fun w hw=>zhP hb w (zBP9 hw);have hsm:zcc ((b.drop (8*i)).take 8)<18446744073709551616:=zgZ ((hb.drop _).take _) (by rw[zAT9];omega);have:=zEL k p b.length (zcc ((b.drop (8*i)).take 8)) b tm h2 (v.words ((zdW b).take i)) hok hsm G;rw[<- zpE,<- hw]at this;exact this
 refine FO.mono (fun e H' he=>?_) (hP _ rfl (zfy (zfy (zfy zHp (.ptr _ _ _ _ (show 3<7 by decide))) (.list _ _ _)) (.fn fun x hx=>by simp at hx;subst hx;exact .elem _)));obtain⟨rfl,rfl⟩:=he;have hok:=zkb hv (zhP hb);generalize v.words (zdW b)=u at *
 refine⟨⟨_,rfl⟩,.ready,.norm,_,_,_,_,_,by simp,rfl,?_⟩;simp only[zfj,zgz,reduceIte];unfold wrH;simp only[zAG9,zAN9,zCE9,zCR9];refine zB ?_;have hr:(b.length:Int).tmod 8=((b.length%8:Nat):Int):=rfl;have hs:(b.length:Int)-((b.length%8:Nat):Int)=((8*(b.length/8):Nat):Int):=zo;have hle:8*(b.length/8)<=b.length:=zo;have hbd:bl (b.drop (8*(b.length/8)))=(bl b).drop (8*(b.length/8)):=by unfold bl;rw[zCA9]
 refine zaB ?_;refine zcs (zr4 hr hs hle zcV) ?_;refine zQF hr ?_;refine zG ?_;refine zbN ?_;refine zj6 (vs:=[iv 0]) rfl rfl ?_;have hkept:∀(i:Nat) (o:zc),[k,k,stR u (bv 0 (b.drop (8*(b.length/8)))) b.length][i]?=some o->[k,k,stR v .nilsl 0][i]?=some o\/NRO 3 o:=fun i o ho=>by
  match i with
  | 0=>injection ho with ho;subst ho;exact .inr hk
  | 1=>injection ho with ho;subst ho;exact .inr hk
  | 2=>injection ho with ho;subst ho;refine .inr fun x hx=>?_;simp[PV.cells]at hx;rcases hx with rfl|rfl|rfl|rfl|rfl|rfl|rfl<;>constructor
  | q+3=>simp at ho
 rw[<- hbd];exact⟨[k,k,stR u (bv 0 (b.drop (8*(b.length/8)))) b.length],[_,_,_,_],⟨rfl,rfl,hkept⟩,NR.int _ _,rfl,rfl⟩


theorem zs7:∀(a b:LN),zcc (a++b)=zcc a+256 ^ a.length*zcc b
 | [],b=>by simp[zcc]
 | x::a,b=>by
  rw[zAS9,zcc,zs7 a b,zcc,zAG9,Nat.pow_succ,zHC9,zFN9 (256 ^ a.length) 256,Nat.mul_assoc];omega
theorem zoy:∀n,zcc (List.replicate n 0)=0
 | 0=>rfl
 | n+1=>by rw[zDI9,zcc,zoy n]
theorem zAw{t:LN}(ht:t.length<8)(m:Nat):zcc ((t++List.replicate (8-t.length) 0).set 7 m)=zcc t+m*2 ^ 56:=by
 have e:(t++List.replicate (8-t.length) 0).set 7 m=t++List.replicate (7-t.length) 0++[m]:=by
  have h8:8-t.length=(7-t.length)+1:=zo;rw[h8,List.replicate_succ',<- zAD9,zCG9 _ _ (by grind)];have:7-(t++List.replicate (7-t.length) 0).length=0:=by simp;omega
  rw[this];rfl
 rw[e,zlx,zs7,zoy]
 grind
theorem zGi:List.replicate n (PV.int .u8 0)=bl (List.replicate n 0):=by unfold bl;simp_all
theorem zE0(hu:u.ok)(t:LN)(ht:t.length<8)(hb:zbT t)(n:Nat)(hn:n<=1000):FO ET 319 [.ptr 2 0 0 0 7] [k,k,stR u (bv 0 t) n] false fun e' H'=>e'=.ret (uv (u.into (zcc t+n%256*2 ^ 56)).fin):=by
 refine zro (eG T319 func319) ?_;refine zGI ?_;refine zco (zxS 2 410 _ (uv u.a) (uv u.b) (uv u.c) (uv u.d) (bv 0 t) n rfl) ?_;rintro e' H' ⟨rfl,rfl⟩;refine zcd ?_;refine zH ?_;refine zG ?_;refine zaB ?_;have g0:(8:Int)-(t.length:Int)=((8-t.length:Nat):Int):=zo;have g1:((8-t.length:Nat):Int)<=1000000:=zo;have g2:(0:Int)<=((8-t.length:Nat):Int):=zDO9 _;have g3:((8-t.length:Nat):Int)<=140737488355328:=zo;have hz8:0<8-t.length:=zo;have hL:(t++List.replicate (8-t.length) 0).length=8:=by simp;omega
 have hlw:=zAw ht (n%256);generalize hz:8-t.length=z at *
 have hc:=zzt (H:=[k,k,stR u (bv 0 t) n,.row 408 4 0 0 [.agg [uv u.a,uv u.b,uv u.c,uv u.d]],.row 5 1 0 0 (List.replicate z (.int .u8 0)),.row 137 1 0 0 [bv 0 t,.sl 4 0 0 z (2*z) 1]]) (args:=[.sl 5 0 0 2 4 1]) 1 0 1 t (List.replicate z 0) (by grind) (by grind) ⟨zuN rfl ⟨rfl,rfl⟩ ⟨rfl,rfl⟩ (.list _ _ _) (zh3 (by rw[<- zGi];rfl) (zAE9 _) (zAE9 _) (by simp) (zAE9 _)),trivial⟩;rw[hL]at hc;have hbL:zbT (t++List.replicate z 0):=fun x hx=>by
  rcases zBG9.1 hx with h|h
  .exact hb x h
  grind
 generalize t++List.replicate z 0=L at *
 have hz0:¬z=0:=zo;refine zdo hc ?_ (by simp(disch:=omega)only[go_sem,g0,g1,g2,g3,hz0,Int.le_refl,Int.mul_one,List.all_replicate,zcV]<;>rfl);rintro e' H' ⟨g,M,rfl,hM,rfl⟩;refine⟨_,by simp only[go_sem]<;>rfl,?_⟩;refine zQF hz0 ?_;obtain⟨x,hx⟩:∃x,L[7]?=some x:=⟨_,zAA9 zo⟩
 have hxv:(bl L)[7]?=some (.int .u8 x):=by rw[zqZ,hx];rfl
 have hw8:=zyc n;have hset:(bl L).set 7 (.int .u8 (n%256:Nat))=bl (L.set 7 (n%256)):=by unfold bl;rw[zDT9]
 have hbL2:zbT (L.set 7 (n%256)):=fun y hy=>by
  rcases List.mem_or_eq_of_mem_set hy with h|h
  .exact hbL y h
  .omega
 have hL2:(L.set 7 (n%256)).length=8:=by rw[zBT9,hL]
 have hlay:=zuD 1 (L.set 7 (n%256)) hbL2 zo;have hl1:zdQ (L.set 7 (n%256))=[zcc t+n%256*2 ^ 56]:=by
  unfold zdQ;rw[hL2];simp only[zCJ9,List.range_zero,zAV9,zBY9,zBD9,Nat.mul_zero,zER9,show (8+7)/8=1 from rfl];rw[zBR9 zo,hlw]
 have hw64:zcc t+n%256*2 ^ 56<18446744073709551616:=by
  rw[<- hlw];exact zgZ hbL2 zo
 rw[hl1]at hlay;generalize zcc t+n%256*2 ^ 56=w at *
 refine zjR (upd (upd (upd zkc 0 (.ptr 2 0 0 0 7)) 3 (.ptr 3 0 0 0 4)) 4 (.sl 6 g 0 8 16 1)) (zcM _ _ (zcM _ _ (zcM _ _ (zir _) rfl) rfl) rfl) ?_;refine zGF (zr4 hxv hw8 hset hM) ?_;refine zI ?_;refine zcl hlay ?_ ?_;(repeat(first|exact trivial|refine And.intro ?_ ?_|exact .int _ _|exact .bool _|exact .list _ _ _|exact .elem _|exact .nilsl|exact .nil _ _|exact .str _|refine Frz.aggL ?_|refine Frz.fnL ?_|refine Frz.tL ?_|refine .iface ?_|exact zdq rfl rfl (by assumption)))
 .exact zh3 rfl (zAE9 _) (zAE9 _) hL2.symm zo
 .exact trivial
 refine zfx ?_;have htk:=zvu 3 408 w [k,k,stR u (bv 0 t) n,.row 408 4 0 0 [.agg [uv u.a,uv u.b,uv u.c,uv u.d]],.row 5 1 0 0 (List.replicate z (.int .u8 0)),.row 137 1 0 0 [bv 0 t,.sl 4 0 0 z (2*z) 1],.row 5 1 g g (bl (L.set 7 (n%256)))] u [] hu hw64 rfl (fun x hx=>by cases hx);have hu2:=Sip.into_ok hu hw64;generalize u.into w=u2 at *
 refine zco htk ?_;rintro e' H' ⟨rfl,rfl⟩;refine zcd ?_;simp only[zCR9,zCE9];obtain⟨a,b,c,d⟩:=u2;obtain⟨ha,hb',hc',hd⟩:=hu2;dsimp only at ha hb' hc' hd;have x1:=zc0 hc' (b:=255) zy;have e255:((255:Nat):Int)=255:=rfl;rw[e255]at x1;obtain⟨C,hC⟩:∃C,Nat.xor c 255=C:=⟨_,rfl⟩
 have gC:=zcn hc' (y:=255) zy;rw[hC]at x1 gC;have e1:Sip.fin ⟨a,b,c,d⟩=Nat.xor (Nat.xor (Nat.xor (Sip.rnds ⟨a,b,C,d⟩ 4).a (Sip.rnds ⟨a,b,C,d⟩ 4).b) (Sip.rnds ⟨a,b,C,d⟩ 4).c) (Sip.rnds ⟨a,b,C,d⟩ 4).d:=by
  unfold Sip.fin;dsimp only;rw[hC]
 rw[e1];have hok:Sip.ok ⟨a,b,C,d⟩:=⟨ha,hb',gC,hd⟩
 have hok4:=Sip.rnds_ok (n:=4) hok;have hr:=ztB 3 4 408 [k,k,stR u (bv 0 t) n,.row 408 4 0 0 [.agg [uv a,uv b,uv C,uv d]],.row 5 1 0 0 (List.replicate z (.int .u8 0)),.row 137 1 0 0 [bv 0 t,.sl 4 0 0 z (2*z) 1],.row 5 1 g g (bl (L.set 7 (n%256)))] ⟨a,b,C,d⟩ [] hok rfl (fun x hx=>by cases hx) zy;generalize Sip.rnds ⟨a,b,C,d⟩ 4=v at *
 obtain⟨A,B,C',D⟩:=v;obtain⟨gA,gB,gC',gD⟩:=hok4;dsimp only at gA gB gC' gD hr⊢;refine zGF x1 ?_;refine zI ?_;refine zco hr ?_;rintro e' H' ⟨rfl,rfl⟩;refine zcd ?_;simp only[zCR9,zCE9];have y1:=zc0 gA gB;have g1:=zcn gA gB;generalize Nat.xor A B=X1 at *
 have y2:=zc0 g1 gC';have g2:=zcn g1 gC';generalize Nat.xor X1 C'=X2 at *
 have y3:=zc0 g2 gD;generalize Nat.xor X2 D=X3 at *
 refine zOF (zr3 y1 y2 y3) ?_;rfl
theorem zFc(b:LN)(h0:k0<18446744073709551616)(h1:k1<18446744073709551616)(hb:zbT b)(hl0:0<b.length)(hl:b.length<=1000):FR 247 [.agg [uv k0,uv k1],bv p b] (uv (zgX k0 k1 b)):=by
 refine zfn (eG T247 func247) (.int _ _) ?_;have hkey:NRO 3 (.row 30 2 0 0 [.agg [uv k0,uv k1]]):=fun x hx=>by
  simp[PV.cells]at hx;rcases hx with rfl|rfl<;>constructor
 refine zG ?_;obtain⟨v,hv⟩:∃v,Sip.new k0 k1=v:=⟨_,rfl⟩
 have hok:v.ok:=by
  rw[<- hv];unfold Sip.new;exact⟨zcn h0 zy,zcn h1 zy,zcn h0 zy,zcn h1 zy⟩
 refine zI ?_;refine zco (zGx k0 k1 h0 h1 [.row 30 2 0 0 [.agg [uv k0,uv k1]]] v hv) ?_;rintro e' H' ⟨rfl,rfl⟩;refine zN ?_;refine zB ?_;refine zI ?_;refine zco (zCz (.row 30 2 0 0 [.agg [uv k0,uv k1]]) hkey p b hb hl0 hl v hok) ?_;rintro e' H' ⟨rfl,rfl⟩;refine zcd ?_;have hok2:=zkb hok (zhP hb);have hs:zgX k0 k1 b=((v.words (zdW b)).into (zcc (b.drop (8*(b.length/8)))+b.length%256*2 ^ 56)).fin:=by unfold zgX zkd;rw[hv]
 rw[hs];generalize v.words (zdW b)=u at *
 refine zB ?_;refine zI ?_;refine zco (zE0 (.row 30 2 0 0 [.agg [uv k0,uv k1]]) u hok2 (b.drop (8*(b.length/8))) (by grind) (hb.drop _) b.length hl) ?_;rintro e' H' rfl;generalize ((u.into (zcc (b.drop (8*(b.length/8)))+b.length%256*2 ^ 56)).fin)=X at *
 refine zP ?_;exact zbp.int rfl


theorem zik(hv:v.ok):∃u,v.rnd=u/\u.ok/\FR 180 [.agg [uv v.a,uv v.b,uv v.c,uv v.d]] (.agg [uv u.a,uv u.b,uv u.c,uv u.d]):=⟨_,rfl,Sip.rnd_ok hv,zCj v hv⟩
theorem zHn:v.rnds 2=v.rnd.rnd:=by simp only[Sip.rnds]
theorem zHm:v.rnds 4=v.rnd.rnd.rnd.rnd:=by simp only[Sip.rnds]
theorem zFO:u.into w=(Sip.rnds ⟨u.a,u.b,u.c,Nat.xor u.d w⟩ 2).low w:=by unfold Sip.into;rfl
theorem zGc:u.low w=⟨Nat.xor u.a w,u.b,u.c,u.d⟩:=by unfold Sip.low;rfl
theorem zAq(x:Sip)(h:Sip.rnds ⟨u.a,u.b,Nat.xor u.c 255,u.d⟩ 4=x):u.fin=Nat.xor (Nat.xor (Nat.xor x.a x.b) x.c) x.d:=by
 unfold Sip.fin;rw[h]
def zpg(v:Sip)(b:LN)(j:Nat):Sip:=if j<=b.length/8 then v.words ((zdW b).take j)else(v.words (zdW b)).into (zkd b)
def znX(b:LN)(j:Nat):Nat:=if j<b.length/8 then zcc ((b.drop (8*j)).take 8)else zkd b
theorem zA9{b:LN}{j:Nat}(h:j<=b.length/8):zpg v b (j+1)=(zpg v b j).into (znX b j):=by
 unfold zpg znX;rw[if_pos h]
 by_cases hj:j<b.length/8
 .rw[if_pos hj,if_pos zo,zqT hj,zpE]
 .rw[if_neg hj,if_neg zo];rw[zBR9 (by rw[zq8];omega)]
theorem zu7{b:LN}(hb:zbT b):zkd b<18446744073709551616:=by
 unfold zkd;have h1:=zlD (hb.drop (8*(b.length/8)));have h2:256 ^ (b.drop (8*(b.length/8))).length<=256 ^ 7:=zDK9 zo (by grind);omega
theorem zFs(b:LN)(h0:k0<18446744073709551616)(h1:k1<18446744073709551616)(hb:zbT b)(hl:b.length<=1000):FR 121 [.agg [uv k0,uv k1],bv p b] (uv (zgX k0 k1 b)):=by
 refine zfn (eG T121 func121) (.int _ _) ?_;obtain⟨v,hv⟩:∃v,Sip.new k0 k1=v:=⟨_,rfl⟩
 have hok:v.ok:=by
  rw[<- hv];unfold Sip.new;exact⟨zcn h0 zy,zcn h1 zy,zcn h0 zy,zcn h1 zy⟩
 have hs:zgX k0 k1 b=(zpg v b (b.length/8+1)).fin:=by unfold zgX zpg;rw[hv,if_neg zo]
 rw[hs];have x1:=zc0 h0 (b:=8317987319222330741) zy;have x2:=zc0 h1 (b:=7237128888997146477) zy;have x3:=zc0 h0 (b:=7816392313619706465) zy;have x4:=zc0 h1 (b:=8387220255154660723) zy;unfold Sip.new at hv;have e1:((8317987319222330741:Nat):Int)=8317987319222330741:=rfl;have e2:((7237128888997146477:Nat):Int)=7237128888997146477:=rfl;have e3:((7816392313619706465:Nat):Int)=7816392313619706465:=rfl;have e4:((8387220255154660723:Nat):Int)=8387220255154660723:=rfl;rw[e1]at x1;rw[e2]at x2;rw[e3]at x3;rw[e4]at x4;generalize Nat.xor k0 8317987319222330741=a at *
 generalize Nat.xor k1 7237128888997146477=b' at *
 generalize Nat.xor k0 7816392313619706465=c at *
 generalize Nat.xor k1 8387220255154660723=d at *
 refine zGF (zr4 x1 x2 x3 x4) ?_;refine zjR (upd (upd (upd zkc 1 (bv p b)) 5 (.ptr 1 0 0 0 4)) 6 (iv 0)) (zcM _ _ (zcM _ _ (zcM _ _ (zir _) rfl) rfl) rfl) ?_;refine ze (zbk (fun m s=>∃(j:Nat) (u:Sip),m=b.length/8+1-j/\j<=b.length/8+1/\u=zpg v b j/\u.ok/\s.tm 1=bv p b/\s.tm 5=.ptr 1 0 0 0 4/\s.tm 6=iv (8*j:Nat)/\s.df=[]/\s.H=[.row 30 2 0 0 [.agg [uv k0,uv k1]],.row 273 4 0 0 [.agg [uv u.a,uv u.b,uv u.c,uv u.d]]]) (n:=b.length/8+1) ?_ ?_)
 .refine⟨0,v,rfl,zAJ9 _,by unfold zpg;rw[if_pos (zAJ9 _)];rfl,hok,zt,zt,zt,rfl,?_⟩
  grind
 .rintro m ⟨tm,df,H⟩ ⟨j,u,rfl,hj,hu,huok,t1,t5,t6,rfl,rfl⟩;dsimp only at t1 t5 t6;(try refine zad ?_);refine zHW (zgo ?_ (by simp(disch:=omega)only[go_sem,t1,t6,zcV]<;>rfl));refine zwh ?_ ?_
  .intro hlt;have hlt:8*j<=b.length:=ztd hlt;have hj8:j<=b.length/8:=zo;have hst:=zA9 v hj8;rw[<- hu]at hst;have hwd:=zxL p (b.drop (8*j)) (hb.drop _) (by grind);have hbd:bl (b.drop (8*j))=(bl b).drop (8*j):=by unfold bl;rw[zCA9]
   rw[show bv p (b.drop (8*j))=.list p 1 ((bl b).drop (8*j)) by grind]at hwd;refine zBb ?_;refine zB ?_;refine zB ?_;refine zrg ?_ (by simp(disch:=omega)only[go_sem,t1,t6,hlt,zcV]<;>rfl);refine zCN hwd ?_;refine zHW ?_;obtain⟨w,hw⟩:∃w,znX b j=w:=⟨_,rfl⟩
   have hw64:w<18446744073709551616:=by
    rw[<- hw];unfold znX
    split
    .exact zgZ ((hb.drop _).take _) (by grind)
    .exact zu7 hb
   refine zcJ (Q:=fun y s'=>y=.norm/\s'.tm 1=bv p b/\s'.tm 5=.ptr 1 0 0 0 4/\s'.tm 6=iv (8*j:Nat)/\s'.tm 7=uv w/\s'.df=[]/\s'.H=[.row 30 2 0 0 [.agg [uv k0,uv k1]],.row 273 4 0 0 [.agg [uv u.a,uv u.b,uv u.c,uv u.d]]]) ?_ ?_
   .by_cases hj1:j<b.length/8
    .have g1:¬(b.length:Int)<((8*j:Nat):Int)+8:=zo;refine zHW ?_;refine zB ?_;refine zgo ?_ (by simp(disch:=omega)only[go_sem,t1,t6,g1,zcV]<;>rfl);refine zH ?_;refine⟨rfl,by simp[upd,t1],by simp[upd,t5],by simp[upd,t6],?_,rfl,rfl⟩;rw[<- hw];unfold znX;rw[if_pos hj1];simp[upd]
    .have g1:(b.length:Int)<((8*j:Nat):Int)+8:=zo;have hje:j=b.length/8:=zo;refine zHW ?_;refine zB ?_;refine zgo ?_ (by simp(disch:=omega)only[go_sem,t1,t6,g1,zcV]<;>rfl);refine zct ?_;have hrm:(b.length:Int).tmod 256=((b.length%256:Nat):Int):=rfl;obtain⟨P,hP,hp56⟩:∃P,2 ^ 56=P/\FR 179 [iv 56] (uv P):=⟨_,rfl,zpi 56 zy⟩
     have htk:(b.drop (8*j)).take 8=b.drop (8*j):=zBR9 (by grind);have hwl:zcc ((b.drop (8*j)).take 8)+b.length%256*P=w:=by rw[<- hw];unfold znX zkd;rw[if_neg hj1,htk,hje,hP]
     generalize zcc ((b.drop (8*j)).take 8)=w0 at *
     have hmul:=zpt (b.length%256*P);rw[zGS9]at hmul;generalize b.length%256*P=Q at *
     have hQ:Q<18446744073709551616:=zo;rw[zDA9 hQ]at hmul;have hsum:IntKind.u64.wrap ((w0:Int)+(Q:Int))=(w:Int):=zwu;clear hP;refine zae ?_;refine zfx ?_ (by simp(disch:=omega)only[go_sem,t1,hrm,zcV]<;>rfl);refine zca hp56 ?_;refine zKF (zr2 hmul hsum) ?_;exact⟨rfl,by simp[upd,t1],by simp[upd,t5],by simp[upd,t6],by simp[upd],rfl,rfl⟩
   .clear t1 t5 t6 hwd;rintro y ⟨tm,df,H⟩ ⟨rfl,t1,t5,t6,t7,rfl,rfl⟩;dsimp only at t1 t5 t6 t7;rw[hw]at hst;simp only[zfj,reduceIte];have y1:=zc0 huok.d hw64;have gd:=zcn huok.d hw64;rw[zFO]at hst;generalize Nat.xor u.d w=D at *
    obtain⟨v1,r1,o1,q1⟩:=zik ⟨u.a,u.b,u.c,D⟩ ⟨huok.a,huok.b,huok.c,gd⟩;obtain⟨v2,r2,o2,q2⟩:=zik v1 o1;rw[zHn,r1,r2]at hst;have y2:=zc0 o2.a hw64;have o3:=Sip.low_ok o2 hw64;rw[zGc]at hst o3;generalize Nat.xor v2.a w=A at *
    dsimp only at q1;(repeat(first|refine zHW ?_|refine zbj (zr3 t5 t7 y1) ?_));refine zB ?_;refine zGM t5 ?_;refine zca q1 ?_;refine zfx ?_;refine zca q2 ?_;refine zb2 t5 ?_;refine zcd ?_;refine zB ?_;refine zGM (zr3 t5 t7 y2) ?_;refine zcr ?_;refine zae ?_;refine zb2 t6 ?_;refine zcr ?_;refine⟨_,?mm,j+1,⟨A,v2.b,v2.c,v2.d⟩,rfl,by omega,hst.symm,o3,by simp[upd,t1],by simp[upd,t5],?_,rfl,rfl⟩
    case mm=>omega
    simp[upd];omega
  .intro hlt;have hlt:¬8*j<=b.length:=zfd hlt;obtain rfl:j=b.length/8+1:=zo;rw[<- hu];clear hu;have y1:=zc0 huok.c (b:=255) zy;rw[show ((255:Nat):Int)=255 from rfl]at y1;have gc:=zcn huok.c (y:=255) zy;rw[zAq u _ rfl];generalize Nat.xor u.c 255=C at *
   obtain⟨v1,r1,o1,q1⟩:=zik ⟨u.a,u.b,C,u.d⟩ ⟨huok.a,huok.b,gc,huok.d⟩;obtain⟨v2,r2,o2,q2⟩:=zik v1 o1;obtain⟨v3,r3,o3,q3⟩:=zik v2 o2;obtain⟨v4,r4,o4,q4⟩:=zik v3 o3;rw[zHm,r1,r2,r3,r4];dsimp only at q1;have z1:=zc0 o4.a o4.b;have w1:=zcn o4.a o4.b;generalize Nat.xor v4.a v4.b=X1 at *
   have z2:=zc0 w1 o4.c;have w2:=zcn w1 o4.c;generalize Nat.xor X1 v4.c=X2 at *
   have z3:=zc0 w2 o4.d;generalize Nat.xor X2 v4.d=X3 at *
   simp only[zfj,zgB,zgz,if_true];(repeat(first|refine zHW ?_|refine zbj (zr2 t5 y1) ?_));refine zB ?_;refine zGM t5 ?_;refine zca q1 ?_;refine zfx ?_;refine zca q2 ?_;refine zfx ?_;refine zca q3 ?_;refine zfx ?_;refine zca q4 ?_;refine zb2 t5 ?_;refine zcd ?_;(repeat(first|refine zHW ?_|refine zbj (zr4 t5 z1 z2 z3) ?_));refine zbN (zfr ?_);exact zbp.int rfl


theorem zoj(a n:Nat)(hw:w<18446744073709551616)(h1:1<=n)(h2:a+n<=64):FR 185 [uv w,iv a,iv n] (.tuple [uv (w/2 ^ a%2 ^ n),iv 0]) :=
 zlc zjD (by rfl) fun S h us hS ha=>by
  obtain⟨y1,_,rfl,v1,hv⟩:=ha.oc;obtain⟨y2,_,rfl,v2,hv⟩:=hv.oc;obtain⟨y3,_,rfl,v3,hv⟩:=hv.oc;obtain rfl:=hv.oN
  cases v1;cases v2;cases v3
  refine⟨.ret (.tuple [.int .u64 (.ofNat (w/2 ^ a%2 ^ n)),.int .i64 (.ofNat 0)]),h,?_,zAE9 _,fun _ _=>rfl,?_⟩;rotate_left
  .have:LR (PR (S0 S h.next h.next) h) [uv (w/2 ^ a%2 ^ n),iv 0] [.int .u64 (.ofNat (w/2 ^ a%2 ^ n)),.int .i64 (.ofNat 0)]:=LR.cons (PR.int _ _) (LR.cons (PR.int _ _) LR.nil);exact PR.tuple this.1 this.2
  show zm7 [.int .u64 (.ofNat w),.int .i64 (.ofNat a),.int .i64 (.ofNat n)] h=_;unfold zm7;dsimp only;rw[show Nat.blt w 18446744073709551616=true by simp_all,zcG h1,zcG h2];rfl
theorem zpM(c:Nat):FR 194 [.str s,.str [c]] (.bool (decide (c∈s))) :=
 zlc zjD (by rfl) fun S h us hS ha=>by
  obtain⟨y1,_,rfl,v1,hv⟩:=ha.oc;obtain⟨y2,_,rfl,v2,hv⟩:=hv.oc;obtain rfl:=hv.oN
  cases v1;cases v2
  have hh:∀l:LN,zpm c l=decide (c∈l):=fun l=>by
   induction l with
   | nil=>rfl
   | cons x l ih =>
    unfold zpm
    by_cases e:x=c
    .simp_all
    .rw[zoi e,cond_false,ih];grind
  refine⟨.ret (.bool (zpm c s)),h,rfl,zAE9 _,fun _ _=>rfl,?_⟩;rw[hh];exact .bool _
theorem zFz:FR 193 [.str s] (.bool (decide (s=[46])||decide (s=[46,46]))):=by
 refine zfn (eG T193 func193) (.bool _) ?_
 by_cases h:s=[46]
 .subst h;refine zO ?_;exact zbp.bool rfl
 .have g:decide (s=[46])=false:=decide_eq_false h;refine zGF g ?_;refine zbN (zfr ?_ (by simp only[go_sem]<;>rfl));exact zbp.bool (by grind)
theorem zDQ:FR 68 [.str s] (.bool (decide (s=[46])||decide (s=[46,46]))):=by
 refine zfn (eG T68 func68) (.bool _) ?_
 by_cases h:s=[46]
 .subst h;refine zO ?_;exact zbp.bool rfl
 .have g:decide (s=[46])=false:=decide_eq_false h;refine zGF g ?_;refine zbN (zfr ?_ (by simp only[go_sem]<;>rfl));exact zbp.bool (by grind)
theorem zFu:FR 195 [.str s] (.bool (decide (120<s.length))):=by
 refine zfn (eG T195 func195) (.bool _) ?_;refine zO ?_;exact zbp.bool (by grind)
theorem zxo:zb1 s=140↔(s=[]\/s=[46]\/s=[46,46]\/0∈s\/47∈s):=by
 unfold zb1
 grind
theorem zGw:FR 192 [.str s] (.bool (decide (zb1 s=140))):=by
 refine zfn (eG T192 func192) (.bool _) ?_;have hN:=zxo s
 by_cases h0:s=[]
 .subst h0;refine zO ?_;exact zbp.bool rfl
 have g0:decide (s=[])=false:=decide_eq_false h0;refine zG ?_;refine zIF g0 ?_;refine zca (zFz s) ?_ (by first|rfl|(simp only[go_sem,g0]<;>rfl)) (by simp only[go_sem,g0]<;>rfl);have hd:(decide (s=[46])||decide (s=[46,46]))=true↔s=[46]\/s=[46,46]:=by simp
 generalize (decide (s=[46])||decide (s=[46,46]))=d at *
 cases d with
 | true =>
  have hd:s=[46]\/s=[46,46]:=hd.1 rfl;refine zNF g0 ?_;refine zbN (zfr ?_ (by simp only[go_sem,g0]<;>rfl));exact zbp.bool (by rw[decide_eq_true (hN.2 (by rcases hd with h|h<;>simp[h]))])
 | false =>
  have hd:¬(s=[46]\/s=[46,46]):=fun h=>zEV9 (hd.2 h);refine zb2 g0 ?_;refine zca (zpM s 0) ?_ (by first|rfl|(simp only[go_sem,g0]<;>rfl)) (by simp only[go_sem,g0]<;>rfl)
  by_cases h1:0∈s
  .have g1:decide (0∈s)=true:=decide_eq_true h1;refine zNF (zr2 g0 g1) ?_;refine zbN (zfr ?_ (by simp only[go_sem,g1]<;>rfl));exact zbp.bool (by rw[decide_eq_true (hN.2 (by simp[h1]))])
  .have g1:decide (0∈s)=false:=decide_eq_false h1;refine zb2 (zr2 g0 g1) ?_;refine zca (zpM s 47) ?_ (by first|rfl|(simp only[go_sem,g1]<;>rfl)) (by simp only[go_sem,g1]<;>rfl);refine zNF (zr2 g0 g1) ?_;refine zbN (zfr ?_ (by simp only[go_sem,g1]<;>rfl));have e:(zb1 s=140)↔47∈s:=⟨fun e=>by
    rcases hN.1 e with h|h|h|h|h
    .exact absurd h h0
    .exact absurd (.inl h) hd
    .exact absurd (.inr h) hd
    .exact absurd h h1
    .exact h,fun h=>hN.2 (.inr (.inr (.inr (.inr h))))⟩
   exact zbp.bool (by simp[e])
theorem zF1:FR 133 [] (.list 0 2 [.agg [.fn 192 [],iv 140],.agg [.fn 195 [],iv 141]]):=by
 refine zfn (eG T133 func133) (.list fun x hx=>by simp[PV.cells]at hx;rcases hx with rfl|rfl|rfl|rfl<;>first|exact .int _ _|exact .fn fun x hx=>(by cases hx)) ?_;refine zO ?_;refine Frz.wh (e:=224) rfl rfl rfl zy (fun v hv=>by simp at hv;rcases hv with rfl|rfl<;>rfl) (fun v hv=>?_);simp[PV.cells]at hv;rcases hv with rfl|rfl|rfl|rfl<;>first|exact .int _ _|exact .fn fun x hx=>(by cases hx)
@[reducible] def zEJ:LQ:=[.agg [.fn 192 [],iv 140],.agg [.fn 195 [],iv 141]]
theorem ziI:zb1 s=140\/(¬zb1 s=140/\120<s.length/\zb1 s=141)\/(zb1 s=0/\s.length<=120):=by
 unfold zb1
 grind
theorem zkV:FR 86 [.str s] (iv (zb1 s)):=by
 refine zfn (eG T86 func86) (.int _ _) ?_;refine zMG zF1 ?_;refine ze (zbk (fun m st=>∃(i:Nat),m=2-i/\i<=2/\(1<=i->¬zb1 s=140)/\(2<=i->zb1 s=0)/\st.tm 0=.str s/\st.tm 5=.list 0 2 zEJ/\st.tm 6=iv 2/\st.tm 7=iv i/\st.df=[]/\∃G,st.H=G) (n:=2) ?_ ?_)
 .exact⟨0,rfl,by omega,fun h=>by omega,fun h=>by omega,by simp[upd,zn],by simp[upd],by simp[upd],zt,rfl,_,rfl⟩
 .rintro m ⟨tm,df,H⟩ ⟨i,rfl,hi,hn1,hn2,h0,h5,h6,h7,rfl,G,rfl⟩;dsimp only at *
  refine zLh (zr2 h6 h7) ?_ ?_
  .intro hlt;have hlt:i<2:=ztd hlt;obtain⟨f,e,hx,b,hk,hb,hb2⟩:∃(f e:Nat),zEJ[i]?=some (.agg [.fn f [],iv e])/\∃b,FR f [.str s] (.bool b)/\(b=true->zb1 s=e)/\(b=false->(1<=i+1->¬zb1 s=140)/\(2<=i+1->zb1 s=0)):=by
    match i,hlt with
    | 0,_=>exact⟨192,140,rfl,_,zGw s,fun h=>of_decide_eq_true h,fun h=>⟨fun _=>of_decide_eq_false h,fun h=>by omega⟩⟩
    | 1,_ =>
     have h1:=hn1 zo;refine⟨195,141,rfl,_,zFu s,fun h=>?_,fun h=>⟨fun _=>h1,fun _=>?_⟩⟩
     .have h:=of_decide_eq_true h;rcases ziI s with h2|h2|h2
      .exact absurd h2 h1
      .exact h2.2.2
      .omega
     .have h:=of_decide_eq_false h;rcases ziI s with h2|h2|h2
      .exact absurd h2 h1
      .omega
      .exact h2.1
   refine zBb ?_;refine zGF (zr4 h0 h5 h7 hx) ?_;refine zIF h0 ?_;refine zca hk ?_;refine zcd ?_
   cases b with
   | true =>
    refine zct ?_;refine zG ?_;refine zbN (zfr ?_ (by simp only[go_sem]<;>rfl));exact zbp.int (by grind)
   | false =>
    refine zH ?_;refine zae ?_;refine zKF h7 ?_;exact⟨_,by omega,i+1,rfl,hlt,(hb2 rfl).1,(hb2 rfl).2,by simp[upd,h0],by simp[upd,h5],by simp[upd,h6],by simp[upd],rfl,_,rfl⟩
  .intro hlt;have hlt:¬i<2:=zfd hlt;refine zO ?_;exact zbp.int (by grind)
theorem zCE(hl:s.length<9223372036854775808):FR 69 [.str s] (.bool (decide (¬(0∈s\/47∈s)))):=by
 refine zfn (eG T69 func69) (.bool _) ?_;refine zG ?_;refine ze (zbk (fun m st=>∃(i:Nat),m=s.length-i/\i<=s.length/\((0∈s\/47∈s)↔(0∈s.drop i\/47∈s.drop i))/\st.tm 0=.str s/\st.tm 3=iv i/\st.df=[]/\st.H=[]) (n:=s.length) ?_ ?_)
 .exact⟨0,rfl,zAJ9 _,Iff.rfl,zt,zt,rfl,rfl⟩
 .rintro m ⟨tm,df,H⟩ ⟨i,rfl,hi,hd,h0,h3,rfl,rfl⟩;dsimp only at h0 h3;refine zLh (zr2 h0 h3) ?_ ?_
  .intro hlt;have hlt:i<s.length:=ztd hlt;have hx:=zAA9 hlt;rw[zAM9 hlt]at hd;generalize s[i]=x at *
   have hid:=zGu (k:=.i64) (s:=s) (j:=(i:Int)) (x:=x) (zDO9 _) (by grind);refine zBb ?_;refine zB ?_
   by_cases e0:x=0
   .subst e0;refine zB ?_;refine zbj (zr3 h0 h3 hid) ?_;refine zU ?_;exact zbp.bool (by grind)
   .have g0:¬(x:Int)=0:=zo
    by_cases e1:x=47
    .have g1:(x:Int)=47:=zo;have g2:¬(47:Int)=0:=by decide
     refine zB ?_;refine zbj (zr5 h0 h3 hid g1 g2) ?_;refine zU ?_;exact zbp.bool (by grind)
    .have g1:¬(x:Int)=47:=zo;refine zB ?_;refine zbj (zr5 h0 h3 hid g0 g1) ?_;refine zH ?_;refine zae ?_;refine zKF h3 ?_;exact⟨_,by omega,i+1,rfl,hlt,by grind,zu h0,zt,rfl,rfl⟩
  .intro hlt;have hlt:¬i<s.length:=zfd hlt;refine zO ?_;exact zbp.bool (by grind)
theorem zg1(hl:s.length<9223372036854775808):FR 33 [.str s] (iv (zb1 s)):=by
 refine zfn (eG T33 func33) (.int _ _) ?_;have hN:=zxo s;have hC:=ziI s;refine zG ?_;refine zcJ (Q:=fun y s'=>y=.norm/\s'.tm 0=.str s/\s'.tm 13=.bool (decide (zb1 s=140))/\s'.df=[]/\s'.H=[]) ?_ ?_
 .by_cases h0:s=[]
  .subst h0;refine zae ?_;refine zK ?_;exact⟨rfl,rfl,rfl,rfl,rfl⟩
  have g0:decide (s=[])=false:=decide_eq_false h0;refine zIF g0 ?_;refine zca (zDQ s) ?_ (by first|rfl|(simp only[go_sem,g0]<;>rfl)) (by simp only[go_sem,g0]<;>rfl);have hd:(decide (s=[46])||decide (s=[46,46]))=true↔s=[46]\/s=[46,46]:=by simp
  generalize (decide (s=[46])||decide (s=[46,46]))=d at *
  cases d with
  | true =>
   have hd:s=[46]\/s=[46,46]:=hd.1 rfl;refine zKF g0 ?_;refine⟨rfl,by simp[upd,FSt.put,zn],?_,rfl,rfl⟩;rw[decide_eq_true (hN.2 (by rcases hd with h|h<;>simp[h]))];simp[upd,FSt.put]
  | false =>
   have hd:¬(s=[46]\/s=[46,46]):=fun h=>zEV9 (hd.2 h);refine zb2 g0 ?_;refine zca (zCE s hl) ?_ (by first|rfl|(simp only[go_sem,g0]<;>rfl)) (by simp only[go_sem,g0]<;>rfl);refine zKF g0 ?_;have e:(zb1 s=140)↔(0∈s\/47∈s):=⟨fun e=>by
    rcases hN.1 e with h|h|h|h|h
    .exact absurd h h0
    .exact absurd (.inl h) hd
    .exact absurd (.inr h) hd
    .exact .inl h
    .exact .inr h,fun h=>hN.2 (.inr (.inr (.inr h)))⟩
   refine⟨rfl,by simp[upd,FSt.put,zn],?_,rfl,rfl⟩;simp[upd,FSt.put,e]
 .rintro y ⟨tm,df,H⟩ ⟨rfl,h0,h13,rfl,rfl⟩;dsimp only at h0 h13;simp only[zfj,zgB,zgz,zfu,zby,zgW,if_true,reduceIte]
  by_cases h140:zb1 s=140
  .rw[decide_eq_true h140]at h13;refine zIf h13 ?_;refine zO ?_;exact zbp.int (by rw[h140];rfl)
  rw[decide_eq_false h140]at h13;refine zIg h13 ?_;refine zr ?_;refine zB ?_;rcases hC with h|⟨_,h,h2⟩|⟨h2,h⟩
  .exact absurd h h140
  .have g:(120:Int)<(s.length:Int):=zo;refine zB ?_;refine zbj (zr2 h0 g) ?_;refine zU ?_;exact zbp.int (by rw[h2];rfl)
  .have g:¬(120:Int)<(s.length:Int):=zo;refine zB ?_;refine zbj (zr2 h0 g) ?_;refine zH ?_;refine zO ?_;exact zbp.int (by rw[h2];rfl)


theorem zxY(b:LN)(h0:k0<18446744073709551616)(h1:k1<18446744073709551616)(hb:zbT b):zgX k0 k1 b<18446744073709551616:=by
 have hok:(Sip.new k0 k1).ok:=by
  unfold Sip.new;exact⟨zcn h0 zy,zcn h1 zy,zcn h0 zy,zcn h1 zy⟩
 have h2:=Sip.into_ok (zkb hok (zhP hb)) (zu7 hb);unfold zgX;generalize ((Sip.new k0 k1).words (zdW b)).into (zkd b)=u at *
 rw[zAq u _ rfl];have h3:=Sip.rnds_ok (n:=4) (v:=⟨u.a,u.b,Nat.xor u.c 255,u.d⟩) ⟨h2.a,h2.b,zcn h2.c zy,h2.d⟩;generalize Sip.rnds ⟨u.a,u.b,Nat.xor u.c 255,u.d⟩ 4=x at *
 exact zcn (zcn (zcn h3.a h3.b) h3.c) h3.d
theorem zFW(b:LN)(h0:k0<18446744073709551616)(h1:k1<18446744073709551616)(hb:zbT b)(hl0:0<b.length)(hl:b.length<=1000)(hn:1<=n/\n<=64):FR 189 [.agg [uv k0,uv k1],bv p b,iv n] (.tuple [uv (zgX k0 k1 b/2 ^ (64-n)%2 ^ n),iv 0]):=by
 refine zfn (eG T189 func189) (Lb.two (.int _ _) (.int _ _)) ?_;have hs:=zFc p k0 k1 b h0 h1 hb hl0 hl;have hlt:=zxY k0 k1 b h0 h1 hb;generalize zgX k0 k1 b=S at *
 have hf:=zoj S (64-n) n hlt hn.1 zo;generalize S/2 ^ (64-n)%2 ^ n=R at *
 have e1:(64:Int)-(n:Int)=((64-n:Nat):Int):=zo;have e2:max (-1:Int) ((64-n:Nat):Int)=((64-n:Nat):Int):=zo;refine zGI ?_;refine zca hs ?_;refine zb2 (zr2 e1 e2) ?_;refine zca hf ?_;refine zP ?_;exact zLF
theorem zDE(b:LN)(h0:k0<18446744073709551616)(h1:k1<18446744073709551616)(hb:zbT b)(hl:b.length<=1000)(hn:1<=n/\n<64):FR 71 [.agg [uv k0,uv k1],bv p b,iv n] (uv (zgX k0 k1 b/2 ^ (64-n)%2 ^ n)):=by
 refine zfn (eG T71 func71) (.int _ _) ?_;have hs:=zFs p k0 k1 b h0 h1 hb hl;have hlt:=zxY k0 k1 b h0 h1 hb;generalize zgX k0 k1 b=S at *
 have hf:=zBs S (64-n) n hlt zo hn.2;generalize S/2 ^ (64-n)%2 ^ n=R at *
 have e1:(64:Int)-(n:Int)=((64-n:Nat):Int):=zo;refine zGI ?_;refine zca hs ?_;refine zb2 e1 ?_;refine zca hf ?_;refine zP ?_;exact zbp.int rfl


theorem zgA(r:Nat)(h:r<18446744073709551616):zgf r<18446744073709551616:=by
 unfold zgf
 cases Nat.beq (r%2) 1
 .grind
 .simp only[cond_true];exact zcn zo zy
theorem zFN{r x:Nat}(h:r<18446744073709551616)(hx:x<256):zl5 r x<18446744073709551616:=by
 unfold zl5 zvO;exact zgA _ (zgA _ (zgA _ (zgA _ (zgA _ (zgA _ (zgA _ (zgA _ (zcn h zo))))))))
theorem zF7(r x:Nat)(hr:r<18446744073709551616)(hx:x<256):FR 336 [uv r,.int .u8 x] (uv (zl5 r x)) :=
 zlc zjD (by rfl) fun S h us hS ha=>by
  obtain⟨y1,_,rfl,v1,hv⟩:=ha.oc;obtain⟨y2,_,rfl,v2,hv⟩:=hv.oc;obtain rfl:=hv.oN
  cases v1;cases v2
  refine⟨.ret (.int .u64 (.ofNat (zl5 r x))),h,?_,zAE9 _,fun _ _=>rfl,PR.int _ _⟩;show zqA [.int .u64 (.ofNat r),.int .u8 (.ofNat x)] h=_;unfold zqA zl5;dsimp only;rw[show Nat.blt r 18446744073709551616=true by simp_all,show Nat.blt x 256=true by simp_all];rfl
theorem zys(p:Nat)(l:LN)(hl:l.length<1000000)(P:Nat->LP)(hy:∀(i x:Nat),l[i]?=some x->FY ET id [.int .u8 x] (P i) fun r H'=>r=true/\H'=P (i+1)):
  FO ET 350 [.yield id,.elem [bv p l]] (P 0) false fun e H'=>e=.ret (.tuple [])/\H'=P l.length:=by
 refine zro (eG T350 func350) ?_;refine zG ?_;refine ze (zbk (fun m s=>∃i:Nat,m=l.length-i/\i<=l.length/\s.tm 0=.yield id/\s.tm 5=bv p l/\s.tm 6=iv l.length/\s.tm 7=iv i/\s.df=[]/\s.H=P i) (n:=l.length) ?_ ?_)
 .exact⟨0,rfl,zAJ9 _,zt,zt,by simp[upd,zcV],zt,rfl,rfl⟩
 .rintro m ⟨tm,df,H⟩ ⟨i,rfl,hi,h0,h5,h6,h7,rfl,rfl⟩;dsimp only at *
  refine zLh (zr2 h6 h7) ?_ ?_
  .intro hlt;have hlt:i<l.length:=ztd hlt;have hx:=zAA9 hlt;generalize l[i]=x at *
   have hxv:(bl l)[i]?=some (.int .u8 x):=by rw[zqZ,hx];rfl
   refine zBb ?_;refine zGF (zr6 h0 h5 h7 hxv hlt zcV) ?_;refine zae ?_;refine zb2 h0 ?_;refine zlT (id:=id) (vs:=[.int .u8 x]) rfl (by simp only[go_sem]) (FY.mono (hy i x hx) fun r H' hh=>?_);obtain⟨rfl,rfl⟩:=hh;refine zN ?_;refine zH ?_;refine zJF h7 ?_;exact⟨_,by omega,i+1,rfl,hlt,by simp[upd,h0],by simp[upd,h5],by simp[upd,h6],by simp[upd],rfl,rfl⟩
  .intro hlt;have hlt:¬i<l.length:=zfd hlt;obtain rfl:i=l.length:=zo;refine zfh rfl ⟨rfl,rfl⟩
theorem zEb:FP ET 335 [bv p l] (.ret (.fn 350 [.elem [bv p l]])):=by
 refine zfp (eG T335 func335) ?_;refine zO ?_;refine Frz.fnL ⟨.ptr (w:=bv p l) rfl (zAE9 _) rfl fun j x y hx hy=>?_,trivial⟩
 cases j with
 | zero=>simp[PV.cells]at hx hy;subst hx;subst hy;exact Frz.list _ _ _
 | succ j=>simp at hy
theorem zDi{x:Nat}(h:x<18446744073709551616):Nat.xor 18446744073709551615 x=18446744073709551615-x:=by
 have h1:=congrArg BitVec.toNat (BitVec.allOnes_xor (x:=BitVec.ofNat 64 x));rw[BitVec.toNat_xor,BitVec.toNat_not,BitVec.toNat_allOnes,BitVec.toNat_ofNat,zDA9 (show x<2 ^ 64 from h)]at h1;exact h1
theorem zEu(x:Nat)(h:x<18446744073709551616):sc1 (pUn .xor) [.int .u64 (x:Int)]=some (.int .u64 (18446744073709551615-x:Nat)):=by
 rw[<- zDi h];have h2:zmc Nat.xor .u64 (.ofNat 18446744073709551615) (.ofNat x)=some (.int .u64 (.ofNat (Nat.xor 18446744073709551615 x))):=by
  unfold zmc;dsimp only;rw[show Nat.blt 18446744073709551615 (2 ^ zin .u64)=true from rfl,show Nat.blt x (2 ^ zin .u64)=true by rw[zCT9];exact h];rfl
 have h3:∀n:Int,pUn .xor (.int .u64 n)=zmc Nat.xor .u64 (.ofNat 18446744073709551615) n:=fun n=>rfl;have h4:=(h3 (.ofNat x)).trans h2;generalize Nat.xor 18446744073709551615 x=y at *
 have h5:∀(u:Int) (w:TV),pUn .xor (.int .u64 u)=some w->sc1 (pUn .xor) [.int .u64 u]=ofT w:=fun u w h=>by unfold sc1 PV.toT;grind
 exact h5 _ _ h4
def moA:zbS:=.region [⟨some 6,.mov,[.tmp 11],none⟩]
def moB:zbS:=.block 1 (.region [⟨some 12,.load false 1,[.tmp 5],none⟩,⟨some 13,.mov,[.tmp 6],none⟩,⟨some 14,.call,[.fn 336,.tmp 12,.tmp 13],none⟩,⟨none,.store 1,[.tmp 5,.tmp 14],none⟩])
def moH(r:Nat)(tm:Nat->PV):LP:=[.row 402 1 0 0 [uv r],.dfr false,.loop .ready .norm tm [11] moA moB 1]
theorem zFm(r x:Nat)(hr:r<18446744073709551616)(hx:x<256)(tm:Nat->PV)(h5:tm 5=.ptr 0 0 0 0 1):FY ET 2 [.int .u8 x] (moH r tm) fun b H'=>b=true/\H'=moH (zl5 r x) tm:=by
 refine ziE (tm:=tm) (ps:=[11]) (aS:=moA) (bo:=moB) rfl rfl ?_;refine zae ?_;refine zK ?_;refine⟨rfl,_,_,_,_,_,_,rfl,?_⟩;have hi:=zF7 r x hr hx;generalize zl5 r x=R at *
 unfold moB;refine ze ?_;unfold moH;refine zIF h5 ?_;refine zca hi ?_;refine zKF h5 ?_;exact⟨rfl,.busy,.norm,tm,[11],moA,moB,1,rfl,rfl,rfl⟩
theorem zyb{b:LN}:∀{r:Nat},r<18446744073709551616->zbT b->zix r b<18446744073709551616:=by
 induction b with
 | nil=>exact fun h _=>h
 | cons x b ih=>exact fun h hb=>ih (zFN h (hb x (zAR9 ..))) fun y hy=>hb y (zAQ9 _ hy)
theorem zB1(r:Nat)(l:LN)(x:Nat):zix r (l++[x])=zl5 (zix r l) x:=by unfold zix;grind
theorem zFL(b:LN)(hb:zbT b)(hl:b.length<1000000):FR 302 [.int .u64 0,bv p b] (uv (18446744073709551615-zix 18446744073709551615 b)):=by
 refine zfn (eG T302 func302) (.int _ _) ?_;have c0:=zEu 0 zy;rw[show ((0:Nat):Int)=0 from rfl,show ((18446744073709551615-0:Nat):Int)=18446744073709551615 from rfl]at c0;refine zGF c0 ?_;refine zI ?_;refine zcp (zEb p b) ?_;refine zN ?_;refine zjR (upd (upd zkc 5 (.ptr 0 0 0 0 1)) 10 (.fn 350 [.elem [bv p b]])) (zcM _ _ (zcM _ _ (zir _) rfl) rfl) ?_;refine ze ?_;refine zit (g:=350) (cap:=[.elem [bv p b]]) (b:=false) (by simp only[go_sem]) ?_;have hP:∀tm:Nat->PV,tm 5=.ptr 0 0 0 0 1->FO ET 350 [.yield 2,.elem [bv p b]] (moH 18446744073709551615 tm) false fun e H'=>e=.ret (.tuple [])/\H'=moH (zix 18446744073709551615 b) tm:=fun tm h5=>by
  have:=zys 2 p b hl (fun i=>moH (zix 18446744073709551615 (b.take i)) tm) fun i x hx=>?_
  .simp only[zBF9]at this;exact this
  .have hlt:=(zAC9.1 hx).1;have hx2:x<256:=hb x (zAI9 hx);have:=zFm (zix 18446744073709551615 (b.take i)) x (zyb zy (hb.take _)) hx2 tm h5;rw[<- zB1]at this;rw[show b.take (i+1)=b.take i++[x] by rw[zBB9,hx];rfl];exact this
 have hlt:=zyb (r:=18446744073709551615) zy hb;refine FO.mono (fun e H' he=>?_) (hP _ rfl);obtain⟨rfl,rfl⟩:=he;generalize zix 18446744073709551615 b=R at *
 refine⟨⟨_,rfl⟩,.ready,.norm,_,_,_,_,_,by simp,rfl,?_⟩;simp only[zfj,zgz,reduceIte];have c1:=zEu R hlt;generalize 18446744073709551615-R=R2 at *
 unfold moH;simp only[zAG9,zAN9,zCE9,zCR9];refine zGF c1 ?_;refine zbN ?_;refine zj6 (vs:=[uv R2]) rfl rfl ?_;exact zbp.int rfl


theorem zAp(b:LN)(hb:zbT b)(hl:b.length<1000000):FR 236 [bv p b] (uv (18446744073709551615-zix 18446744073709551615 b)):=by
 refine zfn (eG T236 func236) (.int _ _) ?_;have hm:=zFL p b hb hl;generalize 18446744073709551615-zix 18446744073709551615 b=R at *
 refine zGI ?_;refine zca hm ?_;refine zP ?_;exact zbp.int rfl
theorem zw5(hw:∀w∈l,w<18446744073709551616)(hl:l.length<10000):FR 183 [wv p l] (uv (ziC l)):=by
 refine zfn (eG T183 func183) (.int _ _) ?_;have hb:=zow p l hw zo;have hs:=zAp 0 (zcK l) (zkB l) (by rw[zf0];omega);unfold ziC;generalize 18446744073709551615-zix 18446744073709551615 (zcK l)=R at *
 refine zGI ?_;refine zca hb ?_;refine zfx ?_;refine zca hs ?_;refine zP ?_;exact zbp.int rfl
theorem zxX:zyl ((l.map uv).flatMap PV.cells):=fun v hv=>by
 obtain⟨x,hx,hv⟩:=zAU9.1 hv;obtain⟨n,_,rfl⟩:=zAH9.1 hx;simp[PV.cells]at hv;grind
theorem zAf(h0:0<l.length)(hl:l.length<10000)(ha:LF H 1 args [wv p l]):FO ET 138 args H true fun e' H'=>∃g M,e'=.ret (.sl H.length g 0 l.length (2*l.length) 1)/\M<=g/\H'=H++[.row 29 1 g M (l.map uv)]:=by
 have k:FO ET 138 [wv p l] [] false fun e' H'=>∃id g M,e'=.ret (.sl id g 0 l.length (2*l.length) 1)/\M<=g/\H'[id]?=some (.row 29 1 g M (l.map uv)):=by
  refine zro (eG T138 func138) ?_;obtain⟨x,l',rfl⟩:∃x l',l=x::l':=by
   cases l with
   | nil=>grind
   | cons x l'=>grind
  have hcap:((x::l').length)*9<=140737488355328:=zo;have hne:¬(x::l').length=0:=by simp
  have hm:(x::l').map uv=uv x::l'.map uv:=rfl;refine zHY hm ?_;generalize x::l'=l at *
  refine zGF (zr2 hne hcap) ?_;refine zbN ?_;refine zfr ?_ (by simp only[go_sem]<;>rfl);exact⟨0,1,0,rfl,by omega,rfl⟩
 refine FO.own1 k ha (zxX _) ?_;intro e
 simp_all
theorem zCA(h0:0<l.length)(hl:l.length<10000)(hw:∀w∈l,w<18446744073709551616)(ha:LF H 1 args [wv p l]):FO ET 126 args H true fun e' H'=>∃g M,e'=.ret (.sl H.length g 0 (l++[ziC l]).length (2*(l++[ziC l]).length) 1)/\M<=g/\H'=H++[.row 29 1 g M ((l++[ziC l]).map uv)]:=by
 have k:FO ET 126 [wv p l] [] false fun e' H'=>∃id g M,e'=.ret (.sl id g 0 (l++[ziC l]).length (2*(l++[ziC l]).length) 1)/\M<=g/\H'[id]?=some (.row 29 1 g M ((l++[ziC l]).map uv)):=by
  refine zro (eG T126 func126) ?_;have hc:=zAf (H:=[]) (args:=[wv p l]) p l h0 hl ⟨.list _ _ _,trivial⟩;have hs:=zw5 p l hw hl;have hcap:(l.length+1)*9<=140737488355328:=zo;generalize ziC l=S at *
  refine zGI ?_;refine zco hc ?_;rintro e' H' ⟨g,M,rfl,hM,rfl⟩;refine zfx ?_;refine zca hs ?_;refine zNF hcap ?_;refine zbN ?_;refine zfr ?_ (by simp only[go_sem]<;>rfl);exact⟨0,g+1,M,by simp,by omega,by grind⟩
 refine FO.own1 k ha (zxX _) ?_
 simp_all
theorem zBC(g M:Nat)(l:LN)(hl:l.length<64)(hM:M<=g)(K:LP)(s:Nat)(hK:K[s]?=some (.row 29 1 g M (l.map uv))):FO ET 125 [.sl s g 0 l.length (2*l.length) 1] K false fun e' H'=>e'=.ret (.sl s (g+1) 0 64 128 1)/\H'=K.set s (.row 29 1 (g+1) M ((l++List.replicate (64-l.length) 0).map uv)):=by
 refine zro (eG T125 func125) ?_;have e1:(64:Int)-(l.length:Int)=((64-l.length:Nat):Int):=zo;have g1:((64-l.length:Nat):Int)<=1000000:=zo;have g2:((64-l.length:Nat):Int)*9<=140737488355328:=zo;have g3:¬64-l.length=0:=zo;have g4:l.length+(64-l.length)=64:=zo;have hr:∀n,List.replicate n (PV.int .u64 0)=(List.replicate n 0).map uv:=fun n=>by simp_all
 refine zG ?_;refine zB ?_;refine zgo ?_ (by simp(disch:=omega)only[go_sem,e1,g1,g2,g3,g4,hK,hr,zCV9]<;>rfl);refine zbN (zfr ?_);exact⟨rfl,by rw[zBE9]⟩


theorem zls(n lo hi:Int)(h:lo<=n/\n<=hi):FR 235 [iv n,iv lo,iv hi] (.bool true):=by
 refine zfn (eG T235 func235) (.bool _) ?_;have g1:=h.1;have g2:=h.2;refine zOF (zr2 g1 g2) ?_;exact zbp.bool rfl
theorem zA7(d':Nat):zcX [1,1,1,1,1,1,1,1,1,1] [.int .i64 48,.int .i64 8,.int .i64 64,.int .i64 (b:Int),.int .u64 3,.int .u64 5,.int .i64 9,.int .i64 11,.int .i64 27,.int .i64 (d:Int)] [.int .i64 48,.int .i64 8,.int .i64 64,.int .i64 (b:Int),.int .u64 3,.int .u64 5,.int .i64 9,.int .i64 11,.int .i64 27,.int .i64 (d':Int)]=some (decide (d=d')):=by
 by_cases h:d=d'
 .subst h;simp[zcX,zmi,kno,zdM]
 .have h2:¬(d:Int)=(d':Int):=zo;simp[zcX,zmi,kno,zdM,h,h2]
theorem zgP:Id0 (zb7 b d):=.agg fun x hx=>by
 simp[zdD]at hx;rcases hx with rfl|rfl|rfl|rfl|rfl|rfl|rfl|rfl|rfl|rfl<;>exact .int _ _
theorem Lb.lay:Lb (zb7 b d):=.agg fun x hx=>by
 simp[zdD]at hx;rcases hx with rfl|rfl|rfl|rfl|rfl|rfl|rfl|rfl|rfl|rfl<;>exact .int _ _
theorem zDX(h:1<=b/\b<=40):FR 182 [.agg [iv 48,iv 8,iv 64,iv b],.agg [uv 3,uv 5]] (.tuple [zb7 b 28,iv 0]):=by
 refine zfn (eG T182 func182) (Lb.two (Lb.lay _ _) (.int _ _)) ?_;have i1:=zls 48 32 2048 zo;have i2:=zls b 1 40 zo;have i3:=zls 8 4 256 zo;have i4:=zls 64 4 1024 zo;have r1:(8:Int).tmod 4=0:=rfl;have r2:(64:Int).tmod 4=0:=rfl;have q1:(8:Int).tdiv 4=2:=rfl;have q2:(64:Int).tdiv 4=16:=rfl;refine zHW ?_;refine zI ?_;refine zcd ?_;refine zn0 ?_;refine zB ?_;refine zI ?_;refine zcd ?_;refine zB ?_;refine zI ?_;refine zca i1 ?_;refine zfx ?_;refine zca i2 ?_ (by first|rfl|(simp only[go_sem,r1]<;>rfl)) (by simp only[go_sem,r1]<;>rfl);refine zN ?_;refine zH ?_;refine zB ?_;refine zI ?_;refine zca i3 ?_;refine zb2 r1 ?_;refine zca i4 ?_ (by first|rfl|(simp only[go_sem,r1]<;>rfl)) (by simp only[go_sem,r1]<;>rfl);refine zNF r2 ?_;refine zH ?_;refine zHY (zr2 q1 q2) ?_;refine zG ?_;refine zbN ?_;refine zfr ?_ (by simp only[go_sem,r1]<;>rfl);exact Frz.tL ⟨(zgP b 28).frz,.int _ _,trivial⟩
theorem zo0(h:1<=b/\b<=40):FR 124 [zb7 b d] (.bool (decide (28=d))):=by
 refine zfn (eG T124 func124) (.bool _) ?_;have ho:=zDX b h;have he:=zA7 b 28 d;rw[show ((28:Nat):Int)=28 from rfl]at he;have h10:Nat.beq 10 10=true:=rfl;unfold zb7 zdD at ho⊢;refine zMG ho ?_;refine zOF (zr2 he h10) ?_;exact zbp.bool rfl
@[reducible] def layZ:PV:=.agg [iv 0,iv 0,iv 0,iv 0,uv 0,uv 0,iv 0,iv 0,iv 0,iv 0]
theorem zlQ:Id0 layZ:=.agg fun x hx=>by
 simp only[zBA9,zCW9,or_false]at hx;rcases hx with rfl|rfl|rfl|rfl|rfl|rfl|rfl|rfl|rfl|rfl<;>exact .int _ _
theorem Lb.layZ:Lb layZ:=.agg fun x hx=>by
 simp only[zBA9,zCW9,or_false]at hx;rcases hx with rfl|rfl|rfl|rfl|rfl|rfl|rfl|rfl|rfl|rfl<;>exact .int _ _
theorem zEw(h:1<=b/\b<=40):FR 32 [.agg [iv 48,iv 8,iv 64,iv b],.agg [uv 3,uv 5]] (.tuple [zb7 b 28,iv 0]):=by
 refine zfn (eG T32 func32) (Lb.two (Lb.lay _ _) (.int _ _)) ?_;have r1:(8:Int).tmod 4=0:=rfl;have r2:(64:Int).tmod 4=0:=rfl;have q1:(8:Int).tdiv 4=2:=rfl;have q2:(64:Int).tdiv 4=16:=rfl;have g1:¬(b:Int)<1:=zo;have g2:¬(40:Int)<(b:Int):=zo;refine zHY (zr4 r1 r2 g1 g2) ?_;refine zHY (zr2 q1 q2) ?_;refine zG ?_;refine zbN (zfr ?_ (by simp only[go_sem,r1]<;>rfl));exact Frz.tL ⟨(zgP b 28).frz,.int _ _,trivial⟩
theorem zHe(n:Int)(h:n<1\/40<n):FR 32 [.agg [iv 48,iv 8,iv 64,iv n],.agg [uv 3,uv 5]] (.tuple [layZ,iv 2]):=by
 refine zfn (eG T32 func32) (Lb.two Lb.layZ (.int _ _)) ?_;have r1:(8:Int).tmod 4=0:=rfl;have r2:(64:Int).tmod 4=0:=rfl
 by_cases g1:n<1
 .refine zSF (zr3 r1 r2 g1) ?_;refine zG ?_;refine zbN (zfr ?_ (by simp only[go_sem,r1]<;>rfl));exact Frz.tL ⟨zlQ.frz,.int _ _,trivial⟩
 .have g2:40<n:=zo;refine zSF (zr4 r1 r2 g1 g2) ?_;refine zG ?_;refine zbN (zfr ?_ (by simp only[go_sem,r1]<;>rfl));exact Frz.tL ⟨zlQ.frz,.int _ _,trivial⟩
theorem zky(h:1<=b/\b<=40):FR 70 [zb7 b d] (.bool (decide (28=d))):=by
 refine zfn (eG T70 func70) (.bool _) ?_;have ho:=zEw b h;have he:=zA7 b 28 d;rw[show ((28:Nat):Int)=28 from rfl]at he;have h10:Nat.beq 10 10=true:=rfl;unfold zb7 zdD at ho⊢;refine zMG ho ?_;refine zOF (zr2 he h10) ?_;exact zbp.bool rfl


theorem zvY(h:1<=b/\b<=40):∃X:LN,FR 77 [zb7 b 28] (.tuple [wv 0 X,iv 0]):=by
 obtain⟨l,hl⟩:∃l,l=[3555397645633865032,48,8,64,b,3,5]:=⟨_,rfl⟩
 refine⟨(l++[ziC l])++List.replicate (64-(l++[ziC l]).length) 0,?_⟩;refine zfn (eG T77 func77) (Lb.two (Lb.uvs _) (.int _ _)) ?_;have hr:=zo0 b 28 h;rw[decide_eq_true rfl]at hr;unfold zb7 zdD at hr⊢;refine zMG hr ?_;refine zH ?_;refine zG ?_;have hll:l.length=7:=by rw[hl];rfl
 have hw:∀w∈l,w<18446744073709551616:=fun w hw=>by
  grind
 have hlv:l.map uv=[.int .u64 3555397645633865032,.int .u64 48,.int .u64 8,.int .u64 64,.int .u64 b,.int .u64 3,.int .u64 5]:=by rw[hl];rfl
 have g1:(b:Int)<18446744073709551616:=zo;have hs:=zCA (H:=[.row 32 10 0 0 [.agg [iv 48,iv 8,iv 64,iv b,uv 3,uv 5,iv 9,iv 11,iv 27,iv 28]],.row 28 4 0 0 [.agg [iv 48,iv 8,iv 64,iv b]],.row 29 1 0 0 (l.map uv)]) (args:=[.sl 2 0 0 7 14 1]) 1 l zo zo hw ⟨zjO rfl (zAE9 _) (zAE9 _) hll.symm (zAE9 _),trivial⟩;have hL:(l++[ziC l]).length=8:=by rw[zAB9,hll];rfl
 generalize l++[ziC l]=L at *
 rw[hlv]at hs;refine zIF g1 ?_;refine zco hs ?_ (by first|rfl|(simp only[go_sem,g1]<;>rfl)) (by simp only[go_sem]<;>rfl);rintro e' H' ⟨g,M,rfl,hM,rfl⟩;refine zfx ?_;have hp:=zBC g M L zo hM [.row 32 10 0 0 [.agg [iv 48,iv 8,iv 64,iv b,uv 3,uv 5,iv 9,iv 11,iv 27,iv 28]],.row 28 4 0 0 [.agg [iv 48,iv 8,iv 64,iv b]],.row 29 1 0 0 [.int .u64 3555397645633865032,.int .u64 48,.int .u64 8,.int .u64 64,.int .u64 b,.int .u64 3,.int .u64 5],.row 29 1 g M (L.map uv)] 3 rfl;rw[hL]at hp⊢;refine zco hp ?_ (by first|rfl|(simp only[go_sem,g1]<;>rfl)) (by simp only[go_sem]<;>rfl);rintro e' H' ⟨rfl,rfl⟩;refine zP ?_;refine Frz.tL ⟨zjO rfl zo (zAE9 _) (by simp[hL]) zo,.int _ _,trivial⟩
def zgl:LQ:=[.agg [iv 1,.fn 303 [],.fn 304 [],iv 64,iv 0],.agg [iv 2,.fn 305 [],.fn 306 [],iv 64,iv 0],.agg [iv 3,.fn 307 [],.fn 308 [],iv 16,iv 1],.agg [iv 4,.fn 309 [],.fn 310 [],iv 16,iv 1],.agg [iv 5,.fn 311 [],.fn 304 [],iv 64,iv 0],.agg [iv 6,.fn 312 [],.fn 313 [],iv 64,iv (-1)]]
theorem zs3:∀v∈zgl.flatMap PV.cells,Id0 v:=fun v hv=>by
 simp only[zgl,zBQ9,List.flatMap_nil,zCY9,PV.cells,zAS9,zAV9,zBA9,zCW9,or_false]at hv;have hf:∀f,Id0 (.fn f []):=fun f=>.fn fun x hx=>by cases hx
 rcases hv with rfl|rfl|rfl|rfl|rfl|rfl|rfl|rfl|rfl|rfl|rfl|rfl|rfl|rfl|rfl|rfl|rfl|rfl|rfl|rfl|rfl|rfl|rfl|rfl|rfl|rfl|rfl|rfl|rfl|rfl<;>first|exact .int _ _|exact hf _
theorem zxd:FR 237 [] (.list 0 5 zgl):=by
 have hL:Lb (.list 0 5 zgl):=.list fun x hx=>by
  have:=zs3 x hx;simp only[zgl,zBQ9,List.flatMap_nil,zCY9,PV.cells,zAS9,zAV9,zBA9,zCW9,or_false]at hx;have hf:∀f,Lb (.fn f []):=fun f=>.fn fun x hx=>by cases hx
  rcases hx with rfl|rfl|rfl|rfl|rfl|rfl|rfl|rfl|rfl|rfl|rfl|rfl|rfl|rfl|rfl|rfl|rfl|rfl|rfl|rfl|rfl|rfl|rfl|rfl|rfl|rfl|rfl|rfl|rfl|rfl<;>first|exact .int _ _|exact hf _
 refine zfn (eG T237 func237) hL ?_;refine zO ?_;exact Frz.wh (e:=341) (z':=5) (l:=zgl) rfl rfl rfl zy (fun v hv=>by simp only[zgl,zBA9,zCW9,or_false]at hv;rcases hv with rfl|rfl|rfl|rfl|rfl|rfl<;>rfl) zs3
theorem zyj:FR 309 [zb7 b 28] (iv 11):=by
 refine zfn (eG T309 func309) (.int _ _) ?_;unfold zb7 zdD;refine zO ?_;exact zbp.int rfl
theorem zyK:FR 310 [zb7 b 28] (iv 64):=by
 refine zfn (eG T310 func310) (.int _ _) ?_;unfold zb7 zdD;refine zO ?_;exact zbp.int rfl
theorem zCZ(k:Nat)(hk:k<64):FR 238 [.agg [iv 4,.fn 309 [],.fn 310 [],iv 16,iv 1],zb7 b 28,iv k] (iv (704+16*k:Nat)):=by
 refine zfn (eG T238 func238) (.int _ _) ?_;have hf:=zyj b;unfold zb7 zdD at hf⊢;refine zG ?_;refine zaB ?_;refine zdn hf ?_ (by simp(disch:=omega)only[go_sem]<;>rfl);refine zQF hf ?_;refine zO ?_;have e:((704+16*k:Nat):Int)=704+(k:Int)*16:=zo;exact zbp.int (by grind)
theorem zw0(h:1<=b/\b<=40)(hn:1<=n/\n<=64):FR 184 [zb7 b 28,iv 4,iv n] (.tuple [iv (704+16*(n-1):Nat),iv 0]):=by
 refine zfn (eG T184 func184) (Lb.two (.int _ _) (.int _ _)) ?_;have hr:=zo0 b 28 h;rw[decide_eq_true rfl]at hr;have hm:=zyK b;have hat:=zCZ b (n-1) zo;have hin:=zls n 1 64 zo;have e1:(n:Int)-1=((n-1:Nat):Int):=zo;generalize 704+16*(n-1)=R at *
 unfold zb7 zdD at *
 refine zMG hr ?_;refine zH ?_;refine zMG zxd ?_;refine zjR (upd (upd (upd (upd (upd (upd zkc 1 (iv 4)) 2 (iv n)) 8 (.ptr 1 0 0 0 10)) 16 (.list 0 5 zgl)) 17 (iv 6)) 18 (iv 0)) (zcM _ _ (zcM _ _ (zcM _ _ (zcM _ _ (zcM _ _ (zcM _ _ (zir _) rfl) rfl) rfl) rfl) rfl) rfl) ?_;refine ze (zbk (fun m s=>∃(i:Nat) (G:LP),m=6-i/\i<=3/\s.tm 1=iv 4/\s.tm 2=iv n/\s.tm 8=.ptr 1 0 0 0 10/\s.tm 16=.list 0 5 zgl/\s.tm 17=iv 6/\s.tm 18=iv i/\s.df=[]/\s.H=.row 32 10 0 0 [.agg [iv 48,iv 8,iv 64,iv b,uv 3,uv 5,iv 9,iv 11,iv 27,iv 28]]::.row 336 10 0 0 [.agg [iv 48,iv 8,iv 64,iv b,uv 3,uv 5,iv 9,iv 11,iv 27,iv 28]]::G) (n:=6) ?_ ?_)
 .exact⟨0,[],rfl,by omega,zt,zt,zt,zt,zt,zt,rfl,rfl⟩
 .rintro m ⟨tm,df,H⟩ ⟨i,G,rfl,hi,h1,h2,h8,h16,h17,h18,rfl,rfl⟩;dsimp only at *
  refine zLh (zr2 h17 h18) ?_ ?_
  .intro _
   by_cases h3:i=3
   .subst h3;have hx:zgl[3]?=some (.agg [iv 4,.fn 309 [],.fn 310 [],iv 16,iv 1]):=rfl;have e3:((3:Nat):Int)=3:=rfl;rw[e3]at h18;refine zBb ?_;refine zGF (zr3 h16 h18 hx) ?_;refine zaB ?_;refine zcu (zr3 h1 h2 h8) hm ?_;refine zcu (zr3 h1 h2 h8) hin ?_;refine zQF h1 ?_;refine zct ?_;refine zIF (zr3 h2 h8 e1) ?_;refine zCN hat ?_;refine zbN (zfr ?_ (by simp only[go_sem]<;>rfl));exact zLF
   .obtain⟨q,f,g,w,z,hx,hq⟩:∃(q:Int) (f g:Nat) (w z:Int),zgl[i]?=some (.agg [iv q,.fn f [],.fn g [],iv w,iv z])/\¬q=4:=by
     match i,h3,hi with
     | 0,_,_=>exact⟨_,_,_,_,_,rfl,by decide⟩
     | 1,_,_=>exact⟨_,_,_,_,_,rfl,by decide⟩
     | 2,_,_=>exact⟨_,_,_,_,_,rfl,by decide⟩
     | 3,h,_=>omega
    refine zBb ?_;refine zGF (zr3 h16 h18 hx) ?_;refine zaB ?_;refine zfw (by first|exact trivial|simp only[go_sem,h1,h2,h8,hq]) (by simp(disch:=omega)only[go_sem,h1,hq]<;>rfl) rfl (by simp only[go_sem,hq]<;>rfl) (by simp only[go_sem]<;>rfl) ?_;refine zfw (by first|exact trivial|simp only[go_sem,hq]) (by simp(disch:=omega)only[go_sem,hq]<;>rfl) rfl (by simp only[go_sem,hq]<;>rfl) (by simp only[go_sem]<;>rfl) ?_;refine zQF h1 ?_;refine zH ?_;refine zae ?_;refine zKF h18 ?_;exact⟨_,by omega,i+1,_,rfl,by omega,zu h1,zu h2,zu h8,zu h16,zu h17,zt,rfl,rfl⟩
  .intro hlt;have:=of_decide_eq_false hlt;omega
theorem zzZ(h:1<=b/\b<=40)(hn:1<=n/\n<=64):FR 128 [zb7 b 28,iv n] (.tuple [iv (704+16*(n-1):Nat),iv 0]):=by
 refine zfn (eG T128 func128) (Lb.two (.int _ _) (.int _ _)) ?_;have hp:=zw0 b n h hn;generalize 704+16*(n-1)=R at *
 unfold zb7 zdD at *
 refine zGI ?_;refine zca hp ?_;refine zP ?_;exact zLF


theorem ze5{s:LN}(h:zb1 s=0):0<s.length/\s.length<=120:=by
 rcases ziI s with h2|⟨_,_,h2⟩|⟨_,h2⟩
 .omega
 .omega
 .refine⟨?_,h2⟩
  cases s with
  | nil=>exact absurd h zy
  | cons a l=>simp
theorem zDv(k:Nat)(hk:k<18446744073709551616):FR 131 [uv k] (.tuple [uv (k/65536),iv (k%65536:Nat)]):=by
 refine zfn (eG T131 func131) (Lb.two (.int _ _) (.int _ _)) ?_;have hf:=zoj k 0 16 hk zy zy;rw[show k/2 ^ 0%2 ^ 16=k%65536 by simp only[Nat.reducePow,Nat.pow_zero,Nat.div_one]]at hf;obtain⟨D,e16⟩:∃D,k/2 ^ 16=D:=⟨_,rfl⟩
 have hD:k/65536=D:=by rw[<- e16]
 have hm:k%65536<65536:=zFJ9 _ zy;rw[hD];clear hD;generalize k%65536=R at *
 refine zMG hf ?_;refine zOF e16 ?_;exact zLF
theorem zAo(h:1<=b/\b<=40)(s:LN)(hb:zbT s)(hs:zb1 s=0):FR 130 [zb7 b 28,.str s] (.tuple [uv (ze0 b s),iv 0]):=by
 refine zfn (eG T130 func130) (Lb.two (.int _ _) (.int _ _)) ?_;obtain⟨X,hX⟩:=zvY b h;have hn:=zkV s;rw[hs]at hn;rw[show ((0:Nat):Int)=0 from rfl]at hn;have hl:=ze5 hs;have hp:=zFW 1 3 5 b s zy zy hb hl.1 zo ⟨h.1,by omega⟩;unfold ze0;generalize zgX 3 5 s/2 ^ (64-b)%2 ^ b=S at *
 have hs1:s.length<=1000000:=zo;unfold zb7 zdD at *
 refine zG ?_;refine zB ?_;refine zM hX ?_;refine zB ?_;refine zI ?_;refine zcd ?_;refine zH ?_;refine zB ?_;refine zM hn ?_;refine zB ?_;refine zI ?_;refine zcd ?_;refine zH ?_;refine zB ?_;refine zIF hs1 ?_;refine zcl hp ?_ ?_;(repeat(first|exact trivial|refine And.intro ?_ ?_|exact .int _ _|exact .bool _|exact .list _ _ _|exact .elem _|exact .nilsl|exact .nil _ _|exact .str _|refine Frz.aggL ?_|refine Frz.fnL ?_|refine Frz.tL ?_|refine .iface ?_|exact zdq rfl rfl (by assumption)))
 .exact zh3 rfl (zAE9 _) (zAE9 _) rfl (zAE9 _)
 .exact⟨.int _ _,trivial⟩
 refine zP ?_;exact zLF


theorem zEp(n lo hi:Int):FR 135 [iv n,iv lo,iv hi] (.bool (decide (lo<=n)&&decide (n<=hi))):=by
 refine zfn (eG T135 func135) (.bool _) ?_
 by_cases g1:lo<=n
 .refine zOF g1 ?_;exact zbp.bool (by simp[g1])
 .refine zOF g1 ?_;exact zbp.bool (by simp[g1])
theorem zAQ:FR 337 [.elem [iv r.ino,.str r.name]] (.bool (decide (1<=r.ino)&&decide (r.ino<=256))):=by
 refine zfn (eG T337 func337) (.bool _) ?_;have hi:=zEp r.ino 1 256;refine zGI ?_;refine zca hi ?_;refine zP ?_;exact zbp.bool (by grind)
theorem zyh:FR 338 [.elem [iv r.ino,.str r.name]] (.bool (decide (zb1 r.name=0))):=by
 refine zfn (eG T338 func338) (.bool _) ?_;have hn:=zkV r.name;refine zGI ?_;refine zca hn ?_;refine zP ?_;exact zbp.bool (by
  grind)
theorem zwQ:FR 315 [zgn r] (.bool (zeZ r)):=by
 refine zfn (eG T315 func315) (.bool _) ?_;have hid:∀v∈[iv r.ino,PV.str r.name],Id0 v:=fun v hv=>by
  simp at hv;rcases hv with rfl|rfl
  .exact .int _ _
  .exact .str _
 refine zG ?_;have hfl:∀(G:LP),G=G:=fun _=>rfl;refine ze (zbk (fun m s=>∃(i:Nat),m=2-i/\i<=2/\(zeZ r=(if i=0 then zeZ r else if i=1 then decide (zb1 r.name=0)else true))/\s.tm 7=.sl 1 0 0 2 4 1/\s.tm 8=iv 2/\s.tm 9=iv i/\s.df=[]/\s.H=[.row 386 2 0 0 [.agg [iv r.ino,.str r.name]],.row 36 1 0 0 [.fn 337 [.ptr 0 0 0 0 2],.fn 338 [.ptr 0 0 0 0 2]]]) (n:=2) ?_ ?_)
 .exact⟨0,rfl,by omega,rfl,zt,zt,zt,rfl,rfl⟩
 .rintro m ⟨tm,df,H⟩ ⟨i,rfl,hi,hb,h7,h8,h9,rfl,rfl⟩;dsimp only at h7 h8 h9;refine zLh (zr2 h8 h9) ?_ ?_
  .intro hlt;have hlt:i<2:=ztd hlt;refine zBb ?_
   match i,hlt with
   | 0,_ =>
    have h0:=zAQ r;rw[show ((0:Nat):Int)=0 from rfl]at h9;refine zGF (zr2 h7 h9) ?_;refine zIF h7 ?_;refine zca h0 ?_
    by_cases g:1<=r.ino/\r.ino<=256
    .have g1:(decide (1<=r.ino)&&decide (r.ino<=256))=true:=by simp[g]
     refine zNF g1 ?_;refine zH ?_;refine zae ?_;refine zKF h9 ?_;exact⟨_,by omega,1,rfl,by omega,by unfold zeZ;grind,by simp[upd,h7],by simp[upd,h8],by simp[upd],rfl,rfl⟩
    .have g1:(decide (1<=r.ino)&&decide (r.ino<=256))=false:=by simp;omega
     refine zNF g1 ?_;refine zct ?_;refine zG ?_;refine zbN (zfr ?_ (by simp only[go_sem]<;>rfl));exact zbp.bool (by unfold zeZ;grind)
   | 1,_ =>
    have h0:=zyh r;rw[show ((1:Nat):Int)=1 from rfl]at h9;have hb:zeZ r=decide (zb1 r.name=0):=hb;refine zGF (zr2 h7 h9) ?_;refine zIF h7 ?_;refine zca h0 ?_
    by_cases g:zb1 r.name=0
    .have g1:decide (zb1 r.name=0)=true:=decide_eq_true g;refine zNF g1 ?_;refine zH ?_;refine zae ?_;refine zKF h9 ?_;exact⟨_,by omega,2,rfl,by omega,by grind,by simp[upd,h7],by simp[upd,h8],by simp[upd],rfl,rfl⟩
    .have g1:decide (zb1 r.name=0)=false:=decide_eq_false g;refine zNF g1 ?_;refine zct ?_;refine zG ?_;refine zbN (zfr ?_ (by simp only[go_sem]<;>rfl));exact zbp.bool (by grind)
  .intro hlt;have hlt:¬i<2:=zfd hlt;obtain rfl:i=2:=zo;refine zO ?_;exact zbp.bool (by grind)
theorem zqz:FR 243 [zgn r] (iv (if zeZ r=true then 0 else 250:Nat)):=by
 refine zfn (eG T243 func243) (.int _ _) ?_;have h:=zwQ r;refine zGI ?_;refine zca h ?_
 cases hb:zeZ r with
 | true =>
  refine zN ?_;refine zH ?_;refine zO ?_;exact zbp.int rfl
 | false =>
  refine zN ?_;refine zU ?_;exact zbp.int rfl
theorem zBR(g M:Nat)(l:LN)(hl:l.length<=16)(hM:M<=g)(K:LP)(s:Nat)(hK:K[s]?=some (.row 29 1 g M (l.map uv))):FO ET 245 [.sl s g 0 l.length (2*l.length) 1] K false fun e' H'=>∃g',M<=g'/\e'=.ret (.sl s g' 0 16 32 1)/\H'=K.set s (.row 29 1 g' M ((l++List.replicate (16-l.length) 0).map uv)):=by
 refine zro (eG T245 func245) ?_;have e1:(16:Int)-(l.length:Int)=((16-l.length:Nat):Int):=zo;have g1:((16-l.length:Nat):Int)<=1000000:=zo;have g2:((16-l.length:Nat):Int)*9<=140737488355328:=zo;have g4:l.length+(16-l.length)=16:=zo;have hr:∀n,List.replicate n (PV.int .u64 0)=(List.replicate n 0).map uv:=fun n=>by simp_all
 by_cases hz:16-l.length=0
 .refine zG ?_;refine zB ?_;refine zgo ?_ (by simp(disch:=omega)only[go_sem,e1,g1,g2,hz,g4,hK,hr,zCV9,Int.le_refl]<;>rfl);refine zbN (zfr ?_);have hl16:l.length=16:=zo;rw[hl16];exact⟨g,hM,rfl,by rw[zGV9,List.replicate_zero,zCY9];exact zuR hK⟩
 .refine zG ?_;refine zB ?_;refine zgo ?_ (by simp(disch:=omega)only[go_sem,e1,g1,g2,hz,g4,hK,hr,zCV9]<;>rfl);refine zbN (zfr ?_);exact⟨g+1,by omega,rfl,by rw[zBE9]⟩
theorem zGm(v:Nat)(hw:w<65536)(hv:v<256):FR 244 [uv w,iv 16,iv 8,uv v] (.tuple [uv (w+v*65536),iv 0]) :=
 zlc zjD (by rfl) fun S h us hS ha=>by
  obtain⟨y1,_,rfl,v1,hv'⟩:=ha.oc;obtain⟨y2,_,rfl,v2,hv'⟩:=hv'.oc;obtain⟨y3,_,rfl,v3,hv'⟩:=hv'.oc;obtain⟨y4,_,rfl,v4,hv'⟩:=hv'.oc;obtain rfl:=hv'.oN
  cases v1;cases v2;cases v3;cases v4
  have e0:Nat.land w ((2 ^ 8-1)*2 ^ 16)=0:=by
   refine Nat.eq_of_testBit_eq fun i=>?_;show (w &&& ((2 ^ 8-1)*2 ^ 16)).testBit i=_;rw[Nat.testBit_and,zGE9]
   by_cases hi:16<=i
   .rw[Nat.testBit_lt_two_pow (zBM9 hw (zDK9 (n:=2) zy hi))];simp
   .simp[hi]
  have e1:Nat.lor (Nat.xor w 0) (v*2 ^ 16)=w+v*65536:=by
   have h1:Nat.xor w 0=w:=Nat.xor_zero w;rw[h1];have h2:=Nat.two_pow_add_eq_or_of_lt (i:=16) (b:=w) hw v;show w ||| v*2 ^ 16=_;rw[Nat.or_comm,zFN9 v,<- h2];omega
  refine⟨.ret (.tuple [.int .u64 (.ofNat (w+v*65536)),.int .i64 (.ofNat 0)]),h,?_,zAE9 _,fun _ _=>rfl,?_⟩;rotate_left
  .have:LR (PR (S0 S h.next h.next) h) [uv (w+v*65536),iv 0] [.int .u64 (.ofNat (w+v*65536)),.int .i64 (.ofNat 0)]:=LR.cons (PR.int _ _) (LR.cons (PR.int _ _) LR.nil);exact PR.tuple this.1 this.2
  show zq9 [.int .u64 (.ofNat w),.int .i64 (.ofNat 16),.int .i64 (.ofNat 8),.int .u64 (.ofNat v)] h=_;unfold zq9;dsimp only;rw[e0,e1,show Nat.blt w 18446744073709551616=true by simp;omega,show Nat.blt v (2 ^ 8)=true by simp_all];rfl


theorem zfl:zeZ r=true↔(1<=r.ino/\r.ino<=256/\zb1 r.name=0):=by
 unfold zeZ;simp[and_assoc]
theorem zwv(h:zeZ r=false):FR 187 [zgn r] (.tuple [wv 0 [],iv 250]):=by
 refine zfn (eG T187 func187) (Lb.two (Lb.uvs _) (.int _ _)) ?_;have hc:=zqz r;rw[h]at hc;refine zG ?_;refine zB ?_;refine zM hc ?_;refine zS ?_;refine zO ?_;exact zLF
theorem zxR(h:r.name.length<=120):zeM r=((r.ino+65536*r.name.length)::zdQ r.name)++List.replicate (16-((r.ino+65536*r.name.length)::zdQ r.name).length) 0:=by
 unfold zeM;rw[zAG9,zee]
 congr 2
 omega
theorem zzp(h:zeZ r=true)(hb:zbT r.name):FR 187 [zgn r] (.tuple [wv 0 (zeM r),iv 0]):=by
 refine zfn (eG T187 func187) (Lb.two (Lb.uvs _) (.int _ _)) ?_;have hc:=zqz r;rw[h]at hc;obtain⟨h1,h2,h3⟩:=(zfl r).1 h;have hl:=ze5 h3;have hw:=zGm r.ino r.name.length zo zo;have hlay:=zuD 1 r.name hb zo;rw[zxR r hl.2];have hln:=zee r.name;rw[zFN9 65536];generalize r.ino+r.name.length*65536=X at *
 generalize zdQ r.name=L at *
 have g1:(r.ino:Int)<18446744073709551616:=zo;have g2:(r.name.length:Int)<18446744073709551616:=zo;have g3:r.name.length<=1000000:=zo;have g4:¬L.length=0:=zo;have g5:(1+L.length)*9<=140737488355328:=zo;obtain⟨ino,name⟩:=r;dsimp only at *
 refine zG ?_;refine zB ?_;refine zM hc ?_;refine zTH ?_;refine zB ?_;refine zIF (zr2 g1 g2) ?_;refine zCN hw ?_;refine zB ?_;refine zIF g3 ?_;refine zcl hlay ?_ ?_;(repeat(first|exact trivial|refine And.intro ?_ ?_|exact .int _ _|exact .bool _|exact .list _ _ _|exact .elem _|exact .nilsl|exact .nil _ _|exact .str _|refine Frz.aggL ?_|refine Frz.fnL ?_|refine Frz.tL ?_|refine .iface ?_|exact zdq rfl rfl (by assumption)))
 .exact zh3 rfl (zAE9 _) (zAE9 _) rfl (zAE9 _)
 .exact trivial
 refine zb2 (zr2 g4 g5) ?_;have hp:=zBR 1 0 (X::L) (by simp;omega) (zAJ9 _) [.row 73 2 0 0 [.agg [iv ino,.str name]],.row 29 1 1 0 ((X::L).map uv),.row 5 1 0 0 (bl name)] 1 rfl;have hlen:((X::L)++List.replicate (16-(X::L).length) 0).length=16:=by rw[zAB9,zCV9,zAG9];omega
 generalize (X::L)++List.replicate (16-(X::L).length) 0=Y at *
 rw[zAG9,zDS9 L.length 1]at hp;refine zco hp ?_ (by first|rfl|(simp only[go_sem,g4]<;>rfl)) (by simp only[go_sem,g4]<;>rfl);rintro e' H' ⟨g',hg,rfl,rfl⟩;refine zP ?_;exact Frz.tL ⟨zjO rfl (zAJ9 _) (zAE9 _) hlen.symm (zAE9 _),.int _ _,trivial⟩


theorem zxc(a b:LN)(hl:a.length<1000000000):FR 188 [wv p a,wv q b] (.bool (decide (a=b))):=by
 refine zfn (eG T188 func188) (.bool _) ?_;refine zG ?_;refine zfc ?_ ?_ (by simp only[go_sem]<;>rfl)
 .intro hne;have hne:¬a.length=b.length:=fun e=>by grind
  refine zO ?_;exact zbp.bool (by grind)
 intro heq;have heq:a.length=b.length:=by
  have h2:(a.length:Int)=(b.length:Int):=by simpa using heq
  omega
 refine zr ?_;refine zG ?_;refine ze (zbk (fun m s=>∃(i:Nat),m=a.length-i/\i<=a.length/\decide (a=b)=decide (a.drop i=b.drop i)/\s.tm 0=wv p a/\s.tm 1=wv q b/\s.tm 12=iv a.length/\s.tm 13=iv i/\s.df=[]/\s.H=[]) (n:=a.length) ?_ ?_)
 .exact⟨0,rfl,zAJ9 _,rfl,zt,zt,zt,zt,rfl,rfl⟩
 .rintro m ⟨tm,df,H⟩ ⟨i,rfl,hi,hd,h0,h1,h12,h13,rfl,rfl⟩;dsimp only at *
  refine zLh (zr2 h12 h13) ?_ ?_
  .intro hlt;have hlt:i<a.length:=ztd hlt;have hltb:i<b.length:=zo;have hda:a.drop i=a[i]::a.drop (i+1):=zAM9 hlt;have hdb:b.drop i=b[i]::b.drop (i+1):=zAM9 hltb;have hxa:(a.map uv)[i]?=some (uv a[i]):=by rw[zAF9,zAA9 hlt];rfl
   have hxb:(b.map uv)[i]?=some (uv b[i]):=by rw[zAF9,zAA9 hltb];rfl
   rw[hda,hdb]at hd;generalize a[i]=x at *
   generalize b[i]=y at *
   refine zBb ?_;refine zGF h13 ?_;refine zaB ?_;refine zQF (zr7 h0 h1 h13 hxa hxb hlt hltb) ?_;refine zfc ?_ ?_
   .intro hne;have hne:¬x=y:=fun e=>by grind
    refine zO ?_;exact zbp.bool (by grind)
   intro he;have he:x=y:=by
    have h2:(x:Int)=(y:Int):=by simpa using he
    omega
   refine zr ?_;refine zae ?_;refine zKF h13 ?_;exact⟨_,by omega,i+1,rfl,hlt,by grind,zu h0,zu h1,zu h12,zt,rfl,rfl⟩
  .intro hlt;have hlt:¬i<a.length:=zfd hlt;refine zO ?_;exact zbp.bool (by grind)
theorem zrH:∀b:LN,zbv (bl b)=some (b.map fun n=>TV.int .u8 (.ofNat n))
 | []=>rfl
 | x::b=>by
  have ih:=zrH b;show (match(match zbv (bl b)with|some us=>some (TV.int .u8 (.ofNat x)::us)|none=>none)with|x=>x)=_
  grind
theorem zrz:∀{b:LN},zbT b->zbB (b.map fun n=>TV.int .u8 (.ofNat n))=some b
 | [],_=>rfl
 | x::b,h=>by
  have ih:=zrz (b:=b) fun y hy=>h y (zAQ9 _ hy);have hx:=h x (zAR9 ..);show (bif Nat.blt x 256 then(match zbB (b.map fun n=>TV.int .u8 (.ofNat n))with|some s=>some (x::s)|none=>none)else none)=_;rw[ih,show Nat.blt x 256=true by simp_all];rfl
def zjP(w:LN):FE:=match zh1 w with
 | some r=>.ret (.tuple [zgn r,iv 0])
 | none=>.ret (.tuple [zgn ⟨0,[]⟩,iv 250])
theorem Lb.recd:Lb (zgn r):=.agg fun x hx=>by
 simp at hx;rcases hx with rfl|rfl
 .exact .int _ _
 .exact .str _
theorem zxH(w:LN):LbE (zjP w):=by
 unfold zjP
 split
 .exact Lb.two (Lb.recd _) (.int _ _)
 .exact Lb.two (Lb.recd _) (.int _ _)
theorem zCh(w:LN)(hl:w.length=16)(hw:∀x∈w,x<18446744073709551616):FN ET 129 [wv p w] (zjP w):=by
 obtain⟨h,t,rfl⟩:∃h t,w=h::t:=by
  cases w with
  | nil=>grind
  | cons h t=>grind
 have hh:h<18446744073709551616:=hw h (zAR9 ..);have hf1:=zoj h 0 16 hh zy zy;have hf2:=zoj h 16 8 hh zy zy;rw[show h/2 ^ 0%2 ^ 16=h%65536 by omega]at hf1;rw[show h/2 ^ 16%2 ^ 8=h/65536%256 by simp only[Nat.reducePow]]at hf2;have hI:h%65536<65536:=zFJ9 _ zy;have hM:h/65536%256<256:=zFJ9 _ zy;have hE:zjP (h::t)=(if h/65536%256<=120/\zeZ ⟨h%65536,(zcK t).take (h/65536%256)⟩=true/\zeM ⟨h%65536,(zcK t).take (h/65536%256)⟩=h::t then .ret (.tuple [zgn ⟨h%65536,(zcK t).take (h/65536%256)⟩,iv 0])else .ret (.tuple [zgn ⟨0,[]⟩,iv 250])):=by
  unfold zjP zh1;simp only[List.getD_cons_zero,zFX9,zER9]
  split<;>rename_i h1
  .split at h1
   .rename_i h2;injection h1 with h1;subst h1;rw[if_pos h2]
   .cases h1
  .split at h1
   .cases h1
   .rename_i h2;rw[if_neg h2]
 have hlb:=zxH (h::t);rw[hE]at hlb⊢;generalize h%65536=I at *
 generalize h/65536%256=m at *
 have htl:t.length=15:=by simpa using hl
 have hby:=zow p t (fun x hx=>hw x (zAQ9 _ hx)) zo;have hbl:(zcK t).length=120:=by rw[zf0,htl]
 have hbb:=zkB t;generalize zcK t=B at *
 have hbs:zbT (B.take m):=hbb.take m;have hmap:(h::t).map uv=uv h::t.map uv:=rfl;have hmaplen:(uv h::t.map uv).length=16:=by rw[<- hmap,zAP9];exact hl
 refine zfn (eG T129 func129) hlb ?_;refine zG ?_;refine zn0 ?_;(repeat(first|refine zHW ?_|refine zbj (zr2 hmap hmaplen) ?_));refine zH ?_;refine zB ?_;refine zIF hmap ?_;refine zCN hf1 ?_;refine zB ?_;refine zIF hmap ?_;refine zCN hf2 ?_
 by_cases hm:m<=120
 rotate_left
 .have g:(120:Int)<(m:Int):=zo;refine zSF g ?_;refine zlb ⟨rfl,?_⟩;refine zHW (zr ?_);refine zG ?_;refine zbN ?_;refine⟨fun l h=>(by cases h),zfr ?_⟩;rw[if_neg (fun h=>hm h.1)];exact zLF
 have g:¬(120:Int)<(m:Int):=zo;refine zHY g ?_;refine zB ?_;have hd1:(uv h::t.map uv).drop 1=t.map uv:=rfl;have hc1:(bl B).take m=bl (B.take m):=by unfold bl;rw[zCN9]
 have hA:=zrH (B.take m);have hS:=zrz hbs;have g2:(I:Int)<9223372036854775808:=zo;have g3:m<=120:=hm;refine zB ?_;refine zGM (zr3 hmap hd1 hmaplen) ?_;refine zca hby ?_;refine zNF (zr6 hbl zcV hc1 hA hS g3) ?_;generalize B.take m=nm at *
 refine zjR (upd (upd (upd zkc 0 (wv p (h::t))) 2 (.ptr 0 0 0 0 2)) 3 (iv 0)) (zcM _ _ (zcM _ _ (zcM _ _ (zir _) rfl) rfl) rfl) ?_;refine zB ?_
 cases hrb:zeZ ⟨I,nm⟩with
 | false =>
  have hwb:=zwv ⟨I,nm⟩ hrb;refine zM hwb ?_;refine zS ?_;refine zlb ⟨rfl,?_⟩;refine zHW (zr ?_);refine zG ?_;refine zbN ?_;refine⟨fun l h=>(by cases h),zfr ?_⟩;rw[if_neg (fun h=>zEV9 h.2.1)];exact zLF
 | true =>
  have hwo:=zzp ⟨I,nm⟩ hrb hbs;have hrl:(zeM ⟨I,nm⟩).length=16:=by
   have h3:=ze5 ((zfl _).1 hrb).2.2;unfold zeM;simp[zee];dsimp only at h3;omega
  have heq:=zxc 0 p (zeM ⟨I,nm⟩) (h::t) zo;generalize zeM ⟨I,nm⟩=V at *
  refine zM hwo ?_;refine zB ?_;refine zI ?_;refine zca heq ?_
  by_cases hv:V=h::t
  .have gv:decide (V=h::t)=true:=decide_eq_true hv;refine zNF gv ?_;refine zH ?_;refine zG ?_;refine zbN ?_;refine zfr ?_;rw[if_pos ⟨hm,rfl,hv⟩];exact zLF
  .have gv:decide (V=h::t)=false:=decide_eq_false hv;refine zNF gv ?_;refine zct ?_;refine zlb ⟨rfl,?_⟩;refine zHW (zr ?_);refine zG ?_;refine zbN ?_;refine⟨fun l h=>(by cases h),zfr ?_⟩;rw[if_neg (fun h=>hv h.2.2)];exact zLF


theorem f44:ET.funcs.get 44=some T44:=eG _ func44
theorem zmG(hl:r.name.length<1000000000):FR 115 [zgn r] (iv (if zeZ r=true then 0 else 250:Nat)):=by
 refine zfn (eG T115 func115) (.int _ _) ?_;have h33:=zg1 r.name zo;have hb:=zfl r
 by_cases g1:(r.ino:Int)<1
 .refine zSF g1 ?_;refine zO ?_;exact zbp.int (by rw[if_neg (fun h=>by have:=hb.1 h;omega)];rfl)
 by_cases g2:(256:Int)<(r.ino:Int)
 .refine zSF (zr2 g1 g2) ?_;refine zO ?_;exact zbp.int (by rw[if_neg (fun h=>by have:=hb.1 h;omega)];rfl)
 refine zG ?_;refine zIF (zr2 g1 g2) ?_;refine zca h33 ?_
 by_cases g3:zb1 r.name=0
 .rw[g3];refine zN ?_;refine zH ?_;refine zO ?_;exact zbp.int (by rw[if_pos (hb.2 ⟨by omega,by omega,g3⟩)];rfl)
 .have g4:¬((zb1 r.name:Nat):Int)=0:=zo;refine zNF g4 ?_;refine zU ?_;exact zbp.int (by rw[if_neg (fun h=>g3 (hb.1 h).2.2)];rfl)
theorem zyp(hl:r.name.length<1000000000)(h:zeZ r=false):FR 63 [zgn r] (.tuple [wv 0 [],iv 250]):=by
 refine zfn (eG T63 func63) (Lb.two (Lb.uvs _) (.int _ _)) ?_;have hc:=zmG r hl;rw[h]at hc;refine zG ?_;refine zB ?_;refine zM hc ?_;refine zS ?_;refine zO ?_;exact zLF
theorem ztt(h:zeZ r=true)(hb:zbT r.name):FR 63 [zgn r] (.tuple [wv 0 (zeM r),iv 0]):=by
 refine zfn (eG T63 func63) (Lb.two (Lb.uvs _) (.int _ _)) ?_;obtain⟨h1,h2,h3⟩:=(zfl r).1 h;have hl:=ze5 h3;have hc:=zmG r zo;rw[h]at hc;have hlay:=zFX 1 r.name hb zo;rw[zxR r hl.2];have hln:=zee r.name;rw[zFN9 65536];have g1:(r.ino:Int)<18446744073709551616:=zo;have g2:(r.name.length:Int)<18446744073709551616:=zo;have g3:r.name.length<=1000000:=zo;have g6:(65536:Int)*(r.name.length:Int)=((r.name.length*65536:Nat):Int):=zo;have g7:(r.ino:Int)+((r.name.length*65536:Nat):Int)=((r.ino+r.name.length*65536:Nat):Int):=zo;have g8:((r.name.length*65536:Nat):Int)<18446744073709551616:=zo;have g9:((r.ino+r.name.length*65536:Nat):Int)<18446744073709551616:=zo;generalize zdQ r.name=L at *
 have g4:¬L.length=0:=zo;have g5:(1+L.length)*9<=140737488355328:=zo;have hall:(List.all (List.map (fun n:Nat=>PV.int .u8 (n:Int)) r.name) fun v=>(PV.cells v).all (dpF 4))=true:=by
  rw[zBV9];intro v hv;rw[zAH9]at hv;obtain⟨n,_,rfl⟩:=hv;rfl
 unfold PV.cells at hall;obtain⟨ino,name⟩:=r;dsimp only at *
 refine zG ?_;refine zB ?_;refine zM hc ?_;refine zTH ?_;refine zBd ?_;refine zdi hlay ?_ ?_ (by simp(disch:=omega)only[go_sem,g1,g2,g3,g6,g7,g8,g9,hall]<;>rfl);(repeat(first|exact trivial|refine And.intro ?_ ?_|exact .int _ _|exact .bool _|exact .list _ _ _|exact .elem _|exact .nilsl|exact .nil _ _|exact .str _|refine Frz.aggL ?_|refine Frz.fnL ?_|refine Frz.tL ?_|refine .iface ?_|exact zdq rfl rfl (by assumption)));(exact zh3 rfl (zAE9 _) (zAE9 _) rfl (zAE9 _);exact trivial);refine zcs (zh5 g1 g2 g3 g4 g5 g6 g7 g8 g9 hall) ?_;refine zQF g4 ?_;have hL:L.length<=15:=zo;have e1:(16:Int)-((1+L.length:Nat):Int)=((16-(L.length+1):Nat):Int):=zo;have e2:1+L.length+(16-(L.length+1))=16:=zo;have e3:L.length+(16-(L.length+1))=15:=zo;generalize 16-(L.length+1)=z at *
 have q1:(z:Int)<=1000000:=zo;have q2:(z:Int)*9<=140737488355328:=zo;have hr:∀n,List.replicate n (PV.int .u64 0)=(List.replicate n 0).map uv:=fun n=>by rw[zEW9];rfl
 have hY:((ino+name.length*65536)::(L++List.replicate z 0)).length=16:=by simp;omega
 have e4:(1+L.length=L.length+1)=True:=eq_true (zDS9 _ _)
 by_cases hz:z=0
 .subst hz;(repeat(first|refine zHW ?_|refine zgo ?_ (by simp(disch:=omega)only[go_sem,e1,e2,e3,q1,q2,hr,zCV9,Int.le_refl]<;>rfl)));refine zbN (zfr ?_);exact Frz.tL ⟨zjO (by simp only[List.replicate_zero,zCY9];rfl) (zAJ9 _) (zAE9 _) (by rw[hY];omega) (zAE9 _),.int _ _,trivial⟩
 ·(repeat(first|refine zHW ?_|refine zgo ?_ (by simp(disch:=omega)only[go_sem,e1,e2,e3,e4,q1,q2,hz,hr,zCV9]<;>rfl)));refine zbN (zfr ?_);exact Frz.tL ⟨zjO (by rw[zBY9,zBE9];rfl) (zAJ9 _) (zAE9 _) hY.symm (zAE9 _),.int _ _,trivial⟩


theorem zDU(w:LN)(hl:w.length=16)(hw:∀x∈w,x<18446744073709551616):FN ET 44 [wv p w] (zjP w):=by
 obtain⟨h,t,rfl⟩:∃h t,w=h::t:=by
  cases w with
  | nil=>simp at hl
  | cons h t=>exact⟨h,t,rfl⟩
 have hh:h<18446744073709551616:=hw h (zAR9 ..);have hI:h%65536<65536:=zFJ9 _ zy;have hM:h/65536%256<256:=zFJ9 _ zy;have hdm:h=65536*(h/65536)+h%65536:=(Nat.div_add_mod h 65536).symm;have hE:zjP (h::t)=(if h/65536%256<=120/\zeZ ⟨h%65536,(zcK t).take (h/65536%256)⟩=true/\zeM ⟨h%65536,(zcK t).take (h/65536%256)⟩=h::t then .ret (.tuple [zgn ⟨h%65536,(zcK t).take (h/65536%256)⟩,iv 0])else .ret (.tuple [zgn ⟨0,[]⟩,iv 250])):=by
  unfold zjP zh1;simp only[List.getD_cons_zero,zFX9,zER9]
  split<;>rename_i h1
  .grind
  .grind
 have hlb:=zxH (h::t);have hbig:¬(h<16777216/\h/65536<=120)->zjP (h::t)=.ret (.tuple [zgn ⟨0,[]⟩,iv 250]):=fun hn=>by
  rw[hE,if_neg];rintro ⟨h1,h2,h3⟩;have h4:=(zfl _).1 h2;have h5:=ze5 h4.2.2;unfold zeM at h3
  grind
 have hty:(((16:Int)=((h::t).map uv).length) ):=by rw[zAP9,hl];rfl
 have hmap:(h::t).map uv=uv h::t.map uv:=rfl;have hmaplen:(uv h::t.map uv).length=16:=by rw[<- hmap,zAP9];exact hl
 have hq:(h:Int)/65536=((h/65536:Nat):Int):=zo;have hr:(h:Int)%65536=((h%65536:Nat):Int):=zo;have htd:Int.tdiv (h:Int) 65536=((h/65536:Nat):Int):=by rw[zED9 zo];exact hq
 have htm:Int.tmod (h:Int) 65536=((h%65536:Nat):Int):=by rw[zFW9 zo];exact hr
 by_cases g1:(16777216:Int)<=(h:Int)
 .rw[hbig zo]at hlb⊢;refine zfn f44 hlb ?_;(repeat(first|refine zHW ?_|refine zbj (zr4 hmap hmaplen g1 htm) ?_));refine zU ?_;exact zLF
 by_cases g2:(120:Int)<((h/65536:Nat):Int)
 .rw[hbig zo]at hlb⊢;refine zfn f44 hlb ?_;(repeat(first|refine zHW ?_|refine zbj (zr5 hmap hmaplen g1 g2 htd) ?_));refine zU ?_;exact zLF
 have hmod:h/65536%256=h/65536:=zo;rw[hmod]at hE hM;rw[hE]at hlb⊢;generalize h%65536=I at *
 generalize h/65536=m at *
 have htl:t.length=15:=by simpa using hl
 have hby:=zAS p t (fun x hx=>hw x (zAQ9 _ hx)) zo;have hbl:(zcK t).length=120:=by rw[zf0,htl]
 have hbb:=zkB t;generalize zcK t=B at *
 have hbs:zbT (B.take m):=hbb.take m;have hm:m<=120:=zo;refine zfn f44 hlb ?_;(repeat(first|refine zHW ?_|refine zbj (zr5 hmap hmaplen g1 g2 htd) ?_));refine zH ?_;refine zB ?_;have hd1:(uv h::t.map uv).drop 1=t.map uv:=rfl;have hc1:(bl B).take m=bl (B.take m):=by unfold bl;rw[zCN9]
 have hA:=zrH (B.take m);have hS:=zrz hbs;refine zB ?_;refine zGM (zr3 hmap hd1 hmaplen) ?_;refine zCN hby ?_;refine zBd ?_;refine zda ?_ (by simp(disch:=omega)only[go_sem,hmap,htd,htm,hbl,zcV,hc1,hA,hS,hm]<;>rfl);refine zQF hmap ?_;have hmc:m<=120:=hm;have hn120:(B.take m).length<=120:=by rw[zAT9];omega
 generalize B.take m=nm at *
 refine zjR (upd (upd (upd zkc 0 (wv p (h::t))) 2 (.ptr 0 0 0 0 2)) 5 (.ptr 1 0 0 0 2)) (zcM _ _ (zcM _ _ (zcM _ _ (zir _) rfl) rfl) rfl) ?_;refine zB ?_
 cases hrb:zeZ ⟨I,nm⟩with
 | false =>
  have hwb:=zyp ⟨I,nm⟩ (by grind) hrb;refine zM hwb ?_;refine zS ?_;refine zO ?_;rw[if_neg (fun h=>zEV9 h.2.1)];exact zLF
 | true =>
  have hwo:=ztt ⟨I,nm⟩ hrb hbs;have hrl:(zeM ⟨I,nm⟩).length=16:=by
   have h3:=ze5 ((zfl _).1 hrb).2.2;unfold zeM;simp[zee];dsimp only at h3;omega
  have heq:=zDI 0 p (zeM ⟨I,nm⟩) (h::t) zo;generalize zeM ⟨I,nm⟩=V at *
  refine zM hwo ?_;refine zB ?_;refine zI ?_;refine zca heq ?_
  by_cases hv:V=h::t
  .have gv:decide (V=h::t)=true:=decide_eq_true hv;refine zNF gv ?_;refine zH ?_;refine zO ?_;rw[if_pos ⟨hmc,rfl,hv⟩];exact zLF
  .have gv:decide (V=h::t)=false:=decide_eq_false hv;refine zNF gv ?_;refine zU ?_;rw[if_neg (fun h=>hv h.2.2)];exact zLF


theorem zzX(h:1<=b/\b<=40)(s:LN)(hl:s.length<1000000000)(hs:¬zb1 s=0):FR 35 [zb7 b 28,.str s] (.tuple [uv 0,iv (zb1 s)]):=by
 refine zfn (eG T35 func35) (Lb.two (.int _ _) (.int _ _)) ?_;have hr:=zky b 28 h;have hc:=zg1 s zo;have g1:¬((zb1 s:Nat):Int)=0:=zo;rw[show decide (28=28)=true from rfl]at hr;unfold zb7 zdD at hr⊢;refine zMG hr ?_;refine zH ?_;refine zB ?_;refine zM hc ?_;refine zSF g1 ?_;refine zO ?_;exact zLF
theorem zm0(h:1<=b/\b<=40)(s:LN)(hb:zbT s)(hs:zb1 s=0):FR 35 [zb7 b 28,.str s] (.tuple [uv (ze0 b s),iv 0]):=by
 refine zfn (eG T35 func35) (Lb.two (.int _ _) (.int _ _)) ?_;have hl:=ze5 hs;have g3:s.length<=1000000:=zo;have hr:=zky b 28 h;have hc:=zg1 s zo;have hp:=zDE 1 3 5 b s zy zy hb zo zo;rw[hs]at hc;unfold ze0;generalize zgX 3 5 s/2 ^ (64-b)%2 ^ b=R at *
 rw[show decide (28=28)=true from rfl]at hr;unfold zb7 zdD at hr⊢;refine zMG hr ?_;refine zH ?_;refine zB ?_;refine zM hc ?_;refine zTH ?_;refine zB ?_;refine zIF g3 ?_;refine zcl hp ?_ ?_;(repeat(first|exact trivial|refine And.intro ?_ ?_|exact .int _ _|exact .bool _|exact .list _ _ _|exact .elem _|exact .nilsl|exact .nil _ _|exact .str _|refine Frz.aggL ?_|refine Frz.fnL ?_|refine Frz.tL ?_|refine .iface ?_|exact zdq rfl rfl (by assumption)))
 .exact zh3 rfl (zAE9 _) (zAE9 _) rfl (zAE9 _)
 .exact⟨.int _ _,trivial⟩
 refine zP ?_;exact zLF
theorem zrf(h:1<=b/\b<=40)(s:LN):ze0 b s<1099511627776:=by
 unfold ze0;generalize zgX 3 5 s/2 ^ (64-b)=X;have h2:2 ^ b<=2 ^ 40:=zDK9 zy h.2;omega
theorem zAd(h:1<=b/\b<=40)(s:LN)(R V:Nat)(C:Int)(hC:(65536:Int)=C)(g1:C*(R:Int)=(V:Int))(g2:(V:Int)<18446744073709551616)(hc:FR 35 [zb7 b 28,.str s] (.tuple [uv R,iv 0])):FR 34 [zb7 b 28,.str s,iv 0] (.tuple [uv V,iv 0]):=by
 have hr:=zky b 28 h;refine zfn (eG T34 func34) (Lb.two (.int _ _) (.int _ _)) ?_;rw[show decide (28=28)=true from rfl]at hr;unfold zb7 zdD at hr hc⊢;refine zMG hr ?_;refine zH ?_;refine zB ?_;refine zM hc ?_;refine zTH ?_;rw[hC];refine zOF (zr2 g1 g2) ?_;exact zLF
theorem zBl(h:1<=b/\b<=40)(s:LN)(hb:zbT s)(hs:zb1 s=0)(V:Nat)(hV:V=65536*ze0 b s):FR 34 [zb7 b 28,.str s,iv 0] (.tuple [uv V,iv 0]):=by
 have hlt:=zrf b h s;exact zAd b h s (ze0 b s) V 65536 rfl zo zo (zm0 b h s hb hs)
def stN(at_:Nat)(w:LN)(n:Nat):LJ:=(List.range n).map fun k=>(at_+(k+1)%16,w.getD ((k+1)%16) 0)
theorem zoe(w:LN)(n:Nat):(stN a w n).length=n:=by simp[stN]
theorem zBI{l:LJ}:∀v∈(l.map zbx).flatMap PV.cells,Id0 v:=fun v hv=>by
 obtain⟨x,hx,hv⟩:=zAU9.1 hv;obtain⟨y,_,rfl⟩:=zAH9.1 hx;simp[PV.cells]at hv;rcases hv with rfl|rfl<;>exact .int _ _
theorem zvP(ha:a<1000000000)(r:zfm)(h:zeZ r=true)(hb:zbT r.name):FR 26 [iv a,zgn r] (.tuple [.list 0 2 ((stN a (zeM r) 16).map zbx),iv 0]):=by
 refine zfn (eG T26 func26) (Lb.two (ze2 _) (.int _ _)) ?_;have hw:=ztt r h hb;have h5:=ze5 ((zfl _).1 h).2.2;have hwl:(zeM r).length=16:=by
  unfold zeM;simp[zee];omega
 generalize zeM r=w at *
 refine zG ?_;refine zB ?_;refine zM hw ?_;refine zG ?_;refine zcL 120 2 (i:=8) rfl ?_;simp only[lzy,zAG9,zAN9,zAS9,zAV9];refine zG ?_;refine ze (zbk (fun m s=>∃(i:Nat),m=16-i/\i<=16/\s.tm 0=iv a/\s.tm 6=wv 0 w/\s.tm 7=iv 0/\s.tm 8=.sl 1 i 0 i (2*i) 2/\s.tm 9=iv (i+1:Nat)/\s.df=[]/\∃G,s.H=.row 73 2 0 0 [zgn r]::.row 120 2 i 0 ((stN a w i).map zbx)::G) (n:=16) ?_ ?_)
 .exact⟨0,rfl,zAJ9 _,zt,zt,zt,zt,zt,rfl,[],rfl⟩
 .rintro m ⟨tm,df,H⟩ ⟨i,rfl,hi,h0,h6,h7,h8,h9,rfl,G,rfl⟩;dsimp only at *
  refine zLh (zr3 h6 h9 hwl) ?_ ?_
  .intro hlt;have hlt:i<16:=ztd hlt;have hx:w[(i+1)%16]?=some (w.getD ((i+1)%16) 0):=by
    rw[zAK9,zAA9 zo];rfl
   have hs1:stN a w (i+1)=stN a w i++[(a+(i+1)%16,w.getD ((i+1)%16) 0)]:=by
    unfold stN;rw[zCJ9,zBE9];rfl
   have hxv:(w.map uv)[(i+1)%16]?=some (uv (w.getD ((i+1)%16) 0)):=zmg hx;have hsl:(stN a w i).length=i:=zoe _ _ _;generalize w.getD ((i+1)%16) 0=x at *
   generalize stN a w i=S at *
   have hrm:((i+1:Nat):Int).tmod 16=(((i+1)%16:Nat):Int):=by rw[zFW9 zo];omega
   have hk:(i+1)%16<16:=zFJ9 _ zy;generalize (i+1)%16=k at *
   have hka:(a:Int)+(k:Int)=((a+k:Nat):Int):=zo;refine zBb ?_;have hcap:(i+1)*17<=140737488355328:=zo;refine zJF (zhg h0 h6 h8 h9 hrm hka hxv hwl hsl hk hcap) ?_;refine zae ?_;refine zKF h9 ?_;refine⟨_,by omega,i+1,rfl,hlt,zu h0,zu h6,zu h7,zt,zt,rfl,?G,?HH⟩
   case HH=>rw[hs1,zBE9];rfl
  .intro hlt;have hlt:¬i<16:=zfd hlt;obtain rfl:i=16:=zo;refine zGF (zr2 h7 h8) ?_;refine zbN (zfr ?_ (by simp only[go_sem]<;>rfl));exact Frz.tL ⟨Frz.wh rfl rfl (by rw[zAP9,zoe]) (by rw[zAP9,zoe];omega) (fun v hv=>by rw[zAH9]at hv;obtain⟨x,_,rfl⟩:=hv;rfl) zBI,.int _ _,trivial⟩


theorem f14:ET.funcs.get 14=some T14:=zh func14
def zgY(n d:Nat)(a:Int):Bool:=decide (28=d)&&decide (n=3072)&&decide (0<=a)&&decide (a<3072)
variable {Q S b ino key:Nat}{l:List (LN)}{n:Nat}{name:LN}{r:zfm}{w:LN}(e:Int)(p:Nat)
theorem zmr{d:Nat}{a:Int}:zgY n d a=true↔28=d/\n=3072/\0<=a/\a<3072:=by simp[zgY,and_assoc]
theorem zoL(b d:Nat)(h:1<=b/\b<=40)(w:LN)(hw:zbQ w.length)(a:Int):FR 42 [wv p w,zb7 b d,iv a] (.bool (zgY w.length d a)):=by
 refine zfn (eG T42 func42) (.bool _) ?_;have hr:=zky b d h;unfold zgY;unfold zb7 zdD at hr⊢
 by_cases hd:28=d
 rotate_left
 .rw[decide_eq_false hd]at hr⊢;refine zGI ?_;refine zca hr ?_;refine zP ?_;exact zbp.bool rfl
 rw[decide_eq_true hd]at hr⊢
 by_cases hl:w.length=3072
 rotate_left
 .have g:¬(w.length:Int)=3072:=zo;refine zGI ?_;refine zca hr ?_;refine zPF g ?_;exact zbp.bool (by grind)
 have g:(w.length:Int)=3072:=zo
 by_cases h0:0<=a
 rotate_left
 .refine zGI ?_;refine zca hr ?_;refine zPF (zr2 g h0) ?_;exact zbp.bool (by grind)
 refine zGI ?_;refine zca hr ?_;refine zPF (zr2 g h0) ?_;exact zbp.bool (by grind)
theorem ztp(hw:w.length=3072)(hn:n<=64):(zeL w n).length=16:=by unfold zeL;grind
theorem ztw:∀x∈zeL w n,x∈w:=fun x hx=>zBX9 (zBP9 hx)
theorem zCS(b:Nat)(w:LN)(hw:w.length=3072)(n:Nat)(hn:1<=n/\n<=64):FP ET 45 [wv p w,zb7 b 28,iv n] (.ret (wv p (zeL w n))):=by
 refine zfp (eG T45 func45) ?_;unfold zb7 zdD;have e0:(n:Int)-1=((n-1:Nat):Int):=zo;have e1:(16:Int)*((n-1:Nat):Int)=((16*(n-1):Nat):Int):=zo;have e2:(704:Int)+((16*(n-1):Nat):Int)=((704+16*(n-1):Nat):Int):=zo;have e3:((704+16*(n-1):Nat):Int)+16=((704+16*(n-1)+16:Nat):Int):=zo;have e4:0<w.length:=zo;have e5:List.drop (704+16*(n-1)) (List.take (704+16*(n-1)+16) (w.map uv))=(zeL w n).map uv:=by
  unfold zeL;rw[zDJ9,zDR9,zCN9,zCA9]
 have e6:704+16*(n-1)<=704+16*(n-1)+16:=zo;have e7:704+16*(n-1)+16<=w.length:=zo;refine zOF (zr8 e0 e1 e2 e3 e4 e5 e6 e7) ?_;exact Frz.list _ _ _
theorem zFR(k k1 k2:IntKind)(x y z x' y' z':Int)(s s':LN):zcX [1,1,1,3] [.int k x,.int k1 y,.int k2 z,.str s] [.int k x',.int k1 y',.int k2 z',.str s']=some (decide (x=x')&&decide (y=y')&&decide (z=z')&&decide (s=s')):=by
 by_cases h:x=x'<;>by_cases h2:y=y'<;>by_cases h3:z=z'<;>by_cases h4:s=s'<;>simp[zcX,zmi,zdM,znQ,h,h2,h3,h4]
def zje(x:Pr):LJ->Nat
 | []=>0
 | y::l=>if y.1<x.1 then zje x l+1 else 0
theorem zrI(x:Pr):∀l,zje x l<=l.length
 | []=>zAE9 _
 | y::l=>by
  have:=zrI x l;unfold zje
  grind
def zeY(out:LJ)(x:Pr):LJ:=out.take (zje x out)++x::out.drop (zje x out)
theorem zAD(out:LJ)(x:Pr):(zeY out x).length=out.length+1:=by
 have:=zrI x out;unfold zeY
 grind
def zdJ(l:LJ):LJ:=l.foldl zeY []
theorem zhM:∀(l out:LJ),(l.foldl zeY out).length=out.length+l.length
 | [],_=>rfl
 | x::l,out=>by rw[zFZ9,zhM l,zAD,zAG9];omega
theorem zkS(l:LJ):(zdJ l).length=l.length:=by unfold zdJ;rw[zhM];simp
theorem zkE:∀(l out:LJ),∀x∈l.foldl zeY out,x∈out\/x∈l
 | [],_,x,h=>.inl h
 | y::l,out,x,h=>by
  rcases zkE l _ x h with h|h
  .unfold zeY at h
   grind
  grind
theorem zoz{l:LJ}:∀x∈zdJ l,x∈l:=fun x h=>by
 rcases zkE l [] x h with h|h
 .cases h
 .exact h
theorem zdS(n:Nat):(n==n+1)=false:=by simp
theorem zdP(n:Nat):(n+1==n)=false:=by simp
theorem zv7(l:LJ)(hl:l.length<=100):FR 37 [psv p l] (psv 0 (zdJ l)):=by
 refine zfn (eG T37 func37) (Lb.pvs _) ?_;refine zG ?_;refine zcL 92 2 (i:=3) rfl ?_;refine zlP 3 0 (w:=psv 0 []) (o:=.row 92 2 0 0 []) rfl (Frz.wh (l:=[]) (znU rfl) rfl rfl (zAE9 _) (fun v hv=>by grind) (fun v hv=>by simp at hv)) ?_;refine zG ?_;refine ze (zbk (fun m s=>∃(i:Nat) (G:LP),m=l.length-i/\i<=l.length/\s.tm 0=psv p l/\s.tm 3=psv 0 ((l.take i).foldl zeY [])/\s.tm 4=iv i/\s.df=[]/\s.H=G) (n:=l.length) ?_ ?_)
 .exact⟨0,_,rfl,zAJ9 _,zt,zt,zt,rfl,rfl⟩
 rintro m ⟨tm,df,H⟩ ⟨i,G,rfl,hi,h0,h3,h4,rfl,rfl⟩;dsimp only at h0 h3 h4;refine zLh (zr2 h0 h4) ?_ ?_;rotate_left
 .intro hlt;have hlt:¬i<l.length:=zfd hlt;obtain rfl:i=l.length:=zo;rw[zBF9]at h3;refine zOF h3 ?_;exact Frz.list _ _ _
 intro hlt;have hlt:i<l.length:=ztd hlt;obtain⟨x,hx⟩:=zex (l:=l) hlt;have hxv:(l.map pv)[i]?=some (pv x):=zmg hx;have hnext:(l.take (i+1)).foldl zeY []=zeY ((l.take i).foldl zeY []) x:=by
  rw[zBB9,hx,List.foldl_append];rfl
 have hol:((l.take i).foldl zeY []).length<=100:=by rw[zhM,zAT9,zAN9];omega
 generalize (l.take i).foldl zeY []=out at *
 refine zBb ?_;refine zG ?_;refine zcJ (Q:=fun yy s'=>yy=.norm/\s'.tm 0=psv p l/\s'.tm 3=psv 0 out/\s'.tm 4=iv i/\s'.tm 5=iv (zje x out)/\s'.df=[]/\s'.H=H) (ze (zbk (fun m s=>∃k:Nat,m=out.length-k/\k<=out.length/\zje x out=k+zje x (out.drop k)/\s.tm 0=psv p l/\s.tm 3=psv 0 out/\s.tm 4=iv i/\s.tm 5=iv k/\s.df=[]/\s.H=H) (n:=out.length) ?_ ?_)) ?_
 .exact⟨0,rfl,zAJ9 _,by simp,zu h0,zu h3,zu h4,zt,rfl,rfl⟩
 .clear h0 h3 h4;rintro m ⟨tm,df,H⟩ ⟨k,rfl,hk,hpos,h0,h3,h4,h5,rfl,rfl⟩;dsimp only at *
  refine zBd ?_
  by_cases hkl:k<out.length
  rotate_left
  .obtain rfl:k=out.length:=zo;rw[zBH9]at hpos;have gk:¬(out.length:Int)<(out.length:Int):=zo;refine zQF (zr5 h0 h3 h4 h5 gk) ?_;refine zcf ?_;refine zh9 ?_;exact⟨rfl,h0,h3,h4,by rw[hpos];exact h5,rfl,rfl⟩
  obtain⟨y,hy⟩:=zex (l:=out) hkl;have hyv:(out.map pv)[k]?=some (pv y):=zmg hy;have hdy:out.drop k=y::out.drop (k+1):=zdc hy;rw[hdy,zje]at hpos;have gk:(k:Int)<(out.length:Int):=zo
  by_cases hlt2:y.1<x.1
  .have g:(y.1:Int)<(x.1:Int):=zo;rw[if_pos hlt2]at hpos;refine zQF (zh5 h0 h3 h4 h5 hkl hlt hxv hyv g gk) ?_;refine zct ?_;refine zr ?_;refine ze ?_;refine zJF h5 ?_;exact⟨_,by omega,k+1,rfl,hkl,by omega,zu h0,zu h3,zu h4,zu h5,rfl,rfl⟩
  .have g:¬(y.1:Int)<(x.1:Int):=zo;rw[if_neg hlt2]at hpos;refine zQF (zh5 h0 h3 h4 h5 hkl hlt hxv hyv g gk) ?_;refine zcf ?_;refine zh9 ?_;exact⟨rfl,h0,h3,h4,by rw[hpos];exact h5,rfl,rfl⟩
 clear h0 h3 h4;rintro yy ⟨tm,df,H2⟩ ⟨rfl,h0,h3,h4,h5,rfl,rfl⟩;dsimp only at *
 have hple:=zrI x out;have hV:zeY out x=out.take (zje x out)++x::out.drop (zje x out):=rfl;generalize zje x out=k at *
 have ht:(out.map pv).take k=(out.take k).map pv:=zCN9.symm;have hd:(out.map pv).drop k=(out.drop k).map pv:=zCA9.symm;have hlA:(out.take k).length=k:=by rw[zAT9];omega
 have hlB:(out.drop k).length=out.length-k:=zBJ9;generalize out.take k=A at *
 generalize out.drop k=B at *
 have b1:A.length*17<=140737488355328:=zo;have b2:(A.length+1)*17<=140737488355328:=zo;have b3:(A.length+1+B.length)*17<=140737488355328:=zo;have b4:(1+B.length)*17<=140737488355328:=zo;refine zcJ (Q:=fun yy s'=>yy=.norm/\∃g G' n,n=(zeY out x).length/\s'.tm 0=psv p l/\s'.tm 3=.sl H2.length g 0 n (2*n) 2/\s'.tm 4=iv i/\s'.df=[]/\s'.H=H2++.row 92 2 g 0 ((zeY out x).map pv)::G') (zaB ?_) ?_
 .rw[hV,zBE9,zBY9,zAB9,zAG9]
  by_cases hA:A.length=0
  .obtain rfl:=zBZ9 hA
   by_cases hB:B.length=0
   .obtain rfl:=zBZ9 hB;refine zH5 (zef h0 h3 h4 h5 hxv hple ht hd zdP hlt b1 (zr7 b2 b3 b4 zdS zyB zyC zyA)) ?_;refine zH5 (zr2 zdP zyA) ?_;refine zH5 zdP ?_;refine zH6 (zef zdP h0 h3 h4 h5 hxv hlt hple ht hd b1 (zr7 b2 b3 b4 zdS zyA zyB zyC)) ?_;refine zb4 ?_;simp only[go_sem]
    simp_all
   .refine zH5 (zef h0 h3 h4 h5 hxv hple ht hd zdP hB hlt (zr8 b1 b2 b3 b4 zdS zyB zyC zyA)) ?_;refine zH5 (zr2 zdP zyA) ?_;refine zH5 (zr4 hB b4 zdP zyA) ?_;refine zH6 (zef zdP hB h0 h3 h4 h5 hxv hlt hple ht hd (zr8 b1 b2 b3 b4 zdS zyA zyB zyC)) ?_;refine zb4 ?_;simp only[go_sem];exact⟨2,_,_,by omega,h0,rfl,h4,rfl⟩
  .by_cases hB:B.length=0
   .obtain rfl:=zBZ9 hB;refine zH5 (zef hA h0 h3 h4 h5 hxv hple ht hd b1 zdP (zr8 hlt b2 b3 b4 zdS zyA zyB zyC)) ?_;refine zH5 (zr3 b2 zdP zyA) ?_;refine zH5 zdP ?_;refine zH6 (zef zdP hA h0 h3 h4 h5 hxv hlt hple ht hd (zr8 b1 b2 b3 b4 zdS zyA zyB zyC)) ?_;refine zb4 ?_;simp only[go_sem]
    simp_all
   .refine zH5 (zef hA h0 h3 h4 h5 hxv hple ht hd b1 zdP (zr9 hB hlt b2 b3 b4 zdS zyA zyB zyC)) ?_;refine zH5 (zr3 b2 zdP zyA) ?_;refine zH5 (zr5 hB b3 zdP zyA zyB) ?_;refine zH6 (zef zdP hA hB h0 h3 h4 h5 hxv hlt hple ht (zr9 hd b1 b2 b3 b4 zdS zyA zyB zyC)) ?_;refine zb4 ?_;simp only[go_sem]
    grind
 clear h0 h3 h4 h5;rintro yy ⟨tm,df,H⟩ ⟨rfl,g,G',n,hn,h0,h3,h4,rfl,rfl⟩;dsimp only at h0 h3 h4;subst hn;refine zlP 3 H2.length (w:=psv 0 (zeY out x)) (o:=.row 92 2 g 0 ((zeY out x).map pv)) (by grind) (by
  dsimp only;rw[h3];exact Frz.wh (l:=(zeY out x).map pv) (znU (by simp only[ga0]<;>rfl)) rfl (by simp) (by simp) zmm zgE) ?_
 refine zJF h4 ?_;refine⟨_,?m,i+1,_,rfl,hlt,zu h0,by rw[hnext];simp[upd],zu h4,rfl,rfl⟩;omega


theorem zwj:∀(l:LB),∀x∈levP l,∃n∈l,x∈n.pairs
 | [],x,h=>by simp[levP]at h
 | n::l,x,h=>by
  rw[levP]at h;rcases zBG9.1 h with h|h
  .exact⟨n,zAR9 ..,(zDG9.1 h).1⟩
  .obtain⟨k,hk,hx⟩:=zwj l x h;exact⟨k,zAQ9 _ hk,hx⟩
theorem zxJ(hw:WB w)(hl:w.length<=131072)(a:Int):PB (zeW w a).1:=by
 unfold zeW
 split
 rotate_left
 .exact fun c hc=>by cases hc
 split
 rotate_left
 .exact fun c hc=>by cases hc
 rename_i hr ht;obtain⟨f1,f2,f3,f4,f5⟩:=zc4 (w:=w) (T:=(zaL w a.toNat).1) hl a.toNat (by rw[<- ht]);have hLF:=f1 _ (zAI9 (zga f3).1);intro c hc;obtain⟨n,hn,hc⟩:=zwj _ c hc;rw[hLF.lv.is]at hn;obtain⟨k,_,rfl⟩:=zAH9.1 hn;exact(zC4 (w:=zap w k) (fun x hx=>hw x (by
  unfold zap at hx;exact zBP9 (zBX9 hx)))).pairs c hc
def zfb(w:LN)(b d:Nat)(a:Int):AQ×Nat :=
 if zgY w.length d a=true then(if(zeW w a).2=0 then(match zdN w b [] (zeW w a).1 with
  | some out=>(out,0)
  | none=>([],260))else([],(zeW w a).2))else([],2)
theorem zq7(h:zh1 w=some r):zeZ r=true/\zbT r.name/\zb1 r.name=0/\r.ino<=256:=by
 unfold zh1 at h;dsimp only at h
 split at h
 rotate_left
 .cases h
 rename_i hc;injection h with h;subst h;refine⟨hc.2.1,(zkB _).take _,((zfl _).1 hc.2.1).2.2,((zfl _).1 hc.2.1).2.1⟩
theorem ziV{p:Pr}(h:¬(1<=p.2/\p.2<=64)):ze3 w b p=none:=by unfold ze3;rw[if_neg h]
theorem zpU{p:Pr}(h:zh1 (zeL w p.2)=none):ze3 w b p=none:=by
 unfold ze3
 split
 .rw[h]
 .rfl
theorem zqk{p:Pr}(hp:1<=p.2/\p.2<=64)(h:zh1 (zeL w p.2)=some r):ze3 w b p=if ze0 b r.name=p.1/65536 then some ⟨p.1,p.2,r.ino,r.name⟩else none:=by
 unfold ze3;rw[if_pos hp,h]
theorem zs8{p:Pr}(hp:1<=p.2/\p.2<=64)(h:zh1 (zeL w p.2)=some ⟨ino,name⟩)(hS:ze0 b name=S)(hQ:p.1/65536=Q)(hk:¬S=Q):ze3 w b p=none:=by
 rw[zqk hp h];subst hS hQ;exact if_neg hk
theorem zH0{p:Pr}(hp:1<=p.2/\p.2<=64)(h:zh1 (zeL w p.2)=some ⟨ino,name⟩)(hS:ze0 b name=S)(hQ:p.1/65536=Q)(hk:S=Q):ze3 w b p=some ⟨p.1,p.2,ino,name⟩:=by
 rw[zqk hp h];subst hS hQ;exact if_pos hk
theorem zk0{acc:AQ}{p:Pr}{l:LJ}:zdN w b acc (p::l)=match ze3 w b p with
  | some x=>if zkn acc x=true then none else zdN w b (acc++[x]) l
  | none=>none:=rfl
theorem zqp:∀{l:LJ} {acc out:AQ},zdN w b acc l=some out->out.length=acc.length+l.length
 | [],acc,out,h=>by injection h with h;subst h;rfl
 | p::l,acc,out,h=>by
  rw[zk0]at h
  split at h
  .split at h
   .cases h
   .have:=zqp h;rw[zAB9]at this;simp only[zAG9,zAN9]at this⊢;omega
  .cases h
theorem Lb.ent(x:zcR):Lb (zdj x):=.agg fun v hv=>by
 simp at hv;rcases hv with rfl|rfl|rfl|rfl
 .exact .int _ _
 .exact .int _ _
 .exact .int _ _
 .exact .str _
theorem Lb.esv(l:AQ):Lb (esv 0 l):=.list fun x hx=>by
 obtain⟨y,hy,hx⟩:=zAU9.1 hx;obtain⟨e,_,rfl⟩:=zAH9.1 hy;simp[PV.cells]at hx;rcases hx with rfl|rfl|rfl|rfl
 .exact .int _ _
 .exact .int _ _
 .exact .int _ _
 .exact .str _
theorem zxZ{l:AQ}:∀v∈(l.map zdj).flatMap PV.cells,Id0 v:=fun v hv=>by
 obtain⟨x,hx,hv⟩:=zAU9.1 hv;obtain⟨y,_,rfl⟩:=zAH9.1 hx;simp[PV.cells]at hv;rcases hv with rfl|rfl|rfl|rfl
 .exact .int _ _
 .exact .int _ _
 .exact .int _ _
 .exact .str _


theorem f13:ET.funcs.get 13=some T13:=eG _ func13
theorem zvW(b:Nat):Id0 (.agg [iv 48,iv 8,iv 64,iv b,uv 3,uv 5,iv 9,iv 11,iv 27,iv 28]):=.agg fun v hv=>by
 simp at hv;rcases hv with rfl|rfl|rfl|rfl|rfl|rfl|rfl|rfl|rfl|rfl<;>exact .int _ _
theorem zye(b:Nat)(h:1<=b/\b<=40)(w:LN)(hwl:w.length=3072)(hw:WB w)(a:Int)(hr:FR 42 [wv p w,zb7 b 28,iv a] (.bool true))(L:LJ)(hL:L.length<=60000)(hLb:PB L)(hall:FR 43 [wv p w,iv a] (.tuple [psv 0 L,iv 0]))(e:FE)(he:e=match zdN w b [] L with
  | some out=>.ret (.tuple [esv 0 out,iv 0])
  | none=>.ret (.tuple [esv 0 [],iv 260])):FN ET 13 [wv p w,zb7 b 28,iv a] e:=by
 have bad:zdN w b [] L=none->e=.ret (.tuple [esv 0 [],iv 260]):=fun hn=>by grind
 refine zfn f13 ?_ ?_
 .rw[he]
  split
  .exact Lb.two (Lb.esv _) (.int _ _)
  .exact Lb.two (Lb.esv _) (.int _ _)
 unfold zb7 zdD at hr⊢;refine zMG hr ?_;refine zH ?_;refine zB ?_;refine zM hall ?_;refine zTH ?_;refine zG ?_;refine zcL 47 4 (i:=10) rfl ?_;simp only[lzy,zAG9,zAN9,zAS9,zAV9];refine zG ?_;refine ze (zbk (fun m s=>∃(i:Nat) (out:AQ) (G:LP),m=L.length-i/\i<=L.length/\zdN w b [] L=zdN w b out (L.drop i)/\out.length<=i/\s.tm 0=wv p w/\s.tm 4=.ptr 0 0 0 0 10/\s.tm 8=psv 0 L/\s.tm 10=.sl 1 out.length 0 out.length (2*out.length) 4/\s.tm 11=iv i/\s.df=[]/\s.H=.row 32 10 0 0 [.agg [iv 48,iv 8,iv 64,iv b,uv 3,uv 5,iv 9,iv 11,iv 27,iv 28]]::.row 47 4 out.length 0 (out.map zdj)::G) (n:=L.length) ?_ ?_)
 .exact⟨0,[],[],rfl,zAJ9 _,rfl,zAE9 _,zt,zt,zt,zt,zt,rfl,rfl⟩
 rintro m ⟨tm,df,H⟩ ⟨i,out,G,rfl,hi,hgo,hol,h0,h4,h8,h10,h11,rfl,rfl⟩;dsimp only at *
 refine zLh (zr2 h8 h11) ?_ ?_;rotate_left
 .intro hlt;have hlt:¬i<L.length:=zfd hlt;obtain rfl:i=L.length:=zo;rw[zBH9]at hgo;have he':e=.ret (.tuple [esv 0 out,iv 0]):=by rw[he,hgo];rfl
  rw[he'];refine zGF h10 ?_;refine zbN (zfr ?_ (by simp only[go_sem]<;>rfl));exact Frz.tL ⟨Frz.wh rfl rfl (by grind) (by grind) (fun v hv=>by rw[zAH9]at hv;obtain⟨x,_,rfl⟩:=hv;rfl) zxZ,.int _ _,trivial⟩
 intro hlt;have hlt:i<L.length:=ztd hlt;obtain⟨pr,hpr⟩:=zex (l:=L) hlt;have hpv:(L.map pv)[i]?=some (pv pr):=zmg hpr;obtain⟨hkey,hptr⟩:=hLb pr (zAI9 hpr);have hdr:L.drop i=pr::L.drop (i+1):=zdc hpr;rw[hdr,zk0]at hgo;refine zBb ?_;refine zBd ?_
 by_cases hp1:1<=pr.2
 rotate_left
 .have g:(pr.2:Int)<1:=zo;rw[ziV (fun h=>hp1 h.1)]at hgo;rw[bad hgo];refine zQF (zr7 h0 h4 h8 h11 hlt hpv g) ?_;refine zU ?_;exact zLF
 have g1:¬(pr.2:Int)<1:=zo
 by_cases hp2:pr.2<=64
 rotate_left
 .have g:(64:Int)<pr.2:=zo;rw[ziV (fun h=>hp2 h.2)]at hgo;rw[bad hgo];refine zQF (zr8 h0 h4 h8 h11 hlt hpv g1 g) ?_;refine zU ?_;exact zLF
 have g2:¬(64:Int)<pr.2:=zo;refine zQF (zr8 h0 h4 h8 h11 hlt hpv g1 g2) ?_;refine zH ?_;refine zB ?_;have hAt:=zCS p b w hwl pr.2 ⟨hp1,hp2⟩;have hOf:=zDU p (zeL w pr.2) (ztp hwl hp2) (fun x hx=>hw x (ztw x hx));unfold zb7 zdD at hAt;have hcl:(IntKind.i64.wrap (pr.2:Int))=(pr.2:Int):=wrap_i64 zo zo;generalize hRA:zeL w pr.2=RA at *
 unfold zjP at hOf
 cases hrec:zh1 RA with
 | none =>
  rw[hrec]at hOf;dsimp only at hOf;rw[zpU (by grind)]at hgo;rw[bad hgo];refine zaB ?_;refine zdf hAt ⟨.list _ _ _,zvW b,.int _ _,trivial⟩ ?_ (by simp(disch:=omega)only[go_sem,h0,h4,h8,h11,hpv,hcl]<;>rfl);refine zdn hOf ?_ (by simp(disch:=omega)only[go_sem]<;>rfl);refine zcs (zr2 zyA zyB) ?_;refine zrX zyB ?_;refine zb4 ?_;simp only[go_sem];have hs:=zzX b h [] zy zy;unfold zb7 zdD at hs;refine zB ?_;refine zB ?_;refine zGM (zr3 h4 zyA zyB) ?_;refine zCN hs ?_;refine zS ?_;refine zO ?_;exact zLF
 | some r =>
  obtain⟨hrb,hnb,hnm,_⟩:=zq7 hrec;obtain⟨ino,name⟩:=r;have hrec':zh1 (zeL w pr.2)=some ⟨ino,name⟩:=by rw[hRA];exact hrec
  rw[hrec]at hOf;dsimp only at *
  have hs:=zm0 b h name hnb hnm;unfold zb7 zdD at hs;obtain⟨S,hS⟩:∃S,ze0 b name=S:=⟨_,rfl⟩
  rw[hS]at hs;obtain⟨Q,hQ⟩:∃Q,pr.1/65536=Q:=⟨_,rfl⟩
  have htd:Int.tdiv (pr.1:Int) 65536=(Q:Int):=by rw[zED9 zo];omega
  have hq:(pr.1:Int)/65536=(Q:Int):=zo;refine zaB ?_;refine zdf hAt ⟨.list _ _ _,zvW b,.int _ _,trivial⟩ ?_ (by simp(disch:=omega)only[go_sem,h0,h4,h8,h11,hpv,hcl]<;>rfl);refine zdn hOf ?_ (by simp(disch:=omega)only[go_sem]<;>rfl);refine zcs (zr2 zyA zyB) ?_;refine zrX zyB ?_;refine zb4 ?_;simp only[go_sem];refine zB ?_;refine zB ?_;refine zGM (zr3 h4 zyA zyB) ?_;refine zCN hs ?_;refine zB ?_;have hQb:(Q:Int)<18446744073709551616:=by have:pr.1<18446744073709551616:=hkey;omega
  by_cases hk:S=Q
  rotate_left
  .have g3:¬(S:Int)=(Q:Int):=fun h=>hk (Int.ofNat.inj h);rw[zs8 ⟨hp1,hp2⟩ hrec' hS hQ hk]at hgo;rw[bad hgo];refine zB ?_;refine zbj (zr8 h8 h11 hlt hpv htd hq hQb g3) ?_;refine zU ?_;exact zLF
  have g3:(S:Int)=(Q:Int):=congrArg Nat.cast hk;rw[zH0 ⟨hp1,hp2⟩ hrec' hS hQ hk]at hgo;refine zB ?_;refine zbj (zr8 h8 h11 hlt hpv htd hq hQb g3) ?_;refine zH ?_;refine zG ?_;have hgo':zdN w b [] L=if zkn out ⟨pr.1,pr.2,ino,name⟩=true then none else zdN w b (out++[⟨pr.1,pr.2,ino,name⟩]) (L.drop (i+1)):=hgo;clear hgo hs hOf hAt hrec hrec' hRA hS hQ htd hq hQb g3 hk hrb hnb hnm;refine ze (zbk (fun m s=>∃(k:Nat),m=out.length-k/\k<=out.length/\zkn out ⟨pr.1,pr.2,ino,name⟩=(out.drop k).any (fun y=>decide (y.name=name)||decide (y.num=pr.2))/\s.tm 0=wv p w/\s.tm 4=.ptr 0 0 0 0 10/\s.tm 8=psv 0 L/\s.tm 10=.sl 1 out.length 0 out.length (2*out.length) 4/\s.tm 11=iv i/\s.tm 12=.ptr (G.length+1+1) 0 0 0 2/\s.tm 16=iv k/\s.df=[]/\s.H=.row 32 10 0 0 [.agg [iv 48,iv 8,iv 64,iv b,uv 3,uv 5,iv 9,iv 11,iv 27,iv 28]]::.row 47 4 out.length 0 (out.map zdj)::(G++[.row 73 2 0 0 [.agg [iv ino,.str name]]])) (n:=out.length) ?_ ?_)
  .exact⟨0,rfl,zAJ9 _,rfl,zu h0,zu h4,zu h8,zu h10,zu h11,zt,zt,rfl,rfl⟩
  clear h0 h4 h8 h10 h11;rintro m ⟨tm,df,H⟩ ⟨k,rfl,hk,hcl2,h0,h4,h8,h10,h11,h12,h16,rfl,rfl⟩;dsimp only at *
  refine zLh (zr2 h10 h16) ?_ ?_
  .intro hlt2;have hlt2:k<out.length:=ztd hlt2;obtain⟨y,hy⟩:=zex (l:=out) hlt2;have hyv:(out.map zdj)[k]?=some (zdj y):=zmg hy;obtain⟨hd1,hd2⟩:=zAC9.1 hy;rw[zAM9 hd1,hd2,List.any_cons]at hcl2;have hcl3:zkn out ⟨pr.1,pr.2,ino,name⟩=true->e=.ret (.tuple [esv 0 [],iv 260]):=fun h=>bad (by grind);refine zBb ?_;refine zBd ?_
   by_cases hn:y.name=name
   .rw[decide_eq_true hn,Bool.true_or,Bool.true_or]at hcl2;rw[hcl3 hcl2];refine zrX (zr8 h10 h12 h16 hlt2 hyv hn zyA zyB) ?_;refine zb4 ?_;simp only[go_sem];refine zU ?_;exact zLF
   rw[decide_eq_false hn,zFV9]at hcl2
   by_cases hm:y.num=pr.2
   .have g:(y.num:Int)=(pr.2:Int):=congrArg Nat.cast hm;rw[decide_eq_true hm,Bool.true_or]at hcl2;rw[hcl3 hcl2];refine zrX (zef h8 h10 h11 h12 h16 hlt2 hpv hyv hn hcl g (zr2 zyA zyB)) ?_;refine zb4 ?_;simp only[go_sem];refine zU ?_;exact zLF
   have g:¬(y.num:Int)=(pr.2:Int):=fun h=>hm (Int.ofNat.inj h);rw[decide_eq_false hm,zFV9]at hcl2;refine zrX (zef h8 h10 h11 h12 h16 hlt2 hpv hyv hn hcl g (zr2 zyA zyB)) ?_;refine zb4 ?_;simp only[go_sem];refine zH ?_;refine zJF h16 ?_;exact⟨_,by omega,k+1,rfl,hlt2,hcl2,zu h0,zu h4,zu h8,zu h10,zu h11,zu h12,zu h16,rfl,rfl⟩
  intro hlt2;have hlt2:¬k<out.length:=zfd hlt2;obtain rfl:k=out.length:=zo;rw[zBH9]at hcl2;rw[if_neg (by grind)]at hgo';refine zBd ?_;have hbb:(out.length+1)*41<=140737488355328:=zo;refine zcs (zr9 h8 h10 h11 h12 hpv hcl hbb zyA zyB) ?_;refine zQF h8 ?_;refine zJF h11 ?_;refine⟨_,?m,i+1,out++[⟨pr.1,pr.2,ino,name⟩],?G,rfl,hlt,hgo',by grind,zu h0,zu h4,zu h8,zt,zu h11,rfl,?H⟩
  case m=>omega
  case H=>rw[zBE9];simp only[zAB9,zAG9,zAN9,zBY9,zBD9,zBS9];rfl
def zke(w:LN)(b d:Nat)(a:Int):FE:=.ret (.tuple [esv 0 (zfb w b d a).1,iv ((zfb w b d a).2:Nat)])
theorem zDR(w:LN)(b d:Nat)(a:Int):LbE (zke w b d a):=Lb.two (Lb.esv _) (.int _ _)
theorem zyI(b d:Nat)(h:1<=b/\b<=40)(w:LN)(hs:zbQ w.length)(hw:WB w)(a:Int):FN ET 13 [wv p w,zb7 b d,iv a] (zke w b d a):=by
 have hr:=zoL p b d h w hs a;have hlb:=zDR w b d a
 by_cases hd:zgY w.length d a=true
 rotate_left
 .have hE:zke w b d a=.ret (.tuple [esv 0 [],iv 2]):=by unfold zke zfb;rw[if_neg hd];rfl
  rw[hE]at hlb⊢;rw[show zgY w.length d a=false by grind]at hr;refine zfn f13 hlb ?_;unfold zb7 zdD at hr⊢;refine zMG hr ?_;refine zU ?_;exact zLF
 obtain⟨rfl,hwl,h0,h1⟩:=zmr.1 hd;have hall:=zB7 p w a hs;rw[zrK]at hall;rw[hd]at hr
 by_cases hno:(zeW w a).2=0
 rotate_left
 .have hE:zke w b 28 a=.ret (.tuple [esv 0 [],iv ((zeW w a).2:Nat)]):=by unfold zke zfb;rw[if_pos hd,if_neg hno]
  rw[hE]at hlb⊢;generalize (zeW w a).2=no at *
  have g:¬(no:Int)=0:=zo;refine zfn f13 hlb ?_;unfold zb7 zdD at hr⊢;refine zMG hr ?_;refine zH ?_;refine zB ?_;refine zM hall ?_;refine zSF g ?_;refine zO ?_;exact zLF
 have hbd:=zxJ hw zo a;have hln:=zpl w a zo;rw[hno]at hall;refine zye p b h w hwl hw a hr (zeW w a).1 hln hbd hall _ ?_;unfold zke zfb
 grind


theorem zhu:FR 78 [.bool true,iv e] (.tuple []):=by
 refine zfn (eG T78 func78) Lb.unit ?_;refine zTH ?_;exact⟨[],rfl,Frz.tL trivial⟩
theorem zhy:FN ET 78 [.bool false,iv e] (.panic (zck e)):=by
 refine zfn (eG T78 func78) (.iface (.int _ _)) ?_;refine zS ?_;refine zae ?_;refine zfx ?_;refine zpx (ty:=38) (v:=.int .i64 e) rfl (by simp[evs,ev,okv,upd]) ?_;exact Frz.iface (.int _ _)
theorem zoh:FR 61 [iv 0] (.tuple []):=by
 refine zfn (eG T61 func61) Lb.unit ?_;refine zae ?_;refine zfx ?_;refine zca (zhu 0) ?_;refine zK ?_;exact⟨[],rfl,Frz.tL trivial⟩
theorem zry(h:¬e=0):FN ET 61 [iv e] (.panic (zck e)):=by
 refine zfn (eG T61 func61) (.iface (.int _ _)) ?_;refine zae ?_;refine zb2 h ?_;refine zcx (zhy e) ?_;exact Frz.iface (.int _ _)
@[reducible] def zjw (p:Nat) (w:LN) (b:Nat) (a:Int):PV:=.agg [iv 48,iv 8,iv 64,iv b,uv 3,uv 5,iv 9,iv 11,iv 27,iv 28,wv p w,iv a]
theorem zFT(b:Nat)(h:1<=b/\b<=40)(w:LN)(hs:zbQ w.length)(a:Int)(hd:zgY w.length 28 a=true):FP ET 40 [wv p w,zb7 b 28,iv a] (.ret (zjw p w b a)):=by
 obtain⟨_,hwl,h0,h1⟩:=zmr.1 hd;obtain⟨X,hS⟩:=zvY b h;refine zfp (eG T40 func40) ?_;unfold zb7 zdD at hS⊢;have g:(w.length:Int)=3072:=zo;have g1:a<3072:=h1;refine zMG hS ?_;refine zIF (zr3 g h0 g1) ?_;refine zCN (zhu 2) ?_;refine zO ?_;exact zLF
def zf3(w:LN)(b:Nat)(pr:Pr):FE:=match ze3 w b pr with
 | some x=>.ret (zdj x)
 | none=>.panic (zck 260)
theorem zAt(w:LN)(b:Nat)(pr:Pr):LbE (zf3 w b pr):=by
 unfold zf3
 split
 .exact Lb.ent _
 .exact .iface (.int _ _)
theorem zzM(b:Nat)(h:1<=b/\b<=40)(w:LN)(hwl:w.length=3072)(hw:WB w)(a:Int)(pr:Pr)(hkey:pr.1<18446744073709551616):FN ET 80 [zjw p w b a,pv pr] (zf3 w b pr):=by
 have bad:ze3 w b pr=none->zf3 w b pr=.panic (zck 260):=fun h=>by unfold zf3;rw[h]
 have good:∀x,ze3 w b pr=some x->zf3 w b pr=.ret (zdj x):=fun x h=>by unfold zf3;rw[h]
 refine zfn (eG T80 func80) (zAt w b pr) ?_;generalize zf3 w b pr=e at *
 refine zG ?_
 by_cases hp1:1<=pr.2
 rotate_left
 .have g:¬(1:Int)<=pr.2:=zo;refine zIF g ?_;refine zcx (zhy 260) ?_;exact zcz (bad (ziV fun h=>hp1 h.1))
 have g1:(1:Int)<=pr.2:=zo
 by_cases hp2:pr.2<=64
 rotate_left
 .have g:¬(pr.2:Int)<=64:=zo;refine zIF (zr2 g g1) ?_;refine zcx (zhy 260) ?_;exact zcz (bad (ziV fun h=>hp2 h.2))
 have g2:(pr.2:Int)<=64:=zo;refine zIF (zr2 g2 g1) ?_;refine zCN (zhu 260) ?_;have hRc:=zzZ b pr.2 h ⟨hp1,hp2⟩;unfold zb7 zdD at hRc;have hcl:(IntKind.i64.wrap (pr.2:Int))=(pr.2:Int):=wrap_i64 zo zo;have hOf:=zCh p (zeL w pr.2) (ztp hwl hp2) (fun x hx=>hw x (ztw x hx));have e3:((704+16*(pr.2-1):Nat):Int)+16=((704+16*(pr.2-1)+16:Nat):Int):=zo;have e4:0<w.length:=zo;have e5:List.drop (704+16*(pr.2-1)) (List.take (704+16*(pr.2-1)+16) (w.map uv))=(zeL w pr.2).map uv:=by
  unfold zeL;rw[zDJ9,zDR9,zCN9,zCA9]
 have e6:704+16*(pr.2-1)<=704+16*(pr.2-1)+16:=zo;have e7:704+16*(pr.2-1)+16<=w.length:=zo;generalize hRA:zeL w pr.2=RA at *
 unfold zjP at hOf;generalize 704+16*(pr.2-1)=A at *
 refine zIF hcl ?_;refine zCN hRc ?_;refine zIF (zr5 e3 e4 e5 e6 e7) ?_
 cases hrec:zh1 RA with
 | none =>
  rw[hrec]at hOf;dsimp only at hOf;refine zCN hOf ?_;refine zI ?_;refine zcx (zhy 260) ?_;exact zcz (bad (zpU (by grind)))
 | some r =>
  obtain⟨hrb,hnb,hnm,_⟩:=zq7 hrec;obtain⟨ino,name⟩:=r;have hrec':zh1 (zeL w pr.2)=some ⟨ino,name⟩:=by rw[hRA];exact hrec
  rw[hrec]at hOf;dsimp only at *
  have hs:=zAo b h name hnb hnm;unfold zb7 zdD at hs;obtain⟨S,hS⟩:∃S,ze0 b name=S:=⟨_,rfl⟩
  rw[hS]at hs;obtain⟨Q,hQ⟩:∃Q,pr.1/65536=Q:=⟨_,rfl⟩
  have hsp:=zDv pr.1 hkey;rw[hQ]at hsp;obtain⟨M,hM⟩:∃M,pr.1%65536=M:=⟨_,rfl⟩
  rw[hM]at hsp;clear hM;refine zCN hOf ?_;refine zM (zhu 260) ?_;refine zM hs ?_;refine zM hsp ?_
  by_cases hk:S=Q
  rotate_left
  .have g3:¬(S:Int)=(Q:Int):=fun h=>hk (Int.ofNat.inj h);refine zIF g3 ?_;refine zcx (zhy 260) ?_;exact zcz (bad (zs8 ⟨hp1,hp2⟩ hrec' hS hQ hk))
  have g3:(S:Int)=(Q:Int):=congrArg Nat.cast hk;rw[good _ (zH0 ⟨hp1,hp2⟩ hrec' hS hQ hk)];refine zIF g3 ?_;refine zCN (zhu 260) ?_;refine zOF hcl ?_;exact zLF


def zAX(mn mr:zc)(out:AQ):Prop:=(out=[]/\mn=.map0/\mr=.map0)\/∃m1 m2,mn=.mapS m1/\mr=.mapI .i64 m2/\(∀s,m1 s=if out.any (fun y=>decide (y.name=s))=true then some (iv 1)else none)/\(∀q:Int,m2 q=if out.any (fun y=>decide ((y.num:Int)=q))=true then some (iv 1)else none)
theorem zvN(x:zcR):∀out:AQ,zkn out x=(out.any (fun y=>decide (y.name=x.name))||out.any (fun y=>decide ((y.num:Int)=(x.num:Int))))
 | []=>rfl
 | y::out=>by
  have ih:=zvN x out;unfold zkn at ih⊢
  grind
theorem zBZ(b:Nat)(h:1<=b/\b<=40)(w:LN)(hwl:w.length=3072)(hw:WB w)(a:Int)(L:LJ)(hL:L.length<=60000)(hLb:PB L)(hall:FR 79 [wv p w,iv a] (.tuple [psv 0 L,iv 0]))(e:FE)(he:e=match zdN w b [] L with
  | some out=>.ret (esv 0 out)
  | none=>.panic (zck 260)):FN ET 41 [zjw p w b a] e:=by
 have bad:zdN w b [] L=none->e=.panic (zck 260):=fun hn=>by grind
 refine zfn (eG T41 func41) ?_ ?_
 .rw[he]
  split
  .exact Lb.esv _
  .exact .iface (.int _ _)
 refine zMG hall ?_;refine zM zoh ?_;refine zG ?_;refine zcL 47 4 (i:=2) rfl ?_;simp only[lzy,zAG9,zAN9,zAS9,zAV9];refine zG ?_;refine ze (zbk (fun m s=>∃(i:Nat) (out:AQ) (mn mr:zc) (G:LP),m=L.length-i/\i<=L.length/\zdN w b [] L=zdN w b out (L.drop i)/\out.length<=i/\zAX mn mr out/\s.tm 1=.ptr 0 0 0 0 12/\s.tm 2=.sl 3 out.length 0 out.length (2*out.length) 4/\s.tm 5=.map 1/\s.tm 6=.map 2/\s.tm 22=psv 0 L/\s.tm 23=iv L.length/\s.tm 24=iv i/\s.df=[]/\s.H=.row 100 12 0 0 [zjw p w b a]::mn::mr::.row 47 4 out.length 0 (out.map zdj)::G) (n:=L.length) ?_ ?_)
 .exact⟨0,[],.map0,.map0,[],rfl,zAJ9 _,rfl,zAE9 _,.inl ⟨rfl,rfl,rfl⟩,zt,zt,zt,zt,zt,zt,zt,rfl,rfl⟩
 rintro m ⟨tm,df,H⟩ ⟨i,out,mn,mr,G,rfl,hi,hgo,hol,hmm,h1,h2,h5,h6,h22,h23,h24,rfl,rfl⟩;dsimp only at *
 refine zLh (zr2 h23 h24) ?_ ?_;rotate_left
 .intro hlt;have hlt:¬i<L.length:=zfd hlt;obtain rfl:i=L.length:=zo;rw[zBH9]at hgo;have he':e=.ret (esv 0 out):=by rw[he,hgo];rfl
  rw[he'];refine zGF h2 ?_;refine zbN (zfr ?_ (by simp only[go_sem]<;>rfl));exact Frz.wh rfl rfl (by grind) (by grind) (fun v hv=>by rw[zAH9]at hv;obtain⟨x,_,rfl⟩:=hv;rfl) zxZ
 intro hlt;have hlt:i<L.length:=ztd hlt;obtain⟨pr,hpr⟩:=zex (l:=L) hlt;have hpv:(L.map pv)[i]?=some (pv pr):=zmg hpr;obtain⟨hkey,hptr⟩:=hLb pr (zAI9 hpr);have hdr:L.drop i=pr::L.drop (i+1):=zdc hpr;rw[hdr,zk0]at hgo;have hE:=zzM p b h w hwl hw a pr hkey;refine zBb ?_;refine zGF (zr4 h22 h24 hlt hpv) ?_
 cases hent:ze3 w b pr with
 | none =>
  have hn:zdN w b [] L=none:=by rw[hgo,hent]
  have hE':zf3 w b pr=.panic (zck 260):=by unfold zf3;rw[hent]
  rw[hE']at hE;refine zB ?_;refine zGM (zr3 h1 zyA zyB) ?_;refine zcx hE ?_;exact zcz (bad hn)
 | some x =>
  have hgo':zdN w b [] L=if zkn out x=true then none else zdN w b (out++[x]) (L.drop (i+1)):=by rw[hgo,hent]
  have hE':zf3 w b pr=.ret (zdj x):=by unfold zf3;rw[hent]
  rw[hE']at hE;have hcl:=zvN x out;clear hgo hent hE';refine zB ?_;refine zGM (zr3 h1 zyA zyB) ?_;refine zca hE ?_;refine zb2 (zr2 zyA zyB) ?_;refine zcd ?_;refine zgi (fun tm'=>tm' 1=.ptr 0 0 0 0 12/\tm' 2=.sl 3 out.length 0 out.length (2*out.length) 4/\tm' 5=.map 1/\tm' 6=.map 2/\tm' 9=.ptr (G.length+1+1+1+1+1) 0 0 0 4/\tm' 22=psv 0 L/\tm' 23=iv L.length/\tm' 24=iv i) ⟨zu h1,zu h2,zu h5,zu h6,zt,zu h22,zu h23,zu h24⟩ ?_;clear h1 h2 h5 h6 h22 h23 h24;rintro tm ⟨h1,h2,h5,h6,h9,h22,h23,h24⟩;refine zB ?_
  by_cases hA:out.any (fun y=>decide (y.name=x.name))=true
  .rcases hmm with⟨rfl,rfl,rfl⟩|⟨m1,m2,rfl,rfl,hm1,hm2⟩
   .cases hA
   have g1:=hm1 x.name;rw[if_pos hA]at g1;refine zB ?_;refine zGM (zr6 h5 h6 h9 g1 zyA zyB) ?_;refine zcx (zhy 260) ?_;exact zcz (bad (by grind))
  by_cases hB:out.any (fun y=>decide ((y.num:Int)=(x.num:Int)))=true
  .rcases hmm with⟨rfl,rfl,rfl⟩|⟨m1,m2,rfl,rfl,hm1,hm2⟩
   .cases hB
   have g1:=hm1 x.name;rw[if_neg hA]at g1;have g2:=hm2 x.num;rw[if_pos hB]at g2;refine zB ?_;refine zGM (zr7 h5 h6 h9 g1 g2 zyA zyB) ?_;refine zcx (zhy 260) ?_;exact zcz (bad (by grind))
  rw[if_neg (by grind)]at hgo';refine zcJ (Q:=fun yy s'=>yy=.norm/\s'.tm 1=.ptr 0 0 0 0 12/\s'.tm 2=.sl 3 out.length 0 out.length (2*out.length) 4/\s'.tm 5=.map 1/\s'.tm 6=.map 2/\s'.tm 9=.ptr (G.length+1+1+1+1+1) 0 0 0 4/\s'.tm 22=psv 0 L/\s'.tm 23=iv L.length/\s'.tm 24=iv i/\s'.df=[]/\s'.H=.row 100 12 0 0 [zjw p w b a]::mn::mr::.row 47 4 out.length 0 (out.map zdj)::(G++[.row 92 2 0 0 [pv pr],.row 47 4 0 0 [zdj x]])) (zae ?_) ?_
  .rcases hmm with⟨rfl,rfl,rfl⟩|⟨m1,m2,rfl,rfl,hm1,hm2⟩
   .refine zb2 (zr5 h5 h6 h9 zyA zyB) ?_;refine zca (zhu 260) ?_;refine zK ?_;exact⟨rfl,h1,h2,h5,h6,h9,h22,h23,h24,rfl,rfl⟩
   .have g1:=hm1 x.name;rw[if_neg hA]at g1;have g2:=hm2 x.num;rw[if_neg hB]at g2;refine zb2 (zr7 h5 h6 h9 g1 g2 zyA zyB) ?_;refine zca (zhu 260) ?_;refine zK ?_;exact⟨rfl,h1,h2,h5,h6,h9,h22,h23,h24,rfl,rfl⟩
  clear h1 h2 h5 h6 h9 h22 h23 h24;rintro yy ⟨tm,df,H⟩ ⟨rfl,h1,h2,h5,h6,h9,h22,h23,h24,rfl,rfl⟩;dsimp only at *
  refine zB ?_;refine zcJ (Q:=fun yy s'=>yy=.norm/\s'.tm 1=.ptr 0 0 0 0 12/\s'.tm 2=.sl 3 out.length 0 out.length (2*out.length) 4/\s'.tm 5=.map 1/\s'.tm 6=.map 2/\s'.tm 9=.ptr (G.length+1+1+1+1+1) 0 0 0 4/\s'.tm 22=psv 0 L/\s'.tm 23=iv L.length/\s'.tm 24=iv i/\s'.df=[]/\∃mn' mr',zAX mn' mr' (out++[x])/\s'.H=.row 100 12 0 0 [zjw p w b a]::mn'::mr'::.row 47 4 out.length 0 (out.map zdj)::(G++[.row 92 2 0 0 [pv pr],.row 47 4 0 0 [zdj x]])) (zaB ?_) ?_
  .rcases hmm with⟨rfl,rfl,rfl⟩|⟨m1,m2,rfl,rfl,hm1,hm2⟩
   .refine zcs (zr5 h5 h6 h9 zyA zyB) ?_;refine zcs zyB ?_;refine zQF h5 ?_;refine⟨h1,h2,h5,h6,h9,h22,h23,h24,_,_,.inr ⟨_,_,rfl,rfl,fun s=>?_,fun q=>?_⟩,rfl⟩
    .grind
    grind
   .refine zcs (zr5 h5 h6 h9 zyA zyB) ?_;refine zcs zyB ?_;refine zQF h5 ?_;refine⟨h1,h2,h5,h6,h9,h22,h23,h24,_,_,.inr ⟨_,_,rfl,rfl,fun s=>?_,fun q=>?_⟩,rfl⟩
    .grind
    grind
  clear h1 h2 h5 h6 h9 h22 h23 h24;rintro yy ⟨tm,df,H⟩ ⟨rfl,h1,h2,h5,h6,h9,h22,h23,h24,rfl,mn',mr',hmm',rfl⟩;dsimp only at *
  have hbb:(out.length+1)*41<=140737488355328:=zo;refine zB ?_;refine zB ?_;refine zGM (zr5 h2 h9 hbb zyA zyB) ?_;refine zcr ?_;refine zJF h24 ?_;refine⟨_,?m,i+1,out++[x],mn',mr',?G,rfl,hlt,hgo',by grind,hmm',zu h1,zt,zu h5,zu h6,zu h22,zu h23,zt,rfl,?H⟩
  case m=>omega
  case H=>rw[zBE9];simp only[zAB9,zAG9,zAN9,zBY9,zBD9,zBS9];rfl
def zqs(w:LN)(b:Nat)(a:Int):FE:=if(zeW w a).2=0 then(match zdN w b [] (zeW w a).1 with
  | some out=>.ret (esv 0 out)
  | none=>.panic (zck 260))else .panic (zck ((zeW w a).2:Nat))
theorem zBL(b:Nat)(h:1<=b/\b<=40)(w:LN)(hwl:w.length=3072)(hw:WB w)(hs:zbQ w.length)(a:Int):FN ET 41 [zjw p w b a] (zqs w b a):=by
 have hall:=zF8 p w a hs;rw[zrK]at hall;unfold zqs
 by_cases hno:(zeW w a).2=0
 rotate_left
 .rw[if_neg hno];generalize (zeW w a).2=no at *
  have g:¬(no:Int)=0:=zo;refine zfn (eG T41 func41) (.iface (.int _ _)) ?_;refine zMG hall ?_;refine zI ?_;refine zcx (zry no g) ?_;exact zcz rfl
 rw[if_pos hno];have hbd:=zxJ hw zo a;have hln:=zpl w a zo;rw[hno]at hall;exact zBZ p b h w hwl hw a (zeW w a).1 hln hbd hall _ rfl


theorem f12:ET.funcs.get 12=some T12:=zh func12
theorem c38:ET.caught.get 38=some ():=by kernel_rfl


theorem zG3:FR 15 [iv e] (iv e):=by
 refine zfn (eG T15 func15) (.int _ _) ?_;refine zG ?_;refine zbN ?_;exact⟨[iv e],rfl,Frz.int _ _⟩
def zgM(b:Nat):List (LN)->Nat->Nat
 | [],key=>key
 | n::l,key=>zgM b l (if ze0 b n=key/65536 then key+1 else key)
theorem zDB{n:LN}(hS:ze0 b n=S)(hQ:key/65536=Q)(hk:S=Q):zgM b (n::l) key=zgM b l (key+1):=by
 subst hS hQ
 conv=>lhs;unfold zgM
 rw[if_pos hk]
theorem zCB{n:LN}(hS:ze0 b n=S)(hQ:key/65536=Q)(hk:¬S=Q):zgM b (n::l) key=zgM b l key:=by
 subst hS hQ
 conv=>lhs;unfold zgM
 rw[if_neg hk]
theorem zpo(b:Nat):∀(l:List (LN)) (key:Nat),key<=zgM b l key/\zgM b l key<=key+l.length
 | [],key=>⟨zAE9 _,zAE9 _⟩
 | n::l,key=>by
  unfold zgM;have h1:=zpo b l key;have h2:=zpo b l (key+1)
  split
  .rw[zAG9];omega
  .rw[zAG9];omega
def zsu(b:Nat)(done:List (LN))(nm:LN):Nat:=zgM b done (65536*ze0 b nm)
def zhA(i:Nat)(nm:LN):LJ:=stN (704+16*i) (zeM ⟨1+i%8,nm⟩) 16
variable {done:List (LN)}{nm:LN}{ps:LJ}(j:Nat)
def zdY(b:Nat):List (LN)->List (LN)->LN->LJ->Option (LN×LJ)
 | _,[],w,ps=>some (w,ps)
 | done,nm::l,w,ps=>if zb1 nm=0/\¬nm∈done then zdY b (done++[nm]) l (zbA w (zhA done.length nm)) (ps++[(zsu b done nm,done.length+1)])else none
theorem zfL(h:¬(zb1 nm=0/\¬nm∈done)):zdY b done (nm::l) w ps=none:=by unfold zdY;grind
theorem zhD{X:LJ}{K:Nat}(h1:zb1 nm=0)(h2:¬nm∈done)(hX:zhA done.length nm=X)(hK:zsu b done nm=K):zdY b done (nm::l) w ps=zdY b (done++[nm]) l (zbA w X) (ps++[(K,done.length+1)]):=by
 subst hX hK
 conv=>lhs;unfold zdY
 grind
def zed(l:LJ)(fr:LG):Nat×LJ×Nat×Nat:=if(okP l&&okI [] fr)=true then match zeV l (fr.map Int.toNat)with
 | none=>(0,[],0,221)
 | some T=>(zi6 T,zcH T.reverse,(T.reverse.flatMap Prod.fst).length,0)else(0,[],0,2)
theorem zEi(l:LJ)(fr:LG):zdR l fr=.ret (.tuple [iv (zed l fr).1,.list 0 2 ((zed l fr).2.1.map zbx),iv (zed l fr).2.2.1,iv (zed l fr).2.2.2]):=by
 unfold zdR zed
 grind
theorem zsL(l:LJ)(fr:LG)(hl:l.length<=500):(zed l fr).2.1.length<=64*fr.length/\(zed l fr).2.2.1<=fr.length/\(zed l fr).1<2048/\(PB l->BB (zed l fr).2.1):=by
 unfold zed
 by_cases hP:okP l=true
 rotate_left
 .rw[show okP l=false by grind];exact⟨zAJ9 _,zAJ9 _,zCU9 _,fun _=>BB.nil⟩
 by_cases hI:okI [] fr=true
 rotate_left
 .rw[show okI [] fr=false by grind,Bool.and_false];exact⟨zAJ9 _,zAJ9 _,zCU9 _,fun _=>BB.nil⟩
 rw[hP,hI];obtain⟨free,rfl,hF⟩:=zlK hI;have hfree:(free.map fun(b:Nat)=>(b:Int)).map Int.toNat=free:=by rw[zDH9];exact zGI9 free
 rw[hfree];simp only[Bool.and_self,if_true]
 cases hb:zeV l free with
 | none=>exact⟨zAJ9 _,zAJ9 _,by decide,fun _=>BB.nil⟩
 | some T =>
  have hT:=zmU hP hF hl hb;obtain⟨used,hu,e⟩:=hT.blocks;obtain⟨b,n,T',hT1,_⟩:=hT.one;have hlen:(zcH T.reverse).length=64*(free.take used).length:=by
   rw[zjN _ fun M hM=>hT.len M (zEE9.1 hM),e]
  have hbm:b∈free:=zBP9 (i:=used) (by rw[<- e,hT1];simp);have hroot:zi6 T=b:=by rw[hT1];rfl
  refine⟨by grind,by grind,by dsimp only;rw[hroot];exact(((zfQ free).1 hF).1 b hbm).2,fun h=>zoU fun M hM=>zxD (fun b hb=>(((zfQ free).1 hF).1 b hb).2) 4 _ _ _ _ zy (zzv h) (fun L hL=>by simp at hL) hb M (zEE9.1 hM)⟩
def zeo(w:LN)(l:List (Int×Nat)):LN:=l.foldl (fun w x=>if 0<=x.1/\x.1<(w.length:Int)then w.set x.1.toNat x.2 else w) w
theorem zmS:∀(l:List (Int×Nat)) (w:LN),(zeo w l).length=w.length
 | [],_=>rfl
 | x::l,w=>by
  show (zeo (if 0<=x.1/\x.1<(w.length:Int)then w.set x.1.toNat x.2 else w) l).length=_;rw[zmS l]
  grind
theorem zvs:∀(l:List (Int×Nat)) (w:LN),WB w->(∀x∈l,LtU x.2)->WB (zeo w l)
 | [],_,h,_=>h
 | x::l,w,h,hl=>by
  show WB (zeo (if 0<=x.1/\x.1<(w.length:Int)then w.set x.1.toNat x.2 else w) l);refine zvs l _ ?_ fun y hy=>hl y (zAQ9 _ hy)
  split
  .exact h.set (hl x (zAR9 ..)) _
  .exact h
def frJ(j:Nat):LG:=(List.range j).map fun k=>((28+k:Nat):Int)
theorem zlg:(frJ j).length=j:=by simp[frJ]
theorem zEg:frJ (j+1)=frJ j++[((28+j:Nat):Int)]:=by unfold frJ;rw[zCJ9,zBE9];rfl
def zdz:LG:=frJ 20
structure zn1 where
 names:List (LN)
 bits:Int
 bent:List (Int×Nat)
@[reducible] def zgs (l:List (LN)):LQ:=l.map PV.str
def zjo(h:zn1)(b:Nat):Option (LN×LG×Bool) :=
 if h.names.length<=60/\h.bent.length<=20 then match zdY b [] h.names (List.replicate 3072 0) []with
  | none=>none
  | some (w,ps)=>some (zeo ((zbA w (zed (zdJ ps) zdz).2.1).set 600 (zed (zdJ ps) zdz).1) h.bent,zdz.drop (zed (zdJ ps) zdz).2.2.1,decide ((zed (zdJ ps) zdz).2.2.2=0))
 else none
def zpF(h:zn1):FE:=if 1<=h.bits/\h.bits<=40 then match zjo h h.bits.toNat with
  | none=>.ret (.tuple [wv 0 [],zb7 h.bits.toNat 28,.list 0 1 [],.bool false])
  | some (w,fr,c)=>.ret (.tuple [wv 0 w,zb7 h.bits.toNat 28,.list 0 1 (fr.map iv),.bool c])
 else .ret (.tuple [wv 0 [],layZ,.list 0 1 [],.bool false])
theorem zm8:∀{l done:List (LN)} {w w':LN} {ps ps':LJ},zdY b done l w ps=some (w',ps')->ps'.length=ps.length+l.length
 | [],done,w,w',ps,ps',h=>by
  unfold zdY at h
  grind
 | nm::l,done,w,w',ps,ps',h=>by
  by_cases hc:zb1 nm=0/\¬nm∈done
  rotate_left
  .rw[zfL hc]at h;cases h
  rw[zhD hc.1 hc.2 rfl rfl]at h;have:=zm8 h
  grind
theorem zFM{r:zfm}(hb:zbT r.name)(h1:r.ino<65536)(h2:r.name.length<=120):WB (zeM r):=fun x hx=>by
 unfold zeM at hx;rcases zBA9.1 hx with rfl|hx
 .show _<18446744073709551616;omega
 rcases zBG9.1 hx with hx|hx
 .exact zmj hb x hx
 .rw[zDN9 hx];exact zCU9 _
theorem zGe{a:Nat}(h:WB w)(n:Nat):BB (stN a w n):=fun c hc=>by
 unfold stN at hc;obtain⟨k,_,rfl⟩:=zAH9.1 hc;exact h.get _
theorem zmy(i:Nat){nm:LN}(hb:zbT nm)(hn:zb1 nm=0):(zhA i nm).length=16/\BB (zhA i nm):=by
 have h:=ze5 hn;unfold zhA;refine⟨zoe _ _ _,zGe (zFM hb ?_ ?_) _⟩
 .dsimp only;omega
 .dsimp only;omega


theorem zD9(h:zn1):LbE (zpF h):=by
 unfold zpF
 split
 .split
  .exact Lb.four (Lb.uvs []) (Lb.lay _ _) (Lb.ivs []) (.bool _)
  .exact Lb.four (Lb.uvs _) (Lb.lay _ _) (Lb.ivs _) (.bool _)
 .exact Lb.four (Lb.uvs []) Lb.layZ (Lb.ivs []) (.bool _)
theorem ge0{α:Type}(H G:List α)(a x:α):(H++a::(G++[x]))[H.length+(G.length+1)]?=some x:=by
 grind
theorem zAc(q1 q2:Nat)(names:List (LN))(bits:Int)(bent:List (Int×Nat))(hn:∀s∈names,zbT s/\s.length<9223372036854775808)(hbe:∀x∈bent,LtU x.2):FN ET 10 [.agg [.list q1 1 (zgs names),iv bits,.list q2 2 (wdV bent)]] (zpF ⟨names,bits,bent⟩):=by
 refine zfn (eG T10 func10) (zD9 _) ?_;unfold zpF zjo;dsimp only
 by_cases hbits:1<=bits/\bits<=40
 rotate_left
 .rw[if_neg hbits];have hOf:=zHe bits zo;refine zMG hOf ?_;refine zS ?_;refine zBd ?_;refine zcs hbits ?_;refine zQF hbits ?_;refine zbN (zfr ?_);exact Frz.tL ⟨.nil _ _,zlQ.frz,.nil _ _,.bool _,trivial⟩
 rw[if_pos hbits];obtain⟨b,rfl⟩:∃b:Nat,bits=b:=⟨bits.toNat,by omega⟩
 rw[zCO9];have hb:1<=b/\b<=40:=zo;have hOf:=zEw b hb;unfold zb7 zdD at hOf;refine zMG hOf ?_
 by_cases c1:60<names.length
 .have g1:(60:Int)<(names.length:Nat):=zo;rw[if_neg (fun h=>by omega)];refine zSF g1 ?_;refine zBd ?_;refine zcs g1 ?_;refine zQF g1 ?_;refine zbN (zfr ?_);exact Frz.tL ⟨.nil _ _,(zgP b 28).frz,.nil _ _,.bool _,trivial⟩
 have g1:¬(60:Int)<(names.length:Nat):=zo
 by_cases c2:20<bent.length
 .have g2:(20:Int)<(bent.length:Nat):=zo;rw[if_neg (fun h=>by omega)];refine zSF (zr2 g1 g2) ?_;refine zBd ?_;refine zcs g1 ?_;refine zQF g1 ?_;refine zbN (zfr ?_);exact Frz.tL ⟨.nil _ _,(zgP b 28).frz,.nil _ _,.bool _,trivial⟩
 have g2:¬(20:Int)<(bent.length:Nat):=zo;rw[if_pos ⟨by omega,by omega⟩];refine zHY (zr2 g1 g2) ?_;refine zG ?_;refine zcL 92 2 (i:=9) rfl ?_;simp only[lzy,zAG9,zAN9,zAS9,zAV9];have noF:∀(tm:Nat->PV) (H:LP),tm 2=.nilsl->tm 3=.ptr 1 0 0 0 10->tm 4=.nilsl->tm 5=.bool false->H[1]?=some (.row 32 10 0 0 [.agg [iv 48,iv 8,iv 64,iv b,uv 3,uv 5,iv 9,iv 11,iv 27,iv 28]])->zev ET T10 (fun e' H=>zbp H 0 e' (.ret (.tuple [wv 0 [],zb7 b 28,.list 0 1 [],.bool false]))) .ret ⟨tm,[],H⟩:=fun tm H h2 h3 h4 h5 hH=>by
  refine zdw (vs:=[.nilsl,zb7 b 28,.nilsl,.bool false]) ?_ (Frz.tL ⟨.nil _ _,(zgP b 28).frz,.nil _ _,.bool _,trivial⟩);simp[T10,xT,zaS,okv,h2,h3,h4,h5,zaz,zbl,zbo,hH]
  try rfl
 have hW0:List.replicate 3072 (PV.int .u64 0)=(List.replicate 3072 0).map uv:=by rw[zEW9];rfl
 rw[hW0];have hw0l:(List.replicate 3072 0:LN).length=3072:=zCV9;have hw0b:WB (List.replicate 3072 0):=fun x hx=>by rw[zDN9 hx];exact zCU9 _
 generalize hGo:zdY b [] names (List.replicate 3072 0) []=R;have hGo:R=zdY b [] names (List.replicate 3072 0) []:=hGo.symm;generalize List.replicate 3072 0=W0 at *
 refine ze (zbk (fun m s=>∃(i id g M:Nat) (w:LN) (ps:LJ),m=names.length-i/\i<=names.length/\R=zdY b (names.take i) (names.drop i) w ps/\w.length=3072/\WB w/\PB ps/\ps.length=i/\M<=g/\(∀s∈names.take i,zb1 s=0)/\s.tm 1=.ptr 0 0 0 0 3/\s.tm 3=.ptr 1 0 0 0 10/\s.tm 6=.ptr 2 0 0 0 10/\s.tm 8=.sl id g 0 w.length (2*w.length) 1/\s.tm 9=.sl 4 ps.length 0 ps.length (2*ps.length) 2/\s.tm 10=iv i/\s.df=[]/\s.H[0]?=some (.row 25 3 0 0 [.agg [.list q1 1 (zgs names),iv b,.list q2 2 (wdV bent)]])/\s.H[1]?=some (.row 32 10 0 0 [layZ])/\s.H[2]?=some (.row 32 10 0 0 [.agg [iv 48,iv 8,iv 64,iv b,uv 3,uv 5,iv 9,iv 11,iv 27,iv 28]])/\s.H[4]?=some (.row 92 2 ps.length 0 (ps.map pv))/\s.H[id]?=some (.row 29 1 g M (w.map uv))) (n:=names.length) ?_ ?_)
 .exact⟨0,3,0,0,W0,[],rfl,zAJ9 _,hGo,hw0l,hw0b,fun c hc=>(by cases hc),rfl,zAE9 _,fun s hs=>(by cases hs),zt,zt,zt,by simp[upd,hw0l],zt,zt,rfl,rfl,rfl,rfl,rfl,rfl⟩
 clear hGo hw0l hw0b hW0;rintro m ⟨tm,df,H⟩ ⟨i,id,g,M,w,ps,rfl,hi,hGo,hwl,hwb,hpb,hpl,hM,hok,h1,h3,h6,h8,h9,h10,rfl,e0,e1,e2,e4,er⟩;dsimp only at h1 h3 h6 h8 h9 h10 e0 e1 e2 e4 er;refine zLh (zr3 h1 h10 e0) ?_ ?_
 .intro hlt;have hlt:i<names.length:=ztd hlt;obtain⟨nm,hnm⟩:=zex (l:=names) hlt;have hnv:(names.map PV.str)[i]?=some (.str nm):=zmg hnm;obtain⟨hnb,hnl⟩:=hn nm (zAI9 hnm);have hdr:names.drop i=nm::names.drop (i+1):=zdc hnm;have htk:names.take (i+1)=names.take i++[nm]:=by rw[zBB9,hnm];rfl
  have hdl:(names.take i).length=i:=by rw[zAT9];omega
  have hdk:∀k,k<i->(names.take i)[k]?=names[k]?:=fun k hk=>by grind
  rw[hdr]at hGo;have hC:=zg1 nm hnl;have hs1:∀x:zc,(H.set 1 x)[1]?=some x:=fun x=>zAZ9 (zAC9.1 e1).1;generalize names.take i=done at *
  refine zBb ?_;refine zB ?_;refine zIF (zr5 h1 h10 e0 hnv hlt) ?_;refine zca hC ?_
  by_cases hn0:zb1 nm=0
  rotate_left
  .have gN:¬(zb1 nm:Int)=0:=fun h=>hn0 (Int.ofNat.inj h);rw[hGo,zfL (fun h=>hn0 h.1)];refine zNF gN ?_;refine zct ?_;refine zBd ?_;refine zcs (zr4 h3 h6 e1 e2) ?_;refine zQF h3 ?_;refine zbN ?_;exact noF _ _ rfl h3 rfl rfl (hs1 _)
  have gN:(zb1 nm:Int)=0:=by rw[hn0];rfl
  refine zNF gN ?_;refine zH ?_;obtain⟨V,hV⟩:∃V,V=65536*ze0 b nm:=⟨_,rfl⟩
  have hK:=zBl b hb nm hnb hn0 V hV;unfold zb7 zdD at hK;have hVb:V<72057594037927936:=by have:=zrf b hb nm;omega
  refine zBd ?_;refine zcu (zr7 h1 h6 h10 e0 e2 hnv hlt) hK ?_;refine zQF h1 ?_;refine zG ?_;have hKN:zsu b done nm=zgM b done V:=by rw[hV];rfl
  refine ze (zbk (fun m s=>∃(k key:Nat),m=i-k/\k<=i/\zsu b done nm=zgM b (done.drop k) key/\key<=V+k/\(nm∈done↔nm∈done.drop k)/\s.tm 1=.ptr 0 0 0 0 3/\s.tm 3=.ptr 1 0 0 0 10/\s.tm 6=.ptr 2 0 0 0 10/\s.tm 8=.sl id g 0 w.length (2*w.length) 1/\s.tm 9=.sl 4 ps.length 0 ps.length (2*ps.length) 2/\s.tm 10=iv i/\s.tm 11=uv key/\s.tm 13=iv k/\s.df=[]/\s.H=H) (n:=i) ?_ ?_)
  .exact⟨0,V,rfl,zAJ9 _,hKN,zAE9 _,Iff.rfl,zu h1,zu h3,zu h6,zu h8,zu h9,zu h10,zt,zt,rfl,rfl⟩
  clear hKN h1 h3 h6 h8 h9 h10;rintro m ⟨tm,df,H2⟩ ⟨k,key,rfl,hk,hKN,hkey,hmem,h1,h3,h6,h8,h9,h10,h11,h13,rfl,rfl⟩;dsimp only at *
  refine zLh (zr2 h10 h13) ?_ ?_
  .intro hlt2;have hlt2:k<i:=ztd hlt2;obtain⟨ok,hok2⟩:∃x,names[k]?=some x:=⟨_,zAA9 zo⟩
   have hokv:(names.map PV.str)[k]?=some (.str ok):=zmg hok2;have hdk2:=(hdk k hlt2).trans hok2;obtain⟨hnb2,hnl2⟩:=hn ok (zAI9 hok2);have hno2:=hok ok (zAI9 hdk2);have hdd:done.drop k=ok::done.drop (k+1):=by
    obtain⟨h,e⟩:=zAC9.1 hdk2;rw[zAM9 h,e]
   rw[hdd]at hKN hmem;have hkn:k<names.length:=zo;refine zBb ?_;refine zBd ?_
   by_cases he:ok=nm
   .rw[hGo,zfL (fun h=>h.2 (hmem.2 (by rw[he];simp)))];refine zQF (zr9 h1 h10 h13 e0 hnv hokv hlt hkn he) ?_;refine zct ?_;refine zBd ?_;refine zcs (zr4 h3 h6 e1 e2) ?_;refine zQF h3 ?_;refine zbN ?_;exact noF _ _ rfl h3 rfl rfl (hs1 _)
   have hmem2:nm∈done↔nm∈done.drop (k+1):=hmem.trans (by rw[zBA9];grind);have hSum:=zm0 b hb ok hnb2 hno2;unfold zb7 zdD at hSum;obtain⟨S,hS⟩:∃S,ze0 b ok=S:=⟨_,rfl⟩
   rw[hS]at hSum;obtain⟨Q,hQ⟩:∃Q,key/65536=Q:=⟨_,rfl⟩
   have htd:Int.tdiv (key:Int) 65536=(Q:Int):=by rw[zED9 zo];omega
   have hq:(key:Int)/65536=(Q:Int):=zo;have hQb:(Q:Int)<18446744073709551616:=zo;refine zQF (zr9 h1 h10 h13 e0 hnv hokv hlt hkn he) ?_;refine zH ?_;refine zBd ?_;refine zcu (zr7 h1 h6 h13 e0 e2 hokv hkn) hSum ?_;refine zQF h1 ?_;refine zB ?_
   by_cases hk2:S=Q
   rotate_left
   .have g3:¬(S:Int)=(Q:Int):=fun h=>hk2 (Int.ofNat.inj h);rw[zCB hS hQ hk2]at hKN;refine zB ?_;refine zbj (zr5 h11 htd hq hQb g3) ?_;refine zH ?_;refine zJF h13 ?_;exact⟨_,by omega,k+1,key,rfl,hlt2,hKN,by omega,hmem2,zu h1,zu h3,zu h6,zu h8,zu h9,zu h10,zu h11,zu h13,rfl,rfl⟩
   have g3:(S:Int)=(Q:Int):=congrArg Nat.cast hk2;rw[zDB hS hQ hk2]at hKN;have hk1:(key:Int)+1=((key+1:Nat):Int):=zo;have hk1b:((key+1:Nat):Int)<18446744073709551616:=zo;refine zB ?_;refine zbj (zr5 h11 htd hq hQb g3) ?_;refine zct ?_;refine zJF (zr3 h11 hk1 hk1b) ?_;refine zJF h13 ?_;exact⟨_,by omega,k+1,key+1,rfl,hlt2,hKN,by omega,hmem2,zu h1,zu h3,zu h6,zu h8,zu h9,zu h10,zt,zu h13,rfl,rfl⟩
  intro hlt2;have hlt2:¬k<i:=zfd hlt2;obtain rfl:k=i:=zo;rw[zDF9 zo]at hKN hmem;have hKN:zsu b done nm=key:=hKN;have hnd:¬nm∈done:=fun h=>by grind
  obtain⟨X,hX⟩:∃X,zhA k nm=X:=⟨_,rfl⟩
  obtain⟨hXl,hXb⟩:=zmy k hnb hn0;have hk8:k%8<8:=zFJ9 _ zy;have hSt:=zvP (704+16*k) zo ⟨1+k%8,nm⟩ ((zfl _).2 ⟨Nat.le_add_right 1 _,by grind,hn0⟩) hnb;rw[show stN (704+16*k) (zeM ⟨1+k%8,nm⟩) 16=X from hX]at hSt;rw[hX]at hXl hXb;rw[zhD (X:=X) hn0 hnd (by grind) hKN]at hGo;have hrm:(k:Int).tmod 8=((k%8:Nat):Int):=by rw[zFW9 zo];omega
  have a1:(16:Int)*(k:Int)=((16*k:Nat):Int):=zo;have a2:(704:Int)+((16*k:Nat):Int)=((704+16*k:Nat):Int):=zo;generalize k%8=r8 at *
  have a3:(1:Int)+(r8:Int)=((1+r8:Nat):Int):=zo;clear hK hV hKN hmem hdk hC;refine zBd ?_;refine zcu (zhg h1 h6 h10 e0 e2 hnv hlt hrm a1 a2 a3) hSt ?_;refine zQF h1 ?_;refine zB ?_;have hap:=zoH 0 H2 id g (2*w.length) M w X zo ⟨by omega,by omega⟩ hM er;refine zIF h8 ?_;refine zco hap ?_ (by first|rfl|(simp only[go_sem,h8]<;>rfl)) (by simp only[go_sem]<;>rfl);rintro e H1 ⟨hst,id2,g2,M2,rfl,hM2,hr2⟩;refine zN ?_;have hal:=zc2 X w;have f0:=hst _ _ e0;have f1:=hst _ _ e1;have f2:=hst _ _ e2;have f4:=hst _ _ e4;have hne:id2≠4:=by rintro rfl;rw[f4]at hr2;cases hr2
  have f4':∀Y,(H1++Y)[4]?=some (.row 92 2 ps.length 0 (ps.map pv)):=fun Y=>zbR f4;have hbb:(ps.length+1)*17<=140737488355328:=zo;have a4:(k:Int)+1=((k+1:Nat):Int):=zo;have a5:((k+1:Nat):Int)<18446744073709551616:=zo;refine zB ?_;refine zJF (zr7 h9 h10 h11 f4' hbb a4 a5) ?_;refine zJF h10 ?_;rw[hdl]at hGo;have hsn:ps.map pv++[pv (key,k+1)]=(ps++[(key,k+1)]).map pv:=by rw[zBE9];rfl
  have hsl:ps.length+1=(ps++[(key,k+1)]).length:=by rw[zAB9];rfl
  refine⟨_,?m,k+1,id2,g2,M2,zbA w X,ps++[(key,k+1)],rfl,hlt,by grind,by omega,zi2 hwb hXb,?PB,by omega,hM2,?OK,zu h1,zu h3,zu h6,by simp[upd,hal],zt,zu h10,rfl,?H0,?H1,?H2,?H4,?HR⟩
  case m=>omega
  case PB =>
   intro c hc;rcases zBG9.1 hc with hc|hc
   .exact hpb c hc
   .obtain rfl:=zBI9.1 hc;omega
  case OK =>
   rw[htk];intro s hs;rcases zBG9.1 hs with hs|hs
   .grind
   .obtain rfl:=zBI9.1 hs;exact hn0
  case H0=>exact(zAY9 zy).trans (zbR f0)
  case H1=>exact(zAY9 zy).trans (zbR f1)
  case H2=>exact(zAY9 zy).trans (zbR f2)
  case H4 =>
   rw[<- hsn,<- hsl];exact zAZ9 (zAC9.1 (zbR f4)).1
  case HR=>exact(zAY9 hne.symm).trans (zbR hr2)
 intro hlt;have hlt:¬i<names.length:=zfd hlt;obtain rfl:i=names.length:=zo;rw[zBF9,zBH9]at hGo;have hGo:R=some (w,ps):=hGo;rw[hGo];clear hGo hok hi hlt;refine zGF (zr2 h6 e2) ?_;refine zcL 3 1 (i:=18) rfl ?_;simp only[lzy];refine ze (zbk (fun m s=>∃(j:Nat) (G:LP),m=20-j/\j<=20/\s.tm 1=.ptr 0 0 0 0 3/\s.tm 3=.ptr 1 0 0 0 10/\s.tm 6=.ptr 2 0 0 0 10/\s.tm 8=.sl id g 0 w.length (2*w.length) 1/\s.tm 9=.sl 4 ps.length 0 ps.length (2*ps.length) 2/\s.tm 18=.sl H.length j 0 j (2*j) 1/\s.tm 19=iv (28+j:Nat)/\s.df=[]/\s.H=H++.row 3 1 j 0 ((frJ j).map iv)::G) (n:=20) ?_ ?_)
 .exact⟨0,[],rfl,zAJ9 _,zu h1,zu h3,zu h6,zu h8,zu h9,zt,zt,rfl,rfl⟩
 clear h1 h3 h6 h8 h9 h10;rintro m ⟨tm,df,H9⟩ ⟨j,G,rfl,hj,h1,h3,h6,h8,h9,h18,h19,rfl,rfl⟩;dsimp only at *
 have gj:((28+j:Nat):Int)<48↔j<20:=zo;refine zLh h19 ?_ ?_
 .intro hltj;have hltj:j<20:=ztd hltj;have hbb:(j+1)*9<=140737488355328:=zo;have hfl:=zlg j;have g19:((28+j:Nat):Int)+1=((28+(j+1):Nat):Int):=zo;refine zBb ?_;refine zB ?_;refine zrg ?_ (by simp(disch:=omega)only[go_sem,h18,h19,hbb,hfl,ga0,ge0,sa0,zAD9,zAB9]<;>rfl);refine zcr ?_;refine zJF (zr2 h19 g19) ?_;refine⟨_,?m,j+1,?G,rfl,hltj,zu h1,zu h3,zu h6,zu h8,zu h9,zt,zt,rfl,?H⟩
  case m=>omega
  case H=>rw[zEg,zBE9];rfl
 intro hltj;have hltj:¬j<20:=zfd hltj;obtain rfl:j=20:=zo;refine zgi (fun tm'=>tm' 1=.ptr 0 0 0 0 3/\tm' 3=.ptr 1 0 0 0 10/\tm' 6=.ptr 2 0 0 0 10/\tm' 8=.sl id g 0 w.length (2*w.length) 1/\tm' 9=.sl 4 ps.length 0 ps.length (2*ps.length) 2/\tm' 18=.sl H.length 20 0 20 40 1) ⟨zu h1,zu h3,zu h6,zu h8,zu h9,zu h18⟩ ?_;clear h1 h3 h6 h8 h9 h18 h19 gj;rintro tm ⟨h1,h3,h6,h8,h9,h18⟩;refine zlP 18 H.length (w:=.list 0 1 (zdz.map iv)) (o:=.row 3 1 20 0 ((frJ 20).map iv)) (by grind) (by
  dsimp only;rw[h18];exact Frz.wh (l:=(frJ 20).map iv) (znU (by simp only[ga0]<;>rfl)) rfl (by rw[zAP9,zlg]) (by rw[zAP9,zlg];decide) zmm zrc) ?_
 simp only[sa0];refine zgi (fun tm'=>tm' 1=.ptr 0 0 0 0 3/\tm' 3=.ptr 1 0 0 0 10/\tm' 6=.ptr 2 0 0 0 10/\tm' 8=.sl id g 0 w.length (2*w.length) 1/\tm' 9=.sl 4 ps.length 0 ps.length (2*ps.length) 2/\tm' 18=.list 0 1 (zdz.map iv)) ⟨zu h1,zu h3,zu h6,zu h8,zu h9,by simp[upd]⟩ ?_;clear h1 h3 h6 h8 h9 h18;rintro tm ⟨h1,h3,h6,h8,h9,h18⟩;have f0:=zbR (X:=.void::G) e0;have f1:=zbR (X:=.void::G) e1;have f2:=zbR (X:=.void::G) e2;have f4:=zbR (X:=.void::G) e4;have fr:=zbR (X:=.void::G) er;generalize H++zc.void::G=H5 at *
 clear e0 e1 e2 e4 er;have fzp:Frz H5 1 (.sl 4 ps.length 0 ps.length (2*ps.length) 2) (psv 1 ps):=Frz.wh (l:=ps.map pv) f4 rfl (by simp) (by simp) zmm zgE;have hSo:=zv7 1 ps zo;have hsl:=zkS ps;have hsb:PB (zdJ ps):=fun c hc=>hpb c (zoz c hc);have hB:=ztP 0 0 (zdJ ps) zdz zo zy;rw[zEi]at hB;obtain⟨q1',q2',q3',q4'⟩:=zsL (zdJ ps) zdz zo;have q5:=q4' hsb;clear q4';dsimp only;generalize zed (zdJ ps) zdz=bp at *
 obtain⟨root,puts,used,no⟩:=bp;dsimp only at hB q1' q2' q3' q5⊢;generalize zdJ ps=sp at *
 have hfl:zdz.length=20:=zlg 20;refine zIF h9 ?_;refine zcl hSo ?_ ?_;exact⟨fzp,trivial⟩;refine zb2 h18 ?_;refine zCN hB ?_;refine zB ?_;have hap:=zoH 0 H5 id g (2*w.length) M w puts zo ⟨by omega,by omega⟩ hM fr;refine zIF h8 ?_;refine zco hap ?_ (by first|rfl|(simp only[go_sem,h8]<;>rfl)) (by simp only[go_sem]<;>rfl);rintro e H1 ⟨hst,id2,g2,M2,rfl,hM2,hr2⟩;refine zN ?_;have hal:=zc2 puts w;have hw1b:=zi2 hwb q5;have k0:=hst _ _ f0;have k1:=hst _ _ f1;have k2:=hst _ _ f2;have hne0:id2≠0:=by rintro rfl;rw[k0]at hr2;cases hr2
 have hne1:id2≠1:=by rintro rfl;rw[k1]at hr2;cases hr2
 have hne2:id2≠2:=by rintro rfl;rw[k2]at hr2;cases hr2
 clear f0 f1 f2 f4 fr hst hap hB hSo fzp;generalize zbA w puts=w1' at *
 have r5:600<w1'.length:=zo;have r6:IntKind.u64.wrap (root:Int)=(root:Int):=zwu;obtain⟨o5,ho5⟩:∃o,w1'[600]?=some o:=⟨_,zAA9 r5⟩
 have z5:(w1'.map uv)[600]?=some (uv o5):=zmg ho5;have y5:(w1'.map uv).set 600 (.int .u64 (root:Int))=(w1'.set 600 root).map uv:=zDT9.symm;have r7:600<w.length:=zo;refine zB ?_;refine zbj (zr7 hr2 hM2 r5 r6 r7 z5 y5) ?_;refine zG ?_;have s0:(H1.set id2 (.row 29 1 g2 g2 ((w1'.set 600 root).map uv)))[0]?=some (.row 25 3 0 0 [.agg [.list q1 1 (zgs names),iv b,.list q2 2 (wdV bent)]]):=(zAY9 hne0).trans k0;have s1:(H1.set id2 (.row 29 1 g2 g2 ((w1'.set 600 root).map uv)))[1]?=some (.row 32 10 0 0 [layZ]):=(zAY9 hne1).trans k1;have s2:(H1.set id2 (.row 29 1 g2 g2 ((w1'.set 600 root).map uv)))[2]?=some (.row 32 10 0 0 [.agg [iv 48,iv 8,iv 64,iv b,uv 3,uv 5,iv 9,iv 11,iv 27,iv 28]]):=(zAY9 hne2).trans k2;have sr:(H1.set id2 (.row 29 1 g2 g2 ((w1'.set 600 root).map uv)))[id2]?=some (.row 29 1 g2 g2 ((w1'.set 600 root).map uv)):=zAZ9 (zAC9.1 hr2).1;have hw2:(w1'.set 600 root).length=3072:=by rw[zBT9];omega
 have hw2b:WB (w1'.set 600 root):=hw1b.set (show root<18446744073709551616 by omega) _;rw[show w.length=(w1'.set 600 root).length by omega];clear k0 k1 k2 hr2 z5 y5 ho5 r5 r6 r7 hal hw1b q1' q3' q5 hwl hwb hM hpb hpl;generalize H1.set id2 (.row 29 1 g2 g2 ((w1'.set 600 root).map uv))=H6 at *
 generalize w1'.set 600 root=W2 at *
 refine ze (zbk (fun m s=>∃(k id g M:Nat) (w:LN),m=bent.length-k/\k<=bent.length/\w.length=3072/\M<=g/\zeo W2 bent=zeo w (bent.drop k)/\s.tm 1=.ptr 0 0 0 0 3/\s.tm 3=.ptr 1 0 0 0 10/\s.tm 6=.ptr 2 0 0 0 10/\s.tm 8=.sl id g 0 w.length (2*w.length) 1/\s.tm 18=.list 0 1 (zdz.map iv)/\s.tm 22=iv used/\s.tm 23=iv no/\s.tm 24=iv k/\s.df=[]/\s.H[0]?=some (.row 25 3 0 0 [.agg [.list q1 1 (zgs names),iv b,.list q2 2 (wdV bent)]])/\s.H[1]?=some (.row 32 10 0 0 [layZ])/\s.H[2]?=some (.row 32 10 0 0 [.agg [iv 48,iv 8,iv 64,iv b,uv 3,uv 5,iv 9,iv 11,iv 27,iv 28]])/\s.H[id]?=some (.row 29 1 g M (w.map uv))) (n:=bent.length) ?_ ?_)
 .exact⟨0,id2,g2,g2,W2,rfl,zAJ9 _,hw2,zAE9 _,rfl,zu h1,zu h3,zu h6,zt,zu h18,zt,zt,zt,rfl,s0,s1,s2,sr⟩
 clear h1 h3 h6 h8 h9 h18 s0 s1 s2 sr hw2 hw2b hne0 hne1 hne2 hM2;rintro m ⟨tm,df,H⟩ ⟨k,id,g,M,w,rfl,hk,hwl,hM,hbn,h1,h3,h6,h8,h18,h22,h23,h24,rfl,e0,e1,e2,er⟩;dsimp only at h1 h3 h6 h8 h18 h22 h23 h24 e0 e1 e2 er;refine zLh (zr3 h1 h24 e0) ?_ ?_
 .intro hltk;have hltk:k<bent.length:=ztd hltk;obtain⟨x,hx⟩:=zex (l:=bent) hltk;have hxv:(wdV bent)[k]?=some (.agg [iv x.1,uv x.2]):=by rw[zAF9,hx];rfl
  have hdr:bent.drop k=x::bent.drop (k+1):=zdc hx;rw[hdr]at hbn;have hne0:id≠0:=by rintro rfl;rw[e0]at er;cases er
  have hne1:id≠1:=by rintro rfl;rw[e1]at er;cases er
  have hne2:id≠2:=by rintro rfl;rw[e2]at er;cases er
  refine zBb ?_
  by_cases hin:0<=x.1/\x.1<(w.length:Nat)
  .have hbn:zeo W2 bent=zeo (w.set x.1.toNat x.2) (bent.drop (k+1)):=by rw[hbn];show zeo (if 0<=x.1/\x.1<(w.length:Int)then w.set x.1.toNat x.2 else w) _=_;rw[if_pos hin]
   obtain⟨a,ha⟩:∃a:Nat,x.1=a:=⟨x.1.toNat,by omega⟩
   have g1:(0:Int)<=(a:Nat):=zo;have g2:((a:Nat):Int)<(w.length:Nat):=zo;have g3:a<w.length:=zo;rw[ha]at hxv hbn;rw[zCO9]at hbn;obtain⟨o,ho⟩:=zex (l:=w) g3;have z1:(w.map uv)[a]?=some (uv o):=zmg ho;have y1:(w.map uv).set a (.int .u64 (x.2:Int))=(w.set a x.2).map uv:=zDT9.symm;refine zSF (zh5 h1 h8 h24 e0 hxv hltk er hM g1 g2) ?_;refine zBd ?_;refine zcs (zef h1 h8 h24 e0 hxv hltk er hM g1 g2 g3 (zr2 z1 y1)) ?_;refine zQF h8 ?_;refine zJF h24 ?_;refine⟨_,?m8,k+1,id,g,g,w.set a x.2,rfl,hltk,by grind,zAE9 _,hbn,zu h1,zu h3,zu h6,zu h8,zu h18,zu h22,zu h23,zu h24,zt,(zAY9 hne0).trans e0,(zAY9 hne1).trans e1,(zAY9 hne2).trans e2,?hr8⟩
   case m8=>omega
   grind
  have hbn:zeo W2 bent=zeo w (bent.drop (k+1)):=by rw[hbn];show zeo (if 0<=x.1/\x.1<(w.length:Int)then w.set x.1.toNat x.2 else w) _=_;rw[if_neg hin]
  by_cases h0:(0:Int)<=x.1
  .have g2:¬x.1<(w.length:Nat):=fun h=>hin ⟨h0,h⟩;refine zHY (zh5 h1 h8 h24 e0 hxv hltk er hM h0 g2) ?_;refine zJF h24 ?_;exact⟨_,by omega,k+1,id,g,M,w,rfl,hltk,hwl,hM,hbn,zu h1,zu h3,zu h6,zu h8,zu h18,zu h22,zu h23,zu h24,rfl,e0,e1,e2,er⟩
  .refine zHY (zr9 h1 h8 h24 e0 hxv hltk er hM h0) ?_;refine zJF h24 ?_;exact⟨_,by omega,k+1,id,g,M,w,rfl,hltk,hwl,hM,hbn,zu h1,zu h3,zu h6,zu h8,zu h18,zu h22,zu h23,zu h24,rfl,e0,e1,e2,er⟩
 intro hltk;have hltk:¬k<bent.length:=zfd hltk;rw[zDF9 zo]at hbn;have hbn:zeo W2 bent=w:=hbn;rw[hbn];refine zBd ?_;have hne1:id≠1:=by rintro rfl;rw[e1]at er;cases er
 have hdv:List.drop used (zdz.map iv)=(zdz.drop used).map iv:=zCA9.symm;have hs1:∀x:zc,(H.set 1 x)[1]?=some x:=fun x=>zAZ9 (zAC9.1 e1).1;have hsr:∀x:zc,(H.set 1 x)[id]?=some (.row 29 1 g M (w.map uv)):=fun x=>(zAY9 hne1.symm).trans er;have fin:∀(c:Bool) (x:zc) (lay:PV),Id0 lay->zbp (H.set 1 x) 0 (.ret (.tuple [.sl id g 0 w.length (2*w.length) 1,lay,.list 0 1 ((zdz.drop used).map iv),.bool c])) (.ret (.tuple [wv 0 w,lay,.list 0 1 ((zdz.drop used).map iv),.bool c])):=fun c x lay hl=>Frz.tL ⟨Frz.wM (hsr x) hM rfl (by simp) (by simp) zmm zod,hl.frz,.list _ _ _,.bool _,trivial⟩
 by_cases hno:no=0
 .have gn:(no:Int)=0:=zo;rw[decide_eq_true hno];refine zcs (zhg h3 h6 h8 h18 h22 h23 e1 e2 hdv q2' gn) ?_;refine zQF h3 ?_;refine zbN (zfr ?_ (by simp only[go_sem,h3,hs1]<;>rfl));exact fin _ _ _ (zgP b 28)
 .have gn:¬(no:Int)=0:=zo;rw[decide_eq_false hno];refine zcs (zhg h3 h6 h8 h18 h22 h23 e1 e2 hdv q2' gn) ?_;refine zQF h3 ?_;refine zbN (zfr ?_ (by simp only[go_sem,h3,hs1]<;>rfl));exact fin _ _ _ (zgP b 28)


theorem zty:∀{l done:List (LN)} {w w':LN} {ps ps':LJ},zdY b done l w ps=some (w',ps')->(∀s∈l,zbT s)->WB w->w'.length=w.length/\WB w'
 | [],done,w,w',ps,ps',h,_,hw=>by
  unfold zdY at h
  grind
 | nm::l,done,w,w',ps,ps',h,hb,hw=>by
  by_cases hc:zb1 nm=0/\¬nm∈done
  rotate_left
  .rw[zfL hc]at h;cases h
  rw[zhD hc.1 hc.2 rfl rfl]at h;obtain⟨h1,h2⟩:=zty h (fun s hs=>hb s (zAQ9 _ hs)) (zi2 hw (zmy _ (hb nm (zAR9 ..)) hc.1).2);exact⟨h1.trans (zc2 _ _),h2⟩
theorem ztG(hb:1<=b/\b<=40):∀{l done:List (LN)} {w w':LN} {ps ps':LJ},zdY b done l w ps=some (w',ps')->done.length+l.length<=1000->PB ps->PB ps'
 | [],done,w,w',ps,ps',h,_,hp=>by
  unfold zdY at h;injection h with h;injection h with _ h;subst h;exact hp
 | nm::l,done,w,w',ps,ps',h,hl,hp=>by
  by_cases hc:zb1 nm=0/\¬nm∈done
  rotate_left
  .rw[zfL hc]at h;cases h
  obtain⟨K,hK⟩:∃K,zsu b done nm=K:=⟨_,rfl⟩
  rw[zhD hc.1 hc.2 rfl hK]at h;rw[zAG9]at hl;refine ztG hb h (by grind) fun c hcm=>?_;rcases zBG9.1 hcm with hcm|hcm
  .exact hp c hcm
  .obtain rfl:=zBI9.1 hcm;have h1:=(zpo b done (65536*ze0 b nm)).2;have h2:=zrf b hb nm;have h3:K<=65536*ze0 b nm+done.length:=by rw[<- hK];exact h1
   omega
theorem zwG{h:zn1}(hb:1<=b/\b<=40){fr:LG}{c:Bool}(ho:zjo h b=some (w,fr,c))(hn:∀s∈h.names,zbT s)(hbe:∀x∈h.bent,LtU x.2):w.length=3072/\WB w/\fr.length<=20:=by
 unfold zjo at ho
 split at ho
 rotate_left
 .cases ho
 rename_i hc
 split at ho
 .cases ho
 rename_i w0 ps hgo;have hps:=zm8 hgo;have hpb:=ztG hb hgo (by grind) (fun c hc=>by cases hc);obtain⟨g1,g2⟩:=zty hgo hn (fun x hx=>by rw[zDN9 hx];exact zCU9 _);rw[zCV9]at g1;simp only[zAN9]at hps;have hsl:=zkS ps;obtain⟨q1,q2,q3,q4⟩:=zsL (zdJ ps) zdz zo;have q5:=q4 (fun c hc=>hpb c (zoz c hc));generalize zed (zdJ ps) zdz=bp at *
 injection ho with ho;injection ho with h1 h2;injection h2 with h2 h3;subst h1 h2;refine⟨?_,?_,?_⟩
 .rw[zmS,zBT9,zc2,g1]
 .exact zvs _ _ ((zi2 g2 q5).set (show bp.1<18446744073709551616 by omega) _) hbe
 .rw[zBJ9,show zdz.length=20 from zlg 20];omega
theorem ztb(w:LN)(b d:Nat)(a:Int)(hw:w.length<=131072):(zfb w b d a).1.length<=60000:=by
 unfold zfb;have h:=zpl w a hw
 split
 .split
  .split
   .rename_i hg;have:=zqp hg
    grind
   grind
  grind
 grind
theorem f11:FR 11 [] (.bool true):=zFC (by kernel_rfl) (by rfl)
theorem f3:ET.funcs.get 3=some T3:=eG _ func3
end Fv
end Go.Proofs.YtkeknmgnoceogaaGreat
