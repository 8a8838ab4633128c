/- DirSwaps returns true for every input, and its input reads afterwards as it did. No condition. -/
import Derived.Test.YtkeknmgnoceogaaGreatDS8
import Derived.ProofKit
import Derived.OpenShut
import Derived.ShutString
import Derived.ChangeOld
import Derived.Deep.Strs
import Derived.Deep.SlicePairs
import Derived.JoinedOf
import Derived.KernelRfl
import Derived.Test.YtkeknmgnoceogaaGreatRows
import Derived.Test.YtkeknmgnoceogaaGreatChecked
import Derived.ChangeMaps5
set_option linter.unusedSimpArgs false
set_option linter.unusedVariables false
set_option maxRecDepth 100000
set_option maxHeartbeats 4000000
namespace Go.Proofs.YtkeknmgnoceogaaGreat
open Go.Proofs.Tryz
namespace Fv
open Tw


variable (a b:Nat)
theorem zBc(p:Nat)(w:LN)(hl:w.length=16)(hw:∀x∈w,x<18446744073709551616):FN ET 44 [wv p w] (zjc w):=by
 obtain⟨h,t,rfl⟩:∃h t,w=h::t:=by
  cases w with
  | nil=>simp at hl
  | cons h t=>exact⟨h,t,rfl⟩
 have hh:h<18446744073709551616:=hw h (zAM9 ..);have hI:h%65536<65536:=zEQ9 _ zy;have hM:h/65536%256<256:=zEQ9 _ zy;have hdm:h=65536*(h/65536)+h%65536:=(Nat.div_add_mod h 65536).symm;have hE:zjc (h::t)=(if h/65536%256<=120/\zew ⟨h%65536,(zcv t).take (h/65536%256)⟩=true/\zei ⟨h%65536,(zcv t).take (h/65536%256)⟩=h::t then .ret (.tuple [zf1 ⟨h%65536,(zcv t).take (h/65536%256)⟩,iv 0])else .ret (.tuple [zf1 ⟨0,[]⟩,iv 250])):=by
  unfold zjc zhr;simp only[List.getD_cons_zero,zFD9,zEL9]
  split<;>rename_i h1
  .split at h1
   .rename_i h2;injection h1 with h1;subst h1;rw[if_pos h2]
   .cases h1
  .split at h1
   .cases h1
   .rename_i h2;rw[if_neg h2]
 have hlb:=zvK (h::t);have hbig:¬(h<16777216/\h/65536<=120)->zjc (h::t)=.ret (.tuple [zf1 ⟨0,[]⟩,iv 250]):=fun hn=>by
  rw[hE,if_neg];rintro ⟨h1,h2,h3⟩;have h4:=(zeP _).1 h2;have h5:=zeL h4.2.2;unfold zei at h3;injection h3 with h3 _;rw[zAU9]at h3;dsimp only at h4 h5 h3;omega
 have hty:(((16:Int)=((h::t).map uv).length) ):=by rw[zAW9,hl];rfl
 have hmap:(h::t).map uv=uv h::t.map uv:=rfl;have hmaplen:(uv h::t.map uv).length=16:=by rw[<- hmap,zAW9];exact hl
 have hq:(h:Int)/65536=((h/65536:Nat):Int):=zo;have hr:(h:Int)%65536=((h%65536:Nat):Int):=zo;have htd:Int.tdiv (h:Int) 65536=((h/65536:Nat):Int):=by rw[zEH9 zo];exact hq
 have htm:Int.tmod (h:Int) 65536=((h%65536:Nat):Int):=by rw[zFC9 zo];exact hr
 by_cases g1:(16777216:Int)<=(h:Int)
 .rw[hbig zo]at hlb⊢;refine zfn f44 hlb ?_;(repeat(first|refine zbG ?_|refine zbO (zr7 hmap hmaplen g1 hq hr htd htm) ?_));refine zU ?_;exact zLF
 by_cases g2:(120:Int)<((h/65536:Nat):Int)
 .rw[hbig zo]at hlb⊢;refine zfn f44 hlb ?_;(repeat(first|refine zbG ?_|refine zbO (zr8 hmap hmaplen g1 g2 hq hr htd htm) ?_));refine zU ?_;exact zLF
 have hmod:h/65536%256=h/65536:=zo;rw[hmod]at hE hM;rw[hE]at hlb⊢;generalize h%65536=I at *
 generalize h/65536=m at *
 have htl:t.length=15:=by simpa using hl
 have hby:=zyv p t (fun x hx=>hw x (zAO9 _ hx)) zo;have hbl:(zcv t).length=120:=by rw[zfm,htl]
 have hbb:=zjR t;generalize zcv t=B at *
 have hbs:zbM (B.take m):=hbb.take m;have hm:m<=120:=zo;refine zfn f44 hlb ?_;(repeat(first|refine zbG ?_|refine zbO (zr8 hmap hmaplen g1 g2 hq hr htd htm) ?_));refine zH ?_;refine zB ?_;have hd1:(uv h::t.map uv).drop 1=t.map uv:=rfl;have hc1:(bl B).take m=bl (B.take m):=by unfold bl;rw[zCH9]
 have hA:=zqg (B.take m);have hS:=zp6 hbs;refine zB ?_;refine zd6 (zr3 hmap hd1 hmaplen) ?_;refine zCN hby ?_;refine zBd ?_;refine zda ?_ (by simp(disch:=omega)only[go_sem,hmap,hmaplen,hq,hr,htd,htm,hbl,zcG,hc1,hA,hS,hm]<;>rfl);refine zQF hmap ?_;have hmc:m<=120:=hm;have hn120:(B.take m).length<=120:=by rw[zAU9];omega
 generalize B.take m=nm at *
 refine zjr (upd (upd (upd zi8 0 (wv p (h::t))) 2 (.ptr 0 0 0 0 2)) 5 (.ptr 1 0 0 0 2)) (zcz _ _ (zcz _ _ (zcz _ _ (zhN _) rfl) rfl) rfl) ?_;refine zB ?_
 cases hrb:zew ⟨I,nm⟩with
 | false =>
  have hwb:=zw3 ⟨I,nm⟩ (by dsimp only;omega) hrb;refine zM hwb ?_;refine zS ?_;refine zO ?_;rw[if_neg (fun h=>zEE9 h.2.1)];exact zLF
 | true =>
  have hwo:=zrq ⟨I,nm⟩ hrb hbs;have hrl:(zei ⟨I,nm⟩).length=16:=by
   have h3:=zeL ((zeP _).1 hrb).2.2;unfold zei;simp[zdE];dsimp only at h3;omega
  have heq:=zAE 0 p (zei ⟨I,nm⟩) (h::t) zo;generalize zei ⟨I,nm⟩=V at *
  refine zM hwo ?_;refine zB ?_;refine zI ?_;refine zca heq ?_
  by_cases hv:V=h::t
  .have gv:decide (V=h::t)=true:=decide_eq_true hv;refine zNF gv ?_;refine zH ?_;refine zO ?_;rw[if_pos ⟨hmc,rfl,hv⟩];exact zLF
  .have gv:decide (V=h::t)=false:=decide_eq_false hv;refine zNF gv ?_;refine zU ?_;rw[if_neg (fun h=>hv h.2.2)];exact zLF


theorem zwP(h:1<=b/\b<=40)(s:LN)(hl:s.length<1000000000)(hs:¬zbW s=0):FR 35 [zbZ b 28,.str s] (.tuple [uv 0,iv (zbW s)]):=by
 refine zfn (eG T35 func35) (Lb.two (.int _ _) (.int _ _)) ?_;have hr:=zjO b 28 h;have hc:=zgx s zo;have g1:¬((zbW s:Nat):Int)=0:=zo;rw[show decide (28=28)=true from rfl]at hr;unfold zbZ zde at hr⊢;refine zMG hr ?_;refine zH ?_;refine zB ?_;refine zM hc ?_;refine zSF g1 ?_;refine zO ?_;exact zLF
theorem zmO(h:1<=b/\b<=40)(s:LN)(hb:zbM s)(hs:zbW s=0):FR 35 [zbZ b 28,.str s] (.tuple [uv (zez b s),iv 0]):=by
 refine zfn (eG T35 func35) (Lb.two (.int _ _) (.int _ _)) ?_;have hl:=zeL hs;have g3:s.length<=1000000:=zo;have hr:=zjO b 28 h;have hc:=zgx s zo;have hp:=zBN 1 3 5 b s zy zy hb zo zo;rw[hs]at hc;unfold zez;generalize zgt 3 5 s/2 ^ (64-b)%2 ^ b=R at *
 rw[show decide (28=28)=true from rfl]at hr;unfold zbZ zde at hr⊢;refine zMG hr ?_;refine zH ?_;refine zB ?_;refine zM hc ?_;refine zTH ?_;refine zB ?_;refine zIF g3 ?_;refine zcl hp ?_ ?_;(repeat(first|exact trivial|refine And.intro ?_ ?_|exact .int _ _|exact .bool _|exact .list _ _ _|exact .elem _|exact .nilsl|exact .nil _ _|exact .str _|refine Frz.aggL ?_|refine Frz.fnL ?_|refine Frz.tL ?_|refine .iface ?_|exact zek rfl rfl (by assumption)))
 .exact zhi rfl (zAC9 _) (zAC9 _) rfl (zAC9 _)
 .exact⟨.int _ _,trivial⟩
 refine zP ?_;exact zLF
theorem zqr(h:1<=b/\b<=40)(s:LN):zez b s<1099511627776:=by
 unfold zez;generalize zgt 3 5 s/2 ^ (64-b)=X;have h2:2 ^ b<=2 ^ 40:=zCX9 zy h.2;exact zBF9 (zEQ9 X (zGA9 zy)) (zBO9 h2 (zAL9 rfl))
theorem zzQ(h:1<=b/\b<=40)(s:LN)(R V:Nat)(C:Int)(hC:(65536:Int)=C)(g1:C*(R:Int)=(V:Int))(g2:(V:Int)<18446744073709551616)(hc:FR 35 [zbZ b 28,.str s] (.tuple [uv R,iv 0])):FR 34 [zbZ b 28,.str s,iv 0] (.tuple [uv V,iv 0]):=by
 have hr:=zjO b 28 h;refine zfn (eG T34 func34) (Lb.two (.int _ _) (.int _ _)) ?_;rw[show decide (28=28)=true from rfl]at hr;unfold zbZ zde at hr hc⊢;refine zMG hr ?_;refine zH ?_;refine zB ?_;refine zM hc ?_;refine zTH ?_;rw[hC];refine zOF (zr2 g1 g2) ?_;exact zLF
theorem zxO(h:1<=b/\b<=40)(s:LN)(hb:zbM s)(hs:zbW s=0)(V:Nat)(hV:V=65536*zez b s):FR 34 [zbZ b 28,.str s,iv 0] (.tuple [uv V,iv 0]):=by
 have hlt:=zqr b h s;exact zzQ b h s (zez b s) V 65536 rfl zo zo (zmO b h s hb hs)
def stN(at_:Nat)(w:LN)(n:Nat):LK:=(List.range n).map fun k=>(at_+(k+1)%16,w.getD ((k+1)%16) 0)
theorem znt(w:LN)(n:Nat):(stN a w n).length=n:=by simp[stN]
theorem zyo{l:LK}:∀v∈(l.map zbP).flatMap PV.cells,Id0 v:=fun v hv=>by
 obtain⟨x,hx,hv⟩:=zBB9.1 hv;obtain⟨y,_,rfl⟩:=zAJ9.1 hx;simp[PV.cells]at hv;rcases hv with rfl|rfl<;>exact .int _ _
theorem zsN(ha:a<1000000000)(r:zeS)(h:zew r=true)(hb:zbM r.name):FR 26 [iv a,zf1 r] (.tuple [.list 0 2 ((stN a (zei r) 16).map zbP),iv 0]):=by
 refine zfn (eG T26 func26) (Lb.two (zh2 _) (.int _ _)) ?_;have hw:=zrq r h hb;have h5:=zeL ((zeP _).1 h).2.2;have hwl:(zei r).length=16:=by
  unfold zei;simp[zdE];omega
 generalize zei r=w at *
 refine zG ?_;refine zB ?_;refine zM hw ?_;refine zG ?_;refine zc2 120 2 (i:=8) rfl ?_;simp only[lzy,zAH9,zAP9,zAN9,zAV9];refine zG ?_;refine zay (zbE (fun m s=>∃(i:Nat),m=16-i/\i<=16/\s.tm 0=iv a/\s.tm 6=wv 0 w/\s.tm 7=iv 0/\s.tm 8=.sl 1 i 0 i (2*i) 2/\s.tm 9=iv (i+1:Nat)/\s.df=[]/\∃G,s.H=.row 73 2 0 0 [zf1 r]::.row 120 2 i 0 ((stN a w i).map zbP)::G) (n:=16) ?_ ?_)
 .exact⟨0,rfl,zAG9 _,zt,zt,zt,zt,zt,rfl,[],rfl⟩
 .rintro m ⟨tm,df,H⟩ ⟨i,rfl,hi,h0,h6,h7,h8,h9,rfl,G,rfl⟩;dsimp only at h0 h6 h7 h8 h9;refine zLh (zr3 h6 h9 hwl) ?_ ?_
  .intro hlt;have hlt:i<16:=ztd hlt;have hx:w[(i+1)%16]?=some (w.getD ((i+1)%16) 0):=by
    rw[zAQ9,zAA9 zo];rfl
   have hs1:stN a w (i+1)=stN a w i++[(a+(i+1)%16,w.getD ((i+1)%16) 0)]:=by
    unfold stN;rw[zDK9,zBA9];rfl
   have hxv:(w.map uv)[(i+1)%16]?=some (uv (w.getD ((i+1)%16) 0)):=zmg hx;have hsl:(stN a w i).length=i:=znt _ _ _;generalize w.getD ((i+1)%16) 0=x at *
   generalize stN a w i=S at *
   have hrm:((i+1:Nat):Int).tmod 16=(((i+1)%16:Nat):Int):=by rw[zFC9 zo];omega
   have hk:(i+1)%16<16:=zEQ9 _ zy;generalize (i+1)%16=k at *
   have hka:(a:Int)+(k:Int)=((a+k:Nat):Int):=zo;refine zBb ?_;have hcap:(i+1)*17<=140737488355328:=zo;refine zJF (zel h0 h6 h8 h9 hrm hka hxv hwl hsl hk hcap) ?_;refine zbF ?_;refine zKF h9 ?_;refine⟨_,by omega,i+1,rfl,hlt,zu h0,zu h6,zu h7,zt,zt,rfl,?G,?HH⟩
   case HH=>rw[hs1,zBA9];rfl
  .intro hlt;have hlt:¬i<16:=zfd hlt;obtain rfl:i=16:=zo;refine zGF (zr2 h7 h8) ?_;refine zbK (zfr ?_ (by simp only[go_sem,h8]<;>rfl));exact Frz.tL ⟨Frz.wh rfl rfl (by rw[zAW9,znt]) (by rw[zAW9,znt];exact zAC9 _) (fun v hv=>by rw[zAJ9]at hv;obtain⟨x,_,rfl⟩:=hv;rfl) zyo,.int _ _,trivial⟩


theorem f14:ET.funcs.get 14=some T14:=zkJ func14
def zf9(n d:Nat)(a:Int):Bool:=decide (28=d)&&decide (n=3072)&&decide (0<=a)&&decide (a<3072)
variable {n:Nat}{w:LN}(p b:Nat)(l:LK)
theorem zlk{d:Nat}{a:Int}:zf9 n d a=true↔28=d/\n=3072/\0<=a/\a<3072:=by simp[zf9,and_assoc]
theorem zkb(d:Nat)(h:1<=b/\b<=40)(w:LN)(hw:zbL w.length)(a:Int):FR 42 [wv p w,zbZ b d,iv a] (.bool (zf9 w.length d a)):=by
 refine zfn (eG T42 func42) (.bool _) ?_;have hr:=zjO b d h;unfold zf9;unfold zbZ zde at hr⊢
 by_cases hd:28=d
 rotate_left
 .rw[decide_eq_false hd]at hr⊢;refine zGI ?_;refine zca hr ?_;refine zP ?_;exact zbo.bool rfl
 rw[decide_eq_true hd]at hr⊢
 by_cases hl:w.length=3072
 rotate_left
 .have g:¬(w.length:Int)=3072:=zo;refine zGI ?_;refine zca hr ?_;refine zPF g ?_;exact zbo.bool (by grind)
 have g:(w.length:Int)=3072:=zo
 by_cases h0:0<=a
 rotate_left
 .refine zGI ?_;refine zca hr ?_;refine zPF (zr2 g h0) ?_;exact zbo.bool (by grind)
 refine zGI ?_;refine zca hr ?_;refine zPF (zr2 g h0) ?_;exact zbo.bool (by grind)
theorem zqS(hw:w.length=3072)(hn:n<=64):(zee w n).length=16:=by unfold zee;grind
theorem zrA:∀x∈zee w n,x∈w:=fun x hx=>zBS9 (zBT9 hx)
theorem zAp(w:LN)(hw:w.length=3072)(n:Nat)(hn:1<=n/\n<=64):FP ET 45 [wv p w,zbZ b 28,iv n] (.ret (wv p (zee w n))):=by
 refine zfp (eG T45 func45) ?_;unfold zbZ zde;have e0:(n:Int)-1=((n-1:Nat):Int):=zo;have e1:(16:Int)*((n-1:Nat):Int)=((16*(n-1):Nat):Int):=zo;have e2:(704:Int)+((16*(n-1):Nat):Int)=((704+16*(n-1):Nat):Int):=zo;have e3:((704+16*(n-1):Nat):Int)+16=((704+16*(n-1)+16:Nat):Int):=zo;have e4:0<w.length:=zo;have e5:List.drop (704+16*(n-1)) (List.take (704+16*(n-1)+16) (w.map uv))=(zee w n).map uv:=by
  unfold zee;rw[zDH9,zEP9,zCH9,zBZ9]
 have e6:704+16*(n-1)<=704+16*(n-1)+16:=zo;have e7:704+16*(n-1)+16<=w.length:=zo;refine zOF (zr8 e0 e1 e2 e3 e4 e5 e6 e7) ?_;exact Frz.list _ _ _
theorem zD0(k k1 k2:IntKind)(x y z x' y' z':Int)(s s':LN):zcI [1,1,1,3] [.int k x,.int k1 y,.int k2 z,.str s] [.int k x',.int k1 y',.int k2 z',.str s']=some (decide (x=x')&&decide (y=y')&&decide (z=z')&&decide (s=s')):=by
 by_cases h:x=x'<;>by_cases h2:y=y'<;>by_cases h3:z=z'<;>by_cases h4:s=s'<;>simp[zcI,zlc,zdp,zmN,h,h2,h3,h4]
def ziA(x:Pr):LK->Nat
 | []=>0
 | y::l=>if y.1<x.1 then ziA x l+1 else 0
theorem zp9(x:Pr):∀l,ziA x l<=l.length
 | []=>zAC9 _
 | y::l=>by
  have:=zp9 x l;unfold ziA
  grind
def zes(out:LK)(x:Pr):LK:=out.take (ziA x out)++x::out.drop (ziA x out)
theorem zyi(out:LK)(x:Pr):(zes out x).length=out.length+1:=by
 have:=zp9 x out;unfold zes
 grind
def zdP(l:LK):LK:=l.foldl zes []
theorem zhf:∀(l out:LK),(l.foldl zes out).length=out.length+l.length
 | [],_=>rfl
 | x::l,out=>by rw[zFE9,zhf l,zyi,zAH9];omega
theorem znL:(zdP l).length=l.length:=by unfold zdP;rw[zhf];simp
theorem zjP:∀(l out:LK),∀x∈l.foldl zes out,x∈out\/x∈l
 | [],_,x,h=>.inl h
 | y::l,out,x,h=>by
  rcases zjP l _ x h with h|h
  .unfold zes at h
   grind
  grind
theorem znQ{l:LK}:∀x∈zdP l,x∈l:=fun x h=>by
 rcases zjP l [] x h with h|h
 .cases h
 .exact h
theorem zma(n:Nat):(n==n+1)=false:=by simp
theorem zgp(n:Nat):(n+1==n)=false:=by simp
theorem zsD(hl:l.length<=100):FR 37 [psv p l] (psv 0 (zdP l)):=by
 refine zfn (eG T37 func37) (Lb.pvs _) ?_;refine zG ?_;refine zc2 92 2 (i:=3) rfl ?_;refine zlB 3 0 (w:=psv 0 []) (o:=.row 92 2 0 0 []) rfl (Frz.wh (l:=[]) (znp rfl) rfl rfl (zAC9 _) (fun v hv=>by grind) (fun v hv=>by simp at hv)) ?_;refine zG ?_;refine zay (zbE (fun m s=>∃(i:Nat) (G:LP),m=l.length-i/\i<=l.length/\s.tm 0=psv p l/\s.tm 3=psv 0 ((l.take i).foldl zes [])/\s.tm 4=iv i/\s.df=[]/\s.H=G) (n:=l.length) ?_ ?_)
 .exact⟨0,_,rfl,zAG9 _,zt,zt,zt,rfl,rfl⟩
 rintro m ⟨tm,df,H⟩ ⟨i,G,rfl,hi,h0,h3,h4,rfl,rfl⟩;dsimp only at h0 h3 h4;refine zLh (zr2 h0 h4) ?_ ?_;rotate_left
 .intro hlt;have hlt:¬i<l.length:=zfd hlt;obtain rfl:i=l.length:=zo;rw[zBE9]at h3;refine zOF h3 ?_;exact Frz.list _ _ _
 intro hlt;have hlt:i<l.length:=ztd hlt;obtain⟨x,hx⟩:=zex (l:=l) hlt;have hxv:(l.map pv)[i]?=some (pv x):=zmg hx;have hnext:(l.take (i+1)).foldl zes []=zes ((l.take i).foldl zes []) x:=by
  rw[zAZ9,hx,List.foldl_append];rfl
 have hol:((l.take i).foldl zes []).length<=100:=by rw[zhf,zAU9,zAP9];omega
 generalize (l.take i).foldl zes []=out at *
 refine zBb ?_;refine zG ?_;refine zcF (Q:=fun yy s'=>yy=.norm/\s'.tm 0=psv p l/\s'.tm 3=psv 0 out/\s'.tm 4=iv i/\s'.tm 5=iv (ziA x out)/\s'.df=[]/\s'.H=H) (zay (zbE (fun m s=>∃k:Nat,m=out.length-k/\k<=out.length/\ziA x out=k+ziA x (out.drop k)/\s.tm 0=psv p l/\s.tm 3=psv 0 out/\s.tm 4=iv i/\s.tm 5=iv k/\s.df=[]/\s.H=H) (n:=out.length) ?_ ?_)) ?_
 .exact⟨0,rfl,zAG9 _,by simp,zu h0,zu h3,zu h4,zt,rfl,rfl⟩
 .clear h0 h3 h4;rintro m ⟨tm,df,H⟩ ⟨k,rfl,hk,hpos,h0,h3,h4,h5,rfl,rfl⟩;dsimp only at *
  refine zBd ?_
  by_cases hkl:k<out.length
  rotate_left
  .obtain rfl:k=out.length:=zo;rw[zBH9]at hpos;have gk:¬(out.length:Int)<(out.length:Int):=zo;refine zQF (zr5 h0 h3 h4 h5 gk) ?_;refine zcf ?_;refine zho ?_;exact⟨rfl,h0,h3,h4,by rw[hpos];exact h5,rfl,rfl⟩
  obtain⟨y,hy⟩:=zex (l:=out) hkl;have hyv:(out.map pv)[k]?=some (pv y):=zmg hy;have hdy:out.drop k=y::out.drop (k+1):=zdc hy;rw[hdy,ziA]at hpos;have gk:(k:Int)<(out.length:Int):=zo
  by_cases hlt2:y.1<x.1
  .have g:(y.1:Int)<(x.1:Int):=zo;rw[if_pos hlt2]at hpos;refine zQF (zfM h0 h3 h4 h5 hkl hlt hxv hyv g gk) ?_;refine zct ?_;refine zbX ?_;refine zay ?_;refine zJF h5 ?_;exact⟨_,by omega,k+1,rfl,hkl,by omega,zu h0,zu h3,zu h4,zu h5,rfl,rfl⟩
  .have g:¬(y.1:Int)<(x.1:Int):=zo;rw[if_neg hlt2]at hpos;refine zQF (zfM h0 h3 h4 h5 hkl hlt hxv hyv g gk) ?_;refine zcf ?_;refine zho ?_;exact⟨rfl,h0,h3,h4,by rw[hpos];exact h5,rfl,rfl⟩
 clear h0 h3 h4;rintro yy ⟨tm,df,H2⟩ ⟨rfl,h0,h3,h4,h5,rfl,rfl⟩;dsimp only at *
 have hple:=zp9 x out;have hV:zes out x=out.take (ziA x out)++x::out.drop (ziA x out):=rfl;generalize ziA x out=k at *
 have ht:(out.map pv).take k=(out.take k).map pv:=zCH9.symm;have hd:(out.map pv).drop k=(out.drop k).map pv:=zBZ9.symm;have hlA:(out.take k).length=k:=by rw[zAU9];omega
 have hlB:(out.drop k).length=out.length-k:=zBP9;generalize out.take k=A at *
 generalize out.drop k=B at *
 have b1:A.length*17<=140737488355328:=zo;have b2:(A.length+1)*17<=140737488355328:=zo;have b3:(A.length+1+B.length)*17<=140737488355328:=zo;have b4:(1+B.length)*17<=140737488355328:=zo;refine zcF (Q:=fun yy s'=>yy=.norm/\∃g G' n,n=(zes out x).length/\s'.tm 0=psv p l/\s'.tm 3=.sl H2.length g 0 n (2*n) 2/\s'.tm 4=iv i/\s'.df=[]/\s'.H=H2++.row 92 2 g 0 ((zes out x).map pv)::G') (zbU ?_) ?_
 .rw[hV,zBA9,zBX9,zAF9,zAH9]
  by_cases hA:A.length=0
  .obtain rfl:=zBU9 hA
   by_cases hB:B.length=0
   .obtain rfl:=zBU9 hB;refine zdb (zb0 h0 h3 h4 h5 hxv hple ht hd zgp hlt b1 (zr7 b2 b3 b4 zma zyB zyC zyA)) ?_;refine zdb (zr2 zgp zyA) ?_;refine zdb zgp ?_;refine zhM (zb0 zgp h0 h3 h4 h5 hxv hlt hple ht hd b1 (zr7 b2 b3 b4 zma zyA zyB zyC)) ?_;refine zb9 ?_;simp only[go_sem]
    simp_all
   .refine zdb (zb0 h0 h3 h4 h5 hxv hple ht hd zgp hB hlt (zr8 b1 b2 b3 b4 zma zyB zyC zyA)) ?_;refine zdb (zr2 zgp zyA) ?_;refine zdb (zr4 hB b4 zgp zyA) ?_;refine zhM (zb0 zgp hB h0 h3 h4 h5 hxv hlt hple ht hd (zr8 b1 b2 b3 b4 zma zyA zyB zyC)) ?_;refine zb9 ?_;simp only[go_sem];exact⟨2,_,_,by omega,h0,rfl,h4,rfl⟩
  .by_cases hB:B.length=0
   .obtain rfl:=zBU9 hB;refine zdb (zb0 hA h0 h3 h4 h5 hxv hple ht hd b1 zgp (zr8 hlt b2 b3 b4 zma zyA zyB zyC)) ?_;refine zdb (zr3 b2 zgp zyA) ?_;refine zdb zgp ?_;refine zhM (zb0 zgp hA h0 h3 h4 h5 hxv hlt hple ht hd (zr8 b1 b2 b3 b4 zma zyA zyB zyC)) ?_;refine zb9 ?_;simp only[go_sem]
    simp_all
   .refine zdb (zb0 hA h0 h3 h4 h5 hxv hple ht hd b1 zgp (zr9 hB hlt b2 b3 b4 zma zyA zyB zyC)) ?_;refine zdb (zr3 b2 zgp zyA) ?_;refine zdb (zr5 hB b3 zgp zyA zyB) ?_;refine zhM (zb0 zgp hA hB h0 h3 h4 h5 hxv hlt hple ht (zr9 hd b1 b2 b3 b4 zma zyA zyB zyC)) ?_;refine zb9 ?_;simp only[go_sem]
    grind
 clear h0 h3 h4 h5;rintro yy ⟨tm,df,H⟩ ⟨rfl,g,G',n,hn,h0,h3,h4,rfl,rfl⟩;dsimp only at h0 h3 h4;subst hn;refine zlB 3 H2.length (w:=psv 0 (zes out x)) (o:=.row 92 2 g 0 ((zes out x).map pv)) (by grind) (by
  dsimp only;rw[h3];exact Frz.wh (l:=(zes out x).map pv) (znp (by simp only[ga0]<;>rfl)) rfl (by simp) (by simp) zmm zgZ) ?_
 refine zJF h4 ?_;refine⟨_,?m,i+1,_,rfl,hlt,zu h0,by rw[hnext];simp[upd],zu h4,rfl,rfl⟩;omega


theorem zs9:∀(l:LB),∀x∈zcy l,∃n∈l,x∈n.pairs
 | [],x,h=>by simp[zcy]at h
 | n::l,x,h=>by
  rw[zcy]at h;rcases zBK9.1 h with h|h
  .exact⟨n,zAM9 ..,(zCU9.1 h).1⟩
  .obtain⟨k,hk,hx⟩:=zs9 l x h;exact⟨k,zAO9 _ hk,hx⟩
theorem zvY(hw:WB w)(hl:w.length<=131072)(a:Int):PB (zeu w a).1:=by
 unfold zeu
 split
 rotate_left
 .exact fun c hc=>by cases hc
 split
 rotate_left
 .exact fun c hc=>by cases hc
 rename_i hr ht;obtain⟨f1,f2,f3,f4,f5⟩:=zdQ (w:=w) (T:=(zbI w a.toNat).1) hl a.toNat (by rw[<- ht]);have hLF:=f1 _ (zAE9 (zgv f3).1);intro c hc;obtain⟨n,hn,hc⟩:=zs9 _ c hc;rw[hLF.lv.is]at hn;obtain⟨k,_,rfl⟩:=zAJ9.1 hn;exact(zBt (w:=zbD w k) (fun x hx=>hw x (by
  unfold zbD at hx;exact zBT9 (zBS9 hx)))).pairs c hc
def zdT(w:LN)(b d:Nat)(a:Int):AT×Nat :=
 if zf9 w.length d a=true then(if(zeu w a).2=0 then(match zdy w b [] (zeu w a).1 with
  | some out=>(out,0)
  | none=>([],260))else([],(zeu w a).2))else([],2)
variable {Q S b ino key:Nat}{l:List (LN)}{n name:LN}{p:Pr}{r:zeS}(e:Int)
theorem zpG(h:zhr w=some r):zew r=true/\zbM r.name/\zbW r.name=0/\r.ino<=256:=by
 unfold zhr at h;dsimp only at h
 split at h
 rotate_left
 .cases h
 rename_i hc;injection h with h;subst h;refine⟨hc.2.1,(zjR _).take _,((zeP _).1 hc.2.1).2.2,((zeP _).1 hc.2.1).2.1⟩
theorem zic(h:¬(1<=p.2/\p.2<=64)):zeE w b p=none:=by unfold zeE;rw[if_neg h]
theorem zo7(h:zhr (zee w p.2)=none):zeE w b p=none:=by
 unfold zeE
 split
 .rw[h]
 .rfl
theorem zoO(hp:1<=p.2/\p.2<=64)(h:zhr (zee w p.2)=some r):zeE w b p=if zez b r.name=p.1/65536 then some ⟨p.1,p.2,r.ino,r.name⟩else none:=by
 unfold zeE;rw[if_pos hp,h]
theorem zrs(hp:1<=p.2/\p.2<=64)(h:zhr (zee w p.2)=some ⟨ino,name⟩)(hS:zez b name=S)(hQ:p.1/65536=Q)(hk:¬S=Q):zeE w b p=none:=by
 rw[zoO hp h];subst hS hQ;exact if_neg hk
theorem zqK(hp:1<=p.2/\p.2<=64)(h:zhr (zee w p.2)=some ⟨ino,name⟩)(hS:zez b name=S)(hQ:p.1/65536=Q)(hk:S=Q):zeE w b p=some ⟨p.1,p.2,ino,name⟩:=by
 rw[zoO hp h];subst hS hQ;exact if_pos hk
theorem zkh{acc:AT}{l:LK}:zdy w b acc (p::l)=match zeE w b p with
  | some x=>if zjJ acc x=true then none else zdy w b (acc++[x]) l
  | none=>none:=rfl
theorem zpU:∀{l:LK} {acc out:AT},zdy w b acc l=some out->out.length=acc.length+l.length
 | [],acc,out,h=>by injection h with h;subst h;rfl
 | p::l,acc,out,h=>by
  rw[zkh]at h
  split at h
  .split at h
   .cases h
   .have:=zpU h;rw[zAF9]at this;simp only[zAH9,zAP9]at this⊢;omega
  .cases h
theorem Lb.ent(x:zcB):Lb (zcR x):=.agg fun v hv=>by
 simp at hv;rcases hv with rfl|rfl|rfl|rfl
 .exact .int _ _
 .exact .int _ _
 .exact .int _ _
 .exact .str _
theorem Lb.esv(l:AT):Lb (esv 0 l):=.list fun x hx=>by
 obtain⟨y,hy,hx⟩:=zBB9.1 hx;obtain⟨e,_,rfl⟩:=zAJ9.1 hy;simp[PV.cells]at hx;rcases hx with rfl|rfl|rfl|rfl
 .exact .int _ _
 .exact .int _ _
 .exact .int _ _
 .exact .str _
theorem zvN{l:AT}:∀v∈(l.map zcR).flatMap PV.cells,Id0 v:=fun v hv=>by
 obtain⟨x,hx,hv⟩:=zBB9.1 hv;obtain⟨y,_,rfl⟩:=zAJ9.1 hx;simp[PV.cells]at hv;rcases hv with rfl|rfl|rfl|rfl
 .exact .int _ _
 .exact .int _ _
 .exact .int _ _
 .exact .str _


theorem f13:ET.funcs.get 13=some T13:=eG _ func13
theorem zt4(b:Nat):Id0 (.agg [iv 48,iv 8,iv 64,iv b,uv 3,uv 5,iv 9,iv 11,iv 27,iv 28]):=.agg fun v hv=>by
 simp at hv;rcases hv with rfl|rfl|rfl|rfl|rfl|rfl|rfl|rfl|rfl|rfl<;>exact .int _ _
theorem zw6(p b:Nat)(h:1<=b/\b<=40)(w:LN)(hwl:w.length=3072)(hw:WB w)(a:Int)(hr:FR 42 [wv p w,zbZ b 28,iv a] (.bool true))(L:LK)(hL:L.length<=60000)(hLb:PB L)(hall:FR 43 [wv p w,iv a] (.tuple [psv 0 L,iv 0]))(e:FE)(he:e=match zdy w b [] L with
  | some out=>.ret (.tuple [esv 0 out,iv 0])
  | none=>.ret (.tuple [esv 0 [],iv 260])):FN ET 13 [wv p w,zbZ b 28,iv a] e:=by
 have bad:zdy w b [] L=none->e=.ret (.tuple [esv 0 [],iv 260]):=fun hn=>by grind
 refine zfn f13 ?_ ?_
 .rw[he]
  split
  .exact Lb.two (Lb.esv _) (.int _ _)
  .exact Lb.two (Lb.esv _) (.int _ _)
 unfold zbZ zde at hr⊢;refine zMG hr ?_;refine zH ?_;refine zB ?_;refine zM hall ?_;refine zTH ?_;refine zG ?_;refine zc2 47 4 (i:=10) rfl ?_;simp only[lzy,zAH9,zAP9,zAN9,zAV9];refine zG ?_;refine zay (zbE (fun m s=>∃(i:Nat) (out:AT) (G:LP),m=L.length-i/\i<=L.length/\zdy w b [] L=zdy w b out (L.drop i)/\out.length<=i/\s.tm 0=wv p w/\s.tm 4=.ptr 0 0 0 0 10/\s.tm 8=psv 0 L/\s.tm 10=.sl 1 out.length 0 out.length (2*out.length) 4/\s.tm 11=iv i/\s.df=[]/\s.H=.row 32 10 0 0 [.agg [iv 48,iv 8,iv 64,iv b,uv 3,uv 5,iv 9,iv 11,iv 27,iv 28]]::.row 47 4 out.length 0 (out.map zcR)::G) (n:=L.length) ?_ ?_)
 .exact⟨0,[],[],rfl,zAG9 _,rfl,zAC9 _,zt,zt,zt,zt,zt,rfl,rfl⟩
 rintro m ⟨tm,df,H⟩ ⟨i,out,G,rfl,hi,hgo,hol,h0,h4,h8,h10,h11,rfl,rfl⟩;dsimp only at *
 refine zLh (zr2 h8 h11) ?_ ?_;rotate_left
 .intro hlt;have hlt:¬i<L.length:=zfd hlt;obtain rfl:i=L.length:=zo;rw[zBH9]at hgo;have he':e=.ret (.tuple [esv 0 out,iv 0]):=by rw[he,hgo];rfl
  rw[he'];refine zGF h10 ?_;refine zbK (zfr ?_ (by simp only[go_sem]<;>rfl));exact Frz.tL ⟨Frz.wh rfl rfl (by grind) (by grind) (fun v hv=>by rw[zAJ9]at hv;obtain⟨x,_,rfl⟩:=hv;rfl) zvN,.int _ _,trivial⟩
 intro hlt;have hlt:i<L.length:=ztd hlt;obtain⟨pr,hpr⟩:=zex (l:=L) hlt;have hpv:(L.map pv)[i]?=some (pv pr):=zmg hpr;obtain⟨hkey,hptr⟩:=hLb pr (zAE9 hpr);have hdr:L.drop i=pr::L.drop (i+1):=zdc hpr;rw[hdr,zkh]at hgo;refine zBb ?_;refine zBd ?_
 by_cases hp1:1<=pr.2
 rotate_left
 .have g:(pr.2:Int)<1:=zo;rw[zic (fun h=>hp1 h.1)]at hgo;rw[bad hgo];refine zQF (zr7 h0 h4 h8 h11 hlt hpv g) ?_;refine zU ?_;exact zLF
 have g1:¬(pr.2:Int)<1:=zo
 by_cases hp2:pr.2<=64
 rotate_left
 .have g:(64:Int)<pr.2:=zo;rw[zic (fun h=>hp2 h.2)]at hgo;rw[bad hgo];refine zQF (zr8 h0 h4 h8 h11 hlt hpv g1 g) ?_;refine zU ?_;exact zLF
 have g2:¬(64:Int)<pr.2:=zo;refine zQF (zr8 h0 h4 h8 h11 hlt hpv g1 g2) ?_;refine zH ?_;refine zB ?_;have hAt:=zAp p b w hwl pr.2 ⟨hp1,hp2⟩;have hOf:=zBc p (zee w pr.2) (zqS hwl hp2) (fun x hx=>hw x (zrA x hx));unfold zbZ zde at hAt;have hcl:(IntKind.i64.wrap (pr.2:Int))=(pr.2:Int):=wrap_i64 zo zo;generalize hRA:zee w pr.2=RA at *
 unfold zjc at hOf
 cases hrec:zhr RA with
 | none =>
  rw[hrec]at hOf;dsimp only at hOf;rw[zo7 (by grind)]at hgo;rw[bad hgo];refine zbU ?_;refine zdf hAt ⟨.list _ _ _,zt4 b,.int _ _,trivial⟩ ?_ (by simp(disch:=omega)only[go_sem,h0,h4,h8,h11,hpv,hcl]<;>rfl);refine zdn hOf ?_ (by simp(disch:=omega)only[go_sem]<;>rfl);refine zb3 (zr2 zyA zyB) ?_;refine zeW zyB ?_;refine zb9 ?_;simp only[go_sem];have hs:=zwP b h [] zy zy;unfold zbZ zde at hs;refine zB ?_;refine zB ?_;refine zd6 (zr3 h4 zyA zyB) ?_;refine zCN hs ?_;refine zS ?_;refine zO ?_;exact zLF
 | some r =>
  obtain⟨hrb,hnb,hnm,_⟩:=zpG hrec;obtain⟨ino,name⟩:=r;have hrec':zhr (zee w pr.2)=some ⟨ino,name⟩:=by rw[hRA];exact hrec
  rw[hrec]at hOf;dsimp only at *
  have hs:=zmO b h name hnb hnm;unfold zbZ zde at hs;obtain⟨S,hS⟩:∃S,zez b name=S:=⟨_,rfl⟩
  rw[hS]at hs;obtain⟨Q,hQ⟩:∃Q,pr.1/65536=Q:=⟨_,rfl⟩
  have htd:Int.tdiv (pr.1:Int) 65536=(Q:Int):=by rw[zEH9 zo];omega
  have hq:(pr.1:Int)/65536=(Q:Int):=zo;refine zbU ?_;refine zdf hAt ⟨.list _ _ _,zt4 b,.int _ _,trivial⟩ ?_ (by simp(disch:=omega)only[go_sem,h0,h4,h8,h11,hpv,hcl]<;>rfl);refine zdn hOf ?_ (by simp(disch:=omega)only[go_sem]<;>rfl);refine zb3 (zr2 zyA zyB) ?_;refine zeW zyB ?_;refine zb9 ?_;simp only[go_sem];refine zB ?_;refine zB ?_;refine zd6 (zr3 h4 zyA zyB) ?_;refine zCN hs ?_;refine zB ?_;have hQb:(Q:Int)<18446744073709551616:=by have:pr.1<18446744073709551616:=hkey;omega
  by_cases hk:S=Q
  rotate_left
  .have g3:¬(S:Int)=(Q:Int):=fun h=>hk (Int.ofNat.inj h);rw[zrs ⟨hp1,hp2⟩ hrec' hS hQ hk]at hgo;rw[bad hgo];refine zB ?_;refine zbO (zr8 h8 h11 hlt hpv htd hq hQb g3) ?_;refine zU ?_;exact zLF
  have g3:(S:Int)=(Q:Int):=congrArg Nat.cast hk;rw[zqK ⟨hp1,hp2⟩ hrec' hS hQ hk]at hgo;refine zB ?_;refine zbO (zr8 h8 h11 hlt hpv htd hq hQb g3) ?_;refine zH ?_;refine zG ?_;have hgo':zdy w b [] L=if zjJ out ⟨pr.1,pr.2,ino,name⟩=true then none else zdy w b (out++[⟨pr.1,pr.2,ino,name⟩]) (L.drop (i+1)):=hgo;clear hgo hs hOf hAt hrec hrec' hRA hS hQ htd hq hQb g3 hk hrb hnb hnm;refine zay (zbE (fun m s=>∃(k:Nat),m=out.length-k/\k<=out.length/\zjJ out ⟨pr.1,pr.2,ino,name⟩=(out.drop k).any (fun y=>decide (y.name=name)||decide (y.num=pr.2))/\s.tm 0=wv p w/\s.tm 4=.ptr 0 0 0 0 10/\s.tm 8=psv 0 L/\s.tm 10=.sl 1 out.length 0 out.length (2*out.length) 4/\s.tm 11=iv i/\s.tm 12=.ptr (G.length+1+1) 0 0 0 2/\s.tm 16=iv k/\s.df=[]/\s.H=.row 32 10 0 0 [.agg [iv 48,iv 8,iv 64,iv b,uv 3,uv 5,iv 9,iv 11,iv 27,iv 28]]::.row 47 4 out.length 0 (out.map zcR)::(G++[.row 73 2 0 0 [.agg [iv ino,.str name]]])) (n:=out.length) ?_ ?_)
  .exact⟨0,rfl,zAG9 _,rfl,zu h0,zu h4,zu h8,zu h10,zu h11,zt,zt,rfl,rfl⟩
  clear h0 h4 h8 h10 h11;rintro m ⟨tm,df,H⟩ ⟨k,rfl,hk,hcl2,h0,h4,h8,h10,h11,h12,h16,rfl,rfl⟩;dsimp only at *
  refine zLh (zr2 h10 h16) ?_ ?_
  .intro hlt2;have hlt2:k<out.length:=ztd hlt2;obtain⟨y,hy⟩:=zex (l:=out) hlt2;have hyv:(out.map zcR)[k]?=some (zcR y):=zmg hy;obtain⟨hd1,hd2⟩:=zAB9.1 hy;rw[zAK9 hd1,hd2,zGM9]at hcl2;have hcl3:zjJ out ⟨pr.1,pr.2,ino,name⟩=true->e=.ret (.tuple [esv 0 [],iv 260]):=fun h=>bad (by grind);refine zBb ?_;refine zBd ?_
   by_cases hn:y.name=name
   .rw[decide_eq_true hn,Bool.true_or,Bool.true_or]at hcl2;rw[hcl3 hcl2];refine zeW (zr8 h10 h12 h16 hlt2 hyv hn zyA zyB) ?_;refine zb9 ?_;simp only[go_sem];refine zU ?_;exact zLF
   rw[decide_eq_false hn,zFB9]at hcl2
   by_cases hm:y.num=pr.2
   .have g:(y.num:Int)=(pr.2:Int):=congrArg Nat.cast hm;rw[decide_eq_true hm,Bool.true_or]at hcl2;rw[hcl3 hcl2];refine zeW (zb0 h8 h10 h11 h12 h16 hlt2 hpv hyv hn hcl g (zr2 zyA zyB)) ?_;refine zb9 ?_;simp only[go_sem];refine zU ?_;exact zLF
   have g:¬(y.num:Int)=(pr.2:Int):=fun h=>hm (Int.ofNat.inj h);rw[decide_eq_false hm,zFB9]at hcl2;refine zeW (zb0 h8 h10 h11 h12 h16 hlt2 hpv hyv hn hcl g (zr2 zyA zyB)) ?_;refine zb9 ?_;simp only[go_sem];refine zH ?_;refine zJF h16 ?_;exact⟨_,by omega,k+1,rfl,hlt2,hcl2,zu h0,zu h4,zu h8,zu h10,zu h11,zu h12,zu h16,rfl,rfl⟩
  intro hlt2;have hlt2:¬k<out.length:=zfd hlt2;obtain rfl:k=out.length:=zo;rw[zBH9]at hcl2;rw[if_neg (by grind)]at hgo';refine zBd ?_;have hbb:(out.length+1)*41<=140737488355328:=zo;refine zb3 (zr9 h8 h10 h11 h12 hpv hcl hbb zyA zyB) ?_;refine zQF h8 ?_;refine zJF h11 ?_;refine⟨_,?m,i+1,out++[⟨pr.1,pr.2,ino,name⟩],?G,rfl,hlt,hgo',by grind,zu h0,zu h4,zu h8,zt,zu h11,rfl,?H⟩
  case m=>omega
  case H=>rw[zBA9];simp only[zAF9,zAH9,zAP9,zBX9,zDA9,zBN9];rfl
def ziJ(w:LN)(b d:Nat)(a:Int):FE:=.ret (.tuple [esv 0 (zdT w b d a).1,iv ((zdT w b d a).2:Nat)])
theorem zBB(w:LN)(b d:Nat)(a:Int):LbE (ziJ w b d a):=Lb.two (Lb.esv _) (.int _ _)
theorem zoN(p b d:Nat)(h:1<=b/\b<=40)(w:LN)(hs:zbL w.length)(hw:WB w)(a:Int):FN ET 13 [wv p w,zbZ b d,iv a] (ziJ w b d a):=by
 have hr:=zkb p b d h w hs a;have hlb:=zBB w b d a
 by_cases hd:zf9 w.length d a=true
 rotate_left
 .have hE:ziJ w b d a=.ret (.tuple [esv 0 [],iv 2]):=by unfold ziJ zdT;rw[if_neg hd];rfl
  rw[hE]at hlb⊢;rw[show zf9 w.length d a=false by grind]at hr;refine zfn f13 hlb ?_;unfold zbZ zde at hr⊢;refine zMG hr ?_;refine zU ?_;exact zLF
 obtain⟨rfl,hwl,h0,h1⟩:=zlk.1 hd;have hall:=zzt p w a hs;rw[zqt]at hall;rw[hd]at hr
 by_cases hno:(zeu w a).2=0
 rotate_left
 .have hE:ziJ w b 28 a=.ret (.tuple [esv 0 [],iv ((zeu w a).2:Nat)]):=by unfold ziJ zdT;rw[if_pos hd,if_neg hno]
  rw[hE]at hlb⊢;generalize (zeu w a).2=no at *
  have g:¬(no:Int)=0:=zo;refine zfn f13 hlb ?_;unfold zbZ zde at hr⊢;refine zMG hr ?_;refine zH ?_;refine zB ?_;refine zM hall ?_;refine zSF g ?_;refine zO ?_;exact zLF
 have hbd:=zvY hw zo a;have hln:=zog w a zo;rw[hno]at hall;refine zw6 p b h w hwl hw a hr (zeu w a).1 hln hbd hall _ ?_;unfold ziJ zdT
 grind


theorem zfF:FR 78 [.bool true,iv e] (.tuple []):=by
 refine zfn (eG T78 func78) Lb.unit ?_;refine zTH ?_;exact⟨[],rfl,Frz.tL trivial⟩
theorem ze5:FN ET 78 [.bool false,iv e] (.panic (zce e)):=by
 refine zfn (eG T78 func78) (.iface (.int _ _)) ?_;refine zS ?_;refine zbF ?_;refine zfx ?_;refine zn7 (ty:=38) (v:=.int .i64 e) rfl (by simp[evs,ev,okv,upd]) ?_;exact Frz.iface (.int _ _)
theorem zno:FR 61 [iv 0] (.tuple []):=by
 refine zfn (eG T61 func61) Lb.unit ?_;refine zbF ?_;refine zfx ?_;refine zca (zfF 0) ?_;refine zK ?_;exact⟨[],rfl,Frz.tL trivial⟩
theorem zql(h:¬e=0):FN ET 61 [iv e] (.panic (zce e)):=by
 refine zfn (eG T61 func61) (.iface (.int _ _)) ?_;refine zbF ?_;refine zbV h ?_;refine zcx (ze5 e) ?_;exact Frz.iface (.int _ _)
@[reducible] def zht (p:Nat) (w:LN) (b:Nat) (a:Int):PV:=.agg [iv 48,iv 8,iv 64,iv b,uv 3,uv 5,iv 9,iv 11,iv 27,iv 28,wv p w,iv a]
theorem zCY(p b:Nat)(h:1<=b/\b<=40)(w:LN)(hs:zbL w.length)(a:Int)(hd:zf9 w.length 28 a=true):FP ET 40 [wv p w,zbZ b 28,iv a] (.ret (zht p w b a)):=by
 obtain⟨_,hwl,h0,h1⟩:=zlk.1 hd;obtain⟨X,hS⟩:=zsv b h;refine zfp (eG T40 func40) ?_;unfold zbZ zde at hS⊢;have g:(w.length:Int)=3072:=zo;have g1:a<3072:=h1;refine zMG hS ?_;refine zIF (zr3 g h0 g1) ?_;refine zCN (zfF 2) ?_;refine zO ?_;exact zLF
def zfC(w:LN)(b:Nat)(pr:Pr):FE:=match zeE w b pr with
 | some x=>.ret (zcR x)
 | none=>.panic (zce 260)
theorem zze(w:LN)(b:Nat)(pr:Pr):LbE (zfC w b pr):=by
 unfold zfC
 split
 .exact Lb.ent _
 .exact .iface (.int _ _)
theorem zxI(p b:Nat)(h:1<=b/\b<=40)(w:LN)(hwl:w.length=3072)(hw:WB w)(a:Int)(pr:Pr)(hkey:pr.1<18446744073709551616):FN ET 80 [zht p w b a,pv pr] (zfC w b pr):=by
 have bad:zeE w b pr=none->zfC w b pr=.panic (zce 260):=fun h=>by unfold zfC;rw[h]
 have good:∀x,zeE w b pr=some x->zfC w b pr=.ret (zcR x):=fun x h=>by unfold zfC;rw[h]
 refine zfn (eG T80 func80) (zze w b pr) ?_;generalize zfC w b pr=e at *
 refine zG ?_
 by_cases hp1:1<=pr.2
 rotate_left
 .have g:¬(1:Int)<=pr.2:=zo;refine zIF g ?_;refine zcx (ze5 260) ?_;exact zb2 (bad (zic fun h=>hp1 h.1))
 have g1:(1:Int)<=pr.2:=zo
 by_cases hp2:pr.2<=64
 rotate_left
 .have g:¬(pr.2:Int)<=64:=zo;refine zIF (zr2 g g1) ?_;refine zcx (ze5 260) ?_;exact zb2 (bad (zic fun h=>hp2 h.2))
 have g2:(pr.2:Int)<=64:=zo;refine zIF (zr2 g2 g1) ?_;refine zCN (zfF 260) ?_;have hRc:=zxU b pr.2 h ⟨hp1,hp2⟩;unfold zbZ zde at hRc;have hcl:(IntKind.i64.wrap (pr.2:Int))=(pr.2:Int):=wrap_i64 zo zo;have hOf:=zAq p (zee w pr.2) (zqS hwl hp2) (fun x hx=>hw x (zrA x hx));have e3:((704+16*(pr.2-1):Nat):Int)+16=((704+16*(pr.2-1)+16:Nat):Int):=zo;have e4:0<w.length:=zo;have e5:List.drop (704+16*(pr.2-1)) (List.take (704+16*(pr.2-1)+16) (w.map uv))=(zee w pr.2).map uv:=by
  unfold zee;rw[zDH9,zEP9,zCH9,zBZ9]
 have e6:704+16*(pr.2-1)<=704+16*(pr.2-1)+16:=zo;have e7:704+16*(pr.2-1)+16<=w.length:=zo;generalize hRA:zee w pr.2=RA at *
 unfold zjc at hOf;generalize 704+16*(pr.2-1)=A at *
 refine zIF hcl ?_;refine zCN hRc ?_;refine zIF (zr5 e3 e4 e5 e6 e7) ?_
 cases hrec:zhr RA with
 | none =>
  rw[hrec]at hOf;dsimp only at hOf;refine zCN hOf ?_;refine zI ?_;refine zcx (ze5 260) ?_;exact zb2 (bad (zo7 (by grind)))
 | some r =>
  obtain⟨hrb,hnb,hnm,_⟩:=zpG hrec;obtain⟨ino,name⟩:=r;have hrec':zhr (zee w pr.2)=some ⟨ino,name⟩:=by rw[hRA];exact hrec
  rw[hrec]at hOf;dsimp only at *
  have hs:=zxW b h name hnb hnm;unfold zbZ zde at hs;obtain⟨S,hS⟩:∃S,zez b name=S:=⟨_,rfl⟩
  rw[hS]at hs;obtain⟨Q,hQ⟩:∃Q,pr.1/65536=Q:=⟨_,rfl⟩
  have hsp:=zBn pr.1 hkey;rw[hQ]at hsp;obtain⟨M,hM⟩:∃M,pr.1%65536=M:=⟨_,rfl⟩
  rw[hM]at hsp;clear hM;refine zCN hOf ?_;refine zM (zfF 260) ?_;refine zM hs ?_;refine zM hsp ?_
  by_cases hk:S=Q
  rotate_left
  .have g3:¬(S:Int)=(Q:Int):=fun h=>hk (Int.ofNat.inj h);refine zIF g3 ?_;refine zcx (ze5 260) ?_;exact zb2 (bad (zrs ⟨hp1,hp2⟩ hrec' hS hQ hk))
  have g3:(S:Int)=(Q:Int):=congrArg Nat.cast hk;rw[good _ (zqK ⟨hp1,hp2⟩ hrec' hS hQ hk)];refine zIF g3 ?_;refine zCN (zfF 260) ?_;refine zOF hcl ?_;exact zLF


def zzx(mn mr:zc)(out:AT):Prop:=(out=[]/\mn=.map0/\mr=.map0)\/∃m1 m2,mn=.mapS m1/\mr=.mapI .i64 m2/\(∀s,m1 s=if out.any (fun y=>decide (y.name=s))=true then some (iv 1)else none)/\(∀q:Int,m2 q=if out.any (fun y=>decide ((y.num:Int)=q))=true then some (iv 1)else none)
theorem ztL(x:zcB):∀out:AT,zjJ out x=(out.any (fun y=>decide (y.name=x.name))||out.any (fun y=>decide ((y.num:Int)=(x.num:Int))))
 | []=>rfl
 | y::out=>by
  have ih:=ztL x out;unfold zjJ at ih⊢
  grind
theorem zzg(p b:Nat)(h:1<=b/\b<=40)(w:LN)(hwl:w.length=3072)(hw:WB w)(a:Int)(L:LK)(hL:L.length<=60000)(hLb:PB L)(hall:FR 79 [wv p w,iv a] (.tuple [psv 0 L,iv 0]))(e:FE)(he:e=match zdy w b [] L with
  | some out=>.ret (esv 0 out)
  | none=>.panic (zce 260)):FN ET 41 [zht p w b a] e:=by
 have bad:zdy w b [] L=none->e=.panic (zce 260):=fun hn=>by grind
 refine zfn (eG T41 func41) ?_ ?_
 .rw[he]
  split
  .exact Lb.esv _
  .exact .iface (.int _ _)
 refine zMG hall ?_;refine zM zno ?_;refine zG ?_;refine zc2 47 4 (i:=2) rfl ?_;simp only[lzy,zAH9,zAP9,zAN9,zAV9];refine zG ?_;refine zay (zbE (fun m s=>∃(i:Nat) (out:AT) (mn mr:zc) (G:LP),m=L.length-i/\i<=L.length/\zdy w b [] L=zdy w b out (L.drop i)/\out.length<=i/\zzx mn mr out/\s.tm 1=.ptr 0 0 0 0 12/\s.tm 2=.sl 3 out.length 0 out.length (2*out.length) 4/\s.tm 5=.map 1/\s.tm 6=.map 2/\s.tm 22=psv 0 L/\s.tm 23=iv L.length/\s.tm 24=iv i/\s.df=[]/\s.H=.row 100 12 0 0 [zht p w b a]::mn::mr::.row 47 4 out.length 0 (out.map zcR)::G) (n:=L.length) ?_ ?_)
 .exact⟨0,[],.map0,.map0,[],rfl,zAG9 _,rfl,zAC9 _,.inl ⟨rfl,rfl,rfl⟩,zt,zt,zt,zt,zt,zt,zt,rfl,rfl⟩
 rintro m ⟨tm,df,H⟩ ⟨i,out,mn,mr,G,rfl,hi,hgo,hol,hmm,h1,h2,h5,h6,h22,h23,h24,rfl,rfl⟩;dsimp only at *
 refine zLh (zr2 h23 h24) ?_ ?_;rotate_left
 .intro hlt;have hlt:¬i<L.length:=zfd hlt;obtain rfl:i=L.length:=zo;rw[zBH9]at hgo;have he':e=.ret (esv 0 out):=by rw[he,hgo];rfl
  rw[he'];refine zGF h2 ?_;refine zbK (zfr ?_ (by simp only[go_sem]<;>rfl));exact Frz.wh rfl rfl (by grind) (by grind) (fun v hv=>by rw[zAJ9]at hv;obtain⟨x,_,rfl⟩:=hv;rfl) zvN
 intro hlt;have hlt:i<L.length:=ztd hlt;obtain⟨pr,hpr⟩:=zex (l:=L) hlt;have hpv:(L.map pv)[i]?=some (pv pr):=zmg hpr;obtain⟨hkey,hptr⟩:=hLb pr (zAE9 hpr);have hdr:L.drop i=pr::L.drop (i+1):=zdc hpr;rw[hdr,zkh]at hgo;have hE:=zxI p b h w hwl hw a pr hkey;refine zBb ?_;refine zGF (zr4 h22 h24 hlt hpv) ?_
 cases hent:zeE w b pr with
 | none =>
  have hn:zdy w b [] L=none:=by rw[hgo,hent]
  have hE':zfC w b pr=.panic (zce 260):=by unfold zfC;rw[hent]
  rw[hE']at hE;refine zB ?_;refine zd6 (zr3 h1 zyA zyB) ?_;refine zcx hE ?_;exact zb2 (bad hn)
 | some x =>
  have hgo':zdy w b [] L=if zjJ out x=true then none else zdy w b (out++[x]) (L.drop (i+1)):=by rw[hgo,hent]
  have hE':zfC w b pr=.ret (zcR x):=by unfold zfC;rw[hent]
  rw[hE']at hE;have hcl:=ztL x out;clear hgo hent hE';refine zB ?_;refine zd6 (zr3 h1 zyA zyB) ?_;refine zca hE ?_;refine zbV (zr2 zyA zyB) ?_;refine zb8 ?_;refine ziE (fun tm'=>tm' 1=.ptr 0 0 0 0 12/\tm' 2=.sl 3 out.length 0 out.length (2*out.length) 4/\tm' 5=.map 1/\tm' 6=.map 2/\tm' 9=.ptr (G.length+1+1+1+1+1) 0 0 0 4/\tm' 22=psv 0 L/\tm' 23=iv L.length/\tm' 24=iv i) ⟨zu h1,zu h2,zu h5,zu h6,zt,zu h22,zu h23,zu h24⟩ ?_;clear h1 h2 h5 h6 h22 h23 h24;rintro tm ⟨h1,h2,h5,h6,h9,h22,h23,h24⟩;refine zB ?_
  by_cases hA:out.any (fun y=>decide (y.name=x.name))=true
  .rcases hmm with⟨rfl,rfl,rfl⟩|⟨m1,m2,rfl,rfl,hm1,hm2⟩
   .cases hA
   have g1:=hm1 x.name;rw[if_pos hA]at g1;refine zB ?_;refine zd6 (zr6 h5 h6 h9 g1 zyA zyB) ?_;refine zcx (ze5 260) ?_;exact zb2 (bad (by grind))
  by_cases hB:out.any (fun y=>decide ((y.num:Int)=(x.num:Int)))=true
  .rcases hmm with⟨rfl,rfl,rfl⟩|⟨m1,m2,rfl,rfl,hm1,hm2⟩
   .cases hB
   have g1:=hm1 x.name;rw[if_neg hA]at g1;have g2:=hm2 x.num;rw[if_pos hB]at g2;refine zB ?_;refine zd6 (zr7 h5 h6 h9 g1 g2 zyA zyB) ?_;refine zcx (ze5 260) ?_;exact zb2 (bad (by grind))
  rw[if_neg (by grind)]at hgo';refine zcF (Q:=fun yy s'=>yy=.norm/\s'.tm 1=.ptr 0 0 0 0 12/\s'.tm 2=.sl 3 out.length 0 out.length (2*out.length) 4/\s'.tm 5=.map 1/\s'.tm 6=.map 2/\s'.tm 9=.ptr (G.length+1+1+1+1+1) 0 0 0 4/\s'.tm 22=psv 0 L/\s'.tm 23=iv L.length/\s'.tm 24=iv i/\s'.df=[]/\s'.H=.row 100 12 0 0 [zht p w b a]::mn::mr::.row 47 4 out.length 0 (out.map zcR)::(G++[.row 92 2 0 0 [pv pr],.row 47 4 0 0 [zcR x]])) (zbF ?_) ?_
  .rcases hmm with⟨rfl,rfl,rfl⟩|⟨m1,m2,rfl,rfl,hm1,hm2⟩
   .refine zbV (zr5 h5 h6 h9 zyA zyB) ?_;refine zca (zfF 260) ?_;refine zK ?_;exact⟨rfl,h1,h2,h5,h6,h9,h22,h23,h24,rfl,rfl⟩
   .have g1:=hm1 x.name;rw[if_neg hA]at g1;have g2:=hm2 x.num;rw[if_neg hB]at g2;refine zbV (zr7 h5 h6 h9 g1 g2 zyA zyB) ?_;refine zca (zfF 260) ?_;refine zK ?_;exact⟨rfl,h1,h2,h5,h6,h9,h22,h23,h24,rfl,rfl⟩
  clear h1 h2 h5 h6 h9 h22 h23 h24;rintro yy ⟨tm,df,H⟩ ⟨rfl,h1,h2,h5,h6,h9,h22,h23,h24,rfl,rfl⟩;dsimp only at *
  refine zB ?_;refine zcF (Q:=fun yy s'=>yy=.norm/\s'.tm 1=.ptr 0 0 0 0 12/\s'.tm 2=.sl 3 out.length 0 out.length (2*out.length) 4/\s'.tm 5=.map 1/\s'.tm 6=.map 2/\s'.tm 9=.ptr (G.length+1+1+1+1+1) 0 0 0 4/\s'.tm 22=psv 0 L/\s'.tm 23=iv L.length/\s'.tm 24=iv i/\s'.df=[]/\∃mn' mr',zzx mn' mr' (out++[x])/\s'.H=.row 100 12 0 0 [zht p w b a]::mn'::mr'::.row 47 4 out.length 0 (out.map zcR)::(G++[.row 92 2 0 0 [pv pr],.row 47 4 0 0 [zcR x]])) (zbU ?_) ?_
  .rcases hmm with⟨rfl,rfl,rfl⟩|⟨m1,m2,rfl,rfl,hm1,hm2⟩
   .refine zb3 (zr5 h5 h6 h9 zyA zyB) ?_;refine zb3 zyB ?_;refine zQF h5 ?_;refine⟨h1,h2,h5,h6,h9,h22,h23,h24,_,_,.inr ⟨_,_,rfl,rfl,fun s=>?_,fun q=>?_⟩,rfl⟩
    .grind
    grind
   .refine zb3 (zr5 h5 h6 h9 zyA zyB) ?_;refine zb3 zyB ?_;refine zQF h5 ?_;refine⟨h1,h2,h5,h6,h9,h22,h23,h24,_,_,.inr ⟨_,_,rfl,rfl,fun s=>?_,fun q=>?_⟩,rfl⟩
    .grind
    grind
  clear h1 h2 h5 h6 h9 h22 h23 h24;rintro yy ⟨tm,df,H⟩ ⟨rfl,h1,h2,h5,h6,h9,h22,h23,h24,rfl,mn',mr',hmm',rfl⟩;dsimp only at *
  have hbb:(out.length+1)*41<=140737488355328:=zo;refine zB ?_;refine zB ?_;refine zd6 (zr5 h2 h9 hbb zyA zyB) ?_;refine zdg ?_;refine zJF h24 ?_;refine⟨_,?m,i+1,out++[x],mn',mr',?G,rfl,hlt,hgo',by grind,hmm',zu h1,zt,zu h5,zu h6,zu h22,zu h23,zt,rfl,?H⟩
  case m=>omega
  case H=>rw[zBA9];simp only[zAF9,zAH9,zAP9,zBX9,zDA9,zBN9];rfl
def zpO(w:LN)(b:Nat)(a:Int):FE:=if(zeu w a).2=0 then(match zdy w b [] (zeu w a).1 with
  | some out=>.ret (esv 0 out)
  | none=>.panic (zce 260))else .panic (zce ((zeu w a).2:Nat))
theorem zyn(p b:Nat)(h:1<=b/\b<=40)(w:LN)(hwl:w.length=3072)(hw:WB w)(hs:zbL w.length)(a:Int):FN ET 41 [zht p w b a] (zpO w b a):=by
 have hall:=zEV p w a hs;rw[zqt]at hall;unfold zpO
 by_cases hno:(zeu w a).2=0
 rotate_left
 .rw[if_neg hno];generalize (zeu w a).2=no at *
  have g:¬(no:Int)=0:=zo;refine zfn (eG T41 func41) (.iface (.int _ _)) ?_;refine zMG hall ?_;refine zI ?_;refine zcx (zql no g) ?_;exact zb2 rfl
 rw[if_pos hno];have hbd:=zvY hw zo a;have hln:=zog w a zo;rw[hno]at hall;exact zzg p b h w hwl hw a (zeu w a).1 hln hbd hall _ rfl


theorem f12:ET.funcs.get 12=some T12:=zkJ func12
theorem c38:ET.caught.get 38=some ():=by kernel_rfl


theorem zEv:FR 15 [iv e] (iv e):=by
 refine zfn (eG T15 func15) (.int _ _) ?_;refine zG ?_;refine zbK ?_;exact⟨[iv e],rfl,Frz.int _ _⟩
def zgk(b:Nat):List (LN)->Nat->Nat
 | [],key=>key
 | n::l,key=>zgk b l (if zez b n=key/65536 then key+1 else key)
theorem zAW(hS:zez b n=S)(hQ:key/65536=Q)(hk:S=Q):zgk b (n::l) key=zgk b l (key+1):=by
 subst hS hQ
 conv=>lhs;unfold zgk
 rw[if_pos hk]
theorem zzY(hS:zez b n=S)(hQ:key/65536=Q)(hk:¬S=Q):zgk b (n::l) key=zgk b l key:=by
 subst hS hQ
 conv=>lhs;unfold zgk
 rw[if_neg hk]
theorem zoi(b:Nat):∀(l:List (LN)) (key:Nat),key<=zgk b l key/\zgk b l key<=key+l.length
 | [],key=>⟨zAC9 _,zAC9 _⟩
 | n::l,key=>by
  unfold zgk;have h1:=zoi b l key;have h2:=zoi b l (key+1)
  split
  .rw[zAH9];omega
  .rw[zAH9];omega
def zqC(b:Nat)(done:List (LN))(nm:LN):Nat:=zgk b done (65536*zez b nm)
def ziY(i:Nat)(nm:LN):LK:=stN (704+16*i) (zei ⟨1+i%8,nm⟩) 16
variable {done:List (LN)}{nm:LN}{ps:LK}(j:Nat)
def zea(b:Nat):List (LN)->List (LN)->LN->LK->Option (LN×LK)
 | _,[],w,ps=>some (w,ps)
 | done,nm::l,w,ps=>if zbW nm=0/\¬nm∈done then zea b (done++[nm]) l (zcj w (ziY done.length nm)) (ps++[(zqC b done nm,done.length+1)])else none
theorem zhF(h:¬(zbW nm=0/\¬nm∈done)):zea b done (nm::l) w ps=none:=by unfold zea;grind
theorem zjV{X:LK}{K:Nat}(h1:zbW nm=0)(h2:¬nm∈done)(hX:ziY done.length nm=X)(hK:zqC b done nm=K):zea b done (nm::l) w ps=zea b (done++[nm]) l (zcj w X) (ps++[(K,done.length+1)]):=by
 subst hX hK
 conv=>lhs;unfold zea
 grind
def zeb(l:LK)(fr:LM):Nat×LK×Nat×Nat:=if(okP l&&okI [] fr)=true then match zgw l (fr.map Int.toNat)with
 | none=>(0,[],0,221)
 | some T=>(zpL T,zeR T.reverse,(T.reverse.flatMap Prod.fst).length,0)else(0,[],0,2)
theorem zAB(l:LK)(fr:LM):zf6 l fr=.ret (.tuple [iv (zeb l fr).1,.list 0 2 ((zeb l fr).2.1.map zbP),iv (zeb l fr).2.2.1,iv (zeb l fr).2.2.2]):=by
 unfold zf6 zeb
 grind
theorem zq3(l:LK)(fr:LM)(hl:l.length<=500):(zeb l fr).2.1.length<=64*fr.length/\(zeb l fr).2.2.1<=fr.length/\(zeb l fr).1<2048/\(PB l->BB (zeb l fr).2.1):=by
 unfold zeb
 by_cases hP:okP l=true
 rotate_left
 .rw[show okP l=false by grind];exact⟨zAG9 _,zAG9 _,zCK9 _,fun _=>BB.nil⟩
 by_cases hI:okI [] fr=true
 rotate_left
 .rw[show okI [] fr=false by grind,Bool.and_false];exact⟨zAG9 _,zAG9 _,zCK9 _,fun _=>BB.nil⟩
 rw[hP,hI];obtain⟨free,rfl,hF⟩:=zsr hI;have hfree:(free.map fun(b:Nat)=>(b:Int)).map Int.toNat=free:=by rw[zDV9];exact List.map_id free
 rw[hfree];simp only[Bool.and_self,if_true]
 cases hb:zgw l free with
 | none=>exact⟨zAG9 _,zAG9 _,by decide,fun _=>BB.nil⟩
 | some T =>
  have hT:=zyx hP hF hl hb;obtain⟨used,hu,e⟩:=hT.blocks;obtain⟨b,n,T',hT1,_⟩:=hT.one;have hlen:(zeR T.reverse).length=64*(free.take used).length:=by
   rw[zl8 _ fun M hM=>hT.len M (List.mem_reverse.1 hM),e]
  have hbm:b∈free:=zBT9 (i:=used) (by rw[<- e,hT1];simp);have hroot:zpL T=b:=by rw[hT1];rfl
  refine⟨by grind,by grind,by dsimp only;rw[hroot];exact(((zjh free).1 hF).1 b hbm).2,fun h=>znU fun M hM=>zvx (fun b hb=>(((zjh free).1 hF).1 b hb).2) 4 _ _ _ _ zy (zwC h) (fun L hL=>by simp at hL) hb M (List.mem_reverse.1 hM)⟩
def zfP(w:LN)(l:List (Int×Nat)):LN:=l.foldl (fun w x=>if 0<=x.1/\x.1<(w.length:Int)then w.set x.1.toNat x.2 else w) w
theorem zry:∀(l:List (Int×Nat)) (w:LN),(zfP w l).length=w.length
 | [],_=>rfl
 | x::l,w=>by
  show (zfP (if 0<=x.1/\x.1<(w.length:Int)then w.set x.1.toNat x.2 else w) l).length=_;rw[zry l]
  grind
theorem ztK:∀(l:List (Int×Nat)) (w:LN),WB w->(∀x∈l,LtU x.2)->WB (zfP w l)
 | [],_,h,_=>h
 | x::l,w,h,hl=>by
  show WB (zfP (if 0<=x.1/\x.1<(w.length:Int)then w.set x.1.toNat x.2 else w) l);refine ztK l _ ?_ fun y hy=>hl y (zAO9 _ hy)
  split
  .exact h.set (hl x (zAM9 ..)) _
  .exact h
def frJ(j:Nat):LM:=(List.range j).map fun k=>((28+k:Nat):Int)
theorem zku:(frJ j).length=j:=by simp[frJ]
theorem zBK:frJ (j+1)=frJ j++[((28+j:Nat):Int)]:=by unfold frJ;rw[zDK9,zBA9];rfl
def zdI:LM:=frJ 20
structure zsb where
 names:List (LN)
 bits:Int
 bent:List (Int×Nat)
@[reducible] def zf3 (l:List (LN)):LQ:=l.map PV.str
def znc(h:zsb)(b:Nat):Option (LN×LM×Bool) :=
 if h.names.length<=60/\h.bent.length<=20 then match zea b [] h.names (List.replicate 3072 0) []with
  | none=>none
  | some (w,ps)=>some (zfP ((zcj w (zeb (zdP ps) zdI).2.1).set 600 (zeb (zdP ps) zdI).1) h.bent,zdI.drop (zeb (zdP ps) zdI).2.2.1,decide ((zeb (zdP ps) zdI).2.2.2=0))
 else none
def zoW(h:zsb):FE:=if 1<=h.bits/\h.bits<=40 then match znc h h.bits.toNat with
  | none=>.ret (.tuple [wv 0 [],zbZ h.bits.toNat 28,.list 0 1 [],.bool false])
  | some (w,fr,c)=>.ret (.tuple [wv 0 w,zbZ h.bits.toNat 28,.list 0 1 (fr.map iv),.bool c])
 else .ret (.tuple [wv 0 [],layZ,.list 0 1 [],.bool false])
theorem zqY:∀{l done:List (LN)} {w w':LN} {ps ps':LK},zea b done l w ps=some (w',ps')->ps'.length=ps.length+l.length
 | [],done,w,w',ps,ps',h=>by
  unfold zea at h
  grind
 | nm::l,done,w,w',ps,ps',h=>by
  by_cases hc:zbW nm=0/\¬nm∈done
  rotate_left
  .rw[zhF hc]at h;cases h
  rw[zjV hc.1 hc.2 rfl rfl]at h;have:=zqY h
  grind
theorem zDc{r:zeS}(hb:zbM r.name)(h1:r.ino<65536)(h2:r.name.length<=120):WB (zei r):=fun x hx=>by
 unfold zei at hx;rcases zAX9.1 hx with rfl|hx
 .show _<18446744073709551616;omega
 rcases zBK9.1 hx with hx|hx
 .exact zlE hb x hx
 .rw[zDB9 hx];exact zCK9 _
theorem zEd{a:Nat}(h:WB w)(n:Nat):BB (stN a w n):=fun c hc=>by
 unfold stN at hc;obtain⟨k,_,rfl⟩:=zAJ9.1 hc;exact h.get _
theorem zlI(i:Nat){nm:LN}(hb:zbM nm)(hn:zbW nm=0):(ziY i nm).length=16/\BB (ziY i nm):=by
 have h:=zeL hn;unfold ziY;refine⟨znt _ _ _,zEd (zDc hb ?_ ?_) _⟩
 .dsimp only;omega
 .dsimp only;omega


theorem zBP(h:zsb):LbE (zoW h):=by
 unfold zoW
 split
 .split
  .exact Lb.four (Lb.uvs []) (Lb.lay _ _) (Lb.ivs []) (.bool _)
  .exact Lb.four (Lb.uvs _) (Lb.lay _ _) (Lb.ivs _) (.bool _)
 .exact Lb.four (Lb.uvs []) Lb.layZ (Lb.ivs []) (.bool _)
theorem ge0{α:Type}(H G:List α)(a x:α):(H++a::(G++[x]))[H.length+(G.length+1)]?=some x:=by
 grind
theorem zzz(q1 q2:Nat)(names:List (LN))(bits:Int)(bent:List (Int×Nat))(hn:∀s∈names,zbM s/\s.length<9223372036854775808)(hbe:∀x∈bent,LtU x.2):FN ET 10 [.agg [.list q1 1 (zf3 names),iv bits,.list q2 2 (wdV bent)]] (zoW ⟨names,bits,bent⟩):=by
 refine zfn (eG T10 func10) (zBP _) ?_;unfold zoW znc;dsimp only
 by_cases hbits:1<=bits/\bits<=40
 rotate_left
 .rw[if_neg hbits];have hOf:=zE9 bits zo;refine zMG hOf ?_;refine zS ?_;refine zBd ?_;refine zb3 hbits ?_;refine zQF hbits ?_;refine zbK (zfr ?_);exact Frz.tL ⟨.nil _ _,zld.frz,.nil _ _,.bool _,trivial⟩
 rw[if_pos hbits];obtain⟨b,rfl⟩:∃b:Nat,bits=b:=⟨bits.toNat,by omega⟩
 rw[zCG9];have hb:1<=b/\b<=40:=zo;have hOf:=zCI b hb;unfold zbZ zde at hOf;refine zMG hOf ?_
 by_cases c1:60<names.length
 .have g1:(60:Int)<(names.length:Nat):=zo;rw[if_neg (fun h=>by omega)];refine zSF g1 ?_;refine zBd ?_;refine zb3 g1 ?_;refine zQF g1 ?_;refine zbK (zfr ?_);exact Frz.tL ⟨.nil _ _,(zgi b 28).frz,.nil _ _,.bool _,trivial⟩
 have g1:¬(60:Int)<(names.length:Nat):=zo
 by_cases c2:20<bent.length
 .have g2:(20:Int)<(bent.length:Nat):=zo;rw[if_neg (fun h=>by omega)];refine zSF (zr2 g1 g2) ?_;refine zBd ?_;refine zb3 g1 ?_;refine zQF g1 ?_;refine zbK (zfr ?_);exact Frz.tL ⟨.nil _ _,(zgi b 28).frz,.nil _ _,.bool _,trivial⟩
 have g2:¬(20:Int)<(bent.length:Nat):=zo;rw[if_pos ⟨by omega,by omega⟩];refine zh3 (zr2 g1 g2) ?_;refine zG ?_;refine zc2 92 2 (i:=9) rfl ?_;simp only[lzy,zAH9,zAP9,zAN9,zAV9];have noF:∀(tm:Nat->PV) (H:LP),tm 2=.nilsl->tm 3=.ptr 1 0 0 0 10->tm 4=.nilsl->tm 5=.bool false->H[1]?=some (.row 32 10 0 0 [.agg [iv 48,iv 8,iv 64,iv b,uv 3,uv 5,iv 9,iv 11,iv 27,iv 28]])->zej ET T10 (fun e' H=>zbo H 0 e' (.ret (.tuple [wv 0 [],zbZ b 28,.list 0 1 [],.bool false]))) .ret ⟨tm,[],H⟩:=fun tm H h2 h3 h4 h5 hH=>by
  refine zc8 (vs:=[.nilsl,zbZ b 28,.nilsl,.bool false]) ?_ (Frz.tL ⟨.nil _ _,(zgi b 28).frz,.nil _ _,.bool _,trivial⟩);simp[T10,xT,zbd,okv,h2,h3,h4,h5,zax,zbh,zbi,hH]
  try rfl
 have hW0:List.replicate 3072 (PV.int .u64 0)=(List.replicate 3072 0).map uv:=by rw[zEF9];rfl
 rw[hW0];have hw0l:(List.replicate 3072 0:LN).length=3072:=zCM9;have hw0b:WB (List.replicate 3072 0):=fun x hx=>by rw[zDB9 hx];exact zCK9 _
 generalize hGo:zea b [] names (List.replicate 3072 0) []=R;have hGo:R=zea b [] names (List.replicate 3072 0) []:=hGo.symm;generalize List.replicate 3072 0=W0 at *
 refine zay (zbE (fun m s=>∃(i id g M:Nat) (w:LN) (ps:LK),m=names.length-i/\i<=names.length/\R=zea b (names.take i) (names.drop i) w ps/\w.length=3072/\WB w/\PB ps/\ps.length=i/\M<=g/\(∀s∈names.take i,zbW s=0)/\s.tm 1=.ptr 0 0 0 0 3/\s.tm 3=.ptr 1 0 0 0 10/\s.tm 6=.ptr 2 0 0 0 10/\s.tm 8=.sl id g 0 w.length (2*w.length) 1/\s.tm 9=.sl 4 ps.length 0 ps.length (2*ps.length) 2/\s.tm 10=iv i/\s.df=[]/\s.H[0]?=some (.row 25 3 0 0 [.agg [.list q1 1 (zf3 names),iv b,.list q2 2 (wdV bent)]])/\s.H[1]?=some (.row 32 10 0 0 [layZ])/\s.H[2]?=some (.row 32 10 0 0 [.agg [iv 48,iv 8,iv 64,iv b,uv 3,uv 5,iv 9,iv 11,iv 27,iv 28]])/\s.H[4]?=some (.row 92 2 ps.length 0 (ps.map pv))/\s.H[id]?=some (.row 29 1 g M (w.map uv))) (n:=names.length) ?_ ?_)
 .exact⟨0,3,0,0,W0,[],rfl,zAG9 _,hGo,hw0l,hw0b,fun c hc=>(by cases hc),rfl,zAC9 _,fun s hs=>(by cases hs),zt,zt,zt,by simp[upd,hw0l],zt,zt,rfl,rfl,rfl,rfl,rfl,rfl⟩
 clear hGo hw0l hw0b hW0;rintro m ⟨tm,df,H⟩ ⟨i,id,g,M,w,ps,rfl,hi,hGo,hwl,hwb,hpb,hpl,hM,hok,h1,h3,h6,h8,h9,h10,rfl,e0,e1,e2,e4,er⟩;dsimp only at h1 h3 h6 h8 h9 h10 e0 e1 e2 e4 er;refine zLh (zr3 h1 h10 e0) ?_ ?_
 .intro hlt;have hlt:i<names.length:=ztd hlt;obtain⟨nm,hnm⟩:=zex (l:=names) hlt;have hnv:(names.map PV.str)[i]?=some (.str nm):=zmg hnm;obtain⟨hnb,hnl⟩:=hn nm (zAE9 hnm);have hdr:names.drop i=nm::names.drop (i+1):=zdc hnm;have htk:names.take (i+1)=names.take i++[nm]:=by rw[zAZ9,hnm];rfl
  have hdl:(names.take i).length=i:=by rw[zAU9];omega
  have hdk:∀k,k<i->(names.take i)[k]?=names[k]?:=fun k hk=>by grind
  rw[hdr]at hGo;have hC:=zgx nm hnl;have hs1:∀x:zc,(H.set 1 x)[1]?=some x:=fun x=>zAY9 (zAB9.1 e1).1;generalize names.take i=done at *
  refine zBb ?_;refine zB ?_;refine zIF (zr5 h1 h10 e0 hnv hlt) ?_;refine zca hC ?_
  by_cases hn0:zbW nm=0
  rotate_left
  .have gN:¬(zbW nm:Int)=0:=fun h=>hn0 (Int.ofNat.inj h);rw[hGo,zhF (fun h=>hn0 h.1)];refine zNF gN ?_;refine zct ?_;refine zBd ?_;refine zb3 (zr4 h3 h6 e1 e2) ?_;refine zQF h3 ?_;refine zbK ?_;exact noF _ _ rfl h3 rfl rfl (hs1 _)
  have gN:(zbW nm:Int)=0:=by rw[hn0];rfl
  refine zNF gN ?_;refine zH ?_;obtain⟨V,hV⟩:∃V,V=65536*zez b nm:=⟨_,rfl⟩
  have hK:=zxO b hb nm hnb hn0 V hV;unfold zbZ zde at hK;have hVb:V<72057594037927936:=by have:=zqr b hb nm;omega
  refine zBd ?_;refine zcw (zr7 h1 h6 h10 e0 e2 hnv hlt) hK ?_;refine zQF h1 ?_;refine zG ?_;have hKN:zqC b done nm=zgk b done V:=by rw[hV];rfl
  refine zay (zbE (fun m s=>∃(k key:Nat),m=i-k/\k<=i/\zqC b done nm=zgk b (done.drop k) key/\key<=V+k/\(nm∈done↔nm∈done.drop k)/\s.tm 1=.ptr 0 0 0 0 3/\s.tm 3=.ptr 1 0 0 0 10/\s.tm 6=.ptr 2 0 0 0 10/\s.tm 8=.sl id g 0 w.length (2*w.length) 1/\s.tm 9=.sl 4 ps.length 0 ps.length (2*ps.length) 2/\s.tm 10=iv i/\s.tm 11=uv key/\s.tm 13=iv k/\s.df=[]/\s.H=H) (n:=i) ?_ ?_)
  .exact⟨0,V,rfl,zAG9 _,hKN,zAC9 _,Iff.rfl,zu h1,zu h3,zu h6,zu h8,zu h9,zu h10,zt,zt,rfl,rfl⟩
  clear hKN h1 h3 h6 h8 h9 h10;rintro m ⟨tm,df,H2⟩ ⟨k,key,rfl,hk,hKN,hkey,hmem,h1,h3,h6,h8,h9,h10,h11,h13,rfl,rfl⟩;dsimp only at *
  refine zLh (zr2 h10 h13) ?_ ?_
  .intro hlt2;have hlt2:k<i:=ztd hlt2;obtain⟨ok,hok2⟩:∃x,names[k]?=some x:=⟨_,zAA9 zo⟩
   have hokv:(names.map PV.str)[k]?=some (.str ok):=zmg hok2;have hdk2:=(hdk k hlt2).trans hok2;obtain⟨hnb2,hnl2⟩:=hn ok (zAE9 hok2);have hno2:=hok ok (zAE9 hdk2);have hdd:done.drop k=ok::done.drop (k+1):=by
    obtain⟨h,e⟩:=zAB9.1 hdk2;rw[zAK9 h,e]
   rw[hdd]at hKN hmem;have hkn:k<names.length:=zo;refine zBb ?_;refine zBd ?_
   by_cases he:ok=nm
   .rw[hGo,zhF (fun h=>h.2 (hmem.2 (by rw[he];simp)))];refine zQF (zr9 h1 h10 h13 e0 hnv hokv hlt hkn he) ?_;refine zct ?_;refine zBd ?_;refine zb3 (zr4 h3 h6 e1 e2) ?_;refine zQF h3 ?_;refine zbK ?_;exact noF _ _ rfl h3 rfl rfl (hs1 _)
   have hmem2:nm∈done↔nm∈done.drop (k+1):=hmem.trans (by rw[zAX9];grind);have hSum:=zmO b hb ok hnb2 hno2;unfold zbZ zde at hSum;obtain⟨S,hS⟩:∃S,zez b ok=S:=⟨_,rfl⟩
   rw[hS]at hSum;obtain⟨Q,hQ⟩:∃Q,key/65536=Q:=⟨_,rfl⟩
   have htd:Int.tdiv (key:Int) 65536=(Q:Int):=by rw[zEH9 zo];omega
   have hq:(key:Int)/65536=(Q:Int):=zo;have hQb:(Q:Int)<18446744073709551616:=zo;refine zQF (zr9 h1 h10 h13 e0 hnv hokv hlt hkn he) ?_;refine zH ?_;refine zBd ?_;refine zcw (zr7 h1 h6 h13 e0 e2 hokv hkn) hSum ?_;refine zQF h1 ?_;refine zB ?_
   by_cases hk2:S=Q
   rotate_left
   .have g3:¬(S:Int)=(Q:Int):=fun h=>hk2 (Int.ofNat.inj h);rw[zzY hS hQ hk2]at hKN;refine zB ?_;refine zbO (zr5 h11 htd hq hQb g3) ?_;refine zH ?_;refine zJF h13 ?_;exact⟨_,by omega,k+1,key,rfl,hlt2,hKN,by omega,hmem2,zu h1,zu h3,zu h6,zu h8,zu h9,zu h10,zu h11,zu h13,rfl,rfl⟩
   have g3:(S:Int)=(Q:Int):=congrArg Nat.cast hk2;rw[zAW hS hQ hk2]at hKN;have hk1:(key:Int)+1=((key+1:Nat):Int):=zo;have hk1b:((key+1:Nat):Int)<18446744073709551616:=zo;refine zB ?_;refine zbO (zr5 h11 htd hq hQb g3) ?_;refine zct ?_;refine zJF (zr3 h11 hk1 hk1b) ?_;refine zJF h13 ?_;exact⟨_,by omega,k+1,key+1,rfl,hlt2,hKN,by omega,hmem2,zu h1,zu h3,zu h6,zu h8,zu h9,zu h10,zt,zu h13,rfl,rfl⟩
  intro hlt2;have hlt2:¬k<i:=zfd hlt2;obtain rfl:k=i:=zo;rw[zDP9 zo]at hKN hmem;have hKN:zqC b done nm=key:=hKN;have hnd:¬nm∈done:=fun h=>by grind
  obtain⟨X,hX⟩:∃X,ziY k nm=X:=⟨_,rfl⟩
  obtain⟨hXl,hXb⟩:=zlI k hnb hn0;have hk8:k%8<8:=zEQ9 _ zy;have hSt:=zsN (704+16*k) zo ⟨1+k%8,nm⟩ ((zeP _).2 ⟨Nat.le_add_right 1 _,by grind,hn0⟩) hnb;rw[show stN (704+16*k) (zei ⟨1+k%8,nm⟩) 16=X from hX]at hSt;rw[hX]at hXl hXb;rw[zjV (X:=X) hn0 hnd (by grind) hKN]at hGo;have hrm:(k:Int).tmod 8=((k%8:Nat):Int):=by rw[zFC9 zo];omega
  have a1:(16:Int)*(k:Int)=((16*k:Nat):Int):=zo;have a2:(704:Int)+((16*k:Nat):Int)=((704+16*k:Nat):Int):=zo;generalize k%8=r8 at *
  have a3:(1:Int)+(r8:Int)=((1+r8:Nat):Int):=zo;clear hK hV hKN hmem hdk hC;refine zBd ?_;refine zcw (zel h1 h6 h10 e0 e2 hnv hlt hrm a1 a2 a3) hSt ?_;refine zQF h1 ?_;refine zB ?_;have hap:=zny 0 H2 id g (2*w.length) M w X zo ⟨by omega,by omega⟩ hM er;refine zIF h8 ?_;refine zco hap ?_ (by first|rfl|(simp only[go_sem,h8]<;>rfl)) (by simp only[go_sem]<;>rfl);rintro e H1 ⟨hst,id2,g2,M2,rfl,hM2,hr2⟩;refine zN ?_;have hal:=zfo X w;have f0:=hst _ _ e0;have f1:=hst _ _ e1;have f2:=hst _ _ e2;have f4:=hst _ _ e4;have hne:id2≠4:=by rintro rfl;rw[f4]at hr2;cases hr2
  have f4':∀Y,(H1++Y)[4]?=some (.row 92 2 ps.length 0 (ps.map pv)):=fun Y=>zbS f4;have hbb:(ps.length+1)*17<=140737488355328:=zo;have a4:(k:Int)+1=((k+1:Nat):Int):=zo;have a5:((k+1:Nat):Int)<18446744073709551616:=zo;refine zB ?_;refine zJF (zr7 h9 h10 h11 f4' hbb a4 a5) ?_;refine zJF h10 ?_;rw[hdl]at hGo;have hsn:ps.map pv++[pv (key,k+1)]=(ps++[(key,k+1)]).map pv:=by rw[zBA9];rfl
  have hsl:ps.length+1=(ps++[(key,k+1)]).length:=by rw[zAF9];rfl
  refine⟨_,?m,k+1,id2,g2,M2,zcj w X,ps++[(key,k+1)],rfl,hlt,by grind,by omega,zit hwb hXb,?PB,by omega,hM2,?OK,zu h1,zu h3,zu h6,by simp[upd,hal],zt,zu h10,rfl,?H0,?H1,?H2,?H4,?HR⟩
  case m=>omega
  case PB =>
   intro c hc;rcases zBK9.1 hc with hc|hc
   .exact hpb c hc
   .obtain rfl:=zBI9.1 hc;omega
  case OK =>
   rw[htk];intro s hs;rcases zBK9.1 hs with hs|hs
   .grind
   .obtain rfl:=zBI9.1 hs;exact hn0
  case H0=>exact(zAS9 zy).trans (zbS f0)
  case H1=>exact(zAS9 zy).trans (zbS f1)
  case H2=>exact(zAS9 zy).trans (zbS f2)
  case H4 =>
   rw[<- hsn,<- hsl];exact zAY9 (zAB9.1 (zbS f4)).1
  case HR=>exact(zAS9 hne.symm).trans (zbS hr2)
 intro hlt;have hlt:¬i<names.length:=zfd hlt;obtain rfl:i=names.length:=zo;rw[zBE9,zBH9]at hGo;have hGo:R=some (w,ps):=hGo;rw[hGo];clear hGo hok hi hlt;refine zGF (zr2 h6 e2) ?_;refine zc2 3 1 (i:=18) rfl ?_;simp only[lzy];refine zay (zbE (fun m s=>∃(j:Nat) (G:LP),m=20-j/\j<=20/\s.tm 1=.ptr 0 0 0 0 3/\s.tm 3=.ptr 1 0 0 0 10/\s.tm 6=.ptr 2 0 0 0 10/\s.tm 8=.sl id g 0 w.length (2*w.length) 1/\s.tm 9=.sl 4 ps.length 0 ps.length (2*ps.length) 2/\s.tm 18=.sl H.length j 0 j (2*j) 1/\s.tm 19=iv (28+j:Nat)/\s.df=[]/\s.H=H++.row 3 1 j 0 ((frJ j).map iv)::G) (n:=20) ?_ ?_)
 .exact⟨0,[],rfl,zAG9 _,zu h1,zu h3,zu h6,zu h8,zu h9,zt,zt,rfl,rfl⟩
 clear h1 h3 h6 h8 h9 h10;rintro m ⟨tm,df,H9⟩ ⟨j,G,rfl,hj,h1,h3,h6,h8,h9,h18,h19,rfl,rfl⟩;dsimp only at *
 have gj:((28+j:Nat):Int)<48↔j<20:=zo;refine zLh h19 ?_ ?_
 .intro hltj;have hltj:j<20:=ztd hltj;have hbb:(j+1)*9<=140737488355328:=zo;have hfl:=zku j;have g19:((28+j:Nat):Int)+1=((28+(j+1):Nat):Int):=zo;refine zBb ?_;refine zB ?_;refine zrg ?_ (by simp(disch:=omega)only[go_sem,h18,h19,hbb,hfl,ga0,ge0,sa0,zAR9,zAF9]<;>rfl);refine zdg ?_;refine zJF (zr2 h19 g19) ?_;refine⟨_,?m,j+1,?G,rfl,hltj,zu h1,zu h3,zu h6,zu h8,zu h9,zt,zt,rfl,?H⟩
  case m=>omega
  case H=>rw[zBK,zBA9];rfl
 intro hltj;have hltj:¬j<20:=zfd hltj;obtain rfl:j=20:=zo;refine ziE (fun tm'=>tm' 1=.ptr 0 0 0 0 3/\tm' 3=.ptr 1 0 0 0 10/\tm' 6=.ptr 2 0 0 0 10/\tm' 8=.sl id g 0 w.length (2*w.length) 1/\tm' 9=.sl 4 ps.length 0 ps.length (2*ps.length) 2/\tm' 18=.sl H.length 20 0 20 40 1) ⟨zu h1,zu h3,zu h6,zu h8,zu h9,zu h18⟩ ?_;clear h1 h3 h6 h8 h9 h18 h19 gj;rintro tm ⟨h1,h3,h6,h8,h9,h18⟩;refine zlB 18 H.length (w:=.list 0 1 (zdI.map iv)) (o:=.row 3 1 20 0 ((frJ 20).map iv)) (by grind) (by
  dsimp only;rw[h18];exact Frz.wh (l:=(frJ 20).map iv) (znp (by simp only[ga0]<;>rfl)) rfl (by rw[zAW9,zku]) (by rw[zAW9,zku];decide) zmm zvw) ?_
 simp only[sa0];refine ziE (fun tm'=>tm' 1=.ptr 0 0 0 0 3/\tm' 3=.ptr 1 0 0 0 10/\tm' 6=.ptr 2 0 0 0 10/\tm' 8=.sl id g 0 w.length (2*w.length) 1/\tm' 9=.sl 4 ps.length 0 ps.length (2*ps.length) 2/\tm' 18=.list 0 1 (zdI.map iv)) ⟨zu h1,zu h3,zu h6,zu h8,zu h9,by simp[upd]⟩ ?_;clear h1 h3 h6 h8 h9 h18;rintro tm ⟨h1,h3,h6,h8,h9,h18⟩;have f0:=zbS (X:=.void::G) e0;have f1:=zbS (X:=.void::G) e1;have f2:=zbS (X:=.void::G) e2;have f4:=zbS (X:=.void::G) e4;have fr:=zbS (X:=.void::G) er;generalize H++zc.void::G=H5 at *
 clear e0 e1 e2 e4 er;have fzp:Frz H5 1 (.sl 4 ps.length 0 ps.length (2*ps.length) 2) (psv 1 ps):=Frz.wh (l:=ps.map pv) f4 rfl (by simp) (by simp) zmm zgZ;have hSo:=zsD 1 ps zo;have hsl:=znL ps;have hsb:PB (zdP ps):=fun c hc=>hpb c (znQ c hc);have hB:=zyb 0 0 (zdP ps) zdI zo zy;rw[zAB]at hB;obtain⟨q1',q2',q3',q4'⟩:=zq3 (zdP ps) zdI zo;have q5:=q4' hsb;clear q4';dsimp only;generalize zeb (zdP ps) zdI=bp at *
 obtain⟨root,puts,used,no⟩:=bp;dsimp only at hB q1' q2' q3' q5⊢;generalize zdP ps=sp at *
 have hfl:zdI.length=20:=zku 20;refine zIF h9 ?_;refine zcl hSo ?_ ?_;exact⟨fzp,trivial⟩;refine zbV h18 ?_;refine zCN hB ?_;refine zB ?_;have hap:=zny 0 H5 id g (2*w.length) M w puts zo ⟨by omega,by omega⟩ hM fr;refine zIF h8 ?_;refine zco hap ?_ (by first|rfl|(simp only[go_sem,h8]<;>rfl)) (by simp only[go_sem]<;>rfl);rintro e H1 ⟨hst,id2,g2,M2,rfl,hM2,hr2⟩;refine zN ?_;have hal:=zfo puts w;have hw1b:=zit hwb q5;have k0:=hst _ _ f0;have k1:=hst _ _ f1;have k2:=hst _ _ f2;have hne0:id2≠0:=by rintro rfl;rw[k0]at hr2;cases hr2
 have hne1:id2≠1:=by rintro rfl;rw[k1]at hr2;cases hr2
 have hne2:id2≠2:=by rintro rfl;rw[k2]at hr2;cases hr2
 clear f0 f1 f2 f4 fr hst hap hB hSo fzp;generalize zcj w puts=w1' at *
 have r5:600<w1'.length:=zo;have r6:IntKind.u64.wrap (root:Int)=(root:Int):=zwu;obtain⟨o5,ho5⟩:∃o,w1'[600]?=some o:=⟨_,zAA9 r5⟩
 have z5:(w1'.map uv)[600]?=some (uv o5):=zmg ho5;have y5:(w1'.map uv).set 600 (.int .u64 (root:Int))=(w1'.set 600 root).map uv:=zDW9.symm;have r7:600<w.length:=zo;refine zB ?_;refine zbO (zr7 hr2 hM2 r5 r6 r7 z5 y5) ?_;refine zG ?_;have s0:(H1.set id2 (.row 29 1 g2 g2 ((w1'.set 600 root).map uv)))[0]?=some (.row 25 3 0 0 [.agg [.list q1 1 (zf3 names),iv b,.list q2 2 (wdV bent)]]):=(zAS9 hne0).trans k0;have s1:(H1.set id2 (.row 29 1 g2 g2 ((w1'.set 600 root).map uv)))[1]?=some (.row 32 10 0 0 [layZ]):=(zAS9 hne1).trans k1;have s2:(H1.set id2 (.row 29 1 g2 g2 ((w1'.set 600 root).map uv)))[2]?=some (.row 32 10 0 0 [.agg [iv 48,iv 8,iv 64,iv b,uv 3,uv 5,iv 9,iv 11,iv 27,iv 28]]):=(zAS9 hne2).trans k2;have sr:(H1.set id2 (.row 29 1 g2 g2 ((w1'.set 600 root).map uv)))[id2]?=some (.row 29 1 g2 g2 ((w1'.set 600 root).map uv)):=zAY9 (zAB9.1 hr2).1;have hw2:(w1'.set 600 root).length=3072:=by rw[zBW9];omega
 have hw2b:WB (w1'.set 600 root):=hw1b.set (show root<18446744073709551616 by omega) _;rw[show w.length=(w1'.set 600 root).length by omega];clear k0 k1 k2 hr2 z5 y5 ho5 r5 r6 r7 hal hw1b q1' q3' q5 hwl hwb hM hpb hpl;generalize H1.set id2 (.row 29 1 g2 g2 ((w1'.set 600 root).map uv))=H6 at *
 generalize w1'.set 600 root=W2 at *
 refine zay (zbE (fun m s=>∃(k id g M:Nat) (w:LN),m=bent.length-k/\k<=bent.length/\w.length=3072/\M<=g/\zfP W2 bent=zfP w (bent.drop k)/\s.tm 1=.ptr 0 0 0 0 3/\s.tm 3=.ptr 1 0 0 0 10/\s.tm 6=.ptr 2 0 0 0 10/\s.tm 8=.sl id g 0 w.length (2*w.length) 1/\s.tm 18=.list 0 1 (zdI.map iv)/\s.tm 22=iv used/\s.tm 23=iv no/\s.tm 24=iv k/\s.df=[]/\s.H[0]?=some (.row 25 3 0 0 [.agg [.list q1 1 (zf3 names),iv b,.list q2 2 (wdV bent)]])/\s.H[1]?=some (.row 32 10 0 0 [layZ])/\s.H[2]?=some (.row 32 10 0 0 [.agg [iv 48,iv 8,iv 64,iv b,uv 3,uv 5,iv 9,iv 11,iv 27,iv 28]])/\s.H[id]?=some (.row 29 1 g M (w.map uv))) (n:=bent.length) ?_ ?_)
 .exact⟨0,id2,g2,g2,W2,rfl,zAG9 _,hw2,zAC9 _,rfl,zu h1,zu h3,zu h6,zt,zu h18,zt,zt,zt,rfl,s0,s1,s2,sr⟩
 clear h1 h3 h6 h8 h9 h18 s0 s1 s2 sr hw2 hw2b hne0 hne1 hne2 hM2;rintro m ⟨tm,df,H⟩ ⟨k,id,g,M,w,rfl,hk,hwl,hM,hbn,h1,h3,h6,h8,h18,h22,h23,h24,rfl,e0,e1,e2,er⟩;dsimp only at h1 h3 h6 h8 h18 h22 h23 h24 e0 e1 e2 er;refine zLh (zr3 h1 h24 e0) ?_ ?_
 .intro hltk;have hltk:k<bent.length:=ztd hltk;obtain⟨x,hx⟩:=zex (l:=bent) hltk;have hxv:(wdV bent)[k]?=some (.agg [iv x.1,uv x.2]):=by rw[zAT9,hx];rfl
  have hdr:bent.drop k=x::bent.drop (k+1):=zdc hx;rw[hdr]at hbn;have hne0:id≠0:=by rintro rfl;rw[e0]at er;cases er
  have hne1:id≠1:=by rintro rfl;rw[e1]at er;cases er
  have hne2:id≠2:=by rintro rfl;rw[e2]at er;cases er
  refine zBb ?_
  by_cases hin:0<=x.1/\x.1<(w.length:Nat)
  .have hbn:zfP W2 bent=zfP (w.set x.1.toNat x.2) (bent.drop (k+1)):=by rw[hbn];show zfP (if 0<=x.1/\x.1<(w.length:Int)then w.set x.1.toNat x.2 else w) _=_;rw[if_pos hin]
   obtain⟨a,ha⟩:∃a:Nat,x.1=a:=⟨x.1.toNat,by omega⟩
   have g1:(0:Int)<=(a:Nat):=zo;have g2:((a:Nat):Int)<(w.length:Nat):=zo;have g3:a<w.length:=zo;rw[ha]at hxv hbn;rw[zCG9]at hbn;obtain⟨o,ho⟩:=zex (l:=w) g3;have z1:(w.map uv)[a]?=some (uv o):=zmg ho;have y1:(w.map uv).set a (.int .u64 (x.2:Int))=(w.set a x.2).map uv:=zDW9.symm;refine zSF (zfM h1 h8 h24 e0 hxv hltk er hM g1 g2) ?_;refine zBd ?_;refine zb3 (zb0 h1 h8 h24 e0 hxv hltk er hM g1 g2 g3 (zr2 z1 y1)) ?_;refine zQF h8 ?_;refine zJF h24 ?_;refine⟨_,?m8,k+1,id,g,g,w.set a x.2,rfl,hltk,by grind,zAC9 _,hbn,zu h1,zu h3,zu h6,zu h8,zu h18,zu h22,zu h23,zu h24,zt,(zAS9 hne0).trans e0,(zAS9 hne1).trans e1,(zAS9 hne2).trans e2,?hr8⟩
   case m8=>omega
   grind
  have hbn:zfP W2 bent=zfP w (bent.drop (k+1)):=by rw[hbn];show zfP (if 0<=x.1/\x.1<(w.length:Int)then w.set x.1.toNat x.2 else w) _=_;rw[if_neg hin]
  by_cases h0:(0:Int)<=x.1
  .have g2:¬x.1<(w.length:Nat):=fun h=>hin ⟨h0,h⟩;refine zh3 (zfM h1 h8 h24 e0 hxv hltk er hM h0 g2) ?_;refine zJF h24 ?_;exact⟨_,by omega,k+1,id,g,M,w,rfl,hltk,hwl,hM,hbn,zu h1,zu h3,zu h6,zu h8,zu h18,zu h22,zu h23,zu h24,rfl,e0,e1,e2,er⟩
  .refine zh3 (zr9 h1 h8 h24 e0 hxv hltk er hM h0) ?_;refine zJF h24 ?_;exact⟨_,by omega,k+1,id,g,M,w,rfl,hltk,hwl,hM,hbn,zu h1,zu h3,zu h6,zu h8,zu h18,zu h22,zu h23,zu h24,rfl,e0,e1,e2,er⟩
 intro hltk;have hltk:¬k<bent.length:=zfd hltk;rw[zDP9 zo]at hbn;have hbn:zfP W2 bent=w:=hbn;rw[hbn];refine zBd ?_;have hne1:id≠1:=by rintro rfl;rw[e1]at er;cases er
 have hdv:List.drop used (zdI.map iv)=(zdI.drop used).map iv:=zBZ9.symm;have hs1:∀x:zc,(H.set 1 x)[1]?=some x:=fun x=>zAY9 (zAB9.1 e1).1;have hsr:∀x:zc,(H.set 1 x)[id]?=some (.row 29 1 g M (w.map uv)):=fun x=>(zAS9 hne1.symm).trans er;have fin:∀(c:Bool) (x:zc) (lay:PV),Id0 lay->zbo (H.set 1 x) 0 (.ret (.tuple [.sl id g 0 w.length (2*w.length) 1,lay,.list 0 1 ((zdI.drop used).map iv),.bool c])) (.ret (.tuple [wv 0 w,lay,.list 0 1 ((zdI.drop used).map iv),.bool c])):=fun c x lay hl=>Frz.tL ⟨Frz.wM (hsr x) hM rfl (by simp) (by simp) zmm zqz,hl.frz,.list _ _ _,.bool _,trivial⟩
 by_cases hno:no=0
 .have gn:(no:Int)=0:=zo;rw[decide_eq_true hno];refine zb3 (zel h3 h6 h8 h18 h22 h23 e1 e2 hdv q2' gn) ?_;refine zQF h3 ?_;refine zbK (zfr ?_ (by simp only[go_sem,h3,hs1]<;>rfl));exact fin _ _ _ (zgi b 28)
 .have gn:¬(no:Int)=0:=zo;rw[decide_eq_false hno];refine zb3 (zel h3 h6 h8 h18 h22 h23 e1 e2 hdv q2' gn) ?_;refine zQF h3 ?_;refine zbK (zfr ?_ (by simp only[go_sem,h3,hs1]<;>rfl));exact fin _ _ _ (zgi b 28)


theorem zq1:∀{l done:List (LN)} {w w':LN} {ps ps':LK},zea b done l w ps=some (w',ps')->(∀s∈l,zbM s)->WB w->w'.length=w.length/\WB w'
 | [],done,w,w',ps,ps',h,_,hw=>by
  unfold zea at h
  grind
 | nm::l,done,w,w',ps,ps',h,hb,hw=>by
  by_cases hc:zbW nm=0/\¬nm∈done
  rotate_left
  .rw[zhF hc]at h;cases h
  rw[zjV hc.1 hc.2 rfl rfl]at h;obtain⟨h1,h2⟩:=zq1 h (fun s hs=>hb s (zAO9 _ hs)) (zit hw (zlI _ (hb nm (zAM9 ..)) hc.1).2);exact⟨h1.trans (zfo _ _),h2⟩
theorem zqL(hb:1<=b/\b<=40):∀{l done:List (LN)} {w w':LN} {ps ps':LK},zea b done l w ps=some (w',ps')->done.length+l.length<=1000->PB ps->PB ps'
 | [],done,w,w',ps,ps',h,_,hp=>by
  unfold zea at h;injection h with h;injection h with _ h;subst h;exact hp
 | nm::l,done,w,w',ps,ps',h,hl,hp=>by
  by_cases hc:zbW nm=0/\¬nm∈done
  rotate_left
  .rw[zhF hc]at h;cases h
  obtain⟨K,hK⟩:∃K,zqC b done nm=K:=⟨_,rfl⟩
  rw[zjV hc.1 hc.2 rfl hK]at h;rw[zAH9]at hl;refine zqL hb h (by grind) fun c hcm=>?_;rcases zBK9.1 hcm with hcm|hcm
  .exact hp c hcm
  .obtain rfl:=zBI9.1 hcm;have h1:=(zoi b done (65536*zez b nm)).2;have h2:=zqr b hb nm;have h3:K<=65536*zez b nm+done.length:=by rw[<- hK];exact h1
   omega
theorem zuU{h:zsb}(hb:1<=b/\b<=40){fr:LM}{c:Bool}(ho:znc h b=some (w,fr,c))(hn:∀s∈h.names,zbM s)(hbe:∀x∈h.bent,LtU x.2):w.length=3072/\WB w/\fr.length<=20:=by
 unfold znc at ho
 split at ho
 rotate_left
 .cases ho
 rename_i hc
 split at ho
 .cases ho
 rename_i w0 ps hgo;have hps:=zqY hgo;have hpb:=zqL hb hgo (by grind) (fun c hc=>by cases hc);obtain⟨g1,g2⟩:=zq1 hgo hn (fun x hx=>by rw[zDB9 hx];exact zCK9 _);rw[zCM9]at g1;simp only[zAP9]at hps;have hsl:=znL ps;obtain⟨q1,q2,q3,q4⟩:=zq3 (zdP ps) zdI zo;have q5:=q4 (fun c hc=>hpb c (znQ c hc));generalize zeb (zdP ps) zdI=bp at *
 injection ho with ho;injection ho with h1 h2;injection h2 with h2 h3;subst h1 h2;refine⟨?_,?_,?_⟩
 .rw[zry,zBW9,zfo,g1]
 .exact ztK _ _ ((zit g2 q5).set (show bp.1<18446744073709551616 by omega) _) hbe
 .rw[zBP9,show zdI.length=20 from zku 20];omega
theorem zmp(w:LN)(b d:Nat)(a:Int)(hw:w.length<=131072):(zdT w b d a).1.length<=60000:=by
 unfold zdT;have h:=zog w a hw
 split
 .split
  .split
   .rename_i hg;have:=zpU hg
    grind
   grind
  grind
 grind
theorem f11:FR 11 [] (.bool true):=zDZ (by kernel_rfl) (by rfl)
theorem f3:ET.funcs.get 3=some T3:=eG _ func3


theorem f19:ET.funcs.get 19=some T19:=zkJ func19
def zcL(w:LN)(b d:Nat)(a:Int)(name:LN):AT×Nat:=if zf9 w.length d a=true then if zbW name=0 then zdT w b d a else([],zbW name)else([],2)
variable {a:Int}{d:Nat}
theorem ztJ(w:LN)(b d:Nat)(a:Int)(name:LN)(hw:w.length<=131072):(zcL w b d a name).1.length<=60000:=by
 have:=zmp w b d a hw;unfold zcL
 grind
theorem zAX(h:¬(zdT w b d a).2=0):(zdT w b d a).1=[]:=by
 unfold zdT at h⊢
 grind
theorem zv6{name:LN}(h:¬(zcL w b d a name).2=0):(zcL w b d a name).1=[]:=by
 unfold zcL at h⊢
 split
 .rename_i h1;rw[if_pos h1]at h
  split
  .rename_i h2;rw[if_pos h2]at h;exact zAX h
  .rfl
 .rfl
def zBl(w:LN)(b d:Nat)(a:Int)(name:LN):FE:=.ret (.tuple [esv 0 (zcL w b d a name).1,iv ((zcL w b d a name).2:Nat)])
theorem zu4(p b d:Nat)(h:1<=b/\b<=40)(w:LN)(hs:zbL w.length)(hw:WB w)(a:Int)(name:LN)(hnl:name.length<9223372036854775808):FN ET 48 [wv p w,zbZ b d,iv a,.str name] (zBl w b d a name):=by
 have hr:=zkb p b d h w hs a;have hc:=zgx name hnl;have hl:=zoN p b d h w hs hw a;unfold ziJ at hl;refine zfn (eG T48 func48) (Lb.two (Lb.esv _) (.int _ _)) ?_;unfold zBl zcL;unfold zbZ zde at hr hl⊢
 by_cases hd:zf9 w.length d a=true
 rotate_left
 .rw[if_neg hd];rw[show zf9 w.length d a=false by grind]at hr;refine zMG hr ?_;refine zU ?_;exact zLF
 rw[if_pos hd];rw[hd]at hr
 by_cases hn:zbW name=0
 rotate_left
 .rw[if_neg hn];have g:¬(zbW name:Int)=0:=fun h=>hn (Int.ofNat.inj h);refine zMG hr ?_;refine zH ?_;refine zB ?_;refine zM hc ?_;refine zSF g ?_;refine zO ?_;exact zLF
 rw[if_pos hn];rw[hn]at hc;refine zMG hr ?_;refine zH ?_;refine zB ?_;refine zM hc ?_;refine zTH ?_;refine zB ?_;refine zI ?_;refine zca hl ?_;refine zP ?_;exact zLF
def zdV(name:LN)(y:zcB):Bool:=decide (y.name=name)
variable {H:LP}(p q1 q2 b:Nat)(names:List (LN))(w:LN)(F:zcB×Bool×Nat)(a:Int)(l:AT)(left:Nat)(bits:Int)(n:Nat)(bent:List (Int×Nat))(x:Pr)(name:LN)(m:Int)
theorem zun(hl:zbL l.length):FR 49 [esv p l,.str name] (iv (zfV (zdV name) l)):=by
 refine zfn (eG T49 func49) (.int _ _) ?_;refine zG ?_;refine zay (zbE (fun m s=>∃i:Nat,m=l.length-i/\i<=l.length/\l.findIdx? (zdV name)=((l.drop i).findIdx? (zdV name)).map (· + i)/\s.tm 0=esv p l/\s.tm 1=.str name/\s.tm 5=iv i/\s.df=[]/\s.H=[]) (n:=l.length) ?_ ?_)
 .exact⟨0,by simp[upd,zD]⟩
 .rintro m ⟨tm,df,H⟩ ⟨i,rfl,hi,hf,h0,h1,h5,rfl,rfl⟩;dsimp only at h0 h1 h5;refine zLh (zr2 h0 h5) ?_ ?_
  .intro hlt;have hlt:i<l.length:=ztd hlt;obtain⟨y,hy⟩:=zex (l:=l) hlt;have hyv:(l.map zcR)[i]?=some (zcR y):=zmg hy;obtain⟨hd1,hd2⟩:=zAB9.1 hy;rw[zAK9 hd1,hd2,zED9]at hf;refine zBb ?_;refine zB ?_
   by_cases hn:y.name=name
   .rw[show zdV name y=true from decide_eq_true hn,if_pos rfl]at hf;refine zB ?_;refine zbO (zr6 h0 h1 h5 hlt hyv hn) ?_;refine zUF h5 ?_;exact zbo.int (by unfold zfV;grind)
   .rw[show zdV name y=false from decide_eq_false hn,if_neg zEE9]at hf;refine zB ?_;refine zbO (zr6 h0 h1 h5 hlt hyv hn) ?_;refine zH ?_;refine zJF h5 ?_;refine⟨_,?_,i+1,rfl,hlt,?_,zu h0,zu h1,zt,zt,zt⟩
    .omega
    .rw[hf]
     cases (l.drop (i+1)).findIdx? (zdV name)with
     | none=>rfl
     | some j=>grind
  .intro hlt;have hlt:¬i<l.length:=zfd hlt;obtain rfl:i=l.length:=zo;rw[zBH9]at hf;refine zO ?_;exact zbo.int (by unfold zfV;grind)
theorem zpC(pr:zcB->Bool)(l:AT):(l.find? pr=none/\zfV pr l=-1)\/∃(i:Nat) (x:zcB),l.find? pr=some x/\l[i]?=some x/\i<l.length/\zfV pr l=i:=by
 unfold zfV
 cases h:l.findIdx? pr with
 | none =>
  grind
 | some i =>
  right
  obtain⟨hi,h1,h2⟩:=List.findIdx?_eq_some_iff_getElem.1 h;refine⟨i,l[i],?_,zAA9 hi,hi,rfl⟩;rw[List.find?_eq_some_iff_getElem]
  grind
@[reducible] def zE:zcB:=⟨0,0,0,[]⟩
def zfN(w:LN)(b d:Nat)(a:Int)(name:LN):zcB×Bool×Nat:=match(zcL w b d a name).1.find? (zdV name)with
 | some x=>(x,true,0)
 | none=>(zE,false,(zcL w b d a name).2)
def zeF(w:LN)(b d:Nat)(a:Int)(name:LN):FE:=.ret (.tuple [zcR (zfN w b d a name).1,.bool (zfN w b d a name).2.1,iv ((zfN w b d a name).2.2:Nat)])
theorem zw8(d:Nat)(h:1<=b/\b<=40)(w:LN)(hs:zbL w.length)(hwl:w.length<=131072)(hw:WB w)(a:Int)(name:LN)(hnl:name.length<9223372036854775808):FN ET 17 [wv p w,zbZ b d,iv a,.str name] (zeF w b d a name):=by
 have hA:=zu4 p b d h w hs hw a name hnl;have hln:=ztJ w b d a name hwl;have hno:=zv6 (w:=w) (b:=b) (d:=d) (a:=a) (name:=name);have hI:=zun 0 (zcL w b d a name).1 name (by unfold zbL;omega);refine zfn (eG T17 func17) (Lb.three (Lb.ent _) (.bool _) (.int _ _)) ?_;unfold zBl at hA;unfold zeF zfN;generalize zcL w b d a name=L at *
 obtain⟨l,no⟩:=L;dsimp only at *
 unfold zbZ zde at *
 refine zMG hA ?_;refine zM hI ?_;rcases zpC (zdV name) l with⟨e1,e2⟩|⟨i,x,e1,e2,e3,e4⟩
 .rw[e1,e2];dsimp only;refine zB ?_
  by_cases h0:no=0
  .subst h0;refine zS ?_;refine zO ?_;exact zLF
  .have g:¬(no:Int)=0:=zo;refine zSF g ?_;refine zO ?_;exact zLF
 .rw[e1,e4];dsimp only;have h0:no=0:=by
   cases Nat.decEq no 0 with
   | isTrue h=>exact h
   | isFalse h=>grind
  subst h0;have g1:¬(i:Int)<0:=zo;have hxv:(l.map zcR)[i]?=some (zcR x):=zmg e2;refine zB ?_;refine zh3 g1 ?_;refine zOF (zr2 hxv e3) ?_;exact zLF


theorem f47:ET.funcs.get 47=some T47:=eG _ func47
theorem f16:ET.funcs.get 16=some T16:=zkJ func16
theorem zEM(x:zcB):Id0 (zcR x):=.agg fun v hv=>by
 simp at hv;rcases hv with rfl|rfl|rfl|rfl
 .exact .int _ _
 .exact .int _ _
 .exact .int _ _
 .exact .str _
theorem zuN(hl:zbL l.length)(g:Nat)(caps:LQ)(hc:∀v∈caps,Id0 v)(pr:zcB->Bool)(hg:∀x∈l,FN ET g (zcR x::caps) (.ret (.bool (pr x)))):FR 134 [esv p l,.fn g caps] (iv (zfV pr l)):=by
 refine zfn (eG T134 func134) (.int _ _) ?_;refine zG ?_;refine zay (zbE (fun m s=>∃i:Nat,m=l.length-i/\i<=l.length/\l.findIdx? pr=((l.drop i).findIdx? pr).map (· + i)/\s.tm 0=esv p l/\s.tm 1=.fn g caps/\s.tm 7=iv l.length/\s.tm 8=iv i/\s.df=[]/\s.H=[]) (n:=l.length) ?_ ?_)
 .exact⟨0,by simp[upd,zD]⟩
 .rintro m ⟨tm,df,H⟩ ⟨i,rfl,hi,hf,h0,h1,h7,h8,rfl,rfl⟩;dsimp only at *
  refine zLh (zr4 h0 h1 h7 h8) ?_ ?_
  .intro hlt;have hlt:i<l.length:=ztd hlt;have hv:(l.map zcR)[i]?=some (zcR l[i]):=by rw[zAT9,zAA9 hlt];rfl
   refine zbG (zay ?_);refine zGF h8 ?_;refine zIF (zr4 h0 h1 hv hlt) ?_;refine zdq (caps:=caps) (vs:=[zcR l[i]]) rfl ?_ (hg _ (zBJ9 hlt)) (zoD _ (fun v hv=>?_)) ?_
   .simp only[go_sem,h1]
   .rcases zAX9.1 hv with rfl|hv
    .exact zEM _
    .exact hc v hv
   refine zN ?_;rw[zAK9 hlt,zED9]at hf;refine zfc ?_ ?_
   .intro hb;have hb:pr l[i]=true:=hb;refine zO ?_;rw[if_pos hb]at hf;exact zbo.int (by simp[zfV,hf])
   .intro hb;have hb:pr l[i]=false:=hb;refine zbX ?_;refine zJF h8 ?_;refine⟨_,?_,i+1,rfl,hlt,?_,zu h0,zu h1,zu h7,zt,zt,zt⟩
    .omega
    .rw[hf,hb]
     cases (l.drop (i+1)).findIdx? pr with
     | none=>rfl
     | some j=>simp;omega
  .intro hlt;have hlt:¬i<l.length:=zfd hlt;obtain rfl:i=l.length:=zo;rw[zBH9]at hf;refine zO ?_;exact zbo.int (by simp[zfV,hf])
def zmB(pr:zcB->Bool)(l:AT):FE:=match l.find? pr with
 | some x=>.ret (.tuple [zcR x,.bool true])
 | none=>.ret (.tuple [zcR zE,.bool false])
theorem zpQ(hl:zbL l.length)(g:Nat)(caps:LQ)(hc:∀v∈caps,Id0 v)(pr:zcB->Bool)(hg:∀x∈l,FN ET g (zcR x::caps) (.ret (.bool (pr x)))):FN ET 87 [esv p l,.fn g caps] (zmB pr l):=by
 have hI:=zuN p l hl g caps hc pr hg;refine zfn (eG T87 func87) ?_ ?_
 .unfold zmB;split
  .exact Lb.two (Lb.ent _) (.bool _)
  .exact Lb.two (Lb.ent _) (.bool _)
 unfold zmB;refine zGI ?_;refine zdq (caps:=[]) (vs:=[esv p l,.fn g caps]) rfl ?_ hI ?_ ?_
 .simp only[go_sem]
 .exact zoD _ fun v hv=>by
   rcases zAX9.1 hv with rfl|hv
   .exact .list _ _ _
   .obtain rfl:=zBI9.1 hv;exact .fn hc
 refine zN ?_;rcases zpC pr l with⟨e1,e2⟩|⟨i,x,e1,e2,e3,e4⟩
 .rw[e1,e2];refine zTH ?_;refine zO ?_;exact zLF
 .rw[e1,e4];have g1:(0:Int)<=i:=zo;have hxv:(l.map zcR)[i]?=some (zcR x):=zmg e2;refine zSF g1 ?_;refine zOF (zr2 hxv e3) ?_;exact zLF
theorem zu1(x:zcB):FR 88 [zcR x,.elem [.str name]] (.bool (zdV name x)):=by
 refine zfn (eG T88 func88) (.bool _) ?_;unfold zdV;refine zO ?_;exact Frz.bool _
theorem zBs{w:LN}{b:Nat}{a:Int}(hd:zf9 w.length 28 a=true):zpO w b a=if(zdT w b 28 a).2=0 then .ret (esv 0 (zdT w b 28 a).1)else .panic (zce ((zdT w b 28 a).2:Nat)):=by
 unfold zpO zdT
 grind
def zgb(w:LN)(b:Nat)(a:Int)(name:LN):FE:=if(zcL w b 28 a name).2=0 then match(zcL w b 28 a name).1.find? (zdV name)with
  | some x=>.ret (.tuple [esv 0 (zcL w b 28 a name).1,zcR x,.bool true])
  | none=>.ret (.tuple [esv 0 (zcL w b 28 a name).1,zcR zE,.bool false])
 else .panic (zce ((zcL w b 28 a name).2:Nat))
theorem zAs(b:Nat)(a:Int)(name:LN):LbE (zgb w b a name):=by
 unfold zgb
 split
 .split
  .exact Lb.three (Lb.esv _) (Lb.ent _) (.bool _)
  .exact Lb.three (Lb.esv _) (Lb.ent _) (.bool _)
 .exact .iface (.int _ _)
theorem zuJ(h:1<=b/\b<=40)(w:LN)(hs:zbL w.length)(hw:WB w)(a:Int)(hd:zf9 w.length 28 a=true)(name:LN):FN ET 47 [zht p w b a,.str name] (zgb w b a name):=by
 obtain⟨_,hwl,_,_⟩:=zlk.1 hd;have hc:=zkg name;have hl:=zyn p b h w hwl hw hs a;rw[zBs hd]at hl;have hlb:=zAs w b a name
 by_cases hn:zbW name=0
 rotate_left
 .have hE:zgb w b a name=.panic (zce (zbW name:Nat)):=by unfold zgb zcL;rw[if_pos hd,if_neg hn,if_neg hn]
  rw[hE]at hlb⊢;have g:¬(zbW name:Int)=0:=fun h=>hn (Int.ofNat.inj h);refine zfn f47 hlb ?_;refine zGI ?_;refine zca hc ?_;refine zfx ?_;refine zcx (zql _ g) ?_;exact zb2 rfl
 have hA:zcL w b 28 a name=zdT w b 28 a:=by unfold zcL;rw[if_pos hd,if_pos hn]
 rw[hn]at hc;have hln:=zmp w b 28 a zo;unfold zgb at hlb⊢;rw[hA]at hlb⊢;generalize zdT w b 28 a=L at *
 obtain⟨l,no⟩:=L;dsimp only at *
 by_cases h0:no=0
 rotate_left
 .rw[if_neg h0]at hl hlb⊢;refine zfn f47 hlb ?_;refine zGI ?_;refine zca hc ?_;refine zfx ?_;refine zCN zno ?_;refine zI ?_;refine zcx hl ?_;exact zb2 rfl
 rw[if_pos h0]at hl hlb⊢;have hF:=zpQ 0 l (by unfold zbL;omega) 88 [.elem [.str name]] (fun v hv=>by obtain rfl:=zBI9.1 hv;exact .elem _) (zdV name) (fun x _=>zu1 name x);refine zfn f47 hlb ?_;refine zGI ?_;refine zca hc ?_;refine zfx ?_;refine zCN zno ?_;refine zM hl ?_;unfold zmB at hF;refine zB ?_
 cases hf:l.find? (zdV name)with
 | none =>
  rw[hf]at hF;dsimp only at hF;refine zI ?_;refine zdq (caps:=[]) (vs:=[esv 0 l,.fn 88 [.ptr 1 0 0 0 1]]) rfl ?_ hF ?_ ?_
  .simp only[go_sem]
  .refine⟨.list _ _ _,Frz.fnL ⟨.ptr (w:=.str name) rfl (zAC9 _) rfl fun j x y hx hy=>?_,trivial⟩,trivial⟩
   cases j with
   | zero=>simp[PV.cells]at hx hy;subst hx;subst hy;exact Frz.str _
   | succ j=>simp at hy
  refine zN ?_;refine zBd ?_;refine zb3 hl ?_;refine zQF hl ?_;refine zbK (zfr ?_);exact zLF
 | some x =>
  rw[hf]at hF;dsimp only at hF;refine zI ?_;refine zdq (caps:=[]) (vs:=[esv 0 l,.fn 88 [.ptr 1 0 0 0 1]]) rfl ?_ hF ?_ ?_
  .simp only[go_sem]
  .refine⟨.list _ _ _,Frz.fnL ⟨.ptr (w:=.str name) rfl (zAC9 _) rfl fun j x y hx hy=>?_,trivial⟩,trivial⟩
   cases j with
   | zero=>simp[PV.cells]at hx hy;subst hx;subst hy;exact Frz.str _
   | succ j=>simp at hy
  refine zN ?_;refine zBd ?_;refine zb3 hl ?_;refine zQF hl ?_;refine zbK (zfr ?_);exact zLF


theorem f18:ET.funcs.get 18=some T18:=zkJ func18


theorem f59:ET.funcs.get 59=some T59:=eG _ func59
def zmP(w:LN)(b:Nat)(a:Int)(name:LN):FE:=if(zcL w b 28 a name).2=0 then match(zcL w b 28 a name).1.find? (zdV name)with
  | some x=>.ret (.tuple [esv 0 (zcL w b 28 a name).1,zcR x])
  | none=>.panic (zce 5)
 else .panic (zce ((zcL w b 28 a name).2:Nat))
theorem zyg(b:Nat)(a:Int)(name:LN):LbE (zmP w b a name):=by
 unfold zmP
 split
 .split
  .exact Lb.two (Lb.esv _) (Lb.ent _)
  .exact .iface (.int _ _)
 .exact .iface (.int _ _)
theorem zwk(h:1<=b/\b<=40)(w:LN)(hs:zbL w.length)(hw:WB w)(a:Int)(hd:zf9 w.length 28 a=true)(name:LN):FN ET 59 [zht p w b a,.str name] (zmP w b a name):=by
 have hl:=zuJ p b h w hs hw a hd name;have hlb:=zyg w b a name;unfold zmP at hlb⊢;unfold zgb at hl;generalize zcL w b 28 a name=L at *
 obtain⟨l,no⟩:=L;dsimp only at *
 by_cases h0:no=0
 rotate_left
 .rw[if_neg h0]at hl hlb⊢;refine zfn f59 hlb ?_;refine zGI ?_;refine zcx hl ?_;exact zb2 rfl
 rw[if_pos h0]at hl hlb⊢
 cases hf:l.find? (zdV name)with
 | none =>
  rw[hf]at hl hlb;dsimp only at hl hlb⊢;refine zfn f59 hlb ?_;refine zMG hl ?_;refine zI ?_;refine zcx (ze5 5) ?_;exact zb2 rfl
 | some x =>
  rw[hf]at hl hlb;dsimp only at hl hlb⊢;refine zfn f59 hlb ?_;refine zMG hl ?_;refine zM (zfF 5) ?_;refine zBd ?_;refine zb3 hl ?_;refine zQF hl ?_;refine zbK (zfr ?_);exact zLF


def zdz(left:Nat)(w:LN)(x:Pr):LK×Nat :=
 if zcn left w x=0 then(if sIs (zbQ left w) x.1=true then([(2*zdS (zbQ left w) x.1+1,x.2)],0)else([],5))else([],zcn left w x)
def zhy(w:LN)(x:Pr):LK×Nat:=if zeI w x=0 then(zdK (zdz (w.getD 3 0) (w.drop 8) x).1,(zdz (w.getD 3 0) (w.drop 8) x).2)else([],zeI w x)
theorem zka{left:Nat}{w:LN}{x:Pr}:(zdz left w x).1.length<=1/\((zdz left w x).2=0->(zdz left w x).1.length=1/\∀y∈(zdz left w x).1,y.1<w.length)/\(¬(zdz left w x).2=0->(zdz left w x).1=[]):=by
 unfold zdz
 by_cases hp:zcn left w x=0
 rotate_left
 .rw[if_neg hp];exact⟨by simp,fun h=>absurd h hp,fun _=>rfl⟩
 rw[if_pos hp]
 by_cases hs:sIs (zbQ left w) x.1=true
 rotate_left
 .rw[if_neg hs];exact⟨by simp,fun h=>by simp at h,fun _=>rfl⟩
 rw[if_pos hs];have hf:=zEG hs;have hraw:(zbQ left w).length<=w.length/2:=by
  have:=zlf w 0 left;have h2:=congrArg List.length (zf0 w 0 left);rw[zAW9]at h2;omega
 exact⟨by simp,fun _=>⟨rfl,fun y hy=>by simp at hy;subst hy;dsimp only;omega⟩,fun h=>absurd rfl h⟩
theorem zuu(w:LN)(x:Pr)(hw:w.length<1000000):FR 178 [uv left,wv p w,pv x] (zed (zdz left w x)):=by
 refine zfn (eG T178 func178) (zeT _) ?_;have hP:=zrO p left w x hw;have hRd:=ziN p left w hw;refine zMG hP ?_;unfold zdz
 by_cases hp0:zcn left w x=0
 rotate_left
 .have g:¬(zcn left w x:Int)=0:=zo;rw[if_neg hp0];refine zSF g ?_;refine zO ?_;exact zLF
 have g:(zcn left w x:Int)=0:=zo;rw[if_pos hp0];refine zTF g ?_;refine zSk ?_;obtain⟨hr,hck⟩:=zkD hp0;have hLl:=zpd hr;clear g hP;generalize zbQ left w=L at *
 have hF:=zxm 0 x.1 L zo;have hfl:=ztk L x.1;refine zM hRd ?_;refine zM hF ?_;generalize zdS L x.1=i at *
 by_cases his:sIs L x.1=true
 rotate_left
 .rw[if_neg his];have his:sIs L x.1=false:=by simpa using his
  rw[his];refine zS ?_;refine zO ?_;exact zLF
 rw[if_pos his,his];refine zT ?_;refine zSk ?_;have w2:IntKind.i64.wrap (2*(i:Int))=((2*i:Nat):Int):=zwi;have w3:IntKind.i64.wrap (((2*i:Nat):Int)+1)=((2*i+1:Nat):Int):=zwi;refine zOF (zr2 w2 w3) ?_;refine Frz.tL ⟨?_,.int _ _,trivial⟩;exact Frz.wh rfl rfl (by simp) (by simp) zmm zfT
theorem zut(hw:zbL w.length):FR 119 [wv p w,pv x] (zed (zhy w x)):=by
 refine zfn (eG T119 func119) (zeT _) ?_;have hC:=zuo p w x hw;unfold zhy
 by_cases hc:zeI w x=0
 rotate_left
 .rw[if_neg hc];have g:¬(zeI w x:Int)=0:=zo;generalize zeI w x=c at *
  refine zMG hC ?_;refine zSF g ?_;refine zO ?_;exact zLF
 rw[if_pos hc];rw[hc]at hC;have hwl:=zxq (ztn hc);have hP:=zuu p (w.getD 3 0) (w.drop 8) x (by rw[zBP9];omega);obtain⟨s1,s2,s3⟩:=zka (left:=w.getD 3 0) (w:=w.drop 8) (x:=x);have hd8:List.drop 8 (List.map uv w)=(w.drop 8).map uv:=by rw[zBZ9]
 have hdl:(w.drop 8).length=56:=by rw[zBP9];omega
 have hle8:8<=w.length:=zo;have c3:3<w.length:=zo;have z3:=zdZ c3;generalize w.getD 3 0=a3 at *
 generalize zdz a3 (w.drop 8) x=r at *
 obtain⟨L,no⟩:=r;dsimp only at hP s1 s2 s3⊢;have hM:=zwV 0 L zo (fun y hy=>by
  by_cases hn:no=0
  .have:=(s2 hn).2 y hy;omega
  .rw[s3 hn]at hy;cases hy)
 refine zMG hC ?_;refine zT ?_;refine zSk ?_;refine zBd ?_;refine zcw (zr4 c3 z3 hd8 hle8) hP ?_;refine zQF hwl ?_;refine zI ?_;refine zca hM ?_;refine zP ?_;exact zLF


theorem zrS(q:Pr):FR 258 [pv q,.elem [uv x.1,uv x.2]] (.bool (decide (q.2=x.2))):=by
 refine zfn (eG T258 func258) (.bool _) ?_
 by_cases h:q.2=x.2
 .have g:(q.2:Int)=x.2:=zo;refine zOF g ?_;exact zbo.bool (decide_eq_true h).symm
 .have g:¬(q.2:Int)=x.2:=zo;refine zOF g ?_;exact zbo.bool (decide_eq_false h).symm
theorem zAf(l:LK)(x:Nat):(l.any fun q=>decide (q.2=x))=zeU l x:=by
 unfold zeU
 induction l with
 | nil=>rfl
 | cons a l ih=>simp only[zGM9,zBX9,zGG9,ih];congr 1;by_cases h:a.2=x<;>grind
def zha(left:Nat)(w:LN)(x:Pr):FE:=if zcn left w x=0 then .ret (.tuple [psv 0 (zbQ left w),iv (zdS (zbQ left w) x.1:Nat),.bool (sIs (zbQ left w) x.1)])else .panic (zce (zcn left w x:Nat))
theorem zth{i:Nat}{x:Pr}{lab:Nat}(h:zbh H i 0 0=some (pv x)):Frz H lab (.ptr i 0 0 0 2) (.elem [uv x.1,uv x.2]) :=
 .ptr (w:=pv x) h (zAC9 _) rfl fun j a b hx hy=>by
  match j with
  | 0=>simp[PV.cells]at hx hy;subst hx;subst hy;exact Frz.int _ _
  | 1=>simp[PV.cells]at hx hy;subst hx;subst hy;exact Frz.int _ _
  | j+2=>simp at hy
theorem zvd(w:LN)(x:Pr)(hw:zbL w.length):FN ET 203 [ziG p w left,pv x] (zha left w x):=by
 have hR:=zoh p w left hw;have hs:=zpv p w left hw;refine zfn (eG T203 func203) ?_ ?_
 .unfold zha;split
  .exact Lb.three (Lb.pvs _) (.int _ _) (.bool _)
  .exact .iface (.int _ _)
 have bad:(zcb left w.length && !decide (x.2=0) && !decide (x.2=left))=false->zha left w x=.panic (zce (2:Nat)):=fun h=>by
  have:zcn left w x=2:=by unfold zcn;rw[h];rfl
  unfold zha;rw[this];rfl
 refine zGI ?_;refine zca hR ?_
 by_cases hr:zcb left w.length=true
 rotate_left
 .have hr:zcb left w.length=false:=by simpa using hr
  rw[hr];refine zfx ?_;refine zcx (ze4 2) ?_;rw[bad (by rw[hr];rfl)];exact zb2 rfl
 rw[hr]
 by_cases h0:x.2=0
 .have g0:(x.2:Int)=0:=zo;refine zbV g0 ?_;refine zcx (ze4 2) ?_;rw[bad (by rw[hr,h0];rfl)];exact zb2 rfl
 have g0:¬(x.2:Int)=0:=zo
 by_cases h1:x.2=left
 .have g1:(x.2:Int)=left:=zo;have g0':¬(left:Int)=0:=zo;refine zbV (zr3 g0 g0' g1) ?_;refine zcx (ze4 2) ?_;rw[bad (by rw[hr,decide_eq_true h1];simp)];exact zb2 rfl
 have g1:¬(x.2:Int)=left:=zo;refine zbV (zr2 g0 g1) ?_;refine zCN (zg1 2) ?_;have hb0:(zcb left w.length && !decide (x.2=0) && !decide (x.2=left))=true:=by rw[hr,decide_eq_false h0,decide_eq_false h1];rfl
 have hpn:zcn left w x=if(decide (zcs left w=0)&&zeU (zbQ left w) x.2)=true then 2 else zcs left w:=by unfold zcn;rw[if_pos hb0]
 by_cases h2:zdt left w=true
 rotate_left
 .have he:zd0 left w=.panic (zce 190):=by simp[zd0,hr,h2]
  have hC:zcs left w=190:=by simp[zcs,hr,h2]
  have hp:zcn left w x=190:=by rw[hpn,hC];rfl
  have hE:zha left w x=.panic (zce (190:Nat)):=by unfold zha;rw[hp];rfl
  rw[he]at hs;refine zI ?_;refine zcx hs ?_;rw[hE];exact zb2 rfl
 have he:zd0 left w=.ret (psv 0 (zcr left w)):=by simp[zd0,hr,h2]
 have hC:zcs left w=0:=by simp[zcs,hr,h2]
 have hRd:zcr left w=zbQ left w:=by unfold zcr;rw[if_pos hr]
 have h28:=zff left w;have hset:=h2;unfold zdt at hset;simp only[zAI9,decide_eq_true_eq]at hset;obtain⟨⟨⟨⟨hri,_⟩,_⟩,hmany⟩,_⟩:=hset;rw[hRd]at he h28 hri;rw[he]at hs;have hcs:=zkK 0 (zbQ left w) (by unfold zbL;omega) 258 [.elem [uv x.1,uv x.2]] (fun v hv=>by obtain rfl:=zBI9.1 hv;exact .elem _) (fun q=>decide (q.2=x.2)) (fun q _=>zrS x q);rw[zAf]at hcs;have hpl:=zuy 0 (zbQ left w) x.1 hri zo;rw[hC]at hpn;have hEq:zha left w x=if zeU (zbQ left w) x.2=true then .panic (zce (2:Nat))else .ret (.tuple [psv 0 (zbQ left w),iv (zdS (zbQ left w) x.1:Nat),.bool (sIs (zbQ left w) x.1)]):=by
  unfold zha;rw[hpn]
  by_cases hh:zeU (zbQ left w) x.2=true
  .rw[hh];rfl
  .have hh:zeU (zbQ left w) x.2=false:=by simpa using hh
   rw[hh];rfl
 rw[hEq];clear bad hEq he hpn hb0 hR h2 hC hRd hmany;generalize hh:zeU (zbQ left w) x.2=hb at *
 generalize zbQ left w=L at *
 generalize zdS L x.1=i at *
 generalize sIs L x.1=s at *
 refine zM hs ?_;refine zI ?_;refine zdq (caps:=[]) (vs:=[psv 0 L,.fn 258 [.ptr 1 0 0 0 2]]) rfl ?_ hcs ?_ ?_
 .simp only[go_sem]
 .exact⟨.list _ _ _,Frz.fnL ⟨zth rfl,trivial⟩,trivial⟩
 cases hb with
 | true =>
  refine zfx ?_;refine zcx (ze4 2) ?_;exact zb2 rfl
 | false =>
  refine zfx ?_;refine zCN (zg1 2) ?_;refine zM hpl ?_;refine zO ?_;exact zLF
theorem zBI(X:LP)(x:zc):FO ET 233 [.ptr 1 0 0 0 1] (x::.row 57 1 0 0 [.nilsl]::.row 38 1 0 0 [iv 0]::X) false fun e H'=>e=.ret (.tuple [])/\H'=x::.row 57 1 0 0 [.nilsl]::.row 38 1 0 0 [iv 0]::X:=by
 refine zro (eG T233 func233) ?_;refine zJ ?_;exact⟨[],rfl,rfl,rfl⟩
theorem zA6{left:Nat}{w:LN}{x:Pr}(h:zcn left w x=0):zdz left w x=if sIs (zbQ left w) x.1=true then([(2*zdS (zbQ left w) x.1+1,x.2)],0)else([],5):=by unfold zdz;rw[if_pos h]
theorem zwX(w:LN)(hw:w.length<1000000):FR 177 [uv left,wv p w,pv x] (zed (zdz left w x)):=by
 refine zfn (eG T177 func177) (zeT _) ?_;refine zGI ?_;refine zh1 (f:=201) (p:=.ptr 2 0 0 0 1) (cl:=.fn 233 [.ptr 1 0 0 0 1]) ?_ ?_ zD9 ?_
 .rfl
 .simp only[go_sem]<;>rfl
 refine zN ?_;have hc:=zvd p left w x (by unfold zbL;omega);have bad:∀(tm:Nat->PV) (n:Nat) (X:LP) (y:zc),zdz left w x=([],n)->tm 6=.ptr 1 0 0 0 1->tm 7=.ptr 2 0 0 0 1->zej ET T177 (fun e' H=>zbo H 0 e' (.ret (zed (zdz left w x)))) (.panic (zce n)) ⟨tm,[.caught (.ptr 2 0 0 0 1) (.fn 233 [.ptr 1 0 0 0 1])],y::.row 57 1 0 0 [.nilsl]::.row 38 1 0 0 [iv 0]::X⟩:=fun tm n X y hn h6 h7=>by
  refine⟨n,233,[.ptr 1 0 0 0 1],false,2,0,1,rfl,rfl,rfl,(zBI X y).mono fun e H he=>?_⟩;obtain⟨rfl,rfl⟩:=he;refine⟨rfl,_,rfl,[.nilsl,iv n],?_,?_⟩
  .simp[T177,xT,zbd,okv,h6,h7,zax,zbh,zbi,zav];rfl
  .rw[hn];exact zLF
 unfold zha at hc;refine zI ?_
 by_cases hp0:zcn left w x=0
 rotate_left
 .rw[if_neg hp0]at hc;refine zcx hc ?_;exact bad _ (zcn left w x) _ _ (by unfold zdz;rw[if_neg hp0]) rfl rfl
 rw[if_pos hp0]at hc;have hE:=zA6 hp0;obtain⟨hr,hck⟩:=zkD hp0;have hLl:=zpd hr;have hfl:=ztk (zbQ left w) x.1;refine zCN hc ?_
 cases hI:sIs (zbQ left w) x.1 with
 | false =>
  rw[hI]at hE;refine zI ?_;refine zcx (ze4 5) ?_;exact bad _ 5 _ _ hE rfl rfl
 | true =>
  rw[hI,if_pos rfl]at hE;clear bad hc;rw[hE];generalize zdS (zbQ left w) x.1=i at *
  generalize zbQ left w=P at *
  refine zM (zg1 5) ?_;have hp1:=zB6 i zo;have hput0:=FO.nil1 (H:=[]) 120 2 (zzC (H:=[.row 120 2 0 0 []]) (idL:=0) (g:=0) (M:=0) (k:=1) (L:=[]) (more:=[2*i+1,x.2]) (.inl rfl) rfl (by simp) rfl zy (fun j x hx=>by
   match j with
   | 0=>simp at hx;omega
   | j+1=>rw[zCF9 (by simp;omega)]at hx;cases hx))
  have hput:=FO.own1 (H:=[.row 92 2 0 0 [pv x],.row 57 1 0 0 [.nilsl],.row 38 1 0 0 [iv 0],.row 29 1 0 0 [uv (2*i+1:Nat),uv x.2]]) (args:=[.nilsl,.sl 3 0 0 2 4 1]) (l:=[zbP (2*i+1,x.2)]) (e0:=120) (z:=2) (n:=1) (hput0.mono fun e H' he=>⟨0,1,0,he.1,zAG9 _,he.2.2⟩) ⟨.nilsl,Frz.wh rfl rfl rfl (zAC9 _) (fun v hv=>by simp at hv;rcases hv with rfl|rfl<;>rfl) (fun v hv=>by simp[PV.cells]at hv;rcases hv with rfl|rfl<;>exact .int _ _),trivial⟩ (fun v hv=>by simp[PV.cells]at hv;rcases hv with rfl|rfl<;>exact⟨_,_,rfl⟩) (by simp);refine ziE (fun tm=>tm 5=.ptr 0 0 0 0 2/\tm 6=.ptr 1 0 0 0 1/\tm 7=.ptr 2 0 0 0 1/\tm 9=iv i) ⟨zt,zt,zt,by simp[upd]⟩ ?_;rintro tm ⟨h5,h6,h7,h9⟩;refine zbG ?_;refine zbU ?_;refine zcw (zr4 h5 h6 h7 h9) hp1 ?_;refine zxB (zr4 h5 h6 h7 h9) hput ?_;rintro e H' ⟨g,M,rfl,hM,rfl⟩;refine⟨_,by simp only[go_sem]<;>rfl,?_⟩;refine zb3 (zr4 h5 h6 h7 h9) ?_;refine zb3 (zr4 h5 h6 h7 h9) ?_;refine zQF h6 ?_;refine zbK ?_;refine⟨[.sl 4 g 0 1 2 2,iv 0],by simp[T177,xT,zbd,okv,upd,h6,h7,zax,zbh,zbi,zav,PV.cells],Frz.tL ⟨?_,.int _ _,trivial⟩⟩;exact Frz.wM rfl hM rfl (by simp) (by simp) zmm zfT


theorem zuZ(c:Nat)(hc:¬c=0)(hC:FR 197 [wv p w] (.tuple [zbJ 0 zeY,iv c])):FR 140 [wv p w,pv x] (iv (c:Nat)):=by
 refine zfn (eG T140 func140) (.int _ _) ?_;refine zMG hC ?_;have g:¬(c:Int)=0:=zo;refine zBb ?_;refine zSF g ?_;refine zO ?_;exact Frz.int _ _
theorem zuV(n:zZ)(hC:FR 197 [wv p w] (.tuple [zbJ 0 n,iv 0])):FR 140 [wv p w,pv x] (iv ((if zcD n x=true then 0 else 2:Nat))):=by
 refine zfn (eG T140 func140) (.int _ _) ?_;have hM:=zss 0 n x;refine zMG hC ?_;refine zBb ?_;refine zT ?_
 cases hm:zcD n x with
 | false =>
  rw[hm]at hM;refine zM hM ?_;refine zU ?_;exact Frz.int _ _
 | true =>
  rw[hm]at hM;refine zM hM ?_;refine zH ?_;refine zO ?_;exact Frz.int _ _
theorem zva(hw:zbL w.length):FR 140 [wv p w,pv x] (iv (zeI w x:Nat)):=by
 have hC:=zj4 p w hw;unfold zeI
 by_cases hc:zb4 w=0
 .rw[if_pos hc];rw[zvT w hc]at hC;exact zuV p w x _ hC
 .rw[if_neg hc];rw[zvF w hc]at hC;exact zuZ p w x _ hc hC
theorem zxo(w:LN)(hw:w.length<1000000):FR 176 [uv left,wv p w,.elem [uv x.1,uv x.2]] (zed (zdz left w x)):=by
 refine zfn (eG T176 func176) (zeT _) ?_;have h:=zwX p left x w hw;refine zGI ?_;refine zca h ?_;refine zP ?_;exact zLF
theorem zqe(w:LN)(hw:w.length=64):FR 141 [wv p w,iv 0,.fn 176 [.elem [uv x.1,uv x.2]]] (zed (zdK (zdz (w.getD 3 0) (w.drop 8) x).1,(zdz (w.getD 3 0) (w.drop 8) x).2)):=by
 refine zfn (eG T141 func141) (zeT _) ?_;have h3:(w.map uv)[3]?=some (uv (w.getD 3 0)):=by rw[zAT9,zAA9 zo,zAQ9,zAA9 zo];rfl
 have hd:List.drop 8 (w.map uv)=(w.drop 8).map uv:=by rw[zBZ9]
 have i3:3<w.length:=zo;have i8:8<=w.length:=zo;have hT:=zxo p (w.getD 3 0) x (w.drop 8) (by rw[zBP9];omega);have hdl:(w.drop 8).length=56:=by rw[zBP9];omega
 obtain⟨s0,s2,s3⟩:=zka (left:=w.getD 3 0) (w:=w.drop 8) (x:=x);generalize zdz (w.getD 3 0) (w.drop 8) x=S at *
 obtain⟨S,no⟩:=S;dsimp only at s0 s2 s3;refine zG ?_;refine zbU ?_;refine zcw (zr4 h3 hd i3 i8) hT ?_;refine zQF i3 ?_
 by_cases hno:no=0
 rotate_left
 .have g:¬(no:Int)=0:=zo;rw[s3 hno];refine zSF g ?_;refine zO ?_;exact zLF
 have g:(no:Int)=0:=zo;obtain⟨s1,s4⟩:=s2 hno;have hM:=zuF 0 S zo zo fun x hx=>by have:=s4 x hx;omega
 have hne:(zdK S).map zbP ≠ []:=fun h=>by
  have:=congrArg List.length h;rw[zAW9,ziM,zAP9]at this;omega
 have hM:=FO.own1 (H:=[]) (args:=[.list 0 2 (S.map zbP)]) hM ⟨.list _ _ _,trivial⟩ (zrj _) hne;have hml:=ziM S;generalize zdK S=N at *
 refine zTF g ?_;refine zSk ?_;refine zI ?_;refine zco hM ?_;rintro e H' ⟨gg,M,rfl,hM,rfl⟩;refine zN ?_;subst hno;refine zT ?_;refine zSk ?_;refine zO ?_;exact Frz.tL ⟨Frz.wM rfl hM rfl (by rw[zAW9,hml]) (by rw[zAW9,hml];exact zAC9 _) zmm zfT,.int _ _,trivial⟩
theorem zwQ(w:LN)(hw:w.length=64):FR 118 [wv p w,pv x] (zed (zhy w x)):=by
 refine zfn (eG T118 func118) (zeT _) ?_;have hC:=zva p w x (by unfold zbL;omega);have hX:=zqe p x w hw;unfold zhy;generalize zeI w x=c at *
 generalize zdz (w.getD 3 0) (w.drop 8) x=S at *
 refine zMG hC ?_
 by_cases hc:c=0
 rotate_left
 .have g:¬(c:Int)=0:=zo;rw[if_neg hc];refine zSF g ?_;refine zO ?_;exact zLF
 have g:(c:Int)=0:=zo;rw[if_pos hc];refine zTF g ?_;refine zSk ?_;refine zI ?_;refine zcl hX ?_ ?_;(repeat(first|exact trivial|refine And.intro ?_ ?_|exact .int _ _|exact .bool _|exact .list _ _ _|exact .elem _|exact .nilsl|exact .nil _ _|exact .str _|refine Frz.aggL ?_|refine Frz.fnL ?_|refine Frz.tL ?_|refine .iface ?_|exact zek rfl rfl (by assumption)))
 .exact zth rfl
 .exact trivial
 .exact trivial
 refine zP ?_;exact zLF


theorem zD7:znh T96.body=true:=by kernel_rfl
theorem zlJ(H:LP)(h1:FN ET 136 [wv p w,iv a,.list 0 1 []] (.panic (zce n))):FO ET 93 [wv p w,iv a,.nilsl] H false fun e H'=>e=.panic (zce n)/\H'=H:=by
 refine zro f93 ?_;refine zGI ?_;refine zue (caps:=[]) (vs:=[wv p w,iv a,.nilsl]) rfl ?_ h1 ?_ ?_
 .simp only[go_sem]
 .exact⟨.list _ _ _,.int _ _,.nil _ _,trivial⟩
 all_goals first|rfl|exact⟨rfl,rfl⟩
theorem zlK(H:LP)(h1:FR 136 [wv p w,iv a,.list 0 1 []] (.tuple []))(h2:FN ET 137 [wv p w,iv a] (.panic (zce n))):FO ET 93 [wv p w,iv a,.nilsl] H false fun e H'=>e=.panic (zce n)/\H'=H:=by
 refine zro f93 ?_;refine zGI ?_;refine zdq (caps:=[]) (vs:=[wv p w,iv a,.nilsl]) rfl ?_ h1 ?_ ?_
 .simp only[go_sem]
 .exact⟨.list _ _ _,.int _ _,.nil _ _,trivial⟩
 refine zN ?_;refine zI ?_;refine zcx h2 ?_
 all_goals first|rfl|exact⟨rfl,rfl⟩
theorem zuz(a:Nat)(T:LG)(H:LP)(h0:0<w.length)(hw:w.length<=131072)(h1:FR 136 [wv p w,iv a,.list 0 1 []] (.tuple []))(h2:FR 137 [wv p w,iv a] (zcW T)):
  FO ET 93 [wv p w,iv a,.nilsl] H false fun e H'=>∃id iW iP,e=.ret (.ptr id 0 0 0 5)/\Und H' id iW iP w [] .nilsl a/\zeM H H'/\H.length<=id/\H.length<=iW/\H.length<=iP:=by
 refine zro f93 ?_;have hc:=zxu p w H h0 hw;refine zGI ?_;refine zdq (caps:=[]) (vs:=[wv p w,iv a,.nilsl]) rfl ?_ h1 ?_ ?_
 .simp only[go_sem]
 .exact⟨.list _ _ _,.int _ _,.nil _ _,trivial⟩
 refine zN ?_;refine zM h2 ?_;refine zI ?_;refine zco hc ?_;rintro e H' ⟨rfl,rfl⟩;refine zN ?_;obtain⟨X,hX⟩:∃X,X=H++[zc.row 29 1 1 0 (w.map uv)]:=⟨_,rfl⟩
 refine zf8 120 2 (id:=X.length) (v:=.agg [.sl H.length 1 0 w.length (2*w.length) 1,.nilsl,.nilsl,iv 0,iv a]) (v':=.agg [.sl H.length 1 0 w.length (2*w.length) 1,.sl (X.length+1) 0 0 0 0 2,.nilsl,iv 0,iv a]) (by rw[hX];exact za _ _) rfl (zDv _ _ _ _ _ _ (by rw[hX];simp)) ?_;refine zbK ?_;refine zc8 (vs:=[.ptr X.length 0 0 0 5]) (by rw[hX];rfl) ?_;have hXl:X.length=H.length+1:=by rw[hX];simp
 have hX0:∀i o,H[i]?=some o->X[i]?=some o:=fun i o h=>by rw[hX];exact zbS h
 have hXw:X[H.length]?=some (.row 29 1 1 0 (w.map uv)):=by rw[hX];exact za _ _
 rw[<- hX];refine⟨X.length,H.length,X.length+1,rfl,⟨⟨0,0,0,?g1,?g2,zAG9 _,?g3,zAC9 _⟩,by omega,by omega,by omega⟩,?g4,by omega,zAC9 _,by omega⟩
 case g1=>exact zE3 _ _ _ _
 case g2=>exact zbS (get_set (zbS hXw) zo)
 case g3=>exact zEZ _ _ _ _
 case g4=>exact fun i o ho=>zbS (get_set (zbS (hX0 i o ho)) (by have:=(zAB9.1 ho).1;omega))
theorem zu7{a:PV}(h1:H[1]?=some (zjz a)):FO ET 117 [.ptr 1 0 0 0 1] H false fun e H'=>e=.ret (.tuple [])/\H'=H.set 1 (zjz .nilsl):=by
 refine zro (eG T117 func117) ?_;refine zJF h1 ?_;exact⟨[],rfl,rfl,rfl⟩
theorem zCv{R:PV}{tm:Nat->PV}{a b:PV}{n:Nat}(h1:H[1]?=some (zjz a))(h2:H[2]?=some (zh7 b))(t6:tm 6=.ptr 1 0 0 0 1)(t7:tm 7=.ptr 2 0 0 0 1)(hR:R=zed ([],n)):
  zej ET T66 (fun e' H=>zbo H 0 e' (.ret R)) (.panic (zce n)) ⟨tm,[.caught (.ptr 2 0 0 0 1) (.fn 117 [.ptr 1 0 0 0 1])],H⟩:=by
 refine⟨n,117,[.ptr 1 0 0 0 1],false,2,0,1,rfl,rfl,rfl,(zu7 h1).mono fun e H' he=>?_⟩;obtain⟨rfl,rfl⟩:=he;refine⟨rfl,?_⟩;have m1:=zAY9 (a:=zjz .nilsl) (zAB9.1 h1).1;have k2:(H.set 1 (zjz .nilsl))[2]?=some (zh7 b):=get_set h2 zy;obtain⟨H2,hH2⟩:∃H2,H2=H.set 1 (zjz .nilsl):=⟨_,rfl⟩
 rw[<- hH2]at m1 k2⊢;refine⟨⟨.tuple [],H2.set 2 (zh7 (iv n)),[2]⟩,by simp[zad,k2,PV.cells,spl],[.nilsl,iv n],?_,?_⟩
 .have i1:(H2.set 2 (zh7 (iv n)))[1]?=some (zjz .nilsl):=get_set m1 zy;have i2:(H2.set 2 (zh7 (iv n)))[2]?=some (zh7 (iv n)):=zAY9 (zAB9.1 k2).1;simp[T66,xT,zbd,okv,t6,t7,zax,zbh,zbi,zav,i1,i2,PV.cells]
 .rw[hR];exact zLF
theorem zuS(w ws:LN)(leaf:Nat)(tk:LK×Nat)(T0:LG)(R:LK×Nat)(hN:0<w.length/\w.length<=131072)(hn:n<w.length)(h82:FR 136 [wv p w,iv n,.list 0 1 []] (.tuple []))(h60:FR 137 [wv p w,iv n] (zcW T0))(hW:zsk w (w.getD n 0) x.1 ws)(hlf:ws[ws.length-1]?=some leaf)(hwl:0<ws.length/\ws.length<=20)(hin:64*leaf+64<=w.length)(htk:FR 118 [wv 1 (zbD w leaf),pv x] (zed tk))(hta:tk.1.length<=100/\∀s∈tk.1,s.1<64)(hR1:¬tk.2=0->tk.1=[]/\R=([],tk.2))(hR0:tk.2=0->R=(zcN (64*leaf) tk.1,0)):
  FR 66 [wv p w,iv n,pv x] (zed R):=by
 refine zfn (eG T66 func66) (zeT _) ?_;refine zGI ?_;refine zh1 (f:=91) (p:=.ptr 2 0 0 0 1) (cl:=.fn 117 [.ptr 1 0 0 0 1]) ?_ ?_ c35 ?_
 .rfl
 .simp only[go_sem]<;>rfl
 refine zN ?_;refine zI ?_;refine zco (zuz p w n T0 [.row 92 2 0 0 [pv x],zjz .nilsl,zh7 (iv 0)] hN.1 hN.2 h82 h60) ?_;rintro e H ⟨id,iW,iP,rfl,hU,hst,l1,l2,l3⟩;refine zN ?_;have b0:=hst 0 _ rfl;have b1:=hst 1 _ rfl;have b2:=hst 2 _ rfl;simp only[zAH9,zAP9]at l1 l2 l3;clear hst;refine ziE (fun tm=>tm 0=wv p w/\tm 1=iv n/\tm 5=.ptr 0 0 0 0 2/\tm 6=.ptr 1 0 0 0 1/\tm 7=.ptr 2 0 0 0 1/\tm 8=.ptr id 0 0 0 5) ⟨zt,zt,zt,zt,zt,by simp[upd]⟩ ?_;rintro tm ⟨h0,h1,h5,h6,h7,h8⟩;refine zIF (zr3 h5 h8 b0) ?_;refine zco (zBk hU x.1 ws hN.2 hn hW) ?_;rintro e H1 ⟨hst,io,g,rfl,hio⟩;refine zN ?_
 replace b0:=hst _ _ b0
 replace b1:=hst _ _ b1
 replace b2:=hst _ _ b2
 replace hU:=hU.other fun j _ o ho=>hst j o ho
 clear hst;have e1:(ws.length:Int)-1=((ws.length-1:Nat):Int):=zo;have e2:ws.length-1<ws.length:=zo;have hwv:(bfl ws)[ws.length-1]?=some (iv leaf):=by rw[zAT9,hlf];rfl
 refine zGF (zr4 hio e1 e2 hwv) ?_;refine ziE (fun tm=>tm 5=.ptr 0 0 0 0 2/\tm 6=.ptr 1 0 0 0 1/\tm 7=.ptr 2 0 0 0 1/\tm 8=.ptr id 0 0 0 5/\tm 10=iv leaf) ⟨zu h5,zu h6,zu h7,zu h8,by simp[upd]⟩ ?_;clear h0 h1 h5 h6 h7 h8;rintro tm ⟨h5,h6,h7,h8,h10⟩;obtain⟨⟨gP,MP,MW,u1,u2,u3,u4,u5⟩,n1,n2,n3⟩:=hU;refine zbU ?_;refine zxB (zr7 h5 h6 h7 h8 h10 u1 b0) (FO.pure f96 zD7 (zsH u2 u3 leaf hin hN.2)) ?_;rintro e H2 ⟨q,rfl,hq,rfl⟩;refine⟨_,by simp only[go_sem]<;>rfl,?_⟩;refine zlj (s1:=?_) (caps:=?_) (vs:=?_) (nm':=?_) ?_ ?_ rfl rfl ?_ ?_ htk ?_ ?_ ?_;rotate_left 4;(first|exact trivial|(simp only[go_sem,h5,h7,b0]));(simp(disch:=omega)only[go_sem,h5,h7,b0]<;>rfl);(first|rfl|(simp only[go_sem,h5,h7,b0]<;>rfl));(simp only[go_sem,h5,h7,b0]<;>rfl);exact⟨zqN u2 u3 leaf hin hq,Frz.aggL ⟨.int _ _,.int _ _,trivial⟩,trivial⟩;(simp only[go_sem,h5,h7,b0]<;>rfl);refine zb3 (zr3 h5 h7 b2) ?_;refine zQF h5 ?_;have hU:Und H2 id iW iP w [] .nilsl n:=⟨⟨gP,MP,MW,u1,u2,u3,u4,u5⟩,n1,n2,n3⟩
 have hU3:Und (H2.set 2 (zh7 (iv (tk.2:Nat)))) id iW iP w [] .nilsl n:=hU.box 2 _ zo zo zo;have c1:(H2.set 2 (zh7 (iv (tk.2:Nat))))[1]?=some (zjz .nilsl):=get_set b1 zy;have c2:(H2.set 2 (zh7 (iv (tk.2:Nat))))[2]?=some (zh7 (iv (tk.2:Nat))):=zAY9 (zAB9.1 b2).1;refine W_H fun H3 hH3=>?_;rw[<- hH3]at hU3 c1 c2;clear hH3 hU u1 u2 u3 u4 u5 b0 b1 b2 hio;refine ziE (fun tm=>tm 6=.ptr 1 0 0 0 1/\tm 7=.ptr 2 0 0 0 1/\tm 8=.ptr id 0 0 0 5/\tm 10=iv leaf/\tm 11=.list 0 2 (tk.1.map zbP)) ⟨zu h6,zu h7,zu h8,zu h10,by simp[upd]⟩ ?_;clear h5 h6 h7 h8 h10;rintro tm ⟨h6,h7,h8,h10,h11⟩
 by_cases ht:tk.2=0
 rotate_left
 .obtain⟨r1,r2⟩:=hR1 ht;rw[r1]at h11;refine zIF (zr5 h7 h8 h10 h11 c2) ?_;refine zco (zrU (H:=H3) id leaf tk.2 ht) ?_;rintro e H4 ⟨rfl,rfl⟩;exact zCv c1 c2 (by simp[zgY,upd,h6]) (by simp[zgY,upd,h7]) (by rw[r2])
 rw[hR0 ht];rw[ht]at c2;refine zIF (zr5 h7 h8 h10 h11 c2) ?_;refine zco (zsu hU3 leaf tk.1 (fun s hs=>by have:=hta.2 s hs;omega) zo hN.2 (by simp;omega)) ?_;rintro e H4 ⟨rfl,hU,hk⟩;refine zN ?_;have d1:=hk 1 _ (by simp;omega) c1;have d2:=hk 2 _ (by simp;omega) c2;rw[zAV9]at hU;obtain⟨⟨gP,MP,MW,u1,u2,u3,u4,u5⟩,n1,n2,n3⟩:=hU;generalize zcN (64*leaf) tk.1=L1 at *
 have k2:∀y,(H4.set 1 y)[2]?=_:=fun y=>get_set d2 zy;refine zGF (zr6 h6 h7 h8 u1 d1 k2) ?_;refine W_H fun H5 hH5=>?_;have i1:H5[1]?=some (zjz (.sl iP gP 0 L1.length (2*L1.length) 2)):=by rw[hH5];exact get_set (zAY9 (zAB9.1 d1).1) zy
 have i2:H5[2]?=some (zh7 (iv 0)):=by rw[hH5];exact zAY9 (zAB9.1 (k2 _)).1
 have u6:H5[iP]?=some (.row 120 2 gP MP (L1.map zbP)):=by rw[hH5];exact get_set (get_set u4 zo) zo
 clear hH5;refine zbK ?_;refine⟨[.sl iP gP 0 L1.length (2*L1.length) 2,iv 0],by simp[T66,xT,zbd,okv,upd,h6,h7,zax,zbh,zbi,zav,i1,i2,PV.cells],?_⟩;exact Frz.tL ⟨Frz.wM u6 u5 rfl (by rw[zAW9]) (by rw[zAW9];exact zAC9 _) zmm zfT,.int _ _,trivial⟩
theorem ziV(no:Nat)(h:∀H,FO ET 93 [wv p w,iv a,.nilsl] H false fun e H'=>e=.panic (zce no)/\H'=H):FR 66 [wv p w,iv a,pv x] (zed ([],no)):=by
 refine zfn (eG T66 func66) (zeT _) ?_;refine zGI ?_;refine zh1 (f:=91) (p:=.ptr 2 0 0 0 1) (cl:=.fn 117 [.ptr 1 0 0 0 1]) ?_ ?_ c35 ?_
 .rfl
 .simp only[go_sem]<;>rfl
 refine zN ?_;refine zI ?_;refine zco (h [.row 92 2 0 0 [pv x],zjz .nilsl,zh7 (iv 0)]) ?_;rintro e H ⟨rfl,rfl⟩;exact zCv rfl rfl (by simp[zgY,upd]) (by simp[zgY,upd]) rfl


theorem zzj(no:Nat)(hno:¬no=0)(hA:FR 100 [wv p w,iv a,.list 0 1 []] (iv (no:Nat))):FR 67 [wv p w,iv a,pv x] (zed ([],no)):=by
 refine zfn (eG T67 func67) (zeT _) ?_;have g:¬(no:Int)=0:=zo;refine zMG hA ?_;refine zSF g ?_;refine zO ?_;exact zLF
theorem zuT(w ws:LN)(leaf:Nat)(x0 x1:Wk)(tk:LK×Nat)(R:LK×Nat)(hN:w.length<=131072)(hx0:x0=⟨p,0,w,[],.nilsl,0⟩)(hA:FR 100 [wv p w,iv n,.list 0 1 []] (iv (0:Nat)))(hW:FR 101 [wv p w,iv n,uv x.1] (.list 0 1 (zEp ws)))(hwl:ws.length<=20)(hlf:ws[ws.length-1]?=some leaf)(hne:0<ws.length)(hin:64*leaf+64<=w.length)(htk:FR 119 [wv p (zbD w leaf),pv x] (zed tk))(hR1:¬tk.2=0->R=([],tk.2))(hR0:tk.2=0->R=(x1.L,0)/\FP ET 105 [wkv x0,iv (64*leaf:Nat),.list 0 2 (tk.1.map zbP)] (.ret (wkv x1))/\x1.q=0/\x1.fr=.nilsl):
  FR 67 [wv p w,iv n,pv x] (zed R):=by
 refine zfn (eG T67 func67) (zeT _) ?_;have hx0f:Id0 x0.fr:=by rw[hx0];exact .nilsl
 have hidx:Id0 (wkv x0):=zv1 hx0f;have hxv:wkv x0=.agg [wv p w,.list 0 2 [],.nilsl,iv 0]:=by rw[hx0];rfl
 have hxW:x0.W=w:=by rw[hx0]
 have hxp:x0.p=p:=by rw[hx0]
 have hat0:=zDY x0 hx0f leaf (by rw[hxW];exact hin) (by rw[hxW];exact hN);rw[hxp,hxW,hxv]at hat0;rw[hxv]at hidx hR0;have hlvv:(zEp ws)[ws.length-1]?=some (iv leaf):=by rw[zAT9,hlf];rfl
 have e1:(ws.length:Int)-1=((ws.length-1:Nat):Int):=zo;have e2:ws.length-1<ws.length:=zo;refine zMG hA ?_;refine zT ?_;refine zSk ?_;refine zM hW ?_;refine zGF (zr3 hlvv e1 e2) ?_;refine zBD 1 (v':=.agg [wv p w,.list 0 2 [],.nilsl,iv 0]) rfl rfl (zAQ p 0 w _) ?_;simp only[zCR9,zCS9];refine ziE (fun tm=>tm 5=.ptr 0 0 0 0 2/\tm 10=iv leaf/\tm 11=.ptr 1 0 0 0 4) ⟨zt,zt,by simp[upd,zD]⟩ ?_;rintro tm ⟨h5,h10,h11⟩;refine zBd ?_;refine zdf hat0 ⟨hidx,.int _ _,trivial⟩ ?_ (by simp(disch:=omega)only[go_sem,h5,h10,h11]<;>rfl);refine zcw (zr3 h5 h10 h11) htk ?_;refine zQF h5 ?_
 by_cases hok:tk.2=0
 rotate_left
 .rw[hR1 hok];have g1:¬((tk.2:Nat):Int)=0:=zo;refine zSF g1 ?_;refine zO ?_;exact zLF
 have g1:((tk.2:Nat):Int)=0:=zo;obtain⟨hR,hdo,hq,hfr⟩:=hR0 hok;have hx1v:wkv x1=.agg [wv x1.p x1.W,.list x1.q 2 (x1.L.map zbP),.nilsl,iv x1.used]:=by unfold wkv;rw[hfr]
 rw[hx1v,hq]at hdo
 have w4:IntKind.i64.wrap ((64:Int)*(leaf:Int))=((64*leaf:Nat):Int):=zwi;refine zTF g1 ?_;refine zSk ?_;refine zIF (zr3 h10 h11 w4) ?_;refine zrt (by first|rfl|(simp only[go_sem]<;>rfl)) (by simp only[go_sem]<;>rfl) hdo rfl ?_ ?_;(repeat(first|exact trivial|refine And.intro ?_ ?_|exact Id0.int _ _|exact Id0.bool _|exact Id0.list _ _ _|exact Id0.elem _|exact Id0.nilsl|exact Id0.str _|exact zwf _ _ _))
 .exact hidx
 .exact zId
 refine zN ?_;refine zO ?_;rw[hR];exact zLF


theorem zuC{w:LN}{x:Pr}(hw:w.length=64):(zhy w x).1.length<=1/\(∀s∈(zhy w x).1,s.1<64)/\(¬(zhy w x).2=0->(zhy w x).1=[]):=by
 unfold zhy
 by_cases hc:zeI w x=0
 rotate_left
 .rw[if_neg hc];exact⟨by simp,fun s hs=>by simp at hs,fun _=>rfl⟩
 rw[if_pos hc];obtain⟨h1,h2,h3⟩:=zka (left:=w.getD 3 0) (w:=w.drop 8) (x:=x);refine⟨by rw[ziM];exact h1,fun s hs=>?_,fun h=>by rw[h3 h];rfl⟩;unfold zdK at hs;obtain⟨y,hy,rfl⟩:=zAJ9.1 hs
 by_cases hz:(zdz (w.getD 3 0) (w.drop 8) x).2=0
 .have:=(h2 hz).2 y hy;rw[zBP9,hw]at this;dsimp only;omega
 .rw[h3 hz]at hy;cases hy
theorem zA1(hw:w.length<=3072)(n:Nat)(x:Pr):∃(L:LK) (no:Nat),(∀p,FR 66 [wv p w,iv n,pv x] (zed (L,no)))/\(∀p,FR 67 [wv p w,iv n,pv x] (zed (L,no)))/\L.length<=1/\∀s∈L,s.1<w.length:=by
 have hsm:zbL w.length:=by unfold zbL;omega
 have hA:∀p,FR 100 [wv p w,iv n,.list 0 1 []] (iv (zgy w n []:Nat)):=fun p=>zxx p 0 w n [] hsm zy;have h82:∀p,FN ET 136 [wv p w,iv n,.list 0 1 []] (zo9 w n []):=fun p=>zxV p 0 w n [] hsm zy;have h60:=fun p=>zup p w n hsm
 by_cases h0:zgy w n []=0
 rotate_left
 .refine⟨[],zgy w n [],fun p=>?_,fun p=>zzj p w n x _ h0 (hA p),zAG9 _,fun s hs=>by cases hs⟩;have h82:=h82 p;have h60:=h60 p;unfold zo9 at h82;unfold zjU at h60;unfold zgy zkx at h0⊢
  by_cases hr:zci w.length n=true
  rotate_left
  .rw[if_neg hr]at h82⊢;exact ziV p w n x 2 fun H=>zlJ p w n 2 H h82
  rw[if_pos hr]at h82 h60 h0⊢
  by_cases hf:zhh w (n:Int).toNat []=true
  rotate_left
  .rw[if_neg hf]at h82⊢;exact ziV p w n x 2 fun H=>zlJ p w n 2 H h82
  rw[if_pos hf]at h82 h0⊢;rw[if_pos hr]at h0⊢
  by_cases ht:(zbI w (n:Int).toNat).2=true
  rotate_left
  .rw[if_neg ht]at h60⊢;exact ziV p w n x 220 fun H=>zlK p w n 220 H h82 h60
  rw[if_pos ht]at h60 h0⊢
  by_cases hs:zgq w (zbI w (n:Int).toNat).1=true
  rotate_left
  .rw[if_neg hs]at h60⊢;exact ziV p w n x 220 fun H=>zlK p w n 220 H h82 h60
  grind
 obtain⟨n',frN,ws,hnn,hn2,h64,hN,hfr,ht,hset,hS⟩:=zCq x.1 h0;obtain rfl:n'=n:=zo;have hrB:zci w.length (n':Int)=true:=by
  unfold zgy at h0;split at h0
  all_goals omega
 have h82:∀p,FR 136 [wv p w,iv n',.list 0 1 []] (.tuple []):=fun p=>by
  have h:=h82 p;unfold zo9 at h;unfold zgy at h0
  grind
 have h60:∀p,FR 137 [wv p w,iv n'] (zcW (zbI w n').1):=fun p=>by
  have h:=h60 p;unfold zjU at h
  grind
 rw[h0]at hA;obtain⟨s1,s2,s3,s4,s5,s6,s7,s8,s9⟩:=hS;have hW:=fun p=>zAP p w n' x.1 ws hN hn2 s1;obtain⟨init,leaf,rfl⟩:=zyS s6;have hleaf:leaf∈init++[leaf]:=by simp
 have hin:64*leaf+64<=w.length:=by have:=s3 leaf hleaf;omega
 have hbl64:=zwe w leaf hin;have htk:=zwQ 1 x (zbD w leaf) hbl64;have htk2:=fun p=>zut p (zbD w leaf) x (by rw[hbl64];decide);obtain⟨t1,t2,t3⟩:=zuC (x:=x) hbl64;have hd:=fun(y:Wk) (hx:Id0 y.fr) (hxL:y.L=[]) (hxW:y.W=w)=>zyL y hx (64*leaf) 0 (zhy (zbD w leaf) x).1 (by rw[hxL];simp;omega) (by rw[hxW];omega) fun c hc=>by have:=t2 c hc;rw[hxW];omega
 generalize zhy (zbD w leaf) x=tk at *
 have hlast:(init++[leaf])[(init++[leaf]).length-1]?=some leaf:=by simp
 refine⟨if tk.2=0 then zcN (64*leaf) tk.1 else[],tk.2,fun p=>?_,fun p=>?_,?_,?_⟩
 .refine zuS p n' x w (init++[leaf]) leaf tk (zbI w n').1 _ ⟨by omega,hN⟩ hn2 (h82 p) (h60 p) s1 hlast ⟨by simp,by omega⟩ hin htk ⟨by omega,t2⟩ (fun h=>⟨t3 h,by rw[if_neg h]⟩) fun h=>by rw[if_pos h,h]
 .refine zuT p n' x w (init++[leaf]) leaf ⟨p,0,w,[],.nilsl,0⟩ ((⟨p,0,w,[],.nilsl,0⟩:Wk).does (zcN (64*leaf) tk.1)) tk _ hN rfl (hA p) (hW p) zo hlast (by simp) hin (htk2 p) (fun h=>by rw[if_neg h]) fun h=>?_;have h2:=zpk (zcN (64*leaf) tk.1) ⟨p,0,w,[],.nilsl,0⟩;refine⟨by rw[if_pos h,h,zyk];rfl,hd _ .nilsl rfl rfl,zyI _ _ rfl,h2.2.2.1⟩
 .split
  .rw[zAD];exact t1
  .exact zAG9 _
 .intro s hs
  split at hs
  .unfold zcN at hs;obtain⟨y,hy,rfl⟩:=zAJ9.1 hs;have:=t2 y hy;dsimp only;omega
  .cases hs


def zfL(m:Int)(x:zcB):Bool:=decide ((x.num:Int)=m)
theorem zsS(h1:1<=m)(h2:m<=64):FR 53 [zht p w b a,iv m] (.tuple []):=by
 refine zfn (eG T53 func53) Lb.unit ?_;refine zG ?_;refine zIF (zr2 h1 h2) ?_;refine zca (zfF 2) ?_;refine zK ?_;exact⟨[],rfl,Frz.tL trivial⟩
theorem zuf(h:¬(1<=m/\m<=64)):FN ET 53 [zht p w b a,iv m] (.panic (zce 2)):=by
 refine zfn (eG T53 func53) (.iface (.int _ _)) ?_;refine zG ?_
 by_cases h1:1<=m
 .have h2:¬m<=64:=fun h2=>h ⟨h1,h2⟩;refine zIF (zr2 h1 h2) ?_;refine zcx (ze5 2) ?_;exact zb2 rfl
 .refine zIF h1 ?_;refine zcx (ze5 2) ?_;exact zb2 rfl
theorem zwG(x:zcB):FR 90 [zcR x,.elem [iv m]] (.bool (zfL m x)):=by
 refine zfn (eG T90 func90) (.bool _) ?_;unfold zfL;refine zO ?_;exact Frz.bool _
theorem zxw(hl:zbL l.length)(m:Int):FN ET 54 [esv 0 l,iv m] (if(l.find? (zfL m)).isSome then .panic (zce 2)else .ret (.tuple [])):=by
 have hF:=zpQ 0 l hl 90 [.elem [iv m]] (fun v hv=>by obtain rfl:=zBI9.1 hv;exact .elem _) (zfL m) (fun x _=>zwG m x);unfold zmB at hF
 cases hf:l.find? (zfL m)with
 | none =>
  rw[hf]at hF;dsimp only at hF⊢;refine zfn (eG T54 func54) Lb.unit ?_;refine zGI ?_;refine zdq (caps:=[]) (vs:=[esv 0 l,.fn 90 [.ptr 0 0 0 0 1]]) rfl ?_ hF ?_ ?_
  .simp only[go_sem]
  .refine⟨.list _ _ _,Frz.fnL ⟨.ptr (w:=iv m) rfl (zAC9 _) rfl fun j x y hx hy=>?_,trivial⟩,trivial⟩
   cases j with
   | zero=>simp[PV.cells]at hx hy;subst hx;subst hy;exact Frz.int _ _
   | succ j=>simp at hy
  refine zN ?_;refine zI ?_;refine zca (zfF 2) ?_;refine zK ?_;exact⟨[],rfl,Frz.tL trivial⟩
 | some x =>
  rw[hf]at hF;dsimp only at hF⊢;refine zfn (eG T54 func54) (.iface (.int _ _)) ?_;refine zGI ?_;refine zdq (caps:=[]) (vs:=[esv 0 l,.fn 90 [.ptr 0 0 0 0 1]]) rfl ?_ hF ?_ ?_
  .simp only[go_sem]
  .refine⟨.list _ _ _,Frz.fnL ⟨.ptr (w:=iv m) rfl (zAC9 _) rfl fun j x y hx hy=>?_,trivial⟩,trivial⟩
   cases j with
   | zero=>simp[PV.cells]at hx hy;subst hx;subst hy;exact Frz.int _ _
   | succ j=>simp at hy
  refine zN ?_;refine zI ?_;refine zcx (ze5 2) ?_;exact zb2 rfl
@[reducible] def zli (x:zcB) (L:LK) (no:Nat):PV:=.tuple [zcR x,.list 0 2 (L.map zbP),iv no]
theorem zDK(x:zcB)(L:LK)(no:Nat):Lb (zli x L no):=Lb.three (Lb.ent _) (zh2 _) (.int _ _)
def zj6(F:zcB×Bool×Nat)(m:Int)(has:Bool)(L:LK)(no:Nat):FE:=if 1<=m/\m<=64 then(if F.2.2=0 then(if F.2.1=true then(if has=true then .ret (zli zE [] 2)else if no=0 then .ret (zli F.1 L 0)else .ret (zli zE [] no))else .ret (zli zE [] 5))else .ret (zli zE [] F.2.2))else .ret (zli zE [] 2)
theorem zvn(has:Bool)(L:LK)(no:Nat):LbE (zj6 F m has L no):=by
 unfold zj6
 repeat' split
 all_goals exact zDK _ _ _
theorem zCR(x:zc)(a b:PV)(c:zc)(G:LP)(ha:a.cells.length=4):FO ET 65 [.ptr 1 0 0 0 4,.ptr 2 0 0 0 1] (x::.row 47 4 0 0 [a]::.row 57 1 0 0 [b]::c::G) false fun e H'=>e=.ret (.tuple [])/\H'=x::.row 47 4 0 0 [zcR zE]::.row 57 1 0 0 [.nilsl]::c::G:=by
 refine zro (eG T65 func65) ?_;refine zJF ha ?_;exact⟨[],rfl,rfl,rfl⟩
theorem zrr(h:1<=b/\b<=40)(w:LN)(hs:zbL w.length)(hw:WB w)(n:Nat)(hd:zf9 w.length 28 n=true)(name:LN)(m:Int)(L:LK)(no:Nat)(hla:zbL (zcL w b 28 n name).1.length)(hT:∀x,1<=m/\m<=64->(zcL w b 28 n name).1.find? (zdV name)=some x->FR 66 [wv p w,iv n,pv (x.key,m.toNat)] (zed (L,no))):FN ET 30 [wv p w,zbZ b 28,iv n,.str name,iv m] (zj6 (zfN w b 28 n name) m ((zcL w b 28 n name).1.find? (zfL m)).isSome L no):=by
 refine zfn (eG T30 func30) (zvn _ _ _ _ _) ?_;have hof:=zCY p b h w hs n hd;have hl:=zwk p b h w hs hw n hd name;have hsp:=zxw (zcL w b 28 n name).1 hla m;unfold zmP at hl;have hno:=zv6 (w:=w) (b:=b) (d:=28) (a:=n) (name:=name);unfold zfN;generalize zcL w b 28 n name=A at *
 obtain⟨l,na⟩:=A;dsimp only at *
 unfold zbZ zde at hof⊢;refine zGI ?_;refine zh1 (f:=38) (p:=.ptr 3 0 0 0 1) (cl:=.fn 65 [.ptr 1 0 0 0 4,.ptr 2 0 0 0 1]) ?_ ?_ c38 ?_
 .rfl
 .simp only[go_sem]<;>rfl
 refine zN ?_;have bad:∀(e:FE) (tm:Nat->PV) (k:Nat) (x:zc) (a b:PV) (G:LP),a.cells.length=4->e=.ret (zli zE [] k)->tm 10=.ptr 1 0 0 0 4->tm 11=.ptr 2 0 0 0 1->tm 12=.ptr 3 0 0 0 1->zej ET T30 (fun e' H=>zbo H 0 e' e) (.panic (zce k)) ⟨tm,[.caught (.ptr 3 0 0 0 1) (.fn 65 [.ptr 1 0 0 0 4,.ptr 2 0 0 0 1])],x::.row 47 4 0 0 [a]::.row 57 1 0 0 [b]::.row 38 1 0 0 [iv 0]::G⟩:=fun e tm k x a b G ha he h10 h11 h12=>by
  refine⟨k,65,[.ptr 1 0 0 0 4,.ptr 2 0 0 0 1],false,3,0,1,rfl,rfl,rfl,(zCR _ _ _ _ _ ha).mono fun e H he=>?_⟩;obtain⟨rfl,rfl⟩:=he;refine⟨rfl,_,rfl,[zcR zE,.nilsl,iv k],?_,?_⟩
  .simp[T30,xT,zbd,okv,h10,h11,h12,zax,zbh,zbi,zav];rfl
  .rw[he];exact zLF
 refine zI ?_;refine zcp hof (hl:=⟨.list _ _ _,zt4 b,.int _ _,trivial⟩) ?_;refine zN ?_;unfold zj6
 by_cases hm:1<=m/\m<=64
 rotate_left
 .rw[if_neg hm];refine zI ?_;refine zcx (zuf p b w n m hm) ?_;exact bad _ _ 2 _ _ _ _ rfl rfl rfl rfl rfl
 rw[if_pos hm];refine zM (zsS p b w n m hm.1 hm.2) ?_
 by_cases hz:na=0
 rotate_left
 .rw[if_neg hz]at hl;obtain rfl:l=[]:=hno hz;refine zI ?_;refine zcx hl ?_;refine bad _ _ na _ _ _ _ rfl ?_ rfl rfl rfl;show (if na=0 then _ else _)=_;rw[if_neg hz];rfl
 rw[if_pos hz]at hl;subst hz
 cases hf:l.find? (zdV name)with
 | none =>
  rw[hf]at hl;dsimp only at hl⊢;refine zI ?_;refine zcx hl ?_;exact bad _ _ 5 _ _ _ _ rfl rfl rfl rfl rfl
 | some x =>
  rw[hf]at hl;have hT:=hT x hm hf;dsimp only at hl⊢;rw[if_pos rfl,if_pos rfl];refine zM hl ?_
  by_cases hh:(l.find? (zfL m)).isSome=true
  .rw[if_pos hh]at hsp⊢;refine zI ?_;refine zcx hsp ?_;exact bad _ _ 2 _ _ _ _ rfl rfl rfl rfl rfl
  rw[if_neg hh]at hsp⊢;refine zM hsp ?_;obtain⟨k,rfl⟩:∃k:Nat,m=k:=⟨m.toNat,by omega⟩
  rw[zCG9]at hT;have wk:IntKind.u64.wrap (k:Int)=(k:Int):=zwu;refine zIF wk ?_;refine zCN hT ?_
  by_cases hn:no=0
  rotate_left
  .have g:¬(no:Int)=0:=zo;rw[if_neg hn];refine zI ?_;refine zcx (zql no g) ?_;exact bad _ _ no _ _ _ _ rfl rfl rfl rfl rfl
  subst hn;rw[if_pos rfl];refine zM zno ?_;refine zBd ?_;refine zb3 hf ?_;refine zb3 hf ?_;refine zb3 hf ?_;refine zQF hf ?_;refine zbK ?_;exact⟨[zcR x,.list 0 2 (L.map zbP),iv 0],rfl,Frz.tL ⟨Frz.aggL ⟨.int _ _,.int _ _,.int _ _,.str _,trivial⟩,.list _ _ _,.int _ _,trivial⟩⟩


theorem f4:ET.funcs.get 4=some T4:=eG _ func4
theorem zwg(hn:∀s∈names,zbM s/\s.length<9223372036854775808)(hbe:∀x∈bent,LtU x.2):
  (∃(w:LN) (lay:PV) (fr:LQ),Id0 lay/\lay.cells.length=10/\(∃c,lay=.agg c/\c.length=10)/\FR 10 [.agg [.list q1 1 (zf3 names),iv bits,.list q2 2 (wdV bent)]] (.tuple [wv 0 w,lay,.list 0 1 fr,.bool false])) \/
  ∃(b:Nat) (w:LN) (fr:LM),bits=b/\(1<=b/\b<=40)/\znc ⟨names,b,bent⟩ b=some (w,fr,true)/\w.length=3072/\WB w/\fr.length<=20/\FR 10 [.agg [.list q1 1 (zf3 names),iv b,.list q2 2 (wdV bent)]] (.tuple [wv 0 w,zbZ b 28,.list 0 1 (fr.map iv),.bool true]):=by
 have hM:=zzz q1 q2 names bits bent hn hbe;unfold zoW at hM;dsimp only at hM
 by_cases hbits:1<=bits/\bits<=40
 rotate_left
 .rw[if_neg hbits]at hM;exact .inl ⟨[],layZ,[],zld,rfl,⟨_,rfl,rfl⟩,hM⟩
 rw[if_pos hbits]at hM;obtain⟨b,rfl⟩:∃b:Nat,bits=b:=⟨bits.toNat,by omega⟩
 rw[zCG9]at hM;have hb:1<=b/\b<=40:=zo
 cases ho:znc ⟨names,b,bent⟩ b with
 | none=>rw[ho]at hM;exact .inl ⟨[],zbZ b 28,[],zgi b 28,rfl,⟨_,rfl,rfl⟩,hM⟩
 | some r =>
  obtain⟨w,fr,c⟩:=r;rw[ho]at hM
  cases c with
  | false=>exact .inl ⟨w,zbZ b 28,fr.map iv,zgi b 28,rfl,⟨_,rfl,rfl⟩,hM⟩
  | true =>
   obtain⟨hwl,hw,hfr⟩:=zuU hb ho (fun s hs=>(hn s hs).1) hbe;exact .inr ⟨b,w,fr,rfl,hb,ho,hwl,hw,hfr,hM⟩


theorem zBL(hl:zbL l.length):FR 56 [esv p l,iv m] (.bool (l.find? (zfL m)).isSome):=by
 refine zfn (eG T56 func56) (.bool _) ?_;refine zG ?_;refine zay (zbE (fun k s=>∃i:Nat,k=l.length-i/\i<=l.length/\(l.find? (zfL m)).isSome=((l.drop i).find? (zfL m)).isSome/\s.tm 0=esv p l/\s.tm 1=iv m/\s.tm 5=iv i/\s.df=[]/\s.H=[]) (n:=l.length) ?_ ?_)
 .exact⟨0,by simp[upd,zD]⟩
 .rintro k ⟨tm,df,H⟩ ⟨i,rfl,hi,hc,h0,h1,h5,rfl,rfl⟩;dsimp only at h0 h1 h5;refine zLh (zr2 h0 h5) ?_ ?_
  .intro hlt;have hlt:i<l.length:=ztd hlt;obtain⟨q,hq⟩:=zex (l:=l) hlt;have hqv:(l.map zcR)[i]?=some (zcR q):=zmg hq;have hdr:l.drop i=q::l.drop (i+1):=zdc hq;rw[hdr,List.find?_cons]at hc;refine zBb ?_;refine zB ?_
   by_cases he:(q.num:Int)=m
   .rw[show zfL m q=true from decide_eq_true he]at hc;refine zB ?_;refine zbO (zr6 h0 h1 h5 hqv hlt he) ?_;refine zU ?_;exact zbo.bool (by rw[hc];rfl)
   .rw[show zfL m q=false from decide_eq_false he]at hc;refine zB ?_;refine zbO (zr6 h0 h1 h5 hqv hlt he) ?_;refine zH ?_;refine zJF h5 ?_;refine⟨_,?m,i+1,rfl,hlt,hc,zu h0,zu h1,zu h5,zt,zt⟩
    case m=>omega
  .intro hlt;have hlt:¬i<l.length:=zfd hlt;obtain rfl:i=l.length:=zo;refine zO ?_;exact zbo.bool (by rw[hc,zBH9];rfl)
theorem zp0(h:1<=b/\b<=40)(w:LN)(hs:zbL w.length)(hwl:w.length<=131072)(hw:WB w)(n:Nat)(hd:zf9 w.length 28 n=true)(name:LN)(hnl:name.length<9223372036854775808)(m:Int)(L:LK)(no:Nat)(hT:∀x,1<=m/\m<=64->(zcL w b 28 n name).1.find? (zdV name)=some x->FR 67 [wv p w,iv n,pv (x.key,m.toNat)] (zed (L,no))):FN ET 31 [wv p w,zbZ b 28,iv n,.str name,iv m] (zj6 (zfN w b 28 n name) m ((zcL w b 28 n name).1.find? (zfL m)).isSome L no):=by
 have hr:=zkb p b 28 h w hs n;rw[hd]at hr;have hF:=zw8 p b 28 h w hs hwl hw n name hnl;have hl:=zoN p b 28 h w hs hw n;unfold zeF at hF;unfold ziJ at hl;have hfr:∀x:zcB,(zfN w b 28 n name).2.1=true->(zfN w b 28 n name).1=x->(zcL w b 28 n name).1.find? (zdV name)=some x:=fun x h1 h2=>by
  unfold zfN at h1 h2
  split at h1
  .rename_i y hy;rw[hy]at h2;dsimp only at h2;rw[hy,h2]
  .cases h1
 have hAL:∀x:zcB,(zcL w b 28 n name).1.find? (zdV name)=some x->(zcL w b 28 n name).1=(zdT w b 28 n).1:=fun x hx=>by
  unfold zcL at hx⊢;rw[if_pos hd]at hx⊢
  split
  .rfl
  .rename_i hn;rw[if_neg hn]at hx;simp at hx
 have hL56:=zBL 0 (zdT w b 28 n).1 m (by have:=zmp w b 28 n hwl;unfold zbL;omega);generalize (zdT w b 28 n).1=ll at *
 generalize (zdT w b 28 n).2=ln at *
 refine zfn (eG T31 func31) (zvn _ _ _ _ _) ?_;unfold zj6;obtain⟨F,hFe⟩:∃F,zfN w b 28 n name=F:=⟨_,rfl⟩
 rw[hFe]at hF hfr⊢;obtain⟨x,is,nf⟩:=F;dsimp only at hF hfr⊢;unfold zbZ zde at hr hF hl⊢;refine zGI ?_;refine zca hr ?_
 by_cases hm:1<=m/\m<=64
 rotate_left
 .rw[if_neg hm]
  by_cases h1:m<1
  .refine zNF h1 ?_;refine zU ?_;exact zLF
  .have h2:(64:Int)<m:=zo;refine zNF (zr2 h1 h2) ?_;refine zU ?_;exact zLF
 rw[if_pos hm];have g1:¬m<1:=zo;have g2:¬(64:Int)<m:=zo;refine zNF (zr2 g1 g2) ?_;refine zH ?_;refine zMG hF ?_;refine zB ?_
 by_cases hz:nf=0
 rotate_left
 .have g:¬(nf:Int)=0:=zo;rw[if_neg hz];refine zh3 g ?_;refine zSF g ?_;refine zO ?_;exact zLF
 subst hz;rw[if_pos rfl]
 cases is with
 | false =>
  refine zS ?_;refine zS ?_;refine zO ?_;exact zLF
 | true =>
  have hx:=hfr x rfl rfl
  replace hT:=hT x hm hx
  rw[<- hAL x hx]at hl hL56;rw[if_pos rfl];generalize (zcL w b 28 n name).1=A at *
  refine zTH ?_;refine zTH ?_;refine zB ?_;refine zM hl ?_;refine zB ?_;refine zM hL56 ?_
  by_cases hh:(A.find? (zfL m)).isSome=true
  .rw[if_pos hh,hh];refine zU ?_;exact zLF
  have hhf:(A.find? (zfL m)).isSome=false:=by simpa using hh
  rw[if_neg hh,hhf];obtain⟨k,rfl⟩:∃k:Nat,m=k:=⟨m.toNat,by omega⟩
  rw[zCG9]at hT;have wk:IntKind.u64.wrap (k:Int)=(k:Int):=zwu;refine zH ?_;refine zIF wk ?_;refine zCN hT ?_;refine zB ?_
  by_cases hn:no=0
  .subst hn;rw[if_pos rfl];refine zTH ?_;refine zO ?_;exact zLF
  .have g:¬(no:Int)=0:=zo;rw[if_neg hn];refine zSF g ?_;refine zO ?_;exact zLF


theorem f9:ET.funcs.get 9=some T9:=eG _ func9
theorem zC0(has:Bool)(L:LK)(no:Nat):∃(X:zcB) (L':LK) (no':Nat),zj6 F m has L no=.ret (zli X L' no')/\L'.length<=L.length:=by
 unfold zj6
 repeat' split
 all_goals first|exact⟨_,_,_,rfl,zAC9 _⟩|exact⟨_,_,_,rfl,zAG9 _⟩
theorem zzM(hn:∀s∈names,zbM s/\s.length<9223372036854775808)(hbe:∀x∈bent,LtU x.2)(hnb:zbM name)(hnl:name.length<9223372036854775808):FR 9 [.agg [.list q1 1 (zf3 names),iv bits,.list q2 2 (wdV bent)],.str name,iv m] (.bool true):=by
 rcases zwg q1 q2 names bits bent hn hbe with⟨w,lay,fr,hil,hl10,⟨c,rfl,hc10⟩,hM⟩|⟨b,w,fr,rfl,hb,ho,hwl,hw,hfr,hM⟩
 .refine zfn f9 (.bool _) ?_;refine zGI ?_;refine zca hM ?_;refine zNF hc10 ?_;refine zS ?_;refine zI ?_;refine zca f11 ?_;refine zP ?_;exact Frz.bool _
 by_cases hl3:300<name.length
 .have g:(300:Int)<(name.length:Int):=zo;refine zfn f9 (.bool _) ?_;unfold zbZ zde at hM;refine zMG hM ?_;refine zSF g ?_;refine zI ?_;refine zca f11 ?_;refine zP ?_;exact Frz.bool _
 have g:¬(300:Int)<(name.length:Int):=zo;have hs:zbL w.length:=by unfold zbL;omega
 have hd:zf9 w.length 28 (600:Nat)=true:=zlk.2 ⟨rfl,hwl,by decide,by decide⟩;have hla:zbL (zcL w b 28 (600:Nat) name).1.length:=by have:=ztJ w b 28 (600:Nat) name zo;unfold zbL;omega
 obtain⟨L,no,h1,h2,hL⟩:∃(L:LK) (no:Nat),FN ET 30 [wv 0 w,zbZ b 28,iv (600:Nat),.str name,iv m] (zj6 (zfN w b 28 (600:Nat) name) m ((zcL w b 28 (600:Nat) name).1.find? (zfL m)).isSome L no)/\FN ET 31 [wv 0 w,zbZ b 28,iv (600:Nat),.str name,iv m] (zj6 (zfN w b 28 (600:Nat) name) m ((zcL w b 28 (600:Nat) name).1.find? (zfL m)).isSome L no)/\L.length<=1:=by
  cases hf:(zcL w b 28 (600:Nat) name).1.find? (zdV name)with
  | none=>exact⟨[],0,zrr 0 b hb w hs hw 600 hd name m _ _ hla (fun x _ hx=>by rw[hf]at hx;cases hx),zp0 0 b hb w hs zo hw 600 hd name hnl m _ _ (fun x _ hx=>by rw[hf]at hx;cases hx),zAG9 _⟩
  | some x =>
   obtain⟨L,no,t1,t2,t3,_⟩:=zA1 w zo 600 (x.key,m.toNat);exact⟨L,no,zrr 0 b hb w hs hw 600 hd name m _ _ hla (fun y _ hy=>by rw[hf]at hy;injection hy with hy;subst hy;exact t1 0),zp0 0 b hb w hs zo hw 600 hd name hnl m _ _ (fun y _ hy=>by rw[hf]at hy;injection hy with hy;subst hy;exact t2 0),t3⟩
 obtain⟨X,L',no',hE,hL'⟩:=zC0 (zfN w b 28 (600:Nat) name) m ((zcL w b 28 (600:Nat) name).1.find? (zfL m)).isSome L no;rw[hE]at h1 h2;have hSP:=zve 0 0 L' L' (by unfold zbL;omega) (by unfold zbL;omega);rw[decide_eq_true rfl]at hSP;clear hE hL' hL hd ho hla;refine zfn f9 (.bool _) ?_;unfold zbZ zde at hM h1 h2;refine zMG hM ?_;refine zh3 g ?_;refine zB ?_;refine zM h1 ?_;refine zM h2 ?_;refine zB ?_;refine zrg ?_ (by simp(disch:=omega)only[go_sem,zD0]<;>rfl);refine zca hSP ?_;refine zfx ?_;refine zca (zEv no') ?_;refine zfx ?_;refine zca f11 ?_;refine zP ?_;exact Frz.bool _
end Fv
open Go.ChangeShapes Go.WideShapes Go.ChangeAt Go.RowKit
theorem zqk(b o j:Nat):(⟨b,o,none⟩:Addr).add j=⟨b,o+j,none⟩:=by unfold Addr.add;split<;>simp_all
theorem zFl:ownKnob prog.godebug=none:=by kernel_rfl
theorem zDe:laidOutB prog=true:=by kernel_rfl
namespace Fv
variable {b c o p:Nat}{w:World}(s:ByteArray)
theorem zrx{P:Program}{r:Reach}{base:Nat}{t e:TypeId}{a:Addr}{len cap:Nat}(ht:P.underlying t=some (.slice e))(h:Value.okWide P w r base t (.slice (some a) len cap)):a.block<w.heap.size/\a.spot=none:=by
 simp only[Value.okWide,ht,Cell.okWide,Cell.ok,World.has]at h;obtain⟨_,_,_,h2,row,cells,h3,_⟩:=h;refine⟨?_,h2⟩;unfold World.shape? at h3
 grind
def zij(l:List (Int×Nat)):LQ:=l.flatMap fun x=>[iv x.1,uv x.2]
def zfz(l:List (Int×Nat)):LE:=l.flatMap fun x=>[.int .i64 x.1,.int .u64 (x.2:Int)]
theorem zlG:∀l:List (Int×Nat),(wdV l).flatMap PV.cells=zij l
 | []=>rfl
 | x::l=>by have:=zlG l;unfold wdV zij at this⊢;rw[zBX9,zBR9,this];rfl
theorem zqP:∀(l:List (Int×Nat)) (i:Nat) (x:PV) (y:Value),(zij l)[i]?=some x->(zfz l)[i]?=some y->(∃k n,x=.int k n/\y=.int k n)
 | [],i,x,y,hx,_=>by simp[zij]at hx
 | a::l,0,x,y,hx,hy=>by simp[zij]at hx;simp[zfz]at hy;subst hx hy;exact⟨_,_,rfl,rfl⟩
 | a::l,1,x,y,hx,hy=>by simp[zij]at hx;simp[zfz]at hy;subst hx hy;exact⟨_,_,rfl,rfl⟩
 | a::l,i+2,x,y,hx,hy=>zqP l i x y (by simpa[zij]using hx) (by simpa[zfz]using hy)
theorem znV:∀(l:List (Int×Nat)) (o:Nat),(∀(i:Nat) (x:Int×Nat),l[i]?=some x->w.cell? ⟨b,o+i*2,none⟩=some (.int .i64 x.1)/\w.cell? ⟨b,o+(i*2+1),none⟩=some (.int .u64 x.2))->∀(j:Nat) (v:Value),(zfz l)[j]?=some v->w.cell? ⟨b,o+j,none⟩=some v
 | [],_,_,j,v,hv=>by simp[zfz]at hv
 | a::l,o,h,0,v,hv=>by simp[zfz]at hv;subst hv;exact(h 0 a rfl).1
 | a::l,o,h,1,v,hv=>by simp[zfz]at hv;subst hv;exact(h 0 a rfl).2
 | a::l,o,h,j+2,v,hv=>by
  have:=znV l (o+2) (fun i x hx=>by
   have:=h (i+1) x (by simpa using hx);rw[show o+2+i*2=o+(i+1)*2 by omega,show o+2+(i*2+1)=o+((i+1)*2+1) by omega];exact this) j v (by simpa[zfz]using hv)
  rw[show o+(j+2)=o+2+j by omega];exact this
theorem zBQ{l:List (Int×Nat)}(hb:b<w.heap.size)(hlc:l.length<=c)(hcm:c<=maxLen)(hcell:∀(i:Nat) (x:Int×Nat),l[i]?=some x->w.cell? ⟨b,o+i*2,none⟩=some (.int .i64 x.1)/\w.cell? ⟨b,o+(i*2+1),none⟩=some (.int .u64 x.2)):CI w (.list p 2 (wdV l)) (.slice (some ⟨b,o,none⟩) l.length c):=by
 have e:l.length=(wdV l).length:=(zAW9 ..).symm;rw[e];have hlen:∀l:List (Int×Nat),(zij l).length=(zfz l).length:=fun l=>by
  induction l with
  | nil=>rfl
  | cons a l ih=>simp[zij,zfz]at ih⊢
 refine CI.list (cs:=zfz l) hb (by rw[zAW9];exact hlc) hcm zmm (by rw[zlG];exact hlen l) (fun i x y hx hy=>?_) (znV l o hcell) (fun x hx=>?_)
 .rw[zlG]at hx;obtain⟨k,n,rfl,rfl⟩:=zqP l i x y hx hy;exact .int _ _
 .rw[zlG]at hx;unfold zij at hx;obtain⟨y,_,hx⟩:=zBB9.1 hx;simp at hx;rcases hx with rfl|rfl<;>rfl
def zn9(s:ByteArray):LN:=s.data.toList.map (·.toNat)
theorem zsW:(zn9 s).length=s.size:=(zAW9 ..).trans (zEA9 ..)
theorem zvy:zbM (zn9 s):=fun x hx=>by
 unfold zn9 at hx;obtain⟨y,_,rfl⟩:=zAJ9.1 hx;exact y.toNat_lt
theorem zjN:∀l:List (LN),(zf3 l).flatMap PV.cells=zf3 l
 | []=>rfl
 | x::l=>by have:=zjN l;unfold zf3 at this⊢;rw[zBX9,zBR9,this];rfl
theorem zCW{l:List ByteArray}(hb:b<w.heap.size)(hlc:l.length<=c)(hcm:c<=maxLen)(hcell:∀(i:Nat) (x:ByteArray),l[i]?=some x->w.cell? ⟨b,o+i,none⟩=some (.string x)):CI w (.list p 1 (zf3 (l.map zn9))) (.slice (some ⟨b,o,none⟩) l.length c):=by
 have e:l.length=(zf3 (l.map zn9)).length:=by unfold zf3;rw[zAW9,zAW9]
 rw[e];refine CI.list (cs:=l.map Value.string) hb (by rw[<- e];exact hlc) hcm zmm (by rw[zjN];simp) (fun i x y hx hy=>?_) (fun j v hv=>?_) (fun x hx=>?_)
 .rw[zjN]at hx;unfold zf3 at hx;rw[zAT9,zAT9]at hx;rw[zAT9]at hy
  cases hn:l[i]? with
  | none=>rw[hn]at hx;cases hx
  | some n=>rw[hn]at hx hy;injection hx with hx;injection hy with hy;subst hx hy;exact .str _
 .rw[zAT9]at hv
  cases hx:l[j]? with
  | none=>rw[hx]at hv;cases hv
  | some x=>rw[hx]at hv;injection hv with hv;subst hv;exact hcell j x hx
 .rw[zjN]at hx;obtain⟨n,_,rfl⟩:=zAJ9.1 hx;rfl
end Fv
section
variable {H:Type}{enc:TypeId×Value->H}{w:World}{base:Nat}{spare:Nat->Bool}{held:Bool}{r:Reach}{b0:Nat}
variable {fuel:Nat}{v:Value}{x:DataW H×List MemPlace}
theorem zwp(hv:Value.okWide prog w r b0 23 v)(h:DataW.trod enc prog w base spare held fuel 23 [v]=some x):∃(l:List (Int×Nat)),(∀x∈l,Fv.LtU x.2)/\Fv.CI w (.list 0 2 (Fv.wdV l)) v:=by
 rcases Go.Deep.open_slice_pairs underlying23 underlying96 (by kernel_rfl) rfl rfl (by kernel_rfl) (by kernel_rfl) h with⟨hcs,_⟩|⟨a,len,cap,m,n,V0,V1,D0,D1,P0,P1,hcs,_,hl,hm,hmm,_,hx⟩
 .injection hcs with hcs;subst hcs;exact⟨[],fun x hx=>by simp at hx,.nilsl _ _⟩
 .injection hcs with hcs;subst hcs;have hml:len<=m:=by
   rw[hmm];split
   .exact hl
   .exact zAC9 _
  obtain⟨hblk,hspot⟩:=Fv.zrx underlying23 hv;obtain⟨b,off,spot⟩:=a;dsimp only at hblk hspot;subst hspot;have hall:∀i,i<len->∃y:Int×Nat,Fv.LtU y.2/\w.cell? ⟨b,off+i*2,none⟩=some (.int .i64 y.1)/\w.cell? ⟨b,off+(i*2+1),none⟩=some (.int .u64 y.2):=fun i hi=>by
   obtain⟨c0,c1,t0,t1⟩:=hx i zo;obtain⟨n0,e0,_,w0⟩:=DataW.trod_int underlying3 t0;obtain⟨n1,e1,_,w1⟩:=DataW.trod_int underlying29 t1;injection e0 with e0;injection e1 with e1;have q1:=bounds_u64 w1;refine⟨(n0,n1.toNat),show n1.toNat<_ by omega,?_,?_⟩
   .rw[e0]at c0;rwa [zqk]at c0
   .rw[e1]at c1;show _=some (Value.int .u64 ((n1.toNat:Nat):Int));rw[Int.toNat_of_nonneg q1.1];rwa [zqk]at c1
  haveI:Inhabited (Int×Nat):=⟨(0,0)⟩
  obtain⟨f,hf⟩:=Go.Deep.choose_lt (p:=fun i (y:Int×Nat)=>Fv.LtU y.2/\w.cell? ⟨b,off+i*2,none⟩=some (.int .i64 y.1)/\w.cell? ⟨b,off+(i*2+1),none⟩=some (.int .u64 y.2)) hall;refine⟨(List.range len).map f,fun x hx=>by
   obtain⟨i,hi,rfl⟩:=zAJ9.1 hx;exact(hf i (zCT9.1 hi)).1,?_⟩
  have hlen:((List.range len).map f).length=len:=by simp
  have:=Fv.zBQ (w:=w) (p:=0) (l:=(List.range len).map f) (b:=b) (o:=off) (c:=cap) hblk (by rw[hlen];exact hl) hm (fun i x hi=>by
   have hil:i<len:=by have:=(zAB9.1 hi).1;rwa [hlen]at this
   rw[zAT9,List.getElem?_range hil]at hi;injection hi with hi;subst hi;exact(hf i hil).2)
  rwa [hlen]at this
theorem zyR(hv:Value.okWide prog w r b0 22 v)(h:DataW.trod enc prog w base spare held fuel 22 [v]=some x):∃(l:List (LN)),(∀s∈l,Fv.zbM s/\s.length<9223372036854775808)/\Fv.CI w (.list 0 1 (Fv.zf3 l)) v:=by
 rcases Go.Deep.open_strs underlying22 underlying9 (by kernel_rfl) h with⟨hcs,_⟩|⟨a,len,cap,m,Sx,hcs,_,hl,hm,hmm,_,hx⟩
 .injection hcs with hcs;subst hcs;exact⟨[],fun x hx=>by simp at hx,.nilsl _ _⟩
 .injection hcs with hcs;subst hcs;have hml:len<=m:=by
   rw[hmm];split
   .exact hl
   .exact zAC9 _
  obtain⟨hblk,hspot⟩:=Fv.zrx underlying22 hv;obtain⟨b,off,spot⟩:=a;dsimp only at hblk hspot;subst hspot;refine⟨((List.range len).map Sx).map Fv.zn9,fun s hs=>?_,?_⟩
  .obtain⟨y,hy,rfl⟩:=zAJ9.1 hs;obtain⟨i,hi,rfl⟩:=zAJ9.1 hy;refine⟨Fv.zvy _,?_⟩;rw[Fv.zsW];have:=(hx i (by have:=zCT9.1 hi;omega)).2;unfold maxLen at this;omega
  .have hlen:((List.range len).map Sx).length=len:=by simp
   have:=Fv.zCW (w:=w) (p:=0) (l:=(List.range len).map Sx) (b:=b) (o:=off) (c:=cap) hblk (by rw[hlen];exact hl) hm (fun i x hi=>by
    have hil:i<len:=by have:=(zAB9.1 hi).1;rwa [hlen]at this
    rw[zAT9,List.getElem?_range hil]at hi;injection hi with hi;subst hi;have:=(hx i zo).1
    rwa [zqk]at this)
   rwa [hlen]at this
theorem zzw(hv:Value.okWide prog w r b0 25 v)(h:DataW.trod enc prog w base spare held fuel 25 v.cells.toList=some x):∃(names:List (LN)) (bits:Int) (bent:List (Int×Nat)),(∀s∈names,Fv.zbM s/\s.length<9223372036854775808)/\(∀x∈bent,Fv.LtU x.2)/\Fv.CI w (.agg [.list 0 1 (Fv.zf3 names),Fv.iv bits,.list 0 2 (Fv.wdV bent)]) v:=by
 unfold Value.okWide at hv;rw[underlying25]at hv;obtain⟨cs,rfl,hsz,ts,hts,_,hcell⟩:=hv;obtain rfl:[22,3,23]=ts:=Option.some.inj (Eq.trans (show prog.cellTypes prog.depth 25=some [22,3,23] by kernel_rfl).symm hts);have hsz:cs.size=3:=hsz.trans (by kernel_rfl);obtain⟨c0,c1,c2,rfl⟩:∃c0 c1 c2,cs=#[c0,c1,c2]:=⟨cs[0],cs[1],cs[2],by
  apply Array.ext
  .simp[hsz]
  .intro i h1 h2
   match i with
   | 0=>rfl
   | 1=>rfl
   | 2=>rfl
   | i+3=>omega⟩
 obtain⟨u0,e0,k0⟩:=hcell 0 c0 rfl;obtain⟨u1,e1,k1⟩:=hcell 1 c1 rfl;obtain⟨u2,e2,k2⟩:=hcell 2 c2 rfl;injection e0 with e0;injection e1 with e1;injection e2 with e2;subst e0 e1 e2;have w0:Value.okWide prog w r b0 22 c0:=by unfold Value.okWide;rw[underlying22];exact k0
 have w2:Value.okWide prog w r b0 23 c2:=by unfold Value.okWide;rw[underlying23];exact k2
 obtain⟨y0,y1,y2,n,_,_,t0,t1,t2⟩:=Go.Deep.trod_struct3 underlying25 h;have q0:prog.cellsOf 22=1:=by kernel_rfl
 have q1:prog.cellsOf 3=1:=by kernel_rfl
 have q2:prog.cellsOf 23=1:=by kernel_rfl
 dsimp only at t0 t1 t2;rw[q0]at t0;rw[q1]at t1;rw[q2]at t2;obtain⟨names,hn,hc0⟩:=zyR w0 t0;obtain⟨bits,eb,_,_⟩:=DataW.trod_int underlying3 t1;obtain rfl:c1=.int .i64 bits:=(List.cons.inj eb).1;obtain⟨bent,hb,hc2⟩:=zwp w2 t2;refine⟨names,bits,bent,hn,hb,?_⟩;refine Fv.CI.agg (cs:=[c0,.int .i64 bits,c2]) rfl (fun i x y hx hy=>?_) (fun x hx=>?_)
 .match i with
  | 0=>injection hx with hx;injection hy with hy;subst hx hy;exact hc0
  | 1=>injection hx with hx;injection hy with hy;subst hx hy;exact .int _ _
  | 2=>injection hx with hx;injection hy with hy;subst hx hy;exact hc2
  | i+3=>simp at hx
 .simp only[zAX9,zCZ9,or_false]at hx;rcases hx with rfl|rfl|rfl<;>rfl
end
open Go.ChangeShapes Go.WideShapes
theorem zcX{a b:Bool}(ha:a=true)(hb:b=true):(a&&b)=true:=by subst ha hb;rfl
theorem j1:(Rows.dirSwapsRow.wf (OpenSpec.ofChange Rows.dirSwapsSpec))=true:=by kernel_rfl
theorem j2:(laidOutB prog)=true:=by kernel_rfl
theorem j3:(mapsRowed prog)=true:=by kernel_rfl
theorem j4:(Tryz.f9.params.all (prog.readableRec ·))=true:=by kernel_rfl
theorem j5:(namedTie prog Rows.dirSwapsRow.named Rows.dirSwapsSpec.vars)=true:=by kernel_rfl
theorem j6:(Rows.dirSwapsRow.stops == [])=true:=by kernel_rfl
theorem j7:(prog.stops == [])=true:=by kernel_rfl
theorem j8:(Rows.dirSwapsRow.knobs == [])=true:=by kernel_rfl
theorem j9:(prog.stopKnobs == [])=true:=by kernel_rfl
theorem j10:(Rows.dirSwapsRow.inPlace==prog.inPlace 9)=true:=by kernel_rfl
theorem j11:(Rows.dirSwapsRow.unfollowed==prog.unfollowed 9)=true:=by kernel_rfl
theorem j12:(Rows.dirSwapsRow.recurses==prog.recurses 9)=true:=by kernel_rfl
theorem j13:(Rows.dirSwapsRow.named==prog.varsNamed 9)=true:=by kernel_rfl
theorem j14:(Rows.dirSwapsRow.maps==(Tryz.f9.params.toList++Rows.dirSwapsSpec.plain.varTypes prog).any (prog.mapsRec ·))=true:=by kernel_rfl
theorem j15:(Rows.dirSwapsRow.ifaces==(Tryz.f9.params.toList++Rows.dirSwapsSpec.plain.varTypes prog).any (prog.ifacesRec ·))=true:=by kernel_rfl
theorem j16:(Rows.dirSwapsRow.mapsOut==prog.mapsAmong Tryz.f9.resultTypes.toList)=true:=by kernel_rfl
theorem j17:(Rows.dirSwapsRow.loops==(Tryz.f9.params.toList++Rows.dirSwapsSpec.plain.varTypes prog).any (prog.loopsFrom ·))=true:=by kernel_rfl
theorem j18:(Rows.dirSwapsRow.wideKeys==(Tryz.f9.params.toList++Rows.dirSwapsSpec.plain.varTypes prog++Tryz.f9.resultTypes.toList).any (prog.wideKeysFrom ·))=true:=by kernel_rfl
theorem j19:(Rows.dirSwapsSpec.vars.all (prog.varReadable ·))=true:=by kernel_rfl
theorem j20:(Tryz.f9.resultTypes.all (fun t=>prog.readableRec t&&decide (t<prog.types.size)))=true:=by kernel_rfl
theorem j21:(Rows.dirSwapsRow.ifacesOut==Tryz.f9.resultTypes.toList.any (prog.ifacesRec ·))=true:=by kernel_rfl
theorem j22:(Rows.dirSwapsRow.loopsOut==Tryz.f9.resultTypes.toList.any (prog.loopsFrom ·))=true:=by kernel_rfl
theorem j23:(Rows.dirSwapsRow.plainKeys==prog.plainKeys)=true:=by kernel_rfl
theorem j24:(Rows.dirSwapsRow.shortTexts.isNone)=true:=by kernel_rfl
theorem j25:(prog.stopsHeard)=true:=by kernel_rfl
theorem j26:(prog.mayEnter)=true:=by kernel_rfl
theorem j27:(Rows.dirSwapsRow.lifted==prog.liftsFinal)=true:=by kernel_rfl
theorem j28:(prog.make==some Rows.dirSwapsRow.make)=true:=by kernel_rfl
theorem j29:(Rows.dirSwapsRow.kinds==(if Rows.dirSwapsRow.domain.isEmpty then[]else Tryz.f9.params.toList.map fun t=>match prog.underlying t with|some (.int k)=>some k|_=>none))=true:=by kernel_rfl
theorem j30:(Rows.dirSwapsRow.pinned==Rows.dirSwapsRow.pinnedBy)=true:=by kernel_rfl
theorem j31:(Rows.dirSwapsRow.veiled==(Tryz.f9.params.toList++Rows.dirSwapsSpec.plain.varTypes prog++Tryz.f9.resultTypes.toList).any (prog.veiledRec ·))=true:=by kernel_rfl
theorem j32:(Rows.dirSwapsRow.veiledFits prog Tryz.f9.params.toList (Tryz.f9.params.toList++Rows.dirSwapsSpec.plain.varTypes prog++Tryz.f9.resultTypes.toList))=true:=by kernel_rfl
theorem zFn:joinedFacts prog 9 Tryz.f9 Rows.dirSwapsSpec Rows.dirSwapsRow=true:=zcX (zcX (zcX (zcX (zcX (zcX (zcX (zcX (zcX (zcX (zcX (zcX (zcX (zcX (zcX (zcX (zcX (zcX (zcX (zcX (zcX (zcX (zcX (zcX (zcX (zcX (zcX (zcX (zcX (zcX (zcX (j1) j2) j3) j4) j5) j6) j7) j8) j9) j10) j11) j12) j13) j14) j15) j16) j17) j18) j19) j20) j21) j22) j23) j24) j25) j26) j27) j28) j29) j30) j31) j32
theorem zxK(os:Os)(started:os.Started)(H:Type)(enc:TypeId×Value->H) :
  ReturnsInHanded {} Tryz.checked os 9 .any (Rows.dirSwapsSpec.pre6 enc prog Tryz.f9 Rows.dirSwapsRow.domain false) (Rows.dirSwapsSpec.post enc prog Tryz.f9 false true false false):=by
 refine returnsInHanded_of_change (C:=Tryz.checked) zFl started (by kernel_rfl) func9
  (ChangeSpec.witness6 (enc:=enc) (C:=Tryz.checked) false ⟨#[],#[.agg #[.slice none 0 0,.int .i64 0,.slice none 0 0],.string ⟨#[]⟩,.int .i64 0],[]⟩ 8 (by kernel_rfl) (by kernel_rfl) (by kernel_rfl) (by kernel_rfl)) ?_
 intro W base args ds gs before hval0 hW hcnd _;have hval:∀(j:Nat) t v,Tryz.f9.params[j]?=some t->args[j]?=some v->Value.okWide prog W .any base t v:=hval0;have hW':=hW;obtain⟨p,q,hA0,hV,rfl,hfz,hnd⟩:=hW;have hA:DataW.TrodAll enc prog W 0 (fun _=>true) true Tryz.f9.params.toList args.toList ds p:=hA0;rw[Tryz.params9]at hA hval;obtain⟨v0,vs0,d0,ds0,p0,q0,hargs,rfl,rfl,h0,r0⟩:=trodAll_cons hA;obtain⟨v1,vs1,d1,ds1,p1,q1,rfl,rfl,rfl,h1,r1⟩:=trodAll_cons r0;obtain⟨v2,vs2,d2,ds2,p2,q2,rfl,rfl,rfl,h2,r2⟩:=trodAll_cons r1;obtain⟨rfl,rfl,rfl⟩:=trodAll_nil r2;obtain rfl:args=#[v0,v1,v2]:=by cases args;simp_all
 obtain⟨rfl,rfl⟩:=trodVars_none hV;have w0:=hval 0 25 v0 rfl rfl;have k0:=h0;have lt0:∀x∈p0,x.block<W.heap.size:=by obtain⟨m,hm⟩:=k0;exact DataW.trod_lt m _ _ _ hm
 obtain⟨s1,rfl,rfl,rfl,g1⟩:=Go.ChangeMaps.open_string underlying9 (hval 1 9 v1 rfl rfl) h1;obtain⟨n2,rfl,rfl,rfl,g2⟩:=open_int underlying3 (hval 2 3 v2 rfl rfl) h2;obtain⟨names,bits,bent,hn,hb,hc0⟩:∃(names:List (LN)) (bits:Int) (bent:List (Int×Nat)),(∀s∈names,Fv.zbM s/\s.length<9223372036854775808)/\(∀x∈bent,Fv.LtU x.2)/\Fv.CI W (.agg [.list 0 1 (Fv.zf3 names),Fv.iv bits,.list 0 2 (Fv.wdV bent)]) v0:=by
  obtain⟨fuel,hf⟩:=h0;exact zzw w0 hf
 clear hA0 hval0;refine(Fv.FP.calls (w:=W) Fv.zE8 (Fv.FN.FP (Fv.zzM 0 0 names bits bent (Fv.zn9 s1) n2 hn hb (Fv.zvy s1) (by rw[Fv.zsW];unfold maxLen at g1;omega))) (args':=[v0,.string s1,.int .i64 n2]) rfl (fun i x y hx hy=>?_)).mono fun e W' ⟨he,hx⟩=>?_
 .match i with
  | 0=>injection hx with hx;injection hy with hy;subst hx hy;exact hc0
  | 1=>injection hx with hx;injection hy with hy;subst hx hy;exact .str _
  | 2=>injection hx with hx;injection hy with hy;subst hx hy;exact .int _ _
  | i+3=>simp at hx
 have bel:Below W.heap.size W W':=hx;subst he;exact⟨_,rfl,_,_,_,[],_,[],hW',trodAll_mk1 (shut_bool underlying4 _),(trodAll_cons_mk (Below.trod zDe (by kernel_rfl) (of_decide_eq_true (by kernel_rfl)) k0 bel lt0) (trodAll_cons_mk (Go.ChangeMaps.shut_string underlying9 g1) (trodAll_cons_mk (shut_int underlying3 g2) trodAll_mk0))),rfl,bel.frame _,fun h=>by cases h⟩
theorem zAZ:Rows.dirSwapsRow.holds Tryz.pinned (OpenSpec.ofChange Rows.dirSwapsSpec) :=
 OpenClaim.holds_of_wide 9 Tryz.f9 rfl rfl rfl rfl rfl rfl rfl ⟨rfl,rfl,rfl,rfl,rfl⟩ rfl rfl rfl rfl rfl (by kernel_rfl) func9 zFn
  (of_decide_eq_true (by kernel_rfl)) (by unfold Func.isWrapper;first|(rw[if_pos (by decide +kernel)];kernel_rfl)|(rw[if_neg (by decide +kernel)];exact⟨rfl,rfl⟩))
  (fun os started H enc _=>zxK os started H enc)
theorem dir_swaps:Rows.DirSwapsSaid:=zAZ
#print axioms dir_swaps
end Go.Proofs.YtkeknmgnoceogaaGreat
