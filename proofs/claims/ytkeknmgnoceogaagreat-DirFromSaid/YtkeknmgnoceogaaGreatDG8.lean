/- DirFrom returns true for every input, and its input reads afterwards as it did. No condition. -/
import Derived.Test.YtkeknmgnoceogaaGreatDG7
import Derived.ProofKit
import Derived.OpenShut
import Derived.ShutString
import Derived.ChangeOld
import Derived.Deep.Strs
import Derived.Deep.SlicePairs
import Derived.JoinedOf
import Derived.KernelRfl
import Derived.Test.YtkeknmgnoceogaaGreatRows
import Derived.Test.YtkeknmgnoceogaaGreatChecked
import Derived.ChangeMaps5
set_option linter.unusedSimpArgs false
set_option linter.unusedVariables false
namespace Go.Proofs.YtkeknmgnoceogaaGreat
namespace Fv
open Tw


set_option maxRecDepth 100000
theorem f42:ET.funcs.get 42=some T42:=zD Tryz.func42
theorem f45:ET.funcs.get 45=some T45:=zD Tryz.func45
theorem f14:ET.funcs.get 14=some T14:=zD Tryz.func14
theorem f37:ET.funcs.get 37=some T37:=zD Tryz.func37
def ziA (n d:Nat)(a:Int):Bool:=decide (28=d)&&decide (n=3072)&&decide (0<=a)&&decide (a<3072)
theorem zgK {n d:Nat}{a:Int}:ziA n d a=true↔28=d/\n=3072/\0<=a/\a<3072:=by simp[ziA,and_assoc]
theorem zsq (p b d:Nat)(h:1<=b/\b<=40)(w:List Nat)(hw:zb0 w.length)(a:Int):FN ET 42 [wv p w,zbN b d,iv a] (.ret (.bool (ziA w.length d a))):=by
 refine zfn f42 (.bool _) ?_;have hr:=ziv b d h;unfold ziA;unfold zbN zcC at hr⊢
 by_cases hd:28=d
 rotate_left
 ·rw[decide_eq_false hd]at hr⊢;refine zG ?_;refine zI ?_;refine zca hr ?_;refine zP ?_;exact zbq.bool rfl
 rw[decide_eq_true hd]at hr⊢
 by_cases hl:w.length=3072
 rotate_left
 ·have g:¬(w.length:Int)=3072:=zo;refine zG ?_;refine zI ?_;refine zca hr ?_;refine zPF g ?_;exact zbq.bool (by rw[decide_eq_false hl];rfl)
 have g:(w.length:Int)=3072:=zo
 by_cases h0:0<=a
 rotate_left
 ·refine zG ?_;refine zI ?_;refine zca hr ?_;refine zPF (zr2 g h0) ?_;exact zbq.bool (by rw[decide_eq_true hl,decide_eq_false h0];rfl)
 refine zG ?_;refine zI ?_;refine zca hr ?_;refine zPF (zr2 g h0) ?_;exact zbq.bool (by rw[decide_eq_true hl,decide_eq_true h0];rfl)
theorem zpZ {w:List Nat}(hw:w.length=3072){n:Nat}(hn:n<=64):(zdI w n).length=16:=by unfold zdI;rw[zAN9,zBG9];omega
theorem zo7 {w:List Nat}{n:Nat}:∀x∈zdI w n,x∈w:=fun x hx=>zBM9 (zBP9 hx)
theorem zwN (p b:Nat)(w:List Nat)(hw:w.length=3072)(n:Nat)(hn:1<=n/\n<=64):FP ET 45 [wv p w,zbN b 28,iv n] (.ret (wv p (zdI w n))):=by
 refine zfp f45 ?_;unfold zbN zcC;have e0:(n:Int)-1=((n-1:Nat):Int):=zo;have e1:(16:Int)*((n-1:Nat):Int)=((16*(n-1):Nat):Int):=zo;have e2:(704:Int)+((16*(n-1):Nat):Int)=((704+16*(n-1):Nat):Int):=zo;have e3:((704+16*(n-1):Nat):Int)+16=((704+16*(n-1)+16:Nat):Int):=zo;have e4:0<w.length:=zo;have e5:List.drop (704+16*(n-1)) (List.take (704+16*(n-1)+16) (w.map uv))=(zdI w n).map uv:=by
  unfold zdI;rw[zDK9,zDV9,zCU9,zCN9]
 have e6:704+16*(n-1)<=704+16*(n-1)+16:=zo;have e7:704+16*(n-1)+16<=w.length:=zo;refine zOF (zr8 e0 e1 e2 e3 e4 e5 e6 e7) ?_;exact Frz.list _ _ _
theorem zyq (k k1 k2:IntKind)(x y z x' y' z':Int)(s s':List Nat):zcs [1,1,1,3] [.int k x,.int k1 y,.int k2 z,.str s] [.int k x',.int k1 y',.int k2 z',.str s']=some (decide (x=x')&&decide (y=y')&&decide (z=z')&&decide (s=s')):=by
 by_cases h:x=x'<;>by_cases h2:y=y'<;>by_cases h3:z=z'<;>by_cases h4:s=s'<;>simp[zcs,zld,zeW,zcX,zkO,h,h2,h3,h4]
def zhl (x:Pr):List Pr->Nat
 | []=>0
 | y::l=>if y.1<x.1 then zhl x l+1 else 0
theorem zoU (x:Pr):∀l,zhl x l<=l.length
 | []=>zAE9 _
 | y::l=>by
  have:=zoU x l;unfold zhl
  split
  ·rw[zAG9];omega
  ·exact zAL9 _
def zdR (out:List Pr)(x:Pr):List Pr:=out.take (zhl x out)++x::out.drop (zhl x out)
theorem zvm (out:List Pr)(x:Pr):(zdR out x).length=out.length+1:=by
 have:=zoU x out;unfold zdR;rw[zAB9,zAG9,zAN9,zBG9];omega
def zdj (l:List Pr):List Pr:=l.foldl zdR []
theorem zgq:∀(l out:List Pr),(l.foldl zdR out).length=out.length+l.length
 | [],_=>rfl
 | x::l,out=>by rw[zEZ9,zgq l,zvm,zAG9];omega
theorem zlE (l:List Pr):(zdj l).length=l.length:=by unfold zdj;rw[zgq];simp
theorem ziq:∀(l out:List Pr),∀x∈l.foldl zdR out,x∈out\/x∈l
 | [],_,x,h=>.inl h
 | y::l,out,x,h=>by
  rcases ziq l _ x h with h|h
  ·unfold zdR at h;rcases zBF9.1 h with h|h
   ·exact .inl (zBP9 h)
   rcases zBA9.1 h with rfl|h
   ·exact .inr (zAV9 ..)
   ·exact .inl (zBM9 h)
  ·exact .inr (zAO9 _ h)
theorem zlw {l:List Pr}:∀x∈zdj l,x∈l:=fun x h=>by
 rcases ziq l [] x h with h|h
 ·cases h
 ·exact h
theorem zcR (n:Nat):(n==n+1)=false:=by simp
theorem zcQ (n:Nat):(n+1==n)=false:=by simp
set_option maxHeartbeats 2000000 in
theorem zrG (p:Nat)(l:List Pr)(hl:l.length<=100):FN ET 37 [psv p l] (.ret (psv 0 (zdj l))):=by
 refine zfn f37 (Lb.pvs _) ?_;refine zG ?_;refine zdg 92 2 (i:=3) rfl ?_;refine zjH 3 0 (w:=psv 0 []) (o:=.row 92 2 0 0 []) rfl (Frz.whole (l:=[]) (znT rfl) rfl rfl (zAE9 _) (fun v hv=>by simp at hv) (fun v hv=>by simp at hv)) ?_;refine zG ?_;refine zF (zbJ (fun m s=>∃(i:Nat) (G:List zd),m=l.length-i/\i<=l.length/\s.tm 0=psv p l/\s.tm 3=psv 0 ((l.take i).foldl zdR [])/\s.tm 4=iv i/\s.df=[]/\s.H=G) (n:=l.length) ?_ ?_)
 ·exact⟨0,_,rfl,zAL9 _,zt,zt,zt,rfl,rfl⟩
 rintro m ⟨tm,df,H⟩ ⟨i,G,rfl,hi,h0,h3,h4,rfl,rfl⟩;dsimp only at h0 h3 h4;(try refine zbC ?_);refine zar (zbH (zr2 h0 h4) ?_);refine zwh ?_ ?_;rotate_left
 ·intro hlt;have hlt:¬i<l.length:=by have:=of_decide_eq_false hlt;omega
  obtain rfl:i=l.length:=zo;rw[zBS9]at h3;refine zOF h3 ?_;exact Frz.list _ _ _
 intro hlt;have hlt:i<l.length:=by have:=of_decide_eq_true hlt;omega
 obtain⟨x,hx⟩:∃x,l[i]?=some x:=⟨_,zAA9 hlt⟩
 have hxv:(l.map pv)[i]?=some (pv x):=by rw[zAI9,hx];rfl
 have hnext:(l.take (i+1)).foldl zdR []=zdR ((l.take i).foldl zdR []) x:=by
  rw[zBQ9,hx,zFF9];rfl
 have hol:((l.take i).foldl zdR []).length<=100:=by rw[zgq,zAN9,zAH9];omega
 generalize (l.take i).foldl zdR []=out at *
 refine zB ?_;refine zF ?_;refine zG ?_;refine zcV (Q:=fun yy s'=>yy=.norm/\s'.tm 0=psv p l/\s'.tm 3=psv 0 out/\s'.tm 4=iv i/\s'.tm 5=iv (zhl x out)/\s'.df=[]/\s'.H=H) (zF (zbJ (fun m s=>∃k:Nat,m=out.length-k/\k<=out.length/\zhl x out=k+zhl x (out.drop k)/\s.tm 0=psv p l/\s.tm 3=psv 0 out/\s.tm 4=iv i/\s.tm 5=iv k/\s.df=[]/\s.H=H) (n:=out.length) ?_ ?_)) ?_
 ·exact⟨0,rfl,zAL9 _,by simp,zu h0,zu h3,zu h4,zt,rfl,rfl⟩
 ·clear h0 h3 h4;rintro m ⟨tm,df,H⟩ ⟨k,rfl,hk,hpos,h0,h3,h4,h5,rfl,rfl⟩;dsimp only at h0 h3 h4 h5;refine zB ?_;refine zbc ?_
  by_cases hkl:k<out.length
  rotate_left
  ·obtain rfl:k=out.length:=zo;rw[zCC9]at hpos;have gk:¬(out.length:Int)<(out.length:Int):=zo;refine zQF (zr5 h0 h3 h4 h5 gk) ?_;refine zcf ?_;refine zjb ?_;exact⟨rfl,h0,h3,h4,by rw[hpos];exact h5,rfl,rfl⟩
  obtain⟨y,hy⟩:∃y,out[k]?=some y:=⟨_,zAA9 hkl⟩
  have hyv:(out.map pv)[k]?=some (pv y):=by rw[zAI9,hy];rfl
  have hdy:out.drop k=y::out.drop (k+1):=by rw[zAQ9 hkl];obtain⟨_,e⟩:=zAC9.1 hy;rw[e]
  rw[hdy,zhl]at hpos;have gk:(k:Int)<(out.length:Int):=zo
  by_cases hlt2:y.1<x.1
  ·have g:(y.1:Int)<(x.1:Int):=zo;rw[if_pos hlt2]at hpos;refine zQF (zhk h0 h3 h4 h5 hkl hlt hxv hyv g gk) ?_;refine zct ?_;refine zas ?_;refine zF ?_;refine zJF h5 ?_;exact⟨_,by omega,k+1,rfl,hkl,by omega,zu h0,zu h3,zu h4,zu h5,rfl,rfl⟩
  ·have g:¬(y.1:Int)<(x.1:Int):=zo;rw[if_neg hlt2]at hpos;refine zQF (zhk h0 h3 h4 h5 hkl hlt hxv hyv g gk) ?_;refine zcf ?_;refine zjb ?_;exact⟨rfl,h0,h3,h4,by rw[hpos];exact h5,rfl,rfl⟩
 clear h0 h3 h4;rintro yy ⟨tm,df,H2⟩ ⟨rfl,h0,h3,h4,h5,rfl,rfl⟩;dsimp only at h0 h3 h4 h5;have hple:=zoU x out;have hV:zdR out x=out.take (zhl x out)++x::out.drop (zhl x out):=rfl;generalize zhl x out=k at *
 have ht:(out.map pv).take k=(out.take k).map pv:=zCU9.symm;have hd:(out.map pv).drop k=(out.drop k).map pv:=zCN9.symm;have hlA:(out.take k).length=k:=by rw[zAN9];omega
 have hlB:(out.drop k).length=out.length-k:=zBG9;generalize out.take k=A at *
 generalize out.drop k=B at *
 have b1:A.length*17<=140737488355328:=zo;have b2:(A.length+1)*17<=140737488355328:=zo;have b3:(A.length+1+B.length)*17<=140737488355328:=zo;have b4:(1+B.length)*17<=140737488355328:=zo;refine zcV (Q:=fun yy s'=>yy=.norm/\∃g G' n,n=(zdR out x).length/\s'.tm 0=psv p l/\s'.tm 3=.sl H2.length g 0 n (2*n) 2/\s'.tm 4=iv i/\s'.df=[]/\s'.H=H2++.row 92 2 g 0 ((zdR out x).map pv)::G') (zbc ?_) ?_
 ·rw[hV,zBD9,zBZ9,zAB9,zAG9]
  by_cases hA:A.length=0
  ·obtain rfl:=zBY9 hA
   by_cases hB:B.length=0
   ·obtain rfl:=zBY9 hB;refine zda ?_ (by simp(disch:=omega)only[go_sem,h0,h3,h4,h5,hxv,hlt,hple,ht,hd,b1,b2,b3,b4,ga0,ga1,sa0,sa1,zAD9,zAB9,zAZ9,zcR,zcQ]<;>rfl) (by first|exact trivial|simp only[go_sem,h0,h3,h4,h5,hxv,hlt,hple,ht,hd,b1,b2,b3,b4,ga0,ga1,sa0,sa1,zAD9,zAB9,zAZ9,zcR,zcQ]);refine zda ?_ (by simp(disch:=omega)only[go_sem,h0,h3,h4,h5,hxv,hlt,hple,ht,hd,b1,b2,b3,b4,ga0,ga1,sa0,sa1,zAD9,zAB9,zAZ9,zcR,zcQ]<;>rfl) (by first|exact trivial|simp only[go_sem,h0,h3,h4,h5,hxv,hlt,hple,ht,hd,b1,b2,b3,b4,ga0,ga1,sa0,sa1,zAD9,zAB9,zAZ9,zcR,zcQ]);refine zda ?_ (by simp(disch:=omega)only[go_sem,h0,h3,h4,h5,hxv,hlt,hple,ht,hd,b1,b2,b3,b4,ga0,ga1,sa0,sa1,zAD9,zAB9,zAZ9,zcR,zcQ]<;>rfl) (by first|exact trivial|simp only[go_sem,h0,h3,h4,h5,hxv,hlt,hple,ht,hd,b1,b2,b3,b4,ga0,ga1,sa0,sa1,zAD9,zAB9,zAZ9,zcR,zcQ]);refine zdl ?_ (by simp(disch:=omega)only[go_sem,h0,h3,h4,h5,hxv,hlt,hple,ht,hd,b1,b2,b3,b4,ga0,ga1,sa0,sa1,zAD9,zAB9,zAZ9,zcR,zcQ]<;>rfl) (by first|exact trivial|simp only[go_sem,h0,h3,h4,h5,hxv,hlt,hple,ht,hd,b1,b2,b3,b4,ga0,ga1,sa0,sa1,zAD9,zAB9,zAZ9,zcR,zcQ]);refine zb3 ?_;simp only[go_sem];exact⟨1,_,_,by first|rfl|omega|(simp only[zAH9];omega),h0,rfl,h4,rfl⟩
   ·refine zda ?_ (by simp(disch:=omega)only[go_sem,hB,h0,h3,h4,h5,hxv,hlt,hple,ht,hd,b1,b2,b3,b4,ga0,ga1,sa0,sa1,zAD9,zAB9,zAZ9,zcR,zcQ]<;>rfl) (by first|exact trivial|simp only[go_sem,hB,h0,h3,h4,h5,hxv,hlt,hple,ht,hd,b1,b2,b3,b4,ga0,ga1,sa0,sa1,zAD9,zAB9,zAZ9,zcR,zcQ]);refine zda ?_ (by simp(disch:=omega)only[go_sem,hB,h0,h3,h4,h5,hxv,hlt,hple,ht,hd,b1,b2,b3,b4,ga0,ga1,sa0,sa1,zAD9,zAB9,zAZ9,zcR,zcQ]<;>rfl) (by first|exact trivial|simp only[go_sem,hB,h0,h3,h4,h5,hxv,hlt,hple,ht,hd,b1,b2,b3,b4,ga0,ga1,sa0,sa1,zAD9,zAB9,zAZ9,zcR,zcQ]);refine zda ?_ (by simp(disch:=omega)only[go_sem,hB,h0,h3,h4,h5,hxv,hlt,hple,ht,hd,b1,b2,b3,b4,ga0,ga1,sa0,sa1,zAD9,zAB9,zAZ9,zcR,zcQ]<;>rfl) (by first|exact trivial|simp only[go_sem,hB,h0,h3,h4,h5,hxv,hlt,hple,ht,hd,b1,b2,b3,b4,ga0,ga1,sa0,sa1,zAD9,zAB9,zAZ9,zcR,zcQ]);refine zdl ?_ (by simp(disch:=omega)only[go_sem,hB,h0,h3,h4,h5,hxv,hlt,hple,ht,hd,b1,b2,b3,b4,ga0,ga1,sa0,sa1,zAD9,zAB9,zAZ9,zcR,zcQ]<;>rfl) (by first|exact trivial|simp only[go_sem,hB,h0,h3,h4,h5,hxv,hlt,hple,ht,hd,b1,b2,b3,b4,ga0,ga1,sa0,sa1,zAD9,zAB9,zAZ9,zcR,zcQ]);refine zb3 ?_;simp only[go_sem];exact⟨2,_,_,by first|rfl|omega|(simp only[zAH9];omega),h0,rfl,h4,rfl⟩
  ·by_cases hB:B.length=0
   ·obtain rfl:=zBY9 hB;refine zda ?_ (by simp(disch:=omega)only[go_sem,hA,h0,h3,h4,h5,hxv,hlt,hple,ht,hd,b1,b2,b3,b4,ga0,ga1,sa0,sa1,zAD9,zAB9,zAZ9,zcR,zcQ]<;>rfl) (by first|exact trivial|simp only[go_sem,hA,h0,h3,h4,h5,hxv,hlt,hple,ht,hd,b1,b2,b3,b4,ga0,ga1,sa0,sa1,zAD9,zAB9,zAZ9,zcR,zcQ]);refine zda ?_ (by simp(disch:=omega)only[go_sem,hA,h0,h3,h4,h5,hxv,hlt,hple,ht,hd,b1,b2,b3,b4,ga0,ga1,sa0,sa1,zAD9,zAB9,zAZ9,zcR,zcQ]<;>rfl) (by first|exact trivial|simp only[go_sem,hA,h0,h3,h4,h5,hxv,hlt,hple,ht,hd,b1,b2,b3,b4,ga0,ga1,sa0,sa1,zAD9,zAB9,zAZ9,zcR,zcQ]);refine zda ?_ (by simp(disch:=omega)only[go_sem,hA,h0,h3,h4,h5,hxv,hlt,hple,ht,hd,b1,b2,b3,b4,ga0,ga1,sa0,sa1,zAD9,zAB9,zAZ9,zcR,zcQ]<;>rfl) (by first|exact trivial|simp only[go_sem,hA,h0,h3,h4,h5,hxv,hlt,hple,ht,hd,b1,b2,b3,b4,ga0,ga1,sa0,sa1,zAD9,zAB9,zAZ9,zcR,zcQ]);refine zdl ?_ (by simp(disch:=omega)only[go_sem,hA,h0,h3,h4,h5,hxv,hlt,hple,ht,hd,b1,b2,b3,b4,ga0,ga1,sa0,sa1,zAD9,zAB9,zAZ9,zcR,zcQ]<;>rfl) (by first|exact trivial|simp only[go_sem,hA,h0,h3,h4,h5,hxv,hlt,hple,ht,hd,b1,b2,b3,b4,ga0,ga1,sa0,sa1,zAD9,zAB9,zAZ9,zcR,zcQ]);refine zb3 ?_;simp only[go_sem];exact⟨2,_,_,by first|rfl|omega|(simp only[zAH9];omega),h0,rfl,h4,rfl⟩
   ·refine zda ?_ (by simp(disch:=omega)only[go_sem,hA,hB,h0,h3,h4,h5,hxv,hlt,hple,ht,hd,b1,b2,b3,b4,ga0,ga1,sa0,sa1,zAD9,zAB9,zAZ9,zcR,zcQ]<;>rfl) (by first|exact trivial|simp only[go_sem,hA,hB,h0,h3,h4,h5,hxv,hlt,hple,ht,hd,b1,b2,b3,b4,ga0,ga1,sa0,sa1,zAD9,zAB9,zAZ9,zcR,zcQ]);refine zda ?_ (by simp(disch:=omega)only[go_sem,hA,hB,h0,h3,h4,h5,hxv,hlt,hple,ht,hd,b1,b2,b3,b4,ga0,ga1,sa0,sa1,zAD9,zAB9,zAZ9,zcR,zcQ]<;>rfl) (by first|exact trivial|simp only[go_sem,hA,hB,h0,h3,h4,h5,hxv,hlt,hple,ht,hd,b1,b2,b3,b4,ga0,ga1,sa0,sa1,zAD9,zAB9,zAZ9,zcR,zcQ]);refine zda ?_ (by simp(disch:=omega)only[go_sem,hA,hB,h0,h3,h4,h5,hxv,hlt,hple,ht,hd,b1,b2,b3,b4,ga0,ga1,sa0,sa1,zAD9,zAB9,zAZ9,zcR,zcQ]<;>rfl) (by first|exact trivial|simp only[go_sem,hA,hB,h0,h3,h4,h5,hxv,hlt,hple,ht,hd,b1,b2,b3,b4,ga0,ga1,sa0,sa1,zAD9,zAB9,zAZ9,zcR,zcQ]);refine zdl ?_ (by simp(disch:=omega)only[go_sem,hA,hB,h0,h3,h4,h5,hxv,hlt,hple,ht,hd,b1,b2,b3,b4,ga0,ga1,sa0,sa1,zAD9,zAB9,zAZ9,zcR,zcQ]<;>rfl) (by first|exact trivial|simp only[go_sem,hA,hB,h0,h3,h4,h5,hxv,hlt,hple,ht,hd,b1,b2,b3,b4,ga0,ga1,sa0,sa1,zAD9,zAB9,zAZ9,zcR,zcQ]);refine zb3 ?_;simp only[go_sem];exact⟨3,_,_,by first|rfl|omega|(simp only[zAH9];omega),h0,rfl,h4,rfl⟩
 clear h0 h3 h4 h5;rintro yy ⟨tm,df,H⟩ ⟨rfl,g,G',n,hn,h0,h3,h4,rfl,rfl⟩;dsimp only at h0 h3 h4;subst hn;refine zjH 3 H2.length (w:=psv 0 (zdR out x)) (o:=.row 92 2 g 0 ((zdR out x).map pv)) (by simp only[ga0]) (by
  dsimp only;rw[h3];exact Frz.whole (l:=(zdR out x).map pv) (znT (by simp only[ga0]<;>rfl)) rfl (by simp) (by simp) (fun v hv=>by obtain⟨x,_,rfl⟩:=zAK9.1 hv;rfl) zf0) ?_
 refine zJF h4 ?_;refine⟨_,?m,i+1,_,rfl,hlt,zu h0,by rw[hnext];simp[upd],zu h4,rfl,rfl⟩
 case m=>omega
theorem zqU:∀(l:List zH),∀x∈zb4 l,∃n∈l,x∈n.pairs
 | [],x,h=>by simp[zb4]at h
 | n::l,x,h=>by
  rw[zb4]at h;rcases zBF9.1 h with h|h
  ·exact⟨n,zAV9 ..,(zCL9.1 h).1⟩
  ·obtain⟨k,hk,hx⟩:=zqU l x h;exact⟨k,zAO9 _ hk,hx⟩
theorem zsP {w:List Nat}(hw:WB w)(hl:w.length<=131072)(a:Int):PB (zdN w a).1:=by
 unfold zdN
 split
 rotate_left
 ·exact fun c hc=>by cases hc
 split
 rotate_left
 ·exact fun c hc=>by cases hc
 rename_i hr ht;obtain⟨f1,f2,f3,f4,f5⟩:=zfq (w:=w) (T:=(zbP w a.toNat).1) hl a.toNat (by rw[<- ht]);have hLF:=f1 _ (zAJ9 (zfE f3).1);intro c hc;obtain⟨n,hn,hc⟩:=zqU _ c hc;rw[hLF.lv.is]at hn;obtain⟨k,_,rfl⟩:=zAK9.1 hn;exact(zxC (w:=zb7 w k) (fun x hx=>hw x (by
  unfold zb7 at hx;exact zBP9 (zBM9 hx)))).pairs c hc
def zd9 (w:List Nat)(b d:Nat)(a:Int):List zdz×Nat :=
 if ziA w.length d a=true then(if(zdN w a).2=0 then(match zcT w b [] (zdN w a).1 with
  | some out=>(out,0)
  | none=>([],260))else([],(zdN w a).2))else([],2)
theorem zmZ {w:List Nat}{r:zeb}(h:zgv w=some r):zdX r=true/\zbF r.name/\zbT r.name=0/\r.ino<=256:=by
 unfold zgv at h;dsimp only at h
 split at h
 rotate_left
 ·cases h
 rename_i hc;injection h with h;subst h;refine⟨hc.2.1,(zih _).take _,((zee _).1 hc.2.1).2.2,((zee _).1 hc.2.1).2.1⟩
theorem zg7 {w:List Nat}{b:Nat}{p:Pr}(h:¬(1<=p.2/\p.2<=64)):zd7 w b p=none:=by unfold zd7;rw[if_neg h]
theorem zny {w:List Nat}{b:Nat}{p:Pr}(h:zgv (zdI w p.2)=none):zd7 w b p=none:=by
 unfold zd7
 split
 ·rw[h]
 ·rfl
theorem znc {w:List Nat}{b:Nat}{p:Pr}(hp:1<=p.2/\p.2<=64){r:zeb}(h:zgv (zdI w p.2)=some r):zd7 w b p=if zdW b r.name=p.1/65536 then some ⟨p.1,p.2,r.ino,r.name⟩else none:=by
 unfold zd7;rw[if_pos hp,h]
theorem zpo {w:List Nat}{b:Nat}{p:Pr}{ino S Q:Nat}{name:List Nat}(hp:1<=p.2/\p.2<=64)(h:zgv (zdI w p.2)=some ⟨ino,name⟩)(hS:zdW b name=S)(hQ:p.1/65536=Q)(hk:¬S=Q):zd7 w b p=none:=by
 rw[znc hp h];subst hS hQ;exact if_neg hk
theorem zph {w:List Nat}{b:Nat}{p:Pr}{ino S Q:Nat}{name:List Nat}(hp:1<=p.2/\p.2<=64)(h:zgv (zdI w p.2)=some ⟨ino,name⟩)(hS:zdW b name=S)(hQ:p.1/65536=Q)(hk:S=Q):zd7 w b p=some ⟨p.1,p.2,ino,name⟩:=by
 rw[znc hp h];subst hS hQ;exact if_pos hk
theorem ziF {w:List Nat}{b:Nat}{acc:List zdz}{p:Pr}{l:List Pr}:zcT w b acc (p::l)=match zd7 w b p with
  | some x=>if ziu acc x=true then none else zcT w b (acc++[x]) l
  | none=>none:=rfl
theorem zm0 {w:List Nat}{b:Nat}:∀{l:List Pr} {acc out:List zdz},zcT w b acc l=some out->out.length=acc.length+l.length
 | [],acc,out,h=>by injection h with h;subst h;rfl
 | p::l,acc,out,h=>by
  rw[ziF]at h
  split at h
  ·split at h
   ·cases h
   ·have:=zm0 h;rw[zAB9]at this;simp only[zAG9,zAH9]at this⊢;omega
  ·cases h
theorem Lb.ent (x:zdz):Lb (zez x):=.agg fun v hv=>by
 simp at hv;rcases hv with rfl|rfl|rfl|rfl
 ·exact .int _ _
 ·exact .int _ _
 ·exact .int _ _
 ·exact .str _
theorem Lb.esv (l:List zdz):Lb (esv 0 l):=.list fun x hx=>by
 obtain⟨y,hy,hx⟩:=zBE9.1 hx;obtain⟨e,_,rfl⟩:=zAK9.1 hy;simp[PV.cells]at hx;rcases hx with rfl|rfl|rfl|rfl
 ·exact .int _ _
 ·exact .int _ _
 ·exact .int _ _
 ·exact .str _
theorem zsN {l:List zdz}:∀v∈(l.map zez).flatMap PV.cells,Id0 v:=fun v hv=>by
 obtain⟨x,hx,hv⟩:=zBE9.1 hv;obtain⟨y,_,rfl⟩:=zAK9.1 hx;simp[PV.cells]at hv;rcases hv with rfl|rfl|rfl|rfl
 ·exact .int _ _
 ·exact .int _ _
 ·exact .int _ _
 ·exact .str _
theorem f13:ET.funcs.get 13=some T13:=zD Tryz.func13
theorem zrj (b:Nat):Id0 (.agg [iv 48,iv 8,iv 64,iv b,uv 3,uv 5,iv 9,iv 11,iv 27,iv 28]):=.agg fun v hv=>by
 simp at hv;rcases hv with rfl|rfl|rfl|rfl|rfl|rfl|rfl|rfl|rfl|rfl<;>exact .int _ _
set_option maxHeartbeats 4000000 in
theorem zur (p b:Nat)(h:1<=b/\b<=40)(w:List Nat)(hwl:w.length=3072)(hw:WB w)(a:Int)(hr:FN ET 42 [wv p w,zbN b 28,iv a] (.ret (.bool true)))(L:List Pr)(hL:L.length<=60000)(hLb:PB L)(hall:FN ET 43 [wv p w,iv a] (.ret (.tuple [psv 0 L,iv 0])))(e:FE)(he:e=match zcT w b [] L with
  | some out=>.ret (.tuple [esv 0 out,iv 0])
  | none=>.ret (.tuple [esv 0 [],iv 260])):FN ET 13 [wv p w,zbN b 28,iv a] e:=by
 have bad:zcT w b [] L=none->e=.ret (.tuple [esv 0 [],iv 260]):=fun hn=>by rw[he,hn]
 refine zfn f13 ?_ ?_
 ·rw[he]
  split
  ·exact Lb.two (Lb.esv _) (.int _ _)
  ·exact Lb.two (Lb.esv _) (.int _ _)
 unfold zbN zcC at hr⊢;refine zG ?_;refine zI ?_;refine zca hr ?_;refine zN ?_;refine zcf ?_;refine zas ?_;refine zB ?_;refine zI ?_;refine zca hall ?_;refine zN ?_;refine zT ?_;refine zas ?_;refine zG ?_;refine zdg 47 4 (i:=10) rfl ?_;simp only[lzy,zAG9,zAH9,zAR9,zBB9];refine zG ?_;refine zF (zbJ (fun m s=>∃(i:Nat) (out:List zdz) (G:List zd),m=L.length-i/\i<=L.length/\zcT w b [] L=zcT w b out (L.drop i)/\out.length<=i/\s.tm 0=wv p w/\s.tm 4=.ptr 0 0 0 0 10/\s.tm 8=psv 0 L/\s.tm 10=.sl 1 out.length 0 out.length (2*out.length) 4/\s.tm 11=iv i/\s.df=[]/\s.H=.row 32 10 0 0 [.agg [iv 48,iv 8,iv 64,iv b,uv 3,uv 5,iv 9,iv 11,iv 27,iv 28]]::.row 47 4 out.length 0 (out.map zez)::G) (n:=L.length) ?_ ?_)
 ·exact⟨0,[],[],rfl,zAL9 _,rfl,zAE9 _,zt,zt,zt,zt,zt,rfl,rfl⟩
 rintro m ⟨tm,df,H⟩ ⟨i,out,G,rfl,hi,hgo,hol,h0,h4,h8,h10,h11,rfl,rfl⟩;dsimp only at h0 h4 h8 h10 h11;(try refine zbC ?_);refine zar (zbH (zr2 h8 h11) ?_);refine zwh ?_ ?_;rotate_left
 ·intro hlt;have hlt:¬i<L.length:=by have:=of_decide_eq_false hlt;omega
  obtain rfl:i=L.length:=zo;rw[zCC9]at hgo;have he':e=.ret (.tuple [esv 0 out,iv 0]):=by rw[he,hgo];rfl
  rw[he'];refine zGF h10 ?_;refine zbG (zfr ?_ (by simp only[go_sem,h10]<;>rfl));exact Frz.tupL ⟨Frz.whole rfl rfl (by rw[zAX9]) (by rw[zAX9];exact zAE9 _) (fun v hv=>by rw[zAK9]at hv;obtain⟨x,_,rfl⟩:=hv;rfl) zsN,.int _ _,trivial⟩
 intro hlt;have hlt:i<L.length:=by have:=of_decide_eq_true hlt;omega
 obtain⟨pr,hpr⟩:∃x,L[i]?=some x:=⟨_,zAA9 hlt⟩
 have hpv:(L.map pv)[i]?=some (pv pr):=by rw[zAI9,hpr];rfl
 obtain⟨hkey,hptr⟩:=hLb pr (zAJ9 hpr);have hdr:L.drop i=pr::L.drop (i+1):=by rw[zAQ9 hlt];obtain⟨_,e⟩:=zAC9.1 hpr;rw[e]
 rw[hdr,ziF]at hgo;refine zB ?_;refine zF ?_;refine zB ?_;refine zbc ?_
 by_cases hp1:1<=pr.2
 rotate_left
 ·have g:(pr.2:Int)<1:=zo;rw[zg7 (fun h=>hp1 h.1)]at hgo;rw[bad hgo];refine zQF (zr7 h0 h4 h8 h11 hlt hpv g) ?_;refine zU ?_;exact Frz.tupL ⟨.nil _ _,.int _ _,trivial⟩
 have g1:¬(pr.2:Int)<1:=zo
 by_cases hp2:pr.2<=64
 rotate_left
 ·have g:(64:Int)<pr.2:=zo;rw[zg7 (fun h=>hp2 h.2)]at hgo;rw[bad hgo];refine zQF (zr8 h0 h4 h8 h11 hlt hpv g1 g) ?_;refine zU ?_;exact Frz.tupL ⟨.nil _ _,.int _ _,trivial⟩
 have g2:¬(64:Int)<pr.2:=zo;refine zQF (zr8 h0 h4 h8 h11 hlt hpv g1 g2) ?_;refine zcf ?_;refine zas ?_;refine zB ?_;have hAt:=zwN p b w hwl pr.2 ⟨hp1,hp2⟩;have hOf:=zwY p (zdI w pr.2) (zpZ hwl hp2) (fun x hx=>hw x (zo7 x hx));unfold zbN zcC at hAt;have hcl:(IntKind.i64.wrap (pr.2:Int))=(pr.2:Int):=wrap_i64 zo zo;generalize hRA:zdI w pr.2=RA at *
 unfold zh1 at hOf
 cases hrec:zgv RA with
 | none =>
  rw[hrec]at hOf;dsimp only at hOf;rw[zny (by rw[hRA];exact hrec)]at hgo;rw[bad hgo];refine zbc ?_;refine zdf hAt ⟨.list _ _ _,zrj b,.int _ _,trivial⟩ ?_ (by simp(disch:=omega)only[go_sem,h0,h4,h8,h11,hlt,hpv,hcl]<;>rfl);refine zdn hOf ?_ (by simp(disch:=omega)only[go_sem]<;>rfl);refine zda ?_ (by simp(disch:=omega)only[go_sem,h0,h4,h8,h11,hlt,hpv,hcl,ga0,ga1,sa0,sa1,zAD9,zAB9]<;>rfl);refine zdl ?_ (by simp(disch:=omega)only[go_sem,h0,h4,h8,h11,hlt,hpv,hcl,ga0,ga1,sa0,sa1,zAD9,zAB9]<;>rfl);refine zb3 ?_;simp only[go_sem];have hs:=ztD b h [] (by decide) (by decide);unfold zbN zcC at hs;refine zB ?_;refine zB ?_;refine zrg ?_ (by simp(disch:=omega)only[go_sem,h4,ga0,ga1,sa0,sa1,zAD9,zAB9]<;>rfl);refine zca hs ?_;refine zN ?_;refine zS ?_;refine zO ?_;exact Frz.tupL ⟨.nil _ _,.int _ _,trivial⟩
 | some r =>
  obtain⟨hrb,hnb,hnm,_⟩:=zmZ hrec;obtain⟨ino,name⟩:=r;have hrec':zgv (zdI w pr.2)=some ⟨ino,name⟩:=by rw[hRA];exact hrec
  rw[hrec]at hOf;dsimp only at hOf hrb hnb hnm;have hs:=zkk b h name hnb hnm;unfold zbN zcC at hs;obtain⟨S,hS⟩:∃S,zdW b name=S:=⟨_,rfl⟩
  rw[hS]at hs;obtain⟨Q,hQ⟩:∃Q,pr.1/65536=Q:=⟨_,rfl⟩
  have htd:Int.tdiv (pr.1:Int) 65536=(Q:Int):=by rw[zEW9 zo];omega
  have hq:(pr.1:Int)/65536=(Q:Int):=zo;refine zbc ?_;refine zdf hAt ⟨.list _ _ _,zrj b,.int _ _,trivial⟩ ?_ (by simp(disch:=omega)only[go_sem,h0,h4,h8,h11,hlt,hpv,hcl]<;>rfl);refine zdn hOf ?_ (by simp(disch:=omega)only[go_sem]<;>rfl);refine zda ?_ (by simp(disch:=omega)only[go_sem,h0,h4,h8,h11,hlt,hpv,hcl,ga0,ga1,sa0,sa1,zAD9,zAB9]<;>rfl);refine zdl ?_ (by simp(disch:=omega)only[go_sem,h0,h4,h8,h11,hlt,hpv,hcl,ga0,ga1,sa0,sa1,zAD9,zAB9]<;>rfl);refine zb3 ?_;simp only[go_sem];refine zB ?_;refine zB ?_;refine zrg ?_ (by simp(disch:=omega)only[go_sem,h4,ga0,ga1,sa0,sa1,zAD9,zAB9]<;>rfl);refine zca hs ?_;refine zN ?_;refine zB ?_;have hQb:(Q:Int)<18446744073709551616:=by have:pr.1<18446744073709551616:=hkey;omega
  by_cases hk:S=Q
  rotate_left
  ·have g3:¬(S:Int)=(Q:Int):=fun h=>hk (Int.ofNat.inj h);rw[zpo ⟨hp1,hp2⟩ hrec' hS hQ hk]at hgo;rw[bad hgo];refine zB ?_;refine zbH (zr8 h8 h11 hlt hpv htd hq hQb g3) ?_;refine zU ?_;exact Frz.tupL ⟨.nil _ _,.int _ _,trivial⟩
  have g3:(S:Int)=(Q:Int):=congrArg Nat.cast hk;rw[zph ⟨hp1,hp2⟩ hrec' hS hQ hk]at hgo;refine zB ?_;refine zbH (zr8 h8 h11 hlt hpv htd hq hQb g3) ?_;refine zcf ?_;refine zas ?_;refine zG ?_;have hgo':zcT w b [] L=if ziu out ⟨pr.1,pr.2,ino,name⟩=true then none else zcT w b (out++[⟨pr.1,pr.2,ino,name⟩]) (L.drop (i+1)):=hgo;clear hgo hs hOf hAt hrec hrec' hRA hS hQ htd hq hQb g3 hk hrb hnb hnm;refine zF (zbJ (fun m s=>∃(k:Nat),m=out.length-k/\k<=out.length/\ziu out ⟨pr.1,pr.2,ino,name⟩=(out.drop k).any (fun y=>decide (y.name=name)||decide (y.num=pr.2))/\s.tm 0=wv p w/\s.tm 4=.ptr 0 0 0 0 10/\s.tm 8=psv 0 L/\s.tm 10=.sl 1 out.length 0 out.length (2*out.length) 4/\s.tm 11=iv i/\s.tm 12=.ptr (G.length+1+1) 0 0 0 2/\s.tm 16=iv k/\s.df=[]/\s.H=.row 32 10 0 0 [.agg [iv 48,iv 8,iv 64,iv b,uv 3,uv 5,iv 9,iv 11,iv 27,iv 28]]::.row 47 4 out.length 0 (out.map zez)::(G++[.row 73 2 0 0 [.agg [iv ino,.str name]]])) (n:=out.length) ?_ ?_)
  ·exact⟨0,rfl,zAL9 _,rfl,zu h0,zu h4,zu h8,zu h10,zu h11,zt,zt,rfl,rfl⟩
  clear h0 h4 h8 h10 h11;rintro m ⟨tm,df,H⟩ ⟨k,rfl,hk,hcl2,h0,h4,h8,h10,h11,h12,h16,rfl,rfl⟩;dsimp only at h0 h4 h8 h10 h11 h12 h16;(try refine zbC ?_);refine zar (zbH (zr2 h10 h16) ?_);refine zwh ?_ ?_
  ·intro hlt2;have hlt2:k<out.length:=by have:=of_decide_eq_true hlt2;omega
   obtain⟨y,hy⟩:∃x,out[k]?=some x:=⟨_,zAA9 hlt2⟩
   have hyv:(out.map zez)[k]?=some (zez y):=by rw[zAI9,hy];rfl
   obtain⟨hd1,hd2⟩:=zAC9.1 hy;rw[zAQ9 hd1,hd2,zEL9]at hcl2;have hcl3:ziu out ⟨pr.1,pr.2,ino,name⟩=true->e=.ret (.tuple [esv 0 [],iv 260]):=fun h=>bad (by rw[hgo',if_pos h]);refine zB ?_;refine zF ?_;refine zB ?_;refine zbc ?_
   by_cases hn:y.name=name
   ·rw[decide_eq_true hn,zFT9,zFT9]at hcl2;rw[hcl3 hcl2];refine zdl ?_ (by simp(disch:=omega)only[go_sem,h8,h10,h11,h12,h16,hlt,hlt2,hpv,hyv,hn,hcl,ga0,ga1,sa0,sa1,zAD9,zAB9]<;>rfl);refine zb3 ?_;simp only[go_sem];refine zU ?_;exact Frz.tupL ⟨.nil _ _,.int _ _,trivial⟩
   rw[decide_eq_false hn,zFG9]at hcl2
   by_cases hm:y.num=pr.2
   ·have g:(y.num:Int)=(pr.2:Int):=congrArg Nat.cast hm;rw[decide_eq_true hm,zFT9]at hcl2;rw[hcl3 hcl2];refine zdl ?_ (by simp(disch:=omega)only[go_sem,h8,h10,h11,h12,h16,hlt,hlt2,hpv,hyv,hn,hcl,g,ga0,ga1,sa0,sa1,zAD9,zAB9]<;>rfl);refine zb3 ?_;simp only[go_sem];refine zU ?_;exact Frz.tupL ⟨.nil _ _,.int _ _,trivial⟩
   have g:¬(y.num:Int)=(pr.2:Int):=fun h=>hm (Int.ofNat.inj h);rw[decide_eq_false hm,zFG9]at hcl2;refine zdl ?_ (by simp(disch:=omega)only[go_sem,h8,h10,h11,h12,h16,hlt,hlt2,hpv,hyv,hn,hcl,g,ga0,ga1,sa0,sa1,zAD9,zAB9]<;>rfl);refine zb3 ?_;simp only[go_sem];refine zcf ?_;refine zas ?_;refine zJF h16 ?_;exact⟨_,by omega,k+1,rfl,hlt2,hcl2,zu h0,zu h4,zu h8,zu h10,zu h11,zu h12,zu h16,rfl,rfl⟩
  intro hlt2;have hlt2:¬k<out.length:=by have:=of_decide_eq_false hlt2;omega
  obtain rfl:k=out.length:=zo;rw[zCC9]at hcl2;rw[if_neg (by rw[hcl2];intro h;cases h)]at hgo';refine zB ?_;refine zbc ?_;have hbb:(out.length+1)*41<=140737488355328:=zo;refine zda ?_ (by simp(disch:=omega)only[go_sem,h8,h10,h11,h12,hlt,hpv,hcl,hbb,ga0,ga1,sa0,sa1,zAD9,zAB9]<;>rfl);refine zQF h8 ?_;refine zJF h11 ?_;refine⟨_,?m,i+1,out++[⟨pr.1,pr.2,ino,name⟩],?G,rfl,hlt,hgo',by simp;omega,zu h0,zu h4,zu h8,zt,zu h11,rfl,?H⟩
  case m=>omega
  case H=>rw[zBD9];simp only[zAB9,zAG9,zAH9,zBZ9,zAZ9,zBN9];rfl
def zei (w:List Nat)(b d:Nat)(a:Int):FE:=.ret (.tuple [esv 0 (zd9 w b d a).1,iv ((zd9 w b d a).2:Nat)])
theorem zr0 (w:List Nat)(b d:Nat)(a:Int):LbE (zei w b d a):=Lb.two (Lb.esv _) (.int _ _)
theorem znE (p b d:Nat)(h:1<=b/\b<=40)(w:List Nat)(hs:zb0 w.length)(hw:WB w)(a:Int):FN ET 13 [wv p w,zbN b d,iv a] (zei w b d a):=by
 have hr:=zsq p b d h w hs a;have hlb:=zr0 w b d a
 by_cases hd:ziA w.length d a=true
 rotate_left
 ·have hE:zei w b d a=.ret (.tuple [esv 0 [],iv 2]):=by unfold zei zd9;rw[if_neg hd];rfl
  rw[hE]at hlb⊢;rw[show ziA w.length d a=false by simpa using hd]at hr;refine zfn f13 hlb ?_;unfold zbN zcC at hr⊢;refine zG ?_;refine zI ?_;refine zca hr ?_;refine zN ?_;refine zU ?_;exact Frz.tupL ⟨.nil _ _,.int _ _,trivial⟩
 obtain⟨rfl,hwl,h0,h1⟩:=zgK.1 hd;have hall:=zvq p w a hs;rw[zoQ]at hall;rw[hd]at hr
 by_cases hno:(zdN w a).2=0
 rotate_left
 ·have hE:zei w b 28 a=.ret (.tuple [esv 0 [],iv ((zdN w a).2:Nat)]):=by unfold zei zd9;rw[if_pos hd,if_neg hno]
  rw[hE]at hlb⊢;generalize (zdN w a).2=no at *
  have g:¬(no:Int)=0:=zo;refine zfn f13 hlb ?_;unfold zbN zcC at hr⊢;refine zG ?_;refine zI ?_;refine zca hr ?_;refine zN ?_;refine zcf ?_;refine zas ?_;refine zB ?_;refine zI ?_;refine zca hall ?_;refine zN ?_;refine zSF g ?_;refine zO ?_;exact Frz.tupL ⟨.nil _ _,.int _ _,trivial⟩
 have hbd:=zsP hw zo a;have hln:=zmn w a zo;rw[hno]at hall;refine zur p b h w hwl hw a hr (zdN w a).1 hln hbd hall _ ?_;unfold zei zd9;rw[if_pos hd,if_pos hno]
 cases zcT w b [] (zdN w a).1<;>rfl
theorem f78:ET.funcs.get 78=some T78:=zD Tryz.func78
theorem f61:ET.funcs.get 61=some T61:=zD Tryz.func61
theorem f40:ET.funcs.get 40=some T40:=zD Tryz.func40
theorem f80:ET.funcs.get 80=some T80:=zD Tryz.func80
theorem zgy (e:Int):FN ET 78 [.bool true,iv e] (.ret (.tuple [])):=by
 refine zfn f78 Lb.unit ?_;refine zT ?_;refine zas ?_;exact⟨[],rfl,Frz.tupL trivial⟩
theorem zes (e:Int):FN ET 78 [.bool false,iv e] (.panic (zeU e)):=by
 refine zfn f78 (.iface (.int _ _)) ?_;refine zS ?_;refine zau ?_;refine zfx ?_;refine zqO (ty:=38) (v:=.int .i64 e) rfl (by simp[evs,ev,okv,upd,zj]) ?_;exact Frz.iface (.int _ _)
theorem zzq:FN ET 61 [iv 0] (.ret (.tuple [])):=by
 refine zfn f61 Lb.unit ?_;refine zau ?_;refine zfx ?_;refine zca (zgy 0) ?_;refine zK ?_;exact⟨[],rfl,Frz.tupL trivial⟩
theorem zzv (e:Int)(h:¬e=0):FN ET 61 [iv e] (.panic (zeU e)):=by
 refine zfn f61 (.iface (.int _ _)) ?_;refine zau ?_;refine zcz h ?_;refine zcx (zes e) ?_;exact Frz.iface (.int _ _)
@[reducible] def zjK (p:Nat) (w:List Nat) (b:Nat) (a:Int):PV:=.agg [iv 48,iv 8,iv 64,iv b,uv 3,uv 5,iv 9,iv 11,iv 27,iv 28,wv p w,iv a]
theorem zyp (p b:Nat)(h:1<=b/\b<=40)(w:List Nat)(hs:zb0 w.length)(a:Int)(hd:ziA w.length 28 a=true):FP ET 40 [wv p w,zbN b 28,iv a] (.ret (zjK p w b a)):=by
 obtain⟨_,hwl,h0,h1⟩:=zgK.1 hd;obtain⟨X,hS⟩:=zl2 b h;refine zfp f40 ?_;unfold zbN zcC at hS⊢;have g:(w.length:Int)=3072:=zo;have g1:a<3072:=h1;refine zG ?_;refine zI ?_;refine zca hS ?_;refine zN ?_;refine zIF (zr3 g h0 g1) ?_;refine zca (zgy 2) ?_;refine zN ?_;refine zO ?_;exact Frz.aggL ⟨.int _ _,.int _ _,.int _ _,.int _ _,.int _ _,.int _ _,.int _ _,.int _ _,.int _ _,.int _ _,.list _ _ _,.int _ _,trivial⟩
theorem zxj (p b d:Nat)(h:1<=b/\b<=40)(w:List Nat)(hs:zb0 w.length)(a:Int)(hd:ziA w.length d a=false):FN ET 40 [wv p w,zbN b d,iv a] (.panic (zeU 2)):=by
 refine zfn f40 (.iface (.int _ _)) ?_
 by_cases h28:28=d
 rotate_left
 ·have hS:=zvF b d h h28;unfold zbN zcC at hS⊢;refine zG ?_;refine zI ?_;refine zca hS ?_;refine zN ?_;refine zI ?_;refine zcx (zes 2) ?_;exact zcY rfl
 subst h28;obtain⟨X,hS⟩:=zl2 b h;unfold zbN zcC at hS⊢;refine zG ?_;refine zI ?_;refine zca hS ?_;refine zN ?_
 by_cases g0:(w.length:Int)=3072
 rotate_left
 ·refine zIF g0 ?_;refine zcx (zes 2) ?_;exact zcY rfl
 by_cases g1:0<=a
 rotate_left
 ·refine zIF (zr2 g0 g1) ?_;refine zcx (zes 2) ?_;exact zcY rfl
 by_cases g2:a<3072
 rotate_left
 ·refine zIF (zr3 g0 g1 g2) ?_;refine zcx (zes 2) ?_;exact zcY rfl
 rw[zgK.2 ⟨rfl,by omega,g1,g2⟩]at hd
 cases hd
def zeL (w:List Nat)(b:Nat)(pr:Pr):FE:=match zd7 w b pr with
 | some x=>.ret (zez x)
 | none=>.panic (zeU 260)
theorem zv1 (w:List Nat)(b:Nat)(pr:Pr):LbE (zeL w b pr):=by
 unfold zeL
 split
 ·exact Lb.ent _
 ·exact .iface (.int _ _)
set_option maxHeartbeats 2000000 in
theorem ztI (p b:Nat)(h:1<=b/\b<=40)(w:List Nat)(hwl:w.length=3072)(hw:WB w)(a:Int)(pr:Pr)(hkey:pr.1<18446744073709551616):FN ET 80 [zjK p w b a,pv pr] (zeL w b pr):=by
 have bad:zd7 w b pr=none->zeL w b pr=.panic (zeU 260):=fun h=>by unfold zeL;rw[h]
 have good:∀x,zd7 w b pr=some x->zeL w b pr=.ret (zez x):=fun x h=>by unfold zeL;rw[h]
 refine zfn f80 (zv1 w b pr) ?_;generalize zeL w b pr=e at *
 refine zG ?_
 by_cases hp1:1<=pr.2
 rotate_left
 ·have g:¬(1:Int)<=pr.2:=zo;refine zIF g ?_;refine zcx (zes 260) ?_;exact zcY (bad (zg7 fun h=>hp1 h.1))
 have g1:(1:Int)<=pr.2:=zo
 by_cases hp2:pr.2<=64
 rotate_left
 ·have g:¬(pr.2:Int)<=64:=zo;refine zIF (zr2 g g1) ?_;refine zcx (zes 260) ?_;exact zcY (bad (zg7 fun h=>hp2 h.2))
 have g2:(pr.2:Int)<=64:=zo;refine zIF (zr2 g2 g1) ?_;refine zca (zgy 260) ?_;refine zN ?_;have hRc:=zvv b pr.2 h ⟨hp1,hp2⟩;unfold zbN zcC at hRc;have hcl:(IntKind.i64.wrap (pr.2:Int))=(pr.2:Int):=wrap_i64 zo zo;have hOf:=zxe p (zdI w pr.2) (zpZ hwl hp2) (fun x hx=>hw x (zo7 x hx));have e3:((704+16*(pr.2-1):Nat):Int)+16=((704+16*(pr.2-1)+16:Nat):Int):=zo;have e4:0<w.length:=zo;have e5:List.drop (704+16*(pr.2-1)) (List.take (704+16*(pr.2-1)+16) (w.map uv))=(zdI w pr.2).map uv:=by
  unfold zdI;rw[zDK9,zDV9,zCU9,zCN9]
 have e6:704+16*(pr.2-1)<=704+16*(pr.2-1)+16:=zo;have e7:704+16*(pr.2-1)+16<=w.length:=zo;generalize hRA:zdI w pr.2=RA at *
 unfold zh1 at hOf;generalize 704+16*(pr.2-1)=A at *
 refine zIF hcl ?_;refine zca hRc ?_;refine zN ?_;refine zIF (zr5 e3 e4 e5 e6 e7) ?_
 cases hrec:zgv RA with
 | none =>
  rw[hrec]at hOf;dsimp only at hOf;refine zca hOf ?_;refine zN ?_;refine zI ?_;refine zcx (zes 260) ?_;exact zcY (bad (zny (by rw[hRA];exact hrec)))
 | some r =>
  obtain⟨hrb,hnb,hnm,_⟩:=zmZ hrec;obtain⟨ino,name⟩:=r;have hrec':zgv (zdI w pr.2)=some ⟨ino,name⟩:=by rw[hRA];exact hrec
  rw[hrec]at hOf;dsimp only at hOf hrb hnb hnm;have hs:=zu7 b h name hnb hnm;unfold zbN zcC at hs;obtain⟨S,hS⟩:∃S,zdW b name=S:=⟨_,rfl⟩
  rw[hS]at hs;obtain⟨Q,hQ⟩:∃Q,pr.1/65536=Q:=⟨_,rfl⟩
  have hsp:=zwD pr.1 hkey;rw[hQ]at hsp;obtain⟨M,hM⟩:∃M,pr.1%65536=M:=⟨_,rfl⟩
  rw[hM]at hsp;clear hM;refine zca hOf ?_;refine zN ?_;refine zI ?_;refine zca (zgy 260) ?_;refine zN ?_;refine zI ?_;refine zca hs ?_;refine zN ?_;refine zI ?_;refine zca hsp ?_;refine zN ?_
  by_cases hk:S=Q
  rotate_left
  ·have g3:¬(S:Int)=(Q:Int):=fun h=>hk (Int.ofNat.inj h);refine zIF g3 ?_;refine zcx (zes 260) ?_;exact zcY (bad (zpo ⟨hp1,hp2⟩ hrec' hS hQ hk))
  have g3:(S:Int)=(Q:Int):=congrArg Nat.cast hk;rw[good _ (zph ⟨hp1,hp2⟩ hrec' hS hQ hk)];refine zIF g3 ?_;refine zca (zgy 260) ?_;refine zN ?_;refine zOF hcl ?_;exact Frz.aggL ⟨.int _ _,.int _ _,.int _ _,.str _,trivial⟩
theorem f41:ET.funcs.get 41=some T41:=zD Tryz.func41
def zvk (mn mr:zd)(out:List zdz):Prop:=(out=[]/\mn=.map0/\mr=.map0)\/∃m1 m2,mn=.mapS m1/\mr=.mapI .i64 m2/\(∀s,m1 s=if out.any (fun y=>decide (y.name=s))=true then some (iv 1)else none)/\(∀q:Int,m2 q=if out.any (fun y=>decide ((y.num:Int)=q))=true then some (iv 1)else none)
theorem zrv (x:zdz):∀out:List zdz,ziu out x=(out.any (fun y=>decide (y.name=x.name))||out.any (fun y=>decide ((y.num:Int)=(x.num:Int))))
 | []=>rfl
 | y::out=>by
  have ih:=zrv x out;unfold ziu at ih⊢;rw[zEL9,zEL9,zEL9,ih];simp only[Int.natCast_inj]
  cases decide (y.name=x.name)<;>cases decide (y.num=x.num)<;>simp
theorem zpk (out:List zdz)(x:zdz)(s:List Nat)(o:Option PV)(h:o=if out.any (fun y=>decide (y.name=s))=true then some (iv 1)else none):(if s=x.name then some (iv 1)else o)=if(out++[x]).any (fun y=>decide (y.name=s))=true then some (iv 1)else none:=by
 rw[List.any_append,zEL9,List.any_nil,zFH9]
 by_cases hs:s=x.name
 ·rw[if_pos hs,decide_eq_true hs.symm,zFC9,if_pos rfl]
 ·rw[if_neg hs,decide_eq_false (fun h=>hs h.symm),zFH9,h]
theorem zpt (out:List zdz)(x:zdz)(q:Int)(o:Option PV)(h:o=if out.any (fun y=>decide ((y.num:Int)=q))=true then some (iv 1)else none):(if q=(x.num:Int)then some (iv 1)else o)=if(out++[x]).any (fun y=>decide ((y.num:Int)=q))=true then some (iv 1)else none:=by
 rw[List.any_append,zEL9,List.any_nil,zFH9]
 by_cases hs:q=(x.num:Int)
 ·rw[if_pos hs,decide_eq_true hs.symm,zFC9,if_pos rfl]
 ·rw[if_neg hs,decide_eq_false (fun h=>hs h.symm),zFH9,h]
set_option maxHeartbeats 4000000 in
theorem zuT (p b:Nat)(h:1<=b/\b<=40)(w:List Nat)(hwl:w.length=3072)(hw:WB w)(a:Int)(L:List Pr)(hL:L.length<=60000)(hLb:PB L)(hall:FN ET 79 [wv p w,iv a] (.ret (.tuple [psv 0 L,iv 0])))(e:FE)(he:e=match zcT w b [] L with
  | some out=>.ret (esv 0 out)
  | none=>.panic (zeU 260)):FN ET 41 [zjK p w b a] e:=by
 have bad:zcT w b [] L=none->e=.panic (zeU 260):=fun hn=>by rw[he,hn]
 refine zfn f41 ?_ ?_
 ·rw[he]
  split
  ·exact Lb.esv _
  ·exact .iface (.int _ _)
 refine zG ?_;refine zI ?_;refine zca hall ?_;refine zN ?_;refine zI ?_;refine zca zzq ?_;refine zN ?_;refine zG ?_;refine zdg 47 4 (i:=2) rfl ?_;simp only[lzy,zAG9,zAH9,zAR9,zBB9,zAB9];refine zG ?_;refine zF (zbJ (fun m s=>∃(i:Nat) (out:List zdz) (mn mr:zd) (G:List zd),m=L.length-i/\i<=L.length/\zcT w b [] L=zcT w b out (L.drop i)/\out.length<=i/\zvk mn mr out/\s.tm 1=.ptr 0 0 0 0 12/\s.tm 2=.sl 3 out.length 0 out.length (2*out.length) 4/\s.tm 5=.map 1/\s.tm 6=.map 2/\s.tm 22=psv 0 L/\s.tm 23=iv L.length/\s.tm 24=iv i/\s.df=[]/\s.H=.row 100 12 0 0 [zjK p w b a]::mn::mr::.row 47 4 out.length 0 (out.map zez)::G) (n:=L.length) ?_ ?_)
 ·exact⟨0,[],.map0,.map0,[],rfl,zAL9 _,rfl,zAE9 _,.inl ⟨rfl,rfl,rfl⟩,zt,zt,zt,zt,zt,zt,zt,rfl,rfl⟩
 rintro m ⟨tm,df,H⟩ ⟨i,out,mn,mr,G,rfl,hi,hgo,hol,hmm,h1,h2,h5,h6,h22,h23,h24,rfl,rfl⟩;dsimp only at h1 h2 h5 h6 h22 h23 h24;(try refine zbC ?_);refine zar (zbH (zr2 h23 h24) ?_);refine zwh ?_ ?_;rotate_left
 ·intro hlt;have hlt:¬i<L.length:=by have:=of_decide_eq_false hlt;omega
  obtain rfl:i=L.length:=zo;rw[zCC9]at hgo;have he':e=.ret (esv 0 out):=by rw[he,hgo];rfl
  rw[he'];refine zGF h2 ?_;refine zbG (zfr ?_ (by simp only[go_sem,h2]<;>rfl));exact Frz.whole rfl rfl (by rw[zAX9]) (by rw[zAX9];exact zAE9 _) (fun v hv=>by rw[zAK9]at hv;obtain⟨x,_,rfl⟩:=hv;rfl) zsN
 intro hlt;have hlt:i<L.length:=by have:=of_decide_eq_true hlt;omega
 obtain⟨pr,hpr⟩:∃x,L[i]?=some x:=⟨_,zAA9 hlt⟩
 have hpv:(L.map pv)[i]?=some (pv pr):=by rw[zAI9,hpr];rfl
 obtain⟨hkey,hptr⟩:=hLb pr (zAJ9 hpr);have hdr:L.drop i=pr::L.drop (i+1):=by rw[zAQ9 hlt];obtain⟨_,e⟩:=zAC9.1 hpr;rw[e]
 rw[hdr,ziF]at hgo;have hE:=ztI p b h w hwl hw a pr hkey;refine zB ?_;refine zF ?_;refine zGF (zr4 h22 h24 hlt hpv) ?_
 cases hent:zd7 w b pr with
 | none =>
  have hn:zcT w b [] L=none:=by rw[hgo,hent]
  have hE':zeL w b pr=.panic (zeU 260):=by unfold zeL;rw[hent]
  rw[hE']at hE;refine zB ?_;refine zrg ?_ (by simp(disch:=omega)only[go_sem,h1,ga0,ga1,ga2,sa0,sa1,zAD9,zAB9]<;>rfl);refine zcx hE ?_;exact zcY (bad hn)
 | some x =>
  have hgo':zcT w b [] L=if ziu out x=true then none else zcT w b (out++[x]) (L.drop (i+1)):=by rw[hgo,hent]
  have hE':zeL w b pr=.ret (zez x):=by unfold zeL;rw[hent]
  rw[hE']at hE;have hcl:=zrv x out;clear hgo hent hE';refine zB ?_;refine zrg ?_ (by simp(disch:=omega)only[go_sem,h1,ga0,ga1,ga2,sa0,sa1,zAD9,zAB9]<;>rfl);refine zca hE ?_;refine zfx ?_ (by simp(disch:=omega)only[go_sem,ga0,ga1,ga2,sa0,sa1,zAD9,zAB9]<;>rfl);refine zbY ?_;refine zrR (fun tm'=>tm' 1=.ptr 0 0 0 0 12/\tm' 2=.sl 3 out.length 0 out.length (2*out.length) 4/\tm' 5=.map 1/\tm' 6=.map 2/\tm' 9=.ptr (G.length+1+1+1+1+1) 0 0 0 4/\tm' 22=psv 0 L/\tm' 23=iv L.length/\tm' 24=iv i) ⟨zu h1,zu h2,zu h5,zu h6,zt,zu h22,zu h23,zu h24⟩ ?_;clear h1 h2 h5 h6 h22 h23 h24;rintro tm ⟨h1,h2,h5,h6,h9,h22,h23,h24⟩;refine zB ?_
  by_cases hA:out.any (fun y=>decide (y.name=x.name))=true
  ·rcases hmm with⟨rfl,rfl,rfl⟩|⟨m1,m2,rfl,rfl,hm1,hm2⟩
   ·cases hA
   have g1:=hm1 x.name;rw[if_pos hA]at g1;refine zB ?_;refine zrg ?_ (by simp(disch:=omega)only[go_sem,h5,h6,h9,g1,ga0,ga1,ga2,sa0,sa1,zAD9,zAB9]<;>rfl);refine zcx (zes 260) ?_;exact zcY (bad (by rw[hgo',if_pos (by rw[hcl,hA,zFT9])]))
  by_cases hB:out.any (fun y=>decide ((y.num:Int)=(x.num:Int)))=true
  ·rcases hmm with⟨rfl,rfl,rfl⟩|⟨m1,m2,rfl,rfl,hm1,hm2⟩
   ·cases hB
   have g1:=hm1 x.name;rw[if_neg hA]at g1;have g2:=hm2 x.num;rw[if_pos hB]at g2;refine zB ?_;refine zrg ?_ (by simp(disch:=omega)only[go_sem,h5,h6,h9,g1,g2,ga0,ga1,ga2,sa0,sa1,zAD9,zAB9]<;>rfl);refine zcx (zes 260) ?_;exact zcY (bad (by rw[hgo',if_pos (by rw[hcl,hB,zFC9])]))
  rw[if_neg (by rw[hcl];simp only[hA,hB];decide)]at hgo';refine zcV (Q:=fun yy s'=>yy=.norm/\s'.tm 1=.ptr 0 0 0 0 12/\s'.tm 2=.sl 3 out.length 0 out.length (2*out.length) 4/\s'.tm 5=.map 1/\s'.tm 6=.map 2/\s'.tm 9=.ptr (G.length+1+1+1+1+1) 0 0 0 4/\s'.tm 22=psv 0 L/\s'.tm 23=iv L.length/\s'.tm 24=iv i/\s'.df=[]/\s'.H=.row 100 12 0 0 [zjK p w b a]::mn::mr::.row 47 4 out.length 0 (out.map zez)::(G++[.row 92 2 0 0 [pv pr],.row 47 4 0 0 [zez x]])) (zau ?_) ?_
  ·rcases hmm with⟨rfl,rfl,rfl⟩|⟨m1,m2,rfl,rfl,hm1,hm2⟩
   ·refine zfx ?_ (by simp(disch:=omega)only[go_sem,h5,h6,h9,ga0,ga1,ga2,sa0,sa1,zAD9,zAB9]<;>rfl);refine zca (zgy 260) ?_;refine zK ?_;exact⟨rfl,h1,h2,h5,h6,h9,h22,h23,h24,rfl,rfl⟩
   ·have g1:=hm1 x.name;rw[if_neg hA]at g1;have g2:=hm2 x.num;rw[if_neg hB]at g2;refine zfx ?_ (by simp(disch:=omega)only[go_sem,h5,h6,h9,g1,g2,ga0,ga1,ga2,sa0,sa1,zAD9,zAB9]<;>rfl);refine zca (zgy 260) ?_;refine zK ?_;exact⟨rfl,h1,h2,h5,h6,h9,h22,h23,h24,rfl,rfl⟩
  clear h1 h2 h5 h6 h9 h22 h23 h24;rintro yy ⟨tm,df,H⟩ ⟨rfl,h1,h2,h5,h6,h9,h22,h23,h24,rfl,rfl⟩;dsimp only at h1 h2 h5 h6 h9 h22 h23 h24;refine zB ?_;refine zcV (Q:=fun yy s'=>yy=.norm/\s'.tm 1=.ptr 0 0 0 0 12/\s'.tm 2=.sl 3 out.length 0 out.length (2*out.length) 4/\s'.tm 5=.map 1/\s'.tm 6=.map 2/\s'.tm 9=.ptr (G.length+1+1+1+1+1) 0 0 0 4/\s'.tm 22=psv 0 L/\s'.tm 23=iv L.length/\s'.tm 24=iv i/\s'.df=[]/\∃mn' mr',zvk mn' mr' (out++[x])/\s'.H=.row 100 12 0 0 [zjK p w b a]::mn'::mr'::.row 47 4 out.length 0 (out.map zez)::(G++[.row 92 2 0 0 [pv pr],.row 47 4 0 0 [zez x]])) (zbc ?_) ?_
  ·rcases hmm with⟨rfl,rfl,rfl⟩|⟨m1,m2,rfl,rfl,hm1,hm2⟩
   ·refine zda ?_ (by simp(disch:=omega)only[go_sem,h5,h6,h9,ga0,ga1,ga2,sa0,sa1,zAD9,zAB9]<;>rfl);refine zda ?_ (by simp(disch:=omega)only[go_sem,h5,h6,h9,ga0,ga1,ga2,sa0,sa1,zAD9,zAB9]<;>rfl);refine zQF h5 ?_;refine⟨h1,h2,h5,h6,h9,h22,h23,h24,_,_,.inr ⟨_,_,rfl,rfl,fun s=>?_,fun q=>?_⟩,rfl⟩
    ·exact zpk [] x s none rfl
    ·exact zpt [] x q none rfl
   ·refine zda ?_ (by simp(disch:=omega)only[go_sem,h5,h6,h9,ga0,ga1,ga2,sa0,sa1,zAD9,zAB9]<;>rfl);refine zda ?_ (by simp(disch:=omega)only[go_sem,h5,h6,h9,ga0,ga1,ga2,sa0,sa1,zAD9,zAB9]<;>rfl);refine zQF h5 ?_;refine⟨h1,h2,h5,h6,h9,h22,h23,h24,_,_,.inr ⟨_,_,rfl,rfl,fun s=>?_,fun q=>?_⟩,rfl⟩
    ·exact zpk out x s _ (hm1 s)
    ·exact zpt out x q _ (hm2 q)
  clear h1 h2 h5 h6 h9 h22 h23 h24;rintro yy ⟨tm,df,H⟩ ⟨rfl,h1,h2,h5,h6,h9,h22,h23,h24,rfl,mn',mr',hmm',rfl⟩;dsimp only at h1 h2 h5 h6 h9 h22 h23 h24;have hbb:(out.length+1)*41<=140737488355328:=zo;refine zB ?_;refine zB ?_;refine zrg ?_ (by simp(disch:=omega)only[go_sem,h2,h9,hbb,ga0,ga1,ga2,sa0,sa1,zAD9,zAB9]<;>rfl);refine zdp ?_;refine zJF h24 ?_;refine⟨_,?m,i+1,out++[x],mn',mr',?G,rfl,hlt,hgo',by simp;omega,hmm',zu h1,zt,zu h5,zu h6,zu h22,zu h23,zt,rfl,?H⟩
  case m=>omega
  case H=>rw[zBD9];simp only[zAB9,zAG9,zAH9,zBZ9,zAZ9,zBN9];rfl
def zqW (w:List Nat)(b:Nat)(a:Int):FE:=if(zdN w a).2=0 then(match zcT w b [] (zdN w a).1 with
  | some out=>.ret (esv 0 out)
  | none=>.panic (zeU 260))else .panic (zeU ((zdN w a).2:Nat))
theorem zv5 (p b:Nat)(h:1<=b/\b<=40)(w:List Nat)(hwl:w.length=3072)(hw:WB w)(hs:zb0 w.length)(a:Int):FN ET 41 [zjK p w b a] (zqW w b a):=by
 have hall:=zz2 p w a hs;rw[zoQ]at hall;unfold zqW
 by_cases hno:(zdN w a).2=0
 rotate_left
 ·rw[if_neg hno];generalize (zdN w a).2=no at *
  have g:¬(no:Int)=0:=zo;refine zfn f41 (.iface (.int _ _)) ?_;refine zG ?_;refine zI ?_;refine zca hall ?_;refine zN ?_;refine zI ?_;refine zcx (zzv no g) ?_;exact zcY rfl
 rw[if_pos hno];have hbd:=zsP hw zo a;have hln:=zmn w a zo;rw[hno]at hall;exact zuT p b h w hwl hw a (zdN w a).1 hln hbd hall _ rfl
theorem f12:ET.funcs.get 12=some T12:=zD Tryz.func12
theorem f39:ET.funcs.get 39=some T39:=zD Tryz.func39
theorem c38:ET.caught.get 38=some ():=by kernel_rfl
theorem zyT (x:zd):FO ET 39 [.ptr 1 0 0 0 1] [x,.row 37 1 0 0 [.nilsl],.row 38 1 0 0 [iv 0]] false fun e H'=>e=.ret (.tuple [])/\H'=[x,.row 37 1 0 0 [.nilsl],.row 38 1 0 0 [iv 0]]:=by
 refine zro f39 ?_;refine zJ ?_;exact⟨[],rfl,rfl,rfl⟩
theorem zis (p b d:Nat)(h:1<=b/\b<=40)(w:List Nat)(hs:zb0 w.length)(hw:WB w)(a:Int):FN ET 12 [wv p w,zbN b d,iv a] (zei w b d a):=by
 refine zfn f12 (zr0 w b d a) ?_;refine zG ?_;refine zI ?_;refine zrl (f:=38) (p:=.ptr 2 0 0 0 1) (cl:=.fn 39 [.ptr 1 0 0 0 1]) ?_ ?_ c38 ?_
 ·rfl
 ·simp only[go_sem]<;>rfl
 refine zN ?_;have bad:∀(tm:Nat->PV) (n:Nat),zei w b d a=.ret (.tuple [esv 0 [],iv n])->tm 6=.ptr 1 0 0 0 1->tm 7=.ptr 2 0 0 0 1->zdT ET T12 (fun e' H=>zbq H 0 e' (zei w b d a)) (.panic (zeU n)) ⟨tm,[.caught (.ptr 2 0 0 0 1) (.fn 39 [.ptr 1 0 0 0 1])],[.row 32 10 0 0 [zbN b d],.row 37 1 0 0 [.nilsl],.row 38 1 0 0 [iv 0]]⟩:=fun tm n hn h6 h7=>by
  refine⟨n,39,[.ptr 1 0 0 0 1],false,2,0,1,rfl,rfl,rfl,(zyT _).mono fun e H he=>?_⟩;obtain⟨rfl,rfl⟩:=he;refine⟨rfl,_,rfl,[.nilsl,iv n],?_,?_⟩
  ·simp[T12,xT,zbf,okv,h6,h7,zaz,zbl,zbr,zaw];rfl
  ·rw[hn];exact Frz.tupL ⟨.nil _ _,.int _ _,trivial⟩
 refine zI ?_
 by_cases hd:ziA w.length d a=true
 rotate_left
 ·have hof:=zxj p b d h w hs a (by simpa using hd);unfold zbN zcC at hof;refine zcx hof ?_;exact bad _ 2 (by unfold zei zd9;rw[if_neg hd]) rfl rfl
 obtain⟨rfl,hwl,h0,h1⟩:=zgK.1 hd;have hof:=zyp p b h w hs a hd;unfold zbN zcC at hof;have hl:=zv5 p b h w hwl hw hs a;unfold zqW at hl;refine zcp hof (hl:=⟨.list _ _ _,zrj b,.int _ _,trivial⟩) ?_;refine zfx ?_
 by_cases hno:(zdN w a).2=0
 rotate_left
 ·rw[if_neg hno]at hl;refine zcx hl ?_;exact bad _ _ (by unfold zei zd9;rw[if_pos hd,if_neg hno]) rfl rfl
 rw[if_pos hno]at hl
 cases hg:zcT w b [] (zdN w a).1 with
 | none =>
  rw[hg]at hl;refine zcx hl ?_;exact bad _ 260 (by unfold zei zd9;rw[if_pos hd,if_pos hno,hg]) rfl rfl
 | some out =>
  rw[hg]at hl;have hE:zei w b 28 a=.ret (.tuple [esv 0 out,iv 0]):=by unfold zei zd9;rw[if_pos hd,if_pos hno,hg];rfl
  rw[hE];refine zca hl ?_;refine zN ?_;refine zbG ?_;exact⟨[esv 0 out,iv 0],rfl,Frz.tupL ⟨.list _ _ _,.int _ _,trivial⟩⟩
theorem f15:ET.funcs.get 15=some T15:=zD Tryz.func15
def zfj (b:Nat):List (List Nat)->Nat->Nat
 | [],key=>key
 | n::l,key=>zfj b l (if zdW b n=key/65536 then key+1 else key)
theorem zwx {b:Nat}{n:List Nat}{l:List (List Nat)}{key S Q:Nat}(hS:zdW b n=S)(hQ:key/65536=Q)(hk:S=Q):zfj b (n::l) key=zfj b l (key+1):=by
 subst hS hQ
 conv=>lhs;unfold zfj
 rw[if_pos hk]
theorem zxV {b:Nat}{n:List Nat}{l:List (List Nat)}{key S Q:Nat}(hS:zdW b n=S)(hQ:key/65536=Q)(hk:¬S=Q):zfj b (n::l) key=zfj b l key:=by
 subst hS hQ
 conv=>lhs;unfold zfj
 rw[if_neg hk]
theorem zmg (b:Nat):∀(l:List (List Nat)) (key:Nat),key<=zfj b l key/\zfj b l key<=key+l.length
 | [],key=>⟨zAE9 _,zAE9 _⟩
 | n::l,key=>by
  unfold zfj;have h1:=zmg b l key;have h2:=zmg b l (key+1)
  split
  ·rw[zAG9];omega
  ·rw[zAG9];omega
def zoL (b:Nat)(done:List (List Nat))(nm:List Nat):Nat:=zfj b done (65536*zdW b nm)
def zhJ (i:Nat)(nm:List Nat):List Pr:=stN (704+16*i) (zdJ ⟨1+i%8,nm⟩) 16
def zdE (b:Nat):List (List Nat)->List (List Nat)->List Nat->List Pr->Option (List Nat×List Pr)
 | _,[],w,ps=>some (w,ps)
 | done,nm::l,w,ps=>if zbT nm=0/\¬nm∈done then zdE b (done++[nm]) l (zcG w (zhJ done.length nm)) (ps++[(zoL b done nm,done.length+1)])else none
theorem zgc {b:Nat}{done l:List (List Nat)}{nm w:List Nat}{ps:List Pr}(h:¬(zbT nm=0/\¬nm∈done)):zdE b done (nm::l) w ps=none:=by unfold zdE;rw[if_neg h]
theorem zir {b:Nat}{done l:List (List Nat)}{nm w:List Nat}{ps:List Pr}{X:List Pr}{K:Nat}(h1:zbT nm=0)(h2:¬nm∈done)(hX:zhJ done.length nm=X)(hK:zoL b done nm=K):zdE b done (nm::l) w ps=zdE b (done++[nm]) l (zcG w X) (ps++[(K,done.length+1)]):=by
 subst hX hK
 conv=>lhs;unfold zdE
 rw[if_pos ⟨h1,h2⟩]
def zdD (l:List Pr)(fr:List Int):Nat×List Pr×Nat×Nat:=if(okP l&&okI [] fr)=true then match zfD l (fr.map Int.toNat)with
 | none=>(0,[],0,221)
 | some T=>(zmD T,zea T.reverse,(T.reverse.flatMap Prod.fst).length,0)else(0,[],0,2)
theorem zw7 (l:List Pr)(fr:List Int):ze9 l fr=.ret (.tuple [iv (zdD l fr).1,.list 0 2 ((zdD l fr).2.1.map zec),iv (zdD l fr).2.2.1,iv (zdD l fr).2.2.2]):=by
 unfold ze9 zdD
 cases (okP l&&okI [] fr)with
 | false=>rfl
 | true =>
  simp only[if_true]
  cases zfD l (fr.map Int.toNat)<;>rfl
theorem zpe (l:List Pr)(fr:List Int)(hl:l.length<=500):(zdD l fr).2.1.length<=64*fr.length/\(zdD l fr).2.2.1<=fr.length/\(zdD l fr).1<2048/\(PB l->BB (zdD l fr).2.1):=by
 unfold zdD
 by_cases hP:okP l=true
 rotate_left
 ·rw[show okP l=false by simpa using hP];exact⟨zAL9 _,zAL9 _,zCP9 _,fun _=>BB.nil⟩
 by_cases hI:okI [] fr=true
 rotate_left
 ·rw[show okI [] fr=false by simpa using hI,Bool.and_false];exact⟨zAL9 _,zAL9 _,zCP9 _,fun _=>BB.nil⟩
 rw[hP,hI];obtain⟨free,rfl,hF⟩:=zrI hI;have hfree:(free.map fun(b:Nat)=>(b:Int)).map Int.toNat=free:=by rw[zEG9];exact List.map_id free
 rw[hfree];simp only[Bool.and_self,if_true]
 cases hb:zfD l free with
 | none=>exact⟨zAL9 _,zAL9 _,by decide,fun _=>BB.nil⟩
 | some T =>
  have hT:=zuI hP hF hl hb;obtain⟨used,hu,e⟩:=hT.blocks;obtain⟨b,n,T',hT1,_⟩:=hT.one;have hlen:(zea T.reverse).length=64*(free.take used).length:=by
   rw[zkD _ fun M hM=>hT.len M (List.mem_reverse.1 hM),e]
  have hbm:b∈free:=zBP9 (i:=used) (by rw[<- e,hT1];simp);have hroot:zmD T=b:=by rw[hT1];rfl
  refine⟨by dsimp only;rw[hlen,zAN9,zAX9];omega,by dsimp only;rw[e,zAN9,zAX9];omega,by dsimp only;rw[hroot];exact(((zhM free).1 hF).1 b hbm).2,fun h=>zlN fun M hM=>zsT (fun b hb=>(((zhM free).1 hF).1 b hb).2) 4 _ _ _ _ (by decide) (ztW h) (fun L hL=>by simp at hL) hb M (List.mem_reverse.1 hM)⟩
def zeV (w:List Nat)(l:List (Int×Nat)):List Nat:=l.foldl (fun w x=>if 0<=x.1/\x.1<(w.length:Int)then w.set x.1.toNat x.2 else w) w
theorem zo6:∀(l:List (Int×Nat)) (w:List Nat),(zeV w l).length=w.length
 | [],_=>rfl
 | x::l,w=>by
  show (zeV (if 0<=x.1/\x.1<(w.length:Int)then w.set x.1.toNat x.2 else w) l).length=_;rw[zo6 l]
  split
  ·exact zBU9
  ·rfl
theorem zrE:∀(l:List (Int×Nat)) (w:List Nat),WB w->(∀x∈l,LtU x.2)->WB (zeV w l)
 | [],_,h,_=>h
 | x::l,w,h,hl=>by
  show WB (zeV (if 0<=x.1/\x.1<(w.length:Int)then w.set x.1.toNat x.2 else w) l);refine zrE l _ ?_ fun y hy=>hl y (zAO9 _ hy)
  split
  ·exact h.set (hl x (zAV9 ..)) _
  ·exact h
def frJ (j:Nat):List Int:=(List.range j).map fun k=>((28+k:Nat):Int)
theorem zjf (j:Nat):(frJ j).length=j:=by simp[frJ]
theorem zxr (j:Nat):frJ (j+1)=frJ j++[((28+j:Nat):Int)]:=by unfold frJ;rw[zDI9,zBD9];rfl
def zc6:List Int:=frJ 20
structure zp3 where
 names:List (List Nat)
 bits:Int
 bent:List (Int×Nat)
@[reducible] def zfe (l:List (List Nat)):List PV:=l.map PV.str
def zno (h:zp3)(b:Nat):Option (List Nat×List Int×Bool) :=
 if h.names.length<=60/\h.bent.length<=20 then match zdE b [] h.names (List.replicate 3072 0) []with
  | none=>none
  | some (w,ps)=>some (zeV ((zcG w (zdD (zdj ps) zc6).2.1).set 600 (zdD (zdj ps) zc6).1) h.bent,zc6.drop (zdD (zdj ps) zc6).2.2.1,decide ((zdD (zdj ps) zc6).2.2.2=0))
 else none
def znh (h:zp3):FE:=if 1<=h.bits/\h.bits<=40 then match zno h h.bits.toNat with
  | none=>.ret (.tuple [wv 0 [],zbN h.bits.toNat 28,.list 0 1 [],.bool false])
  | some (w,fr,c)=>.ret (.tuple [wv 0 w,zbN h.bits.toNat 28,.list 0 1 (fr.map iv),.bool c])
 else .ret (.tuple [wv 0 [],layZ,.list 0 1 [],.bool false])
theorem zpQ {b:Nat}:∀{l done:List (List Nat)} {w w':List Nat} {ps ps':List Pr},zdE b done l w ps=some (w',ps')->ps'.length=ps.length+l.length
 | [],done,w,w',ps,ps',h=>by
  unfold zdE at h;injection h with h;injection h with _ h;subst h;rfl
 | nm::l,done,w,w',ps,ps',h=>by
  by_cases hc:zbT nm=0/\¬nm∈done
  rotate_left
  ·rw[zgc hc]at h;cases h
  rw[zir hc.1 hc.2 rfl rfl]at h;have:=zpQ h;rw[zAB9]at this;simp only[zAG9,zAH9]at this⊢;omega
theorem zyB {r:zeb}(hb:zbF r.name)(h1:r.ino<65536)(h2:r.name.length<=120):WB (zdJ r):=fun x hx=>by
 unfold zdJ at hx;rcases zBA9.1 hx with rfl|hx
 ·show _<18446744073709551616;omega
 rcases zBF9.1 hx with hx|hx
 ·exact zjL hb x hx
 ·rw[zCW9 hx];exact zCP9 _
theorem zAe {a:Nat}{w:List Nat}(h:WB w)(n:Nat):BB (stN a w n):=fun c hc=>by
 unfold stN at hc;obtain⟨k,_,rfl⟩:=zAK9.1 hc;exact h.get _
theorem zjZ (i:Nat){nm:List Nat}(hb:zbF nm)(hn:zbT nm=0):(zhJ i nm).length=16/\BB (zhJ i nm):=by
 have h:=zd6 hn;unfold zhJ;refine⟨zlc _ _ _,zAe (zyB hb ?_ ?_) _⟩
 ·dsimp only;omega
 ·dsimp only;omega
theorem f10:ET.funcs.get 10=some T10:=zD Tryz.func10
theorem zwM (h:zp3):LbE (znh h):=by
 unfold znh
 split
 ·split
  ·exact Lb.four (Lb.uvs []) (Lb.lay _ _) (Lb.ivs []) (.bool _)
  ·exact Lb.four (Lb.uvs _) (Lb.lay _ _) (Lb.ivs _) (.bool _)
 ·exact Lb.four (Lb.uvs []) Lb.layZ (Lb.ivs []) (.bool _)
theorem ge0 {α:Type}(H G:List α)(a x:α):(H++a::(G++[x]))[H.length+(G.length+1)]?=some x:=by
 rw[zAU9 zo,zDV9];simp
set_option maxHeartbeats 4000000 in
theorem zuA (q1 q2:Nat)(names:List (List Nat))(bits:Int)(bent:List (Int×Nat))(hn:∀s∈names,zbF s/\s.length<9223372036854775808)(hbe:∀x∈bent,LtU x.2):FN ET 10 [.agg [.list q1 1 (zfe names),iv bits,.list q2 2 (wdV bent)]] (znh ⟨names,bits,bent⟩):=by
 refine zfn f10 (zwM _) ?_;unfold znh zno;dsimp only
 by_cases hbits:1<=bits/\bits<=40
 rotate_left
 ·rw[if_neg hbits];have hOf:=zAu bits zo;refine zG ?_;refine zI ?_;refine zca hOf ?_;refine zN ?_;refine zS ?_;refine zB ?_;refine zbc ?_;refine zcI hbits ?_;refine zQF hbits ?_;refine zbG (zfr ?_);exact Frz.tupL ⟨.nil _ _,zlX.frz,.nil _ _,.bool _,trivial⟩
 rw[if_pos hbits];obtain⟨b,rfl⟩:∃b:Nat,bits=b:=⟨bits.toNat,by omega⟩
 rw[zDL9];have hb:1<=b/\b<=40:=zo;have hOf:=zya b hb;unfold zbN zcC at hOf;refine zG ?_;refine zI ?_;refine zca hOf ?_;refine zN ?_
 by_cases c1:60<names.length
 ·have g1:(60:Int)<(names.length:Nat):=zo;rw[if_neg (fun h=>by omega)];refine zSF g1 ?_;refine zB ?_;refine zbc ?_;refine zcI g1 ?_;refine zQF g1 ?_;refine zbG (zfr ?_);exact Frz.tupL ⟨.nil _ _,(zgX b 28).frz,.nil _ _,.bool _,trivial⟩
 have g1:¬(60:Int)<(names.length:Nat):=zo
 by_cases c2:20<bent.length
 ·have g2:(20:Int)<(bent.length:Nat):=zo;rw[if_neg (fun h=>by omega)];refine zSF (zr2 g1 g2) ?_;refine zB ?_;refine zbc ?_;refine zcI g1 ?_;refine zQF g1 ?_;refine zbG (zfr ?_);exact Frz.tupL ⟨.nil _ _,(zgX b 28).frz,.nil _ _,.bool _,trivial⟩
 have g2:¬(20:Int)<(bent.length:Nat):=zo;rw[if_pos ⟨by omega,by omega⟩];refine zTF (zr2 g1 g2) ?_;refine zas ?_;refine zG ?_;refine zdg 92 2 (i:=9) rfl ?_;simp only[lzy,zAG9,zAH9,zAR9,zBB9,zAB9];have noF:∀(tm:Nat->PV) (H:List zd),tm 2=.nilsl->tm 3=.ptr 1 0 0 0 10->tm 4=.nilsl->tm 5=.bool false->H[1]?=some (.row 32 10 0 0 [.agg [iv 48,iv 8,iv 64,iv b,uv 3,uv 5,iv 9,iv 11,iv 27,iv 28]])->zdT ET T10 (fun e' H=>zbq H 0 e' (.ret (.tuple [wv 0 [],zbN b 28,.list 0 1 [],.bool false]))) .ret ⟨tm,[],H⟩:=fun tm H h2 h3 h4 h5 hH=>by
  refine zep (vs:=[.nilsl,zbN b 28,.nilsl,.bool false]) ?_ (Frz.tupL ⟨.nil _ _,(zgX b 28).frz,.nil _ _,.bool _,trivial⟩);simp[T10,xT,zbf,okv,h2,h3,h4,h5,zaz,zbl,zbr,zaw,hH]
  try rfl
 have hW0:List.replicate 3072 (PV.int .u64 0)=(List.replicate 3072 0).map uv:=by rw[zDZ9];rfl
 rw[hW0];have hw0l:(List.replicate 3072 0:List Nat).length=3072:=zCF9;have hw0b:WB (List.replicate 3072 0):=fun x hx=>by rw[zCW9 hx];exact zCP9 _
 generalize hGo:zdE b [] names (List.replicate 3072 0) []=R;have hGo:R=zdE b [] names (List.replicate 3072 0) []:=hGo.symm;generalize List.replicate 3072 0=W0 at *
 refine zF (zbJ (fun m s=>∃(i id g M:Nat) (w:List Nat) (ps:List Pr),m=names.length-i/\i<=names.length/\R=zdE b (names.take i) (names.drop i) w ps/\w.length=3072/\WB w/\PB ps/\ps.length=i/\M<=g/\(∀s∈names.take i,zbT s=0)/\s.tm 1=.ptr 0 0 0 0 3/\s.tm 3=.ptr 1 0 0 0 10/\s.tm 6=.ptr 2 0 0 0 10/\s.tm 8=.sl id g 0 w.length (2*w.length) 1/\s.tm 9=.sl 4 ps.length 0 ps.length (2*ps.length) 2/\s.tm 10=iv i/\s.df=[]/\s.H[0]?=some (.row 25 3 0 0 [.agg [.list q1 1 (zfe names),iv b,.list q2 2 (wdV bent)]])/\s.H[1]?=some (.row 32 10 0 0 [layZ])/\s.H[2]?=some (.row 32 10 0 0 [.agg [iv 48,iv 8,iv 64,iv b,uv 3,uv 5,iv 9,iv 11,iv 27,iv 28]])/\s.H[4]?=some (.row 92 2 ps.length 0 (ps.map pv))/\s.H[id]?=some (.row 29 1 g M (w.map uv))) (n:=names.length) ?_ ?_)
 ·exact⟨0,3,0,0,W0,[],rfl,zAL9 _,hGo,hw0l,hw0b,fun c hc=>(by cases hc),rfl,zAE9 _,fun s hs=>(by cases hs),zt,zt,zt,by simp[upd,hw0l],zt,zt,rfl,rfl,rfl,rfl,rfl,rfl⟩
 clear hGo hw0l hw0b hW0;rintro m ⟨tm,df,H⟩ ⟨i,id,g,M,w,ps,rfl,hi,hGo,hwl,hwb,hpb,hpl,hM,hok,h1,h3,h6,h8,h9,h10,rfl,e0,e1,e2,e4,er⟩;dsimp only at h1 h3 h6 h8 h9 h10 e0 e1 e2 e4 er;(try refine zbC ?_);refine zar (zbH (zr3 h1 h10 e0) ?_);refine zwh ?_ ?_
 ·intro hlt;have hlt:i<names.length:=by have:=of_decide_eq_true hlt;omega
  obtain⟨nm,hnm⟩:∃x,names[i]?=some x:=⟨_,zAA9 hlt⟩
  have hnv:(names.map PV.str)[i]?=some (.str nm):=by rw[zAI9,hnm];rfl
  obtain⟨hnb,hnl⟩:=hn nm (zAJ9 hnm);have hdr:names.drop i=nm::names.drop (i+1):=by rw[zAQ9 hlt];obtain⟨_,e⟩:=zAC9.1 hnm;rw[e]
  have htk:names.take (i+1)=names.take i++[nm]:=by rw[zBQ9,hnm];rfl
  have hdl:(names.take i).length=i:=by rw[zAN9];omega
  have hdk:∀k,k<i->(names.take i)[k]?=names[k]?:=fun k hk=>by rw[zCY9,if_pos hk]
  rw[hdr]at hGo;have hC:=zgY nm hnl;have hs1:∀x:zd,(H.set 1 x)[1]?=some x:=fun x=>zAY9 (zAC9.1 e1).1;generalize names.take i=done at *
  refine zB ?_;refine zF ?_;refine zB ?_;refine zIF (zr5 h1 h10 e0 hnv hlt) ?_;refine zca hC ?_
  by_cases hn0:zbT nm=0
  rotate_left
  ·have gN:¬(zbT nm:Int)=0:=fun h=>hn0 (Int.ofNat.inj h);rw[hGo,zgc (fun h=>hn0 h.1)];refine zNF gN ?_;refine zct ?_;refine zB ?_;refine zbc ?_;refine zcI (zr4 h3 h6 e1 e2) ?_;refine zQF h3 ?_;refine zbG ?_;exact noF _ _ rfl h3 rfl rfl (hs1 _)
  have gN:(zbT nm:Int)=0:=by rw[hn0];rfl
  refine zNF gN ?_;refine zcf ?_;refine zas ?_;obtain⟨V,hV⟩:∃V,V=65536*zdW b nm:=⟨_,rfl⟩
  have hK:=zvg b hb nm hnb hn0 V hV;unfold zbN zcC at hK;have hVb:V<72057594037927936:=by have:=zoN b hb nm;omega
  refine zB ?_;refine zbc ?_;refine zdc (zr7 h1 h6 h10 e0 e2 hnv hlt) hK ?_;refine zQF h1 ?_;refine zG ?_;have hKN:zoL b done nm=zfj b done V:=by rw[hV];rfl
  refine zF (zbJ (fun m s=>∃(k key:Nat),m=i-k/\k<=i/\zoL b done nm=zfj b (done.drop k) key/\key<=V+k/\(nm∈done↔nm∈done.drop k)/\s.tm 1=.ptr 0 0 0 0 3/\s.tm 3=.ptr 1 0 0 0 10/\s.tm 6=.ptr 2 0 0 0 10/\s.tm 8=.sl id g 0 w.length (2*w.length) 1/\s.tm 9=.sl 4 ps.length 0 ps.length (2*ps.length) 2/\s.tm 10=iv i/\s.tm 11=uv key/\s.tm 13=iv k/\s.df=[]/\s.H=H) (n:=i) ?_ ?_)
  ·exact⟨0,V,rfl,zAL9 _,hKN,zAE9 _,Iff.rfl,zu h1,zu h3,zu h6,zu h8,zu h9,zu h10,zt,zt,rfl,rfl⟩
  clear hKN h1 h3 h6 h8 h9 h10;rintro m ⟨tm,df,H2⟩ ⟨k,key,rfl,hk,hKN,hkey,hmem,h1,h3,h6,h8,h9,h10,h11,h13,rfl,rfl⟩;dsimp only at h1 h3 h6 h8 h9 h10 h11 h13;(try refine zbC ?_);refine zar (zbH (zr2 h10 h13) ?_);refine zwh ?_ ?_
  ·intro hlt2;have hlt2:k<i:=by have:=of_decide_eq_true hlt2;omega
   obtain⟨ok,hok2⟩:∃x,names[k]?=some x:=⟨_,zAA9 zo⟩
   have hokv:(names.map PV.str)[k]?=some (.str ok):=by rw[zAI9,hok2];rfl
   have hdk2:=(hdk k hlt2).trans hok2;obtain⟨hnb2,hnl2⟩:=hn ok (zAJ9 hok2);have hno2:=hok ok (zAJ9 hdk2);have hdd:done.drop k=ok::done.drop (k+1):=by
    obtain⟨h,e⟩:=zAC9.1 hdk2;rw[zAQ9 h,e]
   rw[hdd]at hKN hmem;have hkn:k<names.length:=zo;refine zB ?_;refine zF ?_;refine zB ?_;refine zbc ?_
   by_cases he:ok=nm
   ·rw[hGo,zgc (fun h=>h.2 (hmem.2 (by rw[he];exact zAV9 ..)))];refine zQF (zr9 h1 h10 h13 e0 hnv hokv hlt hkn he) ?_;refine zct ?_;refine zB ?_;refine zbc ?_;refine zcI (zr4 h3 h6 e1 e2) ?_;refine zQF h3 ?_;refine zbG ?_;exact noF _ _ rfl h3 rfl rfl (hs1 _)
   have hmem2:nm∈done↔nm∈done.drop (k+1):=hmem.trans (by rw[zBA9];exact⟨fun h=>h.resolve_left (fun e=>he e.symm),.inr⟩);have hSum:=zkk b hb ok hnb2 hno2;unfold zbN zcC at hSum;obtain⟨S,hS⟩:∃S,zdW b ok=S:=⟨_,rfl⟩
   rw[hS]at hSum;obtain⟨Q,hQ⟩:∃Q,key/65536=Q:=⟨_,rfl⟩
   have htd:Int.tdiv (key:Int) 65536=(Q:Int):=by rw[zEW9 zo];omega
   have hq:(key:Int)/65536=(Q:Int):=zo;have hQb:(Q:Int)<18446744073709551616:=zo;refine zQF (zr9 h1 h10 h13 e0 hnv hokv hlt hkn he) ?_;refine zcf ?_;refine zas ?_;refine zB ?_;refine zbc ?_;refine zdc (zr7 h1 h6 h13 e0 e2 hokv hkn) hSum ?_;refine zQF h1 ?_;refine zB ?_
   by_cases hk2:S=Q
   rotate_left
   ·have g3:¬(S:Int)=(Q:Int):=fun h=>hk2 (Int.ofNat.inj h);rw[zxV hS hQ hk2]at hKN;refine zB ?_;refine zbH (zr5 h11 htd hq hQb g3) ?_;refine zcf ?_;refine zas ?_;refine zJF h13 ?_;exact⟨_,by omega,k+1,key,rfl,hlt2,hKN,by omega,hmem2,zu h1,zu h3,zu h6,zu h8,zu h9,zu h10,zu h11,zu h13,rfl,rfl⟩
   have g3:(S:Int)=(Q:Int):=congrArg Nat.cast hk2;rw[zwx hS hQ hk2]at hKN;have hk1:(key:Int)+1=((key+1:Nat):Int):=zo;have hk1b:((key+1:Nat):Int)<18446744073709551616:=zo;refine zB ?_;refine zbH (zr5 h11 htd hq hQb g3) ?_;refine zct ?_;refine zJF (zr3 h11 hk1 hk1b) ?_;refine zJF h13 ?_;exact⟨_,by omega,k+1,key+1,rfl,hlt2,hKN,by omega,hmem2,zu h1,zu h3,zu h6,zu h8,zu h9,zu h10,zt,zu h13,rfl,rfl⟩
  intro hlt2;have hlt2:¬k<i:=by have:=of_decide_eq_false hlt2;omega
  obtain rfl:k=i:=zo;rw[zCS9 zo]at hKN hmem;have hKN:zoL b done nm=key:=hKN;have hnd:¬nm∈done:=fun h=>by cases hmem.1 h
  obtain⟨X,hX⟩:∃X,zhJ k nm=X:=⟨_,rfl⟩
  obtain⟨hXl,hXb⟩:=zjZ k hnb hn0;have hk8:k%8<8:=zEM9 _ (by decide);have hSt:=zql (704+16*k) zo ⟨1+k%8,nm⟩ ((zee _).2 ⟨zGB9 1 _,by dsimp only;omega,hn0⟩) hnb;rw[show stN (704+16*k) (zdJ ⟨1+k%8,nm⟩) 16=X from hX]at hSt;rw[hX]at hXl hXb;rw[zir (X:=X) hn0 hnd (by rw[hdl];exact hX) hKN]at hGo;have hrm:(k:Int).tmod 8=((k%8:Nat):Int):=by rw[zEX9 zo];omega
  have a1:(16:Int)*(k:Int)=((16*k:Nat):Int):=zo;have a2:(704:Int)+((16*k:Nat):Int)=((704+16*k:Nat):Int):=zo;generalize k%8=r8 at *
  have a3:(1:Int)+(r8:Int)=((1+r8:Nat):Int):=zo;clear hK hV hKN hmem hdk hC;refine zB ?_;refine zbc ?_;refine zdc (ziC h1 h6 h10 e0 e2 hnv hlt hrm a1 a2 a3) hSt ?_;refine zQF h1 ?_;refine zB ?_;have hap:=zlH 0 H2 id g (2*w.length) M w X zo ⟨by omega,by omega⟩ hM er;refine zIF h8 ?_;refine zco hap ?_ (by first|rfl|(simp only[go_sem,h8]<;>rfl)) (by simp only[go_sem,h8]<;>rfl);rintro e H1 ⟨hst,id2,g2,M2,rfl,hM2,hr2⟩;refine zN ?_;have hal:=zfm X w;have f0:=hst _ _ e0;have f1:=hst _ _ e1;have f2:=hst _ _ e2;have f4:=hst _ _ e4;have hne:id2≠4:=by rintro rfl;rw[f4]at hr2;cases hr2
  have f4':∀Y,(H1++Y)[4]?=some (.row 92 2 ps.length 0 (ps.map pv)):=fun Y=>zbM f4;have hbb:(ps.length+1)*17<=140737488355328:=zo;have a4:(k:Int)+1=((k+1:Nat):Int):=zo;have a5:((k+1:Nat):Int)<18446744073709551616:=zo;refine zB ?_;refine zJF (zr7 h9 h10 h11 f4' hbb a4 a5) ?_;refine zJF h10 ?_;rw[hdl]at hGo;have hsn:ps.map pv++[pv (key,k+1)]=(ps++[(key,k+1)]).map pv:=by rw[zBD9];rfl
  have hsl:ps.length+1=(ps++[(key,k+1)]).length:=by rw[zAB9];rfl
  refine⟨_,?m,k+1,id2,g2,M2,zcG w X,ps++[(key,k+1)],rfl,hlt,by rw[htk];exact hGo,by rw[hal];exact hwl,zhf hwb hXb,?PB,by rw[<- hsl];exact congrArg (· + 1) hpl,hM2,?OK,zu h1,zu h3,zu h6,by simp[upd,hal],zt,zu h10,rfl,?H0,?H1,?H2,?H4,?HR⟩
  case m=>omega
  case PB =>
   intro c hc;rcases zBF9.1 hc with hc|hc
   ·exact hpb c hc
   ·obtain rfl:=zBO9.1 hc;exact⟨show key<18446744073709551616 by omega,show k+1<18446744073709551616 by omega⟩
  case OK =>
   rw[htk];intro s hs;rcases zBF9.1 hs with hs|hs
   ·exact hok s hs
   ·obtain rfl:=zBO9.1 hs;exact hn0
  case H0=>exact(zAT9 (by decide)).trans (zbM f0)
  case H1=>exact(zAT9 (by decide)).trans (zbM f1)
  case H2=>exact(zAT9 (by decide)).trans (zbM f2)
  case H4 =>
   rw[<- hsn,<- hsl];exact zAY9 (zAC9.1 (zbM f4)).1
  case HR=>exact(zAT9 hne.symm).trans (zbM hr2)
 intro hlt;have hlt:¬i<names.length:=by have:=of_decide_eq_false hlt;omega
 obtain rfl:i=names.length:=zo;rw[zBS9,zCC9]at hGo;have hGo:R=some (w,ps):=hGo;rw[hGo];clear hGo hok hi hlt;refine zGF (zr2 h6 e2) ?_;refine zdg 3 1 (i:=18) rfl ?_;simp only[lzy];refine zF (zbJ (fun m s=>∃(j:Nat) (G:List zd),m=20-j/\j<=20/\s.tm 1=.ptr 0 0 0 0 3/\s.tm 3=.ptr 1 0 0 0 10/\s.tm 6=.ptr 2 0 0 0 10/\s.tm 8=.sl id g 0 w.length (2*w.length) 1/\s.tm 9=.sl 4 ps.length 0 ps.length (2*ps.length) 2/\s.tm 18=.sl H.length j 0 j (2*j) 1/\s.tm 19=iv (28+j:Nat)/\s.df=[]/\s.H=H++.row 3 1 j 0 ((frJ j).map iv)::G) (n:=20) ?_ ?_)
 ·exact⟨0,[],rfl,zAL9 _,zu h1,zu h3,zu h6,zu h8,zu h9,zt,zt,rfl,rfl⟩
 clear h1 h3 h6 h8 h9 h10;rintro m ⟨tm,df,H9⟩ ⟨j,G,rfl,hj,h1,h3,h6,h8,h9,h18,h19,rfl,rfl⟩;dsimp only at h1 h3 h6 h8 h9 h18 h19;have gj:((28+j:Nat):Int)<48↔j<20:=zo;(try refine zbC ?_);refine zar (zbH h19 ?_);refine zwh ?_ ?_
 ·intro hltj;have hltj:j<20:=by have:=of_decide_eq_true hltj;omega
  have hbb:(j+1)*9<=140737488355328:=zo;have hfl:=zjf j;have g19:((28+j:Nat):Int)+1=((28+(j+1):Nat):Int):=zo;refine zB ?_;refine zF ?_;refine zB ?_;refine zrg ?_ (by simp(disch:=omega)only[go_sem,h18,h19,hbb,hfl,ga0,ge0,sa0,zAD9,zAB9]<;>rfl);refine zdp ?_;refine zJF (zr2 h19 g19) ?_;refine⟨_,?m,j+1,?G,rfl,hltj,zu h1,zu h3,zu h6,zu h8,zu h9,zt,zt,rfl,?H⟩
  case m=>omega
  case H=>rw[zxr,zBD9];rfl
 intro hltj;have hltj:¬j<20:=by have:=of_decide_eq_false hltj;omega
 obtain rfl:j=20:=zo;refine zrR (fun tm'=>tm' 1=.ptr 0 0 0 0 3/\tm' 3=.ptr 1 0 0 0 10/\tm' 6=.ptr 2 0 0 0 10/\tm' 8=.sl id g 0 w.length (2*w.length) 1/\tm' 9=.sl 4 ps.length 0 ps.length (2*ps.length) 2/\tm' 18=.sl H.length 20 0 20 40 1) ⟨zu h1,zu h3,zu h6,zu h8,zu h9,zu h18⟩ ?_;clear h1 h3 h6 h8 h9 h18 h19 gj;rintro tm ⟨h1,h3,h6,h8,h9,h18⟩;refine zjH 18 H.length (w:=.list 0 1 (zc6.map iv)) (o:=.row 3 1 20 0 ((frJ 20).map iv)) (by simp only[ga0]) (by
  dsimp only;rw[h18];exact Frz.whole (l:=(frJ 20).map iv) (znT (by simp only[ga0]<;>rfl)) rfl (by rw[zAX9,zjf]) (by rw[zAX9,zjf];decide) (fun v hv=>by obtain⟨x,_,rfl⟩:=zAK9.1 hv;rfl) ztn) ?_
 simp only[sa0];refine zrR (fun tm'=>tm' 1=.ptr 0 0 0 0 3/\tm' 3=.ptr 1 0 0 0 10/\tm' 6=.ptr 2 0 0 0 10/\tm' 8=.sl id g 0 w.length (2*w.length) 1/\tm' 9=.sl 4 ps.length 0 ps.length (2*ps.length) 2/\tm' 18=.list 0 1 (zc6.map iv)) ⟨zu h1,zu h3,zu h6,zu h8,zu h9,by simp[upd]⟩ ?_;clear h1 h3 h6 h8 h9 h18;rintro tm ⟨h1,h3,h6,h8,h9,h18⟩;have f0:=zbM (X:=.void::G) e0;have f1:=zbM (X:=.void::G) e1;have f2:=zbM (X:=.void::G) e2;have f4:=zbM (X:=.void::G) e4;have fr:=zbM (X:=.void::G) er;generalize H++zd.void::G=H5 at *
 clear e0 e1 e2 e4 er;have fzp:Frz H5 1 (.sl 4 ps.length 0 ps.length (2*ps.length) 2) (psv 1 ps):=Frz.whole (l:=ps.map pv) f4 rfl (by simp) (by simp) (fun v hv=>by obtain⟨x,_,rfl⟩:=zAK9.1 hv;rfl) zf0;have hSo:=zrG 1 ps zo;have hsl:=zlE ps;have hsb:PB (zdj ps):=fun c hc=>hpb c (zlw c hc);have hB:=zvQ 0 0 (zdj ps) zc6 zo (by decide);rw[zw7]at hB;obtain⟨q1',q2',q3',q4'⟩:=zpe (zdj ps) zc6 zo;have q5:=q4' hsb;clear q4';dsimp only;generalize zdD (zdj ps) zc6=bp at *
 obtain⟨root,puts,used,no⟩:=bp;dsimp only at hB q1' q2' q3' q5⊢;generalize zdj ps=sp at *
 have hfl:zc6.length=20:=zjf 20;refine zIF h9 ?_;refine zcl hSo ?_ ?_;exact⟨fzp,trivial⟩;refine zcz h18 ?_;refine zca hB ?_;refine zN ?_;refine zB ?_;have hap:=zlH 0 H5 id g (2*w.length) M w puts zo ⟨by omega,by omega⟩ hM fr;refine zIF h8 ?_;refine zco hap ?_ (by first|rfl|(simp only[go_sem,h8]<;>rfl)) (by simp only[go_sem,h8]<;>rfl);rintro e H1 ⟨hst,id2,g2,M2,rfl,hM2,hr2⟩;refine zN ?_;have hal:=zfm puts w;have hw1b:=zhf hwb q5;have k0:=hst _ _ f0;have k1:=hst _ _ f1;have k2:=hst _ _ f2;have hne0:id2≠0:=by rintro rfl;rw[k0]at hr2;cases hr2
 have hne1:id2≠1:=by rintro rfl;rw[k1]at hr2;cases hr2
 have hne2:id2≠2:=by rintro rfl;rw[k2]at hr2;cases hr2
 clear f0 f1 f2 f4 fr hst hap hB hSo fzp;generalize zcG w puts=w1' at *
 have r5:600<w1'.length:=zo;have r6:IntKind.u64.wrap (root:Int)=(root:Int):=zwu;obtain⟨o5,ho5⟩:∃o,w1'[600]?=some o:=⟨_,zAA9 r5⟩
 have z5:(w1'.map uv)[600]?=some (uv o5):=by rw[zAI9,ho5];rfl
 have y5:(w1'.map uv).set 600 (.int .u64 (root:Int))=(w1'.set 600 root).map uv:=zEH9.symm;have r7:600<w.length:=zo;refine zB ?_;refine zbH (zr7 hr2 hM2 r5 r6 r7 z5 y5) ?_;refine zG ?_;have s0:(H1.set id2 (.row 29 1 g2 g2 ((w1'.set 600 root).map uv)))[0]?=some (.row 25 3 0 0 [.agg [.list q1 1 (zfe names),iv b,.list q2 2 (wdV bent)]]):=(zAT9 hne0).trans k0;have s1:(H1.set id2 (.row 29 1 g2 g2 ((w1'.set 600 root).map uv)))[1]?=some (.row 32 10 0 0 [layZ]):=(zAT9 hne1).trans k1;have s2:(H1.set id2 (.row 29 1 g2 g2 ((w1'.set 600 root).map uv)))[2]?=some (.row 32 10 0 0 [.agg [iv 48,iv 8,iv 64,iv b,uv 3,uv 5,iv 9,iv 11,iv 27,iv 28]]):=(zAT9 hne2).trans k2;have sr:(H1.set id2 (.row 29 1 g2 g2 ((w1'.set 600 root).map uv)))[id2]?=some (.row 29 1 g2 g2 ((w1'.set 600 root).map uv)):=zAY9 (zAC9.1 hr2).1;have hw2:(w1'.set 600 root).length=3072:=by rw[zBU9];omega
 have hw2b:WB (w1'.set 600 root):=hw1b.set (show root<18446744073709551616 by omega) _;rw[show w.length=(w1'.set 600 root).length by omega];clear k0 k1 k2 hr2 z5 y5 ho5 r5 r6 r7 hal hw1b q1' q3' q5 hwl hwb hM hpb hpl;generalize H1.set id2 (.row 29 1 g2 g2 ((w1'.set 600 root).map uv))=H6 at *
 generalize w1'.set 600 root=W2 at *
 refine zF (zbJ (fun m s=>∃(k id g M:Nat) (w:List Nat),m=bent.length-k/\k<=bent.length/\w.length=3072/\M<=g/\zeV W2 bent=zeV w (bent.drop k)/\s.tm 1=.ptr 0 0 0 0 3/\s.tm 3=.ptr 1 0 0 0 10/\s.tm 6=.ptr 2 0 0 0 10/\s.tm 8=.sl id g 0 w.length (2*w.length) 1/\s.tm 18=.list 0 1 (zc6.map iv)/\s.tm 22=iv used/\s.tm 23=iv no/\s.tm 24=iv k/\s.df=[]/\s.H[0]?=some (.row 25 3 0 0 [.agg [.list q1 1 (zfe names),iv b,.list q2 2 (wdV bent)]])/\s.H[1]?=some (.row 32 10 0 0 [layZ])/\s.H[2]?=some (.row 32 10 0 0 [.agg [iv 48,iv 8,iv 64,iv b,uv 3,uv 5,iv 9,iv 11,iv 27,iv 28]])/\s.H[id]?=some (.row 29 1 g M (w.map uv))) (n:=bent.length) ?_ ?_)
 ·exact⟨0,id2,g2,g2,W2,rfl,zAL9 _,hw2,zAE9 _,rfl,zu h1,zu h3,zu h6,zt,zu h18,zt,zt,zt,rfl,s0,s1,s2,sr⟩
 clear h1 h3 h6 h8 h9 h18 s0 s1 s2 sr hw2 hw2b hne0 hne1 hne2 hM2;rintro m ⟨tm,df,H⟩ ⟨k,id,g,M,w,rfl,hk,hwl,hM,hbn,h1,h3,h6,h8,h18,h22,h23,h24,rfl,e0,e1,e2,er⟩;dsimp only at h1 h3 h6 h8 h18 h22 h23 h24 e0 e1 e2 er;(try refine zbC ?_);refine zar (zbH (zr3 h1 h24 e0) ?_);refine zwh ?_ ?_
 ·intro hltk;have hltk:k<bent.length:=by have:=of_decide_eq_true hltk;omega
  obtain⟨x,hx⟩:∃x,bent[k]?=some x:=⟨_,zAA9 hltk⟩
  have hxv:(wdV bent)[k]?=some (.agg [iv x.1,uv x.2]):=by rw[zAI9,hx];rfl
  have hdr:bent.drop k=x::bent.drop (k+1):=by rw[zAQ9 hltk];obtain⟨_,e⟩:=zAC9.1 hx;rw[e]
  rw[hdr]at hbn;have hne0:id≠0:=by rintro rfl;rw[e0]at er;cases er
  have hne1:id≠1:=by rintro rfl;rw[e1]at er;cases er
  have hne2:id≠2:=by rintro rfl;rw[e2]at er;cases er
  refine zB ?_;refine zF ?_
  by_cases hin:0<=x.1/\x.1<(w.length:Nat)
  ·have hbn:zeV W2 bent=zeV (w.set x.1.toNat x.2) (bent.drop (k+1)):=by rw[hbn];show zeV (if 0<=x.1/\x.1<(w.length:Int)then w.set x.1.toNat x.2 else w) _=_;rw[if_pos hin]
   obtain⟨a,ha⟩:∃a:Nat,x.1=a:=⟨x.1.toNat,by omega⟩
   have g1:(0:Int)<=(a:Nat):=zo;have g2:((a:Nat):Int)<(w.length:Nat):=zo;have g3:a<w.length:=zo;rw[ha]at hxv hbn;rw[zDL9]at hbn;obtain⟨o,ho⟩:∃o,w[a]?=some o:=⟨_,zAA9 g3⟩
   have z1:(w.map uv)[a]?=some (uv o):=by rw[zAI9,ho];rfl
   have y1:(w.map uv).set a (.int .u64 (x.2:Int))=(w.set a x.2).map uv:=zEH9.symm;refine zSF (zhk h1 h8 h24 e0 hxv hltk er hM g1 g2) ?_;refine zB ?_;refine zbc ?_;refine zcI (zfa h1 h8 h24 e0 hxv hltk er hM g1 g2 g3 (zr2 z1 y1)) ?_;refine zQF h8 ?_;refine zJF h24 ?_;refine⟨_,?m8,k+1,id,g,g,w.set a x.2,rfl,hltk,by simpa using hwl,zAE9 _,hbn,zu h1,zu h3,zu h6,zu h8,zu h18,zu h22,zu h23,zu h24,zt,(zAT9 hne0).trans e0,(zAT9 hne1).trans e1,(zAT9 hne2).trans e2,?hr8⟩
   case m8=>omega
   case hr8=>exact zAY9 (zAC9.1 er).1
  have hbn:zeV W2 bent=zeV w (bent.drop (k+1)):=by rw[hbn];show zeV (if 0<=x.1/\x.1<(w.length:Int)then w.set x.1.toNat x.2 else w) _=_;rw[if_neg hin]
  by_cases h0:(0:Int)<=x.1
  ·have g2:¬x.1<(w.length:Nat):=fun h=>hin ⟨h0,h⟩;refine zTF (zhk h1 h8 h24 e0 hxv hltk er hM h0 g2) ?_;refine zas ?_;refine zJF h24 ?_;exact⟨_,by omega,k+1,id,g,M,w,rfl,hltk,hwl,hM,hbn,zu h1,zu h3,zu h6,zu h8,zu h18,zu h22,zu h23,zu h24,rfl,e0,e1,e2,er⟩
  ·refine zTF (zr9 h1 h8 h24 e0 hxv hltk er hM h0) ?_;refine zas ?_;refine zJF h24 ?_;exact⟨_,by omega,k+1,id,g,M,w,rfl,hltk,hwl,hM,hbn,zu h1,zu h3,zu h6,zu h8,zu h18,zu h22,zu h23,zu h24,rfl,e0,e1,e2,er⟩
 intro hltk;have hltk:¬k<bent.length:=by have:=of_decide_eq_false hltk;omega
 rw[zCS9 zo]at hbn;have hbn:zeV W2 bent=w:=hbn;rw[hbn];refine zB ?_;refine zbc ?_;have hne1:id≠1:=by rintro rfl;rw[e1]at er;cases er
 have hdv:List.drop used (zc6.map iv)=(zc6.drop used).map iv:=zCN9.symm;have hs1:∀x:zd,(H.set 1 x)[1]?=some x:=fun x=>zAY9 (zAC9.1 e1).1;have hsr:∀x:zd,(H.set 1 x)[id]?=some (.row 29 1 g M (w.map uv)):=fun x=>(zAT9 hne1.symm).trans er;have fin:∀(c:Bool) (x:zd) (lay:PV),Id0 lay->zbq (H.set 1 x) 0 (.ret (.tuple [.sl id g 0 w.length (2*w.length) 1,lay,.list 0 1 ((zc6.drop used).map iv),.bool c])) (.ret (.tuple [wv 0 w,lay,.list 0 1 ((zc6.drop used).map iv),.bool c])):=fun c x lay hl=>Frz.tupL ⟨Frz.wholeM (hsr x) hM rfl (by simp) (by simp) (fun v hv=>by obtain⟨x,_,rfl⟩:=zAK9.1 hv;rfl) zsI,hl.frz,.list _ _ _,.bool _,trivial⟩
 by_cases hno:no=0
 ·have gn:(no:Int)=0:=zo;rw[decide_eq_true hno];refine zcI (ziC h3 h6 h8 h18 h22 h23 e1 e2 hdv q2' gn) ?_;refine zQF h3 ?_;refine zbG (zfr ?_ (by simp only[go_sem,h3,hs1]<;>rfl));exact fin _ _ _ (zgX b 28)
 ·have gn:¬(no:Int)=0:=zo;rw[decide_eq_false hno];refine zcI (ziC h3 h6 h8 h18 h22 h23 e1 e2 hdv q2' gn) ?_;refine zQF h3 ?_;refine zbG (zfr ?_ (by simp only[go_sem,h3,hs1]<;>rfl));exact fin _ _ _ (zgX b 28)
theorem zpg {b:Nat}:∀{l done:List (List Nat)} {w w':List Nat} {ps ps':List Pr},zdE b done l w ps=some (w',ps')->(∀s∈l,zbF s)->WB w->w'.length=w.length/\WB w'
 | [],done,w,w',ps,ps',h,_,hw=>by
  unfold zdE at h;injection h with h;injection h with h _;subst h;exact⟨rfl,hw⟩
 | nm::l,done,w,w',ps,ps',h,hb,hw=>by
  by_cases hc:zbT nm=0/\¬nm∈done
  rotate_left
  ·rw[zgc hc]at h;cases h
  rw[zir hc.1 hc.2 rfl rfl]at h;obtain⟨h1,h2⟩:=zpg h (fun s hs=>hb s (zAO9 _ hs)) (zhf hw (zjZ _ (hb nm (zAV9 ..)) hc.1).2);exact⟨h1.trans (zfm _ _),h2⟩
theorem zo8 {b:Nat}(hb:1<=b/\b<=40):∀{l done:List (List Nat)} {w w':List Nat} {ps ps':List Pr},zdE b done l w ps=some (w',ps')->done.length+l.length<=1000->PB ps->PB ps'
 | [],done,w,w',ps,ps',h,_,hp=>by
  unfold zdE at h;injection h with h;injection h with _ h;subst h;exact hp
 | nm::l,done,w,w',ps,ps',h,hl,hp=>by
  by_cases hc:zbT nm=0/\¬nm∈done
  rotate_left
  ·rw[zgc hc]at h;cases h
  obtain⟨K,hK⟩:∃K,zoL b done nm=K:=⟨_,rfl⟩
  rw[zir hc.1 hc.2 rfl hK]at h;rw[zAG9]at hl;refine zo8 hb h (by rw[zAB9];simp only[zAG9,zAH9];omega) fun c hcm=>?_;rcases zBF9.1 hcm with hcm|hcm
  ·exact hp c hcm
  ·obtain rfl:=zBO9.1 hcm;have h1:=(zmg b done (65536*zdW b nm)).2;have h2:=zoN b hb nm;have h3:K<=65536*zdW b nm+done.length:=by rw[<- hK];exact h1
   exact⟨show K<18446744073709551616 by omega,show done.length+1<18446744073709551616 by omega⟩
theorem zss {h:zp3}{b:Nat}(hb:1<=b/\b<=40){w:List Nat}{fr:List Int}{c:Bool}(ho:zno h b=some (w,fr,c))(hn:∀s∈h.names,zbF s)(hbe:∀x∈h.bent,LtU x.2):w.length=3072/\WB w/\fr.length<=20:=by
 unfold zno at ho
 split at ho
 rotate_left
 ·cases ho
 rename_i hc
 split at ho
 ·cases ho
 rename_i w0 ps hgo;have hps:=zpQ hgo;have hpb:=zo8 hb hgo (by simp only[zAH9];omega) (fun c hc=>by cases hc);obtain⟨g1,g2⟩:=zpg hgo hn (fun x hx=>by rw[zCW9 hx];exact zCP9 _);rw[zCF9]at g1;simp only[zAH9]at hps;have hsl:=zlE ps;obtain⟨q1,q2,q3,q4⟩:=zpe (zdj ps) zc6 zo;have q5:=q4 (fun c hc=>hpb c (zlw c hc));generalize zdD (zdj ps) zc6=bp at *
 injection ho with ho;injection ho with h1 h2;injection h2 with h2 h3;subst h1 h2;refine⟨?_,?_,?_⟩
 ·rw[zo6,zBU9,zfm,g1]
 ·exact zrE _ _ ((zhf g2 q5).set (show bp.1<18446744073709551616 by omega) _) hbe
 ·rw[zBG9,show zc6.length=20 from zjf 20];omega
theorem zps (w:List Nat)(b d:Nat)(a:Int)(hw:w.length<=131072):(zd9 w b d a).1.length<=60000:=by
 unfold zd9;have h:=zmn w a hw
 split
 ·split
  ·split
   ·rename_i hg;have:=zm0 hg;simp only[zAH9]at this;dsimp only;omega
   ·exact zAL9 _
  ·exact zAL9 _
 ·exact zAL9 _
theorem f11:FN ET 11 [] (.ret (.bool true)):=zzu (by kernel_rfl) (by rfl)
theorem f3:ET.funcs.get 3=some T3:=zD Tryz.func3
theorem f17:ET.funcs.get 17=some T17:=zD Tryz.func17
theorem f19:ET.funcs.get 19=some T19:=zD Tryz.func19
def zA1 (w:List Nat)(b d:Nat)(a:Int)(name:List Nat):List zdz×Nat:=if ziA w.length d a=true then if zbT name=0 then zd9 w b d a else([],zbT name)else([],2)
def zBh (name:List Nat)(y:zdz):Bool:=decide (y.name=name)
@[reducible] def zE:zdz:=⟨0,0,0,[]⟩
def zA8 (w:List Nat)(b d:Nat)(a:Int)(name:List Nat):zdz×Bool×Nat:=match(zA1 w b d a name).1.find? (zBh name)with
 | some x=>(x,true,0)
 | none=>(zE,false,(zA1 w b d a name).2)
def zft (w:List Nat)(b d:Nat)(a:Int)(name:List Nat):FE:=.ret (.tuple [zez (zA8 w b d a name).1,.bool (zA8 w b d a name).2.1,iv ((zA8 w b d a name).2.2:Nat)])
theorem f16:ET.funcs.get 16=some T16:=zD Tryz.func16
def znz (w:List Nat)(b:Nat)(a:Int)(name:List Nat):FE:=if(zA1 w b 28 a name).2=0 then match(zA1 w b 28 a name).1.find? (zBh name)with
  | some x=>.ret (.tuple [esv 0 (zA1 w b 28 a name).1,zez x,.bool true])
  | none=>.ret (.tuple [esv 0 (zA1 w b 28 a name).1,zez zE,.bool false])
 else .panic (zeU ((zA1 w b 28 a name).2:Nat))

theorem f18:ET.funcs.get 18=some T18:=zD Tryz.func18
theorem f4:ET.funcs.get 4=some T4:=zD Tryz.func4
theorem zA9 (q1 q2:Nat)(names:List (List Nat))(bits:Int)(bent:List (Int×Nat))(hn:∀s∈names,zbF s/\s.length<9223372036854775808)(hbe:∀x∈bent,LtU x.2) :
  (∃(w:List Nat) (lay:PV) (fr:List PV),Id0 lay/\lay.cells.length=10/\(∃c,lay=.agg c/\c.length=10)/\FN ET 10 [.agg [.list q1 1 (zfe names),iv bits,.list q2 2 (wdV bent)]] (.ret (.tuple [wv 0 w,lay,.list 0 1 fr,.bool false]))) \/
  ∃(b:Nat) (w:List Nat) (fr:List Int),bits=b/\(1<=b/\b<=40)/\zno ⟨names,b,bent⟩ b=some (w,fr,true)/\w.length=3072/\WB w/\fr.length<=20/\FN ET 10 [.agg [.list q1 1 (zfe names),iv b,.list q2 2 (wdV bent)]] (.ret (.tuple [wv 0 w,zbN b 28,.list 0 1 (fr.map iv),.bool true])):=by
 have hM:=zuA q1 q2 names bits bent hn hbe;unfold znh at hM;dsimp only at hM
 by_cases hbits:1<=bits/\bits<=40
 rotate_left
 ·rw[if_neg hbits]at hM;exact .inl ⟨[],layZ,[],zlX,rfl,⟨_,rfl,rfl⟩,hM⟩
 rw[if_pos hbits]at hM;obtain⟨b,rfl⟩:∃b:Nat,bits=b:=⟨bits.toNat,by omega⟩
 rw[zDL9]at hM;have hb:1<=b/\b<=40:=zo
 cases ho:zno ⟨names,b,bent⟩ b with
 | none=>rw[ho]at hM;exact .inl ⟨[],zbN b 28,[],zgX b 28,rfl,⟨_,rfl,rfl⟩,hM⟩
 | some r =>
  obtain⟨w,fr,c⟩:=r;rw[ho]at hM
  cases c with
  | false=>exact .inl ⟨w,zbN b 28,fr.map iv,zgX b 28,rfl,⟨_,rfl,rfl⟩,hM⟩
  | true =>
   obtain⟨hwl,hw,hfr⟩:=zss hb ho (fun s hs=>(hn s hs).1) hbe;exact .inr ⟨b,w,fr,rfl,hb,ho,hwl,hw,hfr,hM⟩
theorem f29:ET.funcs.get 29=some T29:=zD Tryz.func29
theorem f64:ET.funcs.get 64=some T64:=zD Tryz.func64
theorem zBa (p b d:Nat)(h:1<=b/\b<=40)(w:List Nat)(hs:zb0 w.length)(hw:WB w)(a:Int)(key:Nat):FP ET 29 [wv p w,zbN b d,iv a,uv key] (.ret (.fn 64 [.elem [esv 0 (zd9 w b d a).1],.elem [uv key]])):=by
 refine zfp f29 ?_;have hA:=zis p b d h w hs hw a;unfold zei at hA;unfold zbN zcC at hA⊢;generalize (zd9 w b d a).1=A at *
 refine zG ?_;refine zI ?_;refine zca hA ?_;refine zN ?_;refine zO ?_;refine Frz.fnL ⟨?_,?_,trivial⟩
 ·refine .ptr (w:=esv 0 A) (by simp[zbl]) (by simp[PV.cells]) rfl fun j x y hx hy=>?_
  match j with
  | 0=>injection hx with hx;injection hy with hy;subst hx hy;exact .list _ _ _
  | j+1=>simp at hy
 ·refine .ptr (w:=uv key) (by simp[zbl]) (by simp[PV.cells]) rfl fun j x y hx hy=>?_
  match j with
  | 0=>injection hx with hx;injection hy with hy;subst hx hy;exact .int _ _
  | j+1=>simp at hy
def zAS (key:Nat)(A:List zdz):List zdz:=A.filter fun x=>decide (key<=x.key)
theorem zA0 (key:Nat)(A:List zdz)(i:Nat)(x:zdz)(hx:A[i]?=some x):zAS key (A.take (i+1))=zAS key (A.take i)++(if key<=x.key then[x]else[]):=by
 unfold zAS;rw[zBQ9,hx,List.filter_append]
 grind
theorem zA7 (key:Nat)(A:List zdz)(i:Nat)(x:zdz)(hx:A[i]?=some x)(hk:key<=x.key):(zAS key A)[(zAS key (A.take i)).length]?=some x:=by
 have hi:=(zAC9.1 hx).1;have h1:A=A.take i++x::A.drop (i+1):=by
  conv=>lhs;rw[<- zEP9 i A,zAQ9 hi]
  grind
 have h2:zAS key A=zAS key (A.take i)++x::zAS key (A.drop (i+1)):=by
  unfold zAS
  grind
 rw[h2];simp
set_option maxHeartbeats 2000000 in
theorem zBd (id p:Nat)(A:List zdz)(key:Nat)(hA:A.length<1000000)(P:Nat->List zd)(K:Nat)(hK:1<=K)(hlen:∀k,(P k).length=(P 0).length)(hkp:∀(k i:Nat) (o:zd),(P k)[i]?=some o->(P 0)[i]?=some o\/NRO (P 0).length o)
  (hy:∀(k:Nat) (x:zdz) (G:List zd),(zAS key A)[k]?=some x->k<K->FY ET id [zez x] (P k++G) fun r H'=>r=decide (k+1<K)/\H'=P (k+1)++G) :
  FO ET 64 [.yield id,.elem [esv p A],.elem [uv key]] (P 0) false fun e H'=>e=.ret (.tuple [])/\H'=P (min (zAS key A).length K):=by
 refine FO.gc (zro f64 ?_);have fin:∀(tm:Nat->PV) (k:Nat) (G:List zd),k=min (zAS key A).length K->zdT ET T64 (fun e H'=>∃H'' G,zh2 (P 0) H' H'' G/\NRE (P 0).length e/\e=.ret (.tuple [])/\H''=P (min (zAS key A).length K)) .norm ⟨tm,[],P k++G⟩:=fun tm k G hk=>by
  subst hk;exact⟨[],rfl,P (min (zAS key A).length K),G,⟨rfl,hlen _,hkp _⟩,.tuple (fun x h=>by cases h),rfl,rfl⟩
 refine zk8 ?_;refine zar (zas ?_);refine zG ?_;refine zF (zbJ (fun m s=>∃(i k:Nat) (G:List zd),m=A.length-i/\i<=A.length/\k=(zAS key (A.take i)).length/\k<K/\s.tm 0=.yield id/\s.tm 2=.elem [uv key]/\s.tm 6=esv p A/\s.tm 7=iv A.length/\s.tm 8=iv i/\s.df=[]/\s.H=P k++G) (n:=A.length) ?_ ?_)
 ·exact⟨0,0,[],rfl,zAL9 _,rfl,hK,zt,zt,zt,zt,zt,rfl,by simp⟩
 rintro m ⟨tm,df,H⟩ ⟨i,k,G,rfl,hi,hk,hkK,h0,h2,h6,h7,h8,rfl,rfl⟩;dsimp only at h0 h2 h6 h7 h8;(try refine zbC ?_);refine zar (zbH (zr2 h7 h8) ?_);refine zwh ?_ ?_;rotate_left
 ·intro hlt;have hlt:¬i<A.length:=by have:=of_decide_eq_false hlt;omega
  obtain rfl:i=A.length:=zo;rw[zBS9]at hk;exact fin _ k G zo
 intro hlt;have hlt:i<A.length:=by have:=of_decide_eq_true hlt;omega
 obtain⟨x,hx⟩:∃x,A[i]?=some x:=⟨_,zAA9 hlt⟩
 have hxv:(A.map zez)[i]?=some (zez x):=by rw[zAI9,hx];rfl
 have hst:=zA0 key A i x hx;refine zB ?_;refine zF ?_;refine zB ?_;refine zbH (zr4 h6 h8 hxv hlt) ?_
 by_cases hkey:key<=x.key
 rotate_left
 ·have g:¬(key:Int)<=(x.key:Nat):=zo;rw[if_neg hkey,zDG9]at hst;refine zTF (zr2 h2 g) ?_;refine zas ?_;refine zJF h8 ?_;refine⟨_,?m1,i+1,k,G++[.row 47 4 0 0 [zez x]],rfl,hlt,by rw[hst];exact hk,hkK,zu h0,zu h2,zu h6,zu h7,zu h8,zt,by simp⟩
  case m1=>omega
 have g:(key:Int)<=(x.key:Nat):=zo;rw[if_pos hkey]at hst;have hget:=zA7 key A i x hx hkey;rw[<- hk]at hget;have hlk:k<(zAS key A).length:=(zAC9.1 hget).1;have hF:=hy k x (G++[.row 47 4 0 0 [zez x]]) hget hkK;rw[<- zAD9]at hF;refine zB ?_;refine zau ?_;refine zcz (zr3 h0 h2 g) ?_;refine zrh (vs:=[zez x]) ?_ ?_ (FY.mono hF fun r H' he=>?_)
 ·simp only[zat,zaA,go_sem]
 ·simp only[go_sem]<;>rfl
 obtain⟨rfl,rfl⟩:=he
 by_cases hb:k+1<K
 ·rw[decide_eq_true hb];refine zN ?_;refine zcf ?_;refine zas ?_;refine zJF h8 ?_;refine⟨_,?m2,i+1,k+1,G++[.row 47 4 0 0 [zez x]],rfl,hlt,by rw[hst,zAB9,<- hk];rfl,hb,zu h0,zu h2,zu h6,zu h7,zu h8,rfl,rfl⟩
  case m2=>omega
 ·rw[decide_eq_false hb];refine zN ?_;refine zct ?_;refine zjb ?_;exact fin _ (k+1) _ zo
theorem f8:ET.funcs.get 8=some T8:=zD Tryz.func8
theorem zAZ {f tm:Nat->PV}{j:Nat}{v:PV}(h:∀i,f i=.bad\/f i=tm i)(hv:tm j=v):∀i,upd f j v i=.bad\/upd f j v i=tm i:=fun i=>by
 unfold upd
 by_cases hi:i=j
 ·subst hi;rw[if_pos rfl];exact .inr hv.symm
 ·rw[if_neg hi];exact h i
theorem zBj {tm:Nat->PV}:∀i,zh5 i=.bad\/zh5 i=tm i:=fun _=>.inl rfl
def frH (hom ly:zd)(many:Int)(z:PV)(r5:zd)(G:List zd):List zd:=hom::.row 3 1 0 0 [iv many]::.row 4 1 0 0 [.bool false]::ly::.row 37 1 0 0 [z]::r5::G
theorem ka3 {α:Type}(G l:List α)(a b c d:α):(G++a::b::c::d::l)[G.length+1+1+1]?=some d:=ga3 G l a b c d
theorem ks3 {α:Type}(G l:List α)(a b c d x:α):(G++a::b::c::d::l).set (G.length+1+1+1) x=G++a::b::c::x::l:=by
 rw[zCG9 _ _ zo,show G.length+1+1+1-G.length=3 by omega];rfl
def zAW:zbI:=(.region [⟨(some 18),(.alloc 47 [(.int .u64 (.ofNat 0)),(.int .i64 (.ofNat 0)),(.int .i64 (.ofNat 0)),(.str [])]),[],none⟩,⟨none,(.store 4),[(.tmp 18),(.tmp 66)],none⟩])
def zAX:zbI:=(.block 5 (.seq (.seq (.drawn [⟨[],[⟨(some 67),(.load false 1),[(.tmp 17)],none⟩,⟨(some 68),(.load false 1),[(.tmp 13)],none⟩,⟨(some 69),(.len 1),[(.new 68)],none⟩,⟨(some 70),(.bin .geq),[(.new 67),(.new 69)],none⟩,⟨(some 71),.mov,[(.new 70)],none⟩,⟨(some 72),(.load true 4),[(.tmp 18)],(some ⟨(.new 71),false⟩)⟩,⟨(some 73),(.load false 1),[(.tmp 13)],(some ⟨(.new 71),false⟩)⟩,⟨(some 74),(.load false 1),[(.tmp 17)],(some ⟨(.new 71),false⟩)⟩,⟨(some 75),(.iaddr 4),[(.new 73),(.new 74)],(some ⟨(.new 71),false⟩)⟩,⟨(some 76),(.load true 4),[(.new 75)],(some ⟨(.new 71),false⟩)⟩,⟨(some 77),(.eqagg true [1,1,1,3]),[(.new 72),(.new 76)],(some ⟨(.new 71),false⟩)⟩,⟨(some 78),.pick,[(.new 71),(.const (.bool true)),(.new 77)],none⟩],none⟩] [67,68,69,70,71,72,73,74,75,76,77,78]) (.cond (.tmp 78) (.seq (.region [⟨none,(.store 1),[(.tmp 6),(.const (.bool false))],none⟩]) .ret) .skip)) (.seq (.region [⟨(some 79),(.load false 1),[(.tmp 17)],none⟩,⟨(some 80),(.bin .add),[(.tmp 79),(.const (.int .i64 (.ofNat 1)))],none⟩,⟨none,(.store 1),[(.tmp 17),(.tmp 80)],none⟩]) (.seq (.region [⟨(some 81),(.load false 1),[(.tmp 16)],none⟩,⟨(some 82),(.bin .eql),[(.tmp 81),(.const (.int .i64 (.ofNat 0)))],none⟩,⟨(some 83),.mov,[(.tmp 82)],none⟩,⟨(some 84),(.load false 1),[(.tmp 17)],(some ⟨(.tmp 83),true⟩)⟩,⟨(some 85),(.load false 1),[(.tmp 5)],(some ⟨(.tmp 83),true⟩)⟩,⟨(some 86),(.bin .geq),[(.tmp 84),(.tmp 85)],(some ⟨(.tmp 83),true⟩)⟩,⟨(some 87),.pick,[(.tmp 83),(.tmp 86),(.const (.bool false))],none⟩]) (.cond (.tmp 87) (.exit 4) .skip)))))
section mid4
variable {α:Type}
theorem ke0 (G G2 l:List α)(a b c d x:α):(G++a::b::c::d::(G2++x::l))[G.length+(G2.length+1+1+1+1)]?=some x:=by
 rw[zAU9 zo,show G.length+(G2.length+1+1+1+1)-G.length=G2.length+1+1+1+1 by omega];simp
theorem ks0 (G G2 l:List α)(a b c d x y:α):(G++a::b::c::d::(G2++x::l)).set (G.length+(G2.length+1+1+1+1)) y=G++a::b::c::d::(G2++y::l):=by
 rw[zCG9 _ _ zo,show G.length+(G2.length+1+1+1+1)-G.length=G2.length+1+1+1+1 by omega];simp
end mid4
@[reducible] def frF (key:Nat) (A:List zdz):PV:=.fn 64 [.elem [esv 0 A],.elem [uv key]]
def zAT (key:Nat)(A:List zdz)(g:Nat):Nat->PV:=upd (upd (upd (upd (upd (upd (upd zh5 5 (.ptr 1 0 0 0 1)) 6 (.ptr 2 0 0 0 1)) 13 (.ptr 4 0 0 0 1)) 15 (frF key A)) 65 (frF key A)) 16 (.ptr (g+1+1+1+1+1+1) 0 0 0 1)) 17 (.ptr (g+1+1+1+1+1+1+1) 0 0 0 1)
def zAU (key:Nat)(A:List zdz)(g K k:Nat):zd:=if k<K then .loop .ready .norm (zAT key A g) [66] zAW zAX (g+1+1+1+1+1+1+1+1)else .loop .done (.exit 4) (zAT key A g) [66] zAW zAX (g+1+1+1+1+1+1+1+1)
def frP (hom ly:zd)(many:Int)(V:List zdz)(key:Nat)(A:List zdz)(G:List zd)(tn K k:Nat):List zd :=
 hom::.row 3 1 0 0 [iv many]::.row 4 1 0 0 [.bool false]::ly::.row 37 1 0 0 [esv 0 V]::.void::(G++.row 3 1 0 0 [iv tn]::.row 3 1 0 0 [iv k]::.dfr false::zAU key A G.length K k::[])
theorem zAY (hom ly:zd)(many:Int)(V:List zdz)(key:Nat)(A:List zdz)(G:List zd)(tn K k:Nat)(X:List zd):frP hom ly many V key A G tn K k++X=hom::.row 3 1 0 0 [iv many]::.row 4 1 0 0 [.bool false]::ly::.row 37 1 0 0 [esv 0 V]::.void::(G++.row 3 1 0 0 [iv tn]::.row 3 1 0 0 [iv k]::.dfr false::zAU key A G.length K k::X):=by
 unfold frP;simp
theorem zAV (hom ly:zd)(many:Int)(V:List zdz)(key:Nat)(A:List zdz)(G:List zd)(tn K k:Nat):(frP hom ly many V key A G tn K k).length=G.length+10:=by unfold frP;simp
theorem zBc {n key:Nat}{A:List zdz}:NR n (frF key A):=.fn fun x hx=>by simp at hx;rcases hx with rfl|rfl<;>exact .elem _
theorem zA5 {key:Nat}{A:List zdz}{g n:Nat}(hn:g+10<=n):∀i,zAT key A g i=.bad\/NR n (zAT key A g i) :=
 zhL (zhL (zhL (zhL (zhL (zhL (zhL zAm (.ptr _ _ _ _ zo)) (.ptr _ _ _ _ zo)) (.ptr _ _ _ _ zo)) zBc) zBc) (.ptr _ _ _ _ zo)) (.ptr _ _ _ _ zo)
theorem zA3 {hom ly:zd}{many:Int}{V:List zdz}{key:Nat}{A:List zdz}{G:List zd}{tn K k:Nat}(j:Nat){i:Nat}{o:zd}(h:(frP hom ly many V key A G tn K k)[i]?=some o):(frP hom ly many V key A G tn K j)[i]?=some o\/NRO (G.length+10) o:=by
 unfold frP at h⊢
 match i,h with
 | 0,h=>exact .inl h
 | 1,h=>exact .inl h
 | 2,h=>exact .inl h
 | 3,h=>exact .inl h
 | 4,h=>exact .inl h
 | 5,h=>exact .inl h
 | i+6,h =>
  simp only[zBL9]at h⊢;rcases zDP9 i G.length with hi|hi
  ·rw[zAS9 hi]at h⊢;exact .inl h
  rw[zAU9 hi]at h⊢
  match i-G.length,h with
  | 0,h=>exact .inl h
  | 1,h=>simp at h;subst h;right;intro x hx;simp[PV.cells]at hx;subst hx;exact .int _ _
  | 2,h=>exact .inl h
  | 3,h =>
   simp at h;subst h;right
   unfold zAU
   split
   ·exact⟨by omega,zA5 (zAE9 _),trivial⟩
   ·exact⟨by omega,zA5 (zAE9 _),trivial⟩
  | q+4,h=>simp at h
theorem zBi {hom ly:zd}{many:Int}{V:List zdz}{key:Nat}{A:List zdz}{G:List zd}{tn K:Nat}(k j:Nat)(X Y:List zd)(hX:∀(i:Nat) (o:zd),X[i]?=some o->True):zh2 (frP hom ly many V key A G tn K k++X) (frP hom ly many V key A G tn K j++X++Y) (frP hom ly many V key A G tn K j++X) Y:=by
 refine⟨rfl,by simp[zAV],fun i o ho=>?_⟩;rcases zDP9 i (frP hom ly many V key A G tn K j).length with hi|hi
 ·rw[zAS9 hi]at ho;rcases zA3 k ho with h|h
  ·left;rw[zAS9 (by rw[zAV]at hi⊢;exact hi)];exact h
  ·right
   rw[zAB9,zAV]
   cases o with
   | row e z G M l=>exact fun x hx=>(h x hx).mono (zGB9 _ _)
   | mapI k m=>exact fun x v hx=>(h x v hx).mono (zGB9 _ _)
   | loop st pe tm ps aS bo m =>
    obtain⟨a1,a2,a3⟩:=h;refine⟨by omega,fun i=>(a2 i).imp id fun h=>h.mono (zGB9 _ _),?_⟩
    cases pe<;>first|trivial|exact NR.mono (zGB9 _ _) a3
   | map0=>trivial
   | mapS m=>exact fun x v hx=>(h x v hx).mono (zGB9 _ _)
   | dfr _=>trivial
   | void=>trivial
 ·left
  rw[zAU9 hi]at ho;rw[zAU9 (by rw[zAV]at hi⊢;exact hi)];rw[zAV]at ho⊢;exact ho
theorem zA2 {E:Env}{Q:FM->List zd->Prop}:∀(ids:List Nat) (H:List zd),ids.Nodup->(∀id∈ids,H[id]?=some (.dfr false))->(∀H',(∀i,i ∉ ids->H'[i]?=H[i]?)->Q .returning H')->LV E (ids.map FD.mark) .returning H Q
 | [],H,_,_,k=>k H fun _ _=>rfl
 | id::ids,H,hn,hm,k=>by
  have hn:=zFP9.1 hn;refine⟨hm id (zAV9 ..),zA2 ids _ hn.2 (fun j hj=>?_) fun H' h'=>k H' fun i hi=>?_⟩
  ·rw[zAT9 (fun e=>hn.1 (by rw[e];exact hj))];exact hm j (zAO9 _ hj)
  ·rw[zBA9,not_or]at hi;rw[h' i hi.2,zAT9 (Ne.symm hi.1)]
theorem zBb {E:Env}{F:zc}{R:FE->List zd->Prop}{tm:Nat->PV}{H:List zd}{vs:List PV}{ids:List Nat}(hn:ids.Nodup)(hm:∀id∈ids,H[id]?=some (.dfr false))(h:∀H',(∀i,i ∉ ids->H'[i]?=H[i]?)->zbf tm H' F.res=some vs/\R (.ret (zjY vs)) H'):zdT E F R .ret ⟨tm,ids.map FD.mark,H⟩ :=
 zA2 ids H hn hm fun H' h'=>by
  obtain⟨h1,h2⟩:=h H' h';exact⟨vs,h1,h2⟩
set_option maxHeartbeats 2000000 in
theorem zBf (hom ly:zd)(many:Int)(V:List zdz)(key:Nat)(A:List zdz)(G:List zd)(tn K k:Nat)(x:zdz)(X:List zd)(hx:V[k]?=some x)(hk:k<K)(hV:V.length<1000000)(htn:tn<2)(hK:(tn=0->(K:Int)=max 1 many)/\(tn≠0->K=V.length+1)) :
  FY ET (G.length+1+1+1+1+1+1+1+1+1) [zez x] (frP hom ly many V key A G tn K k++X) fun r H'=>r=decide (k+1<K)/\H'=frP hom ly many V key A G tn K (k+1)++X:=by
 have hkV:=(zAC9.1 hx).1;have hxv:(V.map zez)[k]?=some (zez x):=by rw[zAI9,hx];rfl
 have hlob:zAU key A G.length K k=.loop .ready .norm (zAT key A G.length) [66] zAW zAX (G.length+1+1+1+1+1+1+1+1):=by unfold zAU;rw[if_pos hk]
 refine FY.gc (zjC (tm:=zAT key A G.length) (ps:=[66]) (aS:=zAW) (bo:=zAX) (m:=G.length+1+1+1+1+1+1+1+1) (pe:=.norm) (st:=.ready) ?_ rfl ?_)
 ·rw[zAY,hlob];simp only[zBL9,ka3]
 have h9:zAT key A G.length 5=.ptr 1 0 0 0 1:=rfl;have h16:zAT key A G.length 13=.ptr 4 0 0 0 1:=rfl;have h19:zAT key A G.length 16=.ptr (G.length+1+1+1+1+1+1) 0 0 0 1:=rfl;have h20:zAT key A G.length 17=.ptr (G.length+1+1+1+1+1+1+1) 0 0 0 1:=rfl;rw[zAY,hlob];have hgc:=zBi (hom:=hom) (ly:=ly) (many:=many) (V:=V) (key:=key) (A:=A) (G:=G) (tn:=tn) (K:=K) k (k+1) X [.row 47 4 0 0 [zez x]] fun _ _ _=>trivial;rw[zAY hom ly many V key A G tn K k X,hlob]at hgc;have hend:∀r,r=decide (k+1<K)->(if r=true then zAU key A G.length K (k+1)=.loop .ready .norm (zAT key A G.length) [66] zAW zAX (G.length+1+1+1+1+1+1+1+1)else zAU key A G.length K (k+1)=.loop .done (.exit 4) (zAT key A G.length) [66] zAW zAX (G.length+1+1+1+1+1+1+1+1)):=fun r hr=>by
  subst hr
  by_cases h:k+1<K
  ·rw[decide_eq_true h,if_pos rfl];unfold zAU;rw[if_pos h]
  ·rw[decide_eq_false h,if_neg (by decide)];unfold zAU;rw[if_neg h]
 generalize zAT key A G.length=tm at *
 clear hlob;refine zau ?_;simp only[zaD];refine zfx ?_ (by simp(disch:=omega)only[go_sem,h9,h16,h19,h20,ke0,ks0,ga0,ga1,ga2,ka3,zAD9,zAB9]<;>rfl);refine zdp ?_;refine⟨rfl,_,_,_,_,_,_,by simp only[zBL9,ka3]<;>rfl,?_⟩;simp only[zDC9,ks3];refine zF ?_;refine zB ?_;refine zbc ?_;have g1:¬(V.length:Int)<=(k:Nat):=zo;have g2:k<V.length:=hkV;refine zdl ?_ (by simp(disch:=omega)only[go_sem,zyq,h9,h16,h19,h20,g1,g2,hxv,ke0,ks0,ga0,ga1,ga2,ka3,zAD9,zAB9]<;>rfl);refine zb3 ?_;simp only[go_sem];refine zcf ?_;refine zas ?_;show W _ _ _ _ _ _;have w1:(k:Int)+1=((k+1:Nat):Int):=zo;refine zB ?_;refine zgo ?_ (by simp(disch:=omega)only[go_sem,h9,h16,h19,h20,w1,ke0,ks0,ga0,ga1,ga2,ka3,sa1,zAD9,zAB9]<;>rfl);obtain⟨hK0,hK1⟩:=hK
 by_cases ht:tn=0
 ·have hK0:=hK0 ht;have gt:=eq_true (show ((tn:Nat):Int)=0 by omega)
  by_cases hm:many<=((k+1:Nat):Int)
  ·have hlt:¬k+1<K:=zo;refine zB ?_;refine zgo ?_ (by simp(disch:=omega)only[go_sem,h9,h19,h20,gt,hm,ke0,ks0,ga0,ga1,ga2,ka3,sa1,zAD9,zAB9]<;>rfl);refine zct ?_;refine zjb ?_;refine⟨rfl,.busy,.norm,tm,[66],zAW,zAX,_,by simp only[zBL9,ka3]<;>rfl,frP hom ly many V key A G tn K (k+1)++X,[.row 47 4 0 0 [zez x]],?k1,(decide_eq_false hlt).symm,rfl⟩
   case k1 =>
    have hl:=hend false (decide_eq_false hlt).symm;rw[if_neg (by decide)]at hl;rw[zAD9,zAY,hl]at hgc;simp only[zDC9,ks3];exact hgc
  have hlt:k+1<K:=zo;refine zB ?_;refine zgo ?_ (by simp(disch:=omega)only[go_sem,h9,h19,h20,gt,hm,ke0,ks0,ga0,ga1,ga2,ka3,sa1,zAD9,zAB9]<;>rfl);refine zcf ?_;refine zas ?_;refine⟨rfl,.busy,.norm,tm,[66],zAW,zAX,_,by simp only[zBL9,ka3]<;>rfl,frP hom ly many V key A G tn K (k+1)++X,[.row 47 4 0 0 [zez x]],?k2,(decide_eq_true hlt).symm,rfl⟩
  case k2 =>
   have hl:=hend true (decide_eq_true hlt).symm;rw[if_pos rfl]at hl;rw[zAD9,zAY,hl]at hgc;simp only[zDC9,ks3];exact hgc
 ·have hK1:=hK1 ht;have gt:¬((tn:Nat):Int)=0:=zo;have hlt:k+1<K:=zo;refine zB ?_;refine zgo ?_ (by simp(disch:=omega)only[go_sem,h9,h19,h20,gt,ke0,ks0,ga0,ga1,ga2,ka3,sa1,zAD9,zAB9]<;>rfl);refine zcf ?_;refine zas ?_;refine⟨rfl,.busy,.norm,tm,[66],zAW,zAX,_,by simp only[zBL9,ka3]<;>rfl,frP hom ly many V key A G tn K (k+1)++X,[.row 47 4 0 0 [zez x]],?k3,(decide_eq_true hlt).symm,rfl⟩
  case k3 =>
   have hl:=hend true (decide_eq_true hlt).symm;rw[if_pos rfl]at hl;rw[zAD9,zAY,hl]at hgc;simp only[zDC9,ks3];exact hgc
set_option maxHeartbeats 4000000 in
theorem zBe (q1 q2:Nat)(names:List (List Nat))(bits:Int)(bent:List (Int×Nat))(key:Nat)(many:Int)(hn:∀s∈names,zbF s/\s.length<9223372036854775808)(hbe:∀x∈bent,LtU x.2):FN ET 8 [.agg [.list q1 1 (zfe names),iv bits,.list q2 2 (wdV bent)],uv key,iv many] (.ret (.bool true)):=by
 rcases zA9 q1 q2 names bits bent hn hbe with⟨w,lay,fr,hil,hl10,⟨c,rfl,hc10⟩,hM⟩|⟨b,w,fr,rfl,hb,ho,hwl,hw,hfr,hM⟩
 ·refine zfn f8 (.bool _) ?_;refine zG ?_;refine zI ?_;refine zca hM ?_;refine zNF hc10 ?_;refine zS ?_;refine zI ?_;refine zca f11 ?_;refine zN ?_;refine zbG ?_;refine zep (vs:=[.bool true]) ?_ (Frz.bool _);simp[T8,xT,zbf,okv,upd,zaz,zbl,zbr,PV.cells,zaw]
 ·have hs:zb0 w.length:=by unfold zb0;omega
  have hA:=znE 0 b 28 hb w hs hw 600;have hF:=zBa 0 b 28 hb w hs hw 600 key;have hAl:=zps w b 28 600 zo;unfold zei at hA;generalize (zd9 w b 28 600).1=A at *
  refine zfn f8 (.bool _) ?_;unfold zbN zcC at hM hA hF;refine zG ?_;refine zI ?_;refine zca hM ?_;refine zN ?_;refine zT ?_;refine zas ?_;show W _ _ _ _ _ _;refine zI ?_;refine zca hA ?_;refine zN ?_;refine zG ?_;refine zpc 47 4 (id:=4) rfl ?_;simp only[lzy,zAG9,zAH9,zDB9,zDC9,zAR9,zBB9];refine zrR (fun tm=>tm 1=uv key/\tm 5=.ptr 1 0 0 0 1/\tm 6=.ptr 2 0 0 0 1/\tm 7=wv 0 w/\tm 11=esv 0 A/\tm 13=.ptr 4 0 0 0 1/\tm 14=iv 0/\tm 8=.ptr 3 0 0 0 10) ⟨zt,zt,zt,zt,zt,zt,zt,by simp[upd,zj]⟩ ?_;rintro tm ⟨h3,h9,h10,h11,h14,h16,h17,h8⟩;refine zF (zbJ (fun m s=>∃(i:Nat) (V:List zdz) (G:List zd),m=A.length-i/\i<=A.length/\V=zAS key (A.take i)/\s.tm 1=uv key/\s.tm 5=.ptr 1 0 0 0 1/\s.tm 6=.ptr 2 0 0 0 1/\s.tm 7=wv 0 w/\s.tm 11=esv 0 A/\s.tm 13=.ptr 4 0 0 0 1/\s.tm 14=iv i/\s.tm 8=.ptr 3 0 0 0 10/\s.df=[]/\s.H=frH (.row 25 3 0 0 [.agg [.list q1 1 (zfe names),iv b,.list q2 2 (wdV bent)]]) (.row 32 10 0 0 [.agg [iv 48,iv 8,iv 64,iv b,uv 3,uv 5,iv 9,iv 11,iv 27,iv 28]]) many (.sl 5 V.length 0 V.length (2*V.length) 4) (.row 47 4 V.length 0 (V.map zez)) G) (n:=A.length) ?_ ?_)
  ·exact⟨0,[],[],rfl,zAL9 _,rfl,h3,h9,h10,h11,h14,h16,h17,h8,rfl,rfl⟩
  clear h3 h9 h10 h11 h14 h16 h17 h8;rintro m ⟨tm,df,H⟩ ⟨i,V,G,rfl,hi,hV,h3,h9,h10,h11,h14,h16,h17,h8,rfl,rfl⟩;dsimp only at h3 h9 h10 h11 h14 h16 h17 h8;have hVl:V.length<=A.length:=by
   rw[hV];unfold zAS;exact zBJ9 (List.length_filter_le _ _) (by rw[zAN9];omega)
  unfold frH;(try refine zbC ?_);refine zar (zbH (zr2 h14 h17) ?_);refine zwh ?_ ?_
  ·intro hlt;have hlt:i<A.length:=by have:=of_decide_eq_true hlt;omega
   obtain⟨x,hx⟩:∃x,A[i]?=some x:=⟨_,zAA9 hlt⟩
   have hxv:(A.map zez)[i]?=some (zez x):=by rw[zAI9,hx];rfl
   have hst:=zA0 key A i x hx;have hbb:(V.length+1)*41<=140737488355328:=zo;refine zB ?_;refine zF ?_
   by_cases hk:key<=x.key
   ·have g:(key:Int)<=(x.key:Nat):=zo;rw[if_pos hk]at hst;refine zSF (zr6 h3 h14 h17 hxv hlt g) ?_;refine zB ?_;refine zbc ?_;refine zda ?_ (by simp(disch:=omega)only[go_sem,h14,h16,h17,hxv,hlt,hbb,zdS,zdY,zdV,zdU]<;>rfl) (by first|exact trivial|simp only[go_sem,h14,h16,h17,hxv,hlt,hbb,zdS,zdY,zdV,zdU]);refine zda ?_ (by simp(disch:=omega)only[go_sem,h14,h16,h17,hxv,hlt,hbb,zdS,zdY,zdV,zdU]<;>rfl) (by first|exact trivial|simp only[go_sem,h14,h16,h17,hxv,hlt,hbb,zdS,zdY,zdV,zdU]);refine zQF h14 ?_;refine zJF h17 ?_;refine⟨_,?m1,i+1,V++[x],?G1,rfl,hlt,by rw[hst,hV],zu h3,zu h9,zu h10,zu h11,zu h14,zu h16,zu h17,zu h8,zt,?H1⟩
    case m1=>omega
    case H1=>(try dsimp only);rw[zAB9,zBD9];rfl
   ·have g:¬(key:Int)<=(x.key:Nat):=zo;rw[if_neg hk,zDG9]at hst;refine zTF (zr6 h3 h14 h17 hxv hlt g) ?_;refine zas ?_;refine zJF h17 ?_;refine⟨_,?m2,i+1,V,G,rfl,hlt,by rw[hst,hV],zu h3,zu h9,zu h10,zu h11,zu h14,zu h16,zu h17,zu h8,rfl,rfl⟩
    case m2=>omega
  intro hlt;have hlt:¬i<A.length:=by have:=of_decide_eq_false hlt;omega
  obtain rfl:i=A.length:=zo;rw[zBS9]at hV;refine zA4 4 5 (v:=.sl 5 V.length 0 V.length (2*V.length) 4) (v':=esv 0 V) rfl rfl (by decide) rfl rfl (fun k u v hu hv=>?_) ?_
  ·match k with
   | 0 =>
    injection hu with hu;injection hv with hv;subst hu hv;exact .inr (Frz.whole (znT rfl) rfl (by simp) (by simp) (fun v hv=>by obtain⟨x,_,rfl⟩:=zAK9.1 hv;rfl) zsN)
   | k+1=>simp[PV.cells]at hu
  simp only[zDC9,zDB9];refine zIF (zr3 h3 h11 h8) ?_;refine zcp hF (hl:=⟨.list _ _ _,zrj b,.int _ _,.int _ _,trivial⟩) ?_;refine zN ?_;obtain⟨hom,hhom⟩:∃o:zd,o=(.row 25 3 0 0 [.agg [.list q1 1 (zfe names),iv b,.list q2 2 (wdV bent)]]):=⟨_,rfl⟩
  obtain⟨ly,hly⟩:∃o:zd,o=(.row 32 10 0 0 [.agg [iv 48,iv 8,iv 64,iv b,uv 3,uv 5,iv 9,iv 11,iv 27,iv 28]]):=⟨_,rfl⟩
  rw[<- hhom,<- hly];clear hhom hly;refine zT ?_;refine zas ?_;show W _ _ _ _ _ _;refine zG ?_;refine zrR (fun tm=>tm 5=.ptr 1 0 0 0 1/\tm 6=.ptr 2 0 0 0 1/\tm 13=.ptr 4 0 0 0 1/\tm 15=frF key A/\tm 16=.ptr (G.length+1+1+1+1+1+1) 0 0 0 1) ⟨zu h9,zu h10,zu h16,zt,by simp[upd]⟩ ?_;clear h3 h9 h10 h11 h14 h16 h17 h8;rintro tm ⟨h9,h10,h16,h18,h19⟩;refine zF (zbJ (fun m s=>∃(tn:Nat) (G:List zd) (ids:List Nat),m=2-tn/\tn<=2/\ids.Nodup/\(∀id∈ids,∃q,id=q+6/\G[q]?=some (.dfr false))/\s.tm 5=.ptr 1 0 0 0 1/\s.tm 6=.ptr 2 0 0 0 1/\s.tm 13=.ptr 4 0 0 0 1/\s.tm 15=frF key A/\s.tm 16=.ptr (G.length+1+1+1+1+1+1) 0 0 0 1/\s.df=ids.map FD.mark/\s.H=frH hom ly many (esv 0 V) .void (G++[.row 3 1 0 0 [iv tn]])) (n:=2) ?_ ?_)
  ·exact⟨0,G,[],rfl,by decide,List.nodup_nil,fun id h=>by simp at h,h9,h10,h16,h18,h19,rfl,rfl⟩
  clear h9 h10 h16 h18 h19;clear G;rintro m ⟨tm,df,H⟩ ⟨tn,G,ids,rfl,htn,hnd,hids,h9,h10,h16,h18,h19,rfl,rfl⟩;dsimp only at h9 h10 h16 h18 h19;unfold frH
  by_cases hlt:tn<2
  rotate_left
  ·have g:¬(tn:Int)<2:=zo;(try refine zbC ?_);refine zar (zbH (zr2 h19 g) ?_);refine zwh ?_ ?_
   ·intro h;cases h
   intro _;refine zI ?_;refine zca f11 ?_;refine zNF h10 ?_;refine zbG ?_;refine zBb (vs:=[.bool true]) hnd (fun id hid=>?_) fun H' h'=>⟨?_,Frz.bool _⟩
   ·obtain⟨q,rfl,hq⟩:=hids id hid;simp only[zBL9];rw[zAS9 (zAC9.1 hq).1];exact hq
   ·have h1:=h' 2 fun hid=>by obtain⟨q,hq,_⟩:=hids 2 hid;omega
    simp only[zBL9,zGC9]at h1;simp[T8,xT,zbf,okv,upd,h10,zaz,zbl,zbr,PV.cells,zaw,h1]
  have g:(tn:Int)<2:=zo;(try refine zbC ?_);refine zar (zbH (zr2 h19 g) ?_);refine zwh ?_ ?_;rotate_left
  ·intro h;cases h
  intro _;refine zB ?_;refine zF ?_;refine zB ?_;refine zgo ?_ (by simp(disch:=omega)only[go_sem,ke0,ks0,ga0,ga1,ga2,ka3,sa0,sa1,zAD9,zAB9]<;>rfl);refine zGF h18 ?_;refine zhQ (zAT key A G.length) ?_ ?_
  ·exact zAZ (zAZ (zAZ (zAZ (zAZ (zAZ (zAZ zBj (by simp[upd,h9])) (by simp[upd,h10])) (by simp[upd,h16])) (by simp[upd,h18])) (by simp[upd])) (by simp[upd,h19])) (by simp[upd])
  clear h9 h10 h16 h18 h19;obtain⟨K,hK1,hK⟩:∃K:Nat,1<=K/\((tn=0->(K:Int)=max 1 many)/\(tn≠0->K=V.length+1)):=by
   by_cases h:tn=0
   ·exact⟨(max 1 many).toNat,by omega,fun _=>by omega,fun h2=>absurd h h2⟩
   ·exact⟨V.length+1,by omega,fun h2=>absurd h2 h,fun _=>rfl⟩
  have hE:=zBd (G.length+1+1+1+1+1+1+1+1+1) 0 A key zo (frP hom ly many V key A G tn K) K hK1 (fun k=>by rw[zAV,zAV]) (fun k i o h=>by rw[zAV];exact zA3 0 h) fun k x X hx hk=>zBf hom ly many V key A G tn K k x X (by rw[hV];exact hx) hk zo hlt hK;rw[<- hV]at hE;have e1:(hom::.row 3 1 0 0 [iv many]::.row 4 1 0 0 [.bool false]::ly::.row 37 1 0 0 [esv 0 V]::.void::(G++.row 3 1 0 0 [iv tn]::.row 3 1 0 0 [iv 0]::[]):List zd).length=G.length+1+1+1+1+1+1+1+1:=by simp
  have e2:(hom::.row 3 1 0 0 [iv many]::.row 4 1 0 0 [.bool false]::ly::.row 37 1 0 0 [esv 0 V]::.void::(G++.row 3 1 0 0 [iv tn]::.row 3 1 0 0 [iv 0]::[]):List zd)++[.dfr false]++[.loop .ready .norm (zAT key A G.length) [66] zAW zAX (G.length+1+1+1+1+1+1+1+1)]=frP hom ly many V key A G tn K 0:=by
   unfold frP zAU;rw[if_pos zo];simp
  refine zF (zjB (g:=64) (cap:=[.elem [esv 0 A],.elem [uv key]]) (b:=false) rfl ?_);dsimp only;rw[e1];refine FO.mono (fun e H' he=>?_) (e2 ▸ hE);obtain⟨rfl,rfl⟩:=he;have hnn:=hK;obtain⟨L,pe,hLob,hpe⟩:∃(st:LoopState) (pe:FX),zAU key A G.length K (min V.length K)=.loop st pe (zAT key A G.length) [66] zAW zAX (G.length+1+1+1+1+1+1+1+1)/\(st ≠ .busy/\(pe=.norm\/pe=.exit 4)):=by
   unfold zAU
   by_cases h:min V.length K<K
   ·rw[if_pos h];exact⟨_,_,rfl,fun e=>by(cases e),.inl rfl⟩
   ·rw[if_neg h];exact⟨_,_,rfl,fun e=>by(cases e),.inr rfl⟩
  unfold frP;rw[hLob];refine⟨⟨_,rfl⟩,L,pe,zAT key A G.length,[66],zAW,zAX,G.length+1+1+1+1+1+1+1+1,hpe.1,by simp only[zBL9,ka3],?_⟩;simp only[zDC9,ks3];obtain⟨cnt,hcnt⟩:∃cnt:Nat,cnt=min V.length K:=⟨_,rfl⟩
  rw[<- hcnt];have h9:zAT key A G.length 5=.ptr 1 0 0 0 1:=rfl;have h10:zAT key A G.length 6=.ptr 2 0 0 0 1:=rfl;have h16:zAT key A G.length 13=.ptr 4 0 0 0 1:=rfl;have h18:zAT key A G.length 15=frF key A:=rfl;have h19:zAT key A G.length 16=.ptr (G.length+1+1+1+1+1+1) 0 0 0 1:=rfl;have h20:zAT key A G.length 17=.ptr (G.length+1+1+1+1+1+1+1) 0 0 0 1:=rfl;generalize (zd.loop .exhausted pe (zAT key A G.length) [66] zAW zAX (G.length+1+1+1+1+1+1+1+1))=lx at *
  generalize zAT key A G.length=tm at *
  clear hE e1 e2 hLob;have hblk:∀(Q:FX->FSt->Prop) (s:FSt),Q .norm s->zeY 4 Q pe s:=fun Q s h=>by
   rcases hpe.2 with e|e<;>(rw[e];simpa[zeY]using h)
  refine hblk _ _ ?_;refine zB ?_;refine zcV (Q:=fun yy s'=>yy=.norm/\s'.tm 5=.ptr 1 0 0 0 1/\s'.tm 6=.ptr 2 0 0 0 1/\s'.tm 13=.ptr 4 0 0 0 1/\s'.tm 15=frF key A/\s'.tm 16=.ptr (G.length+1+1+1+1+1+1) 0 0 0 1/\s'.tm 108=.bool false/\s'.df=.mark (G.length+1+1+1+1+1+1+1+1)::ids.map FD.mark/\s'.H=(hom::.row 3 1 0 0 [iv many]::.row 4 1 0 0 [.bool false]::ly::.row 37 1 0 0 [esv 0 V]::.void::(G++.row 3 1 0 0 [iv tn]::.row 3 1 0 0 [iv cnt]::.dfr false::lx::[]))) (zau ?_) ?_
  ·by_cases ht:tn=0
   ·have gt0:=eq_true (show ((tn:Nat):Int)=0 by omega);have gt1:=eq_false (show ¬((tn:Nat):Int)=1 by omega);have hK0:=hK.1 ht;have f1:=eq_true (show (cnt:Int)=min (V.length:Int) (max 1 many) by omega);refine zfx ?_ (by simp(disch:=omega)only[go_sem,h9,h16,h19,h20,gt0,gt1,f1,ke0,ks0,ga0,ga1,ga2,ka3,sa0,sa1,zAD9,zAB9]<;>rfl);refine zdp ?_;exact⟨rfl,h9,h10,h16,h18,h19,zt,rfl,rfl⟩
   ·have gt0:=eq_false (show ¬((tn:Nat):Int)=0 by omega);have gt1:=eq_true (show ((tn:Nat):Int)=1 by omega);have hK1:=hK.2 ht;have f1:=eq_true (show (cnt:Int)=(V.length:Int) by omega);refine zfx ?_ (by simp(disch:=omega)only[go_sem,h9,h16,h19,h20,gt0,gt1,f1,ke0,ks0,ga0,ga1,ga2,ka3,sa0,sa1,zAD9,zAB9]<;>rfl);refine zdp ?_;exact⟨rfl,h9,h10,h16,h18,h19,zt,rfl,rfl⟩
  clear h9 h10 h16 h18 h19 h20;rintro yy ⟨tm,df,H⟩ ⟨rfl,h9,h10,h16,h18,h19,h110,rfl,rfl⟩;dsimp only at h9 h10 h16 h18 h19 h110;refine zcf ?_ (by simp only[go_sem,h110]<;>rfl);refine zas ?_;(repeat(first|refine zar ?_|refine zgo ?_ (by simp(disch:=omega)only[go_sem,h19,ke0,ks0,ga0,ga1,ga2,ka3,sa0,sa1,zAD9,zAB9]<;>rfl)));have hids2:∀id∈(G.length+1+1+1+1+1+1+1+1)::ids,∃q,id=q+6/\(G++.row 3 1 0 0 [iv tn]::.row 3 1 0 0 [iv cnt]::.dfr false::lx::[])[q]?=some (.dfr false):=fun id hid=>by
   rcases zBA9.1 hid with rfl|hid
   ·exact⟨G.length+1+1,rfl,by simp only[ga2]⟩
   ·obtain⟨q,hq,hq2⟩:=hids id hid;exact⟨q,hq,by rw[zAS9 (zAC9.1 hq2).1];exact hq2⟩
  have hnd2:((G.length+1+1+1+1+1+1+1+1)::ids).Nodup:=zFP9.2 ⟨fun hid=>by
   obtain⟨q,hq,hq2⟩:=hids _ hid;have:=(zAC9.1 hq2).1;omega,hnd⟩
  generalize (G++.row 3 1 0 0 [iv tn]::.row 3 1 0 0 [iv cnt]::.dfr false::lx::[])=G9 at *
  generalize hid9:((G.length+1+1+1+1+1+1+1+1)::ids)=ids9 at *
  have hdf9:FD.mark (G.length+1+1+1+1+1+1+1+1)::ids.map FD.mark=ids9.map FD.mark:=by rw[<- hid9];rfl
  rw[hdf9];have w1:(tn:Int)+1=((tn+1:Nat):Int):=zo;refine zJ ?_;refine zJF w1 ?_;refine⟨_,?m9,tn+1,G9,ids9,rfl,by omega,hnd2,hids2,zu h9,zu h10,zu h16,zu h18,zt,rfl,?H9⟩
  case m9=>omega
  case H9=>rfl
end Fv
end Go.Proofs.YtkeknmgnoceogaaGreat
namespace Go.Proofs.YtkeknmgnoceogaaGreat
open Go.ChangeShapes Go.WideShapes Go.ChangeAt Go.RowKit
set_option maxRecDepth 100000
theorem zn6 (b o j:Nat):(⟨b,o,none⟩:Addr).add j=⟨b,o+j,none⟩:=by unfold Addr.add;split<;>simp_all
theorem zAJ:ownKnob Tryz.prog.godebug=none:=by kernel_rfl
theorem zzb:laidOutB Tryz.prog=true:=by kernel_rfl
namespace Fv
theorem zpS {P:Program}{w:World}{r:Reach}{base:Nat}{t e:TypeId}{a:Addr}{len cap:Nat}(ht:P.underlying t=some (.slice e))(h:Value.okWide P w r base t (.slice (some a) len cap)):a.block<w.heap.size/\a.spot=none:=by
 simp only[Value.okWide,ht,Cell.okWide,Cell.ok,World.has]at h;obtain⟨_,_,_,h2,row,cells,h3,_⟩:=h;refine⟨?_,h2⟩;unfold World.shape? at h3
 grind
def zg2 (l:List (Int×Nat)):List PV:=l.flatMap fun x=>[iv x.1,uv x.2]
def zeI (l:List (Int×Nat)):List Value:=l.flatMap fun x=>[.int .i64 x.1,.int .u64 (x.2:Int)]
theorem zjq:∀l:List (Int×Nat),(wdV l).flatMap PV.cells=zg2 l
 | []=>rfl
 | x::l=>by have:=zjq l;unfold wdV zg2 at this⊢;rw[zBZ9,zBR9,this];rfl
theorem zo2:∀(l:List (Int×Nat)) (i:Nat) (x:PV) (y:Value),(zg2 l)[i]?=some x->(zeI l)[i]?=some y->(∃k n,x=.int k n/\y=.int k n)
 | [],i,x,y,hx,_=>by simp[zg2]at hx
 | a::l,0,x,y,hx,hy=>by simp[zg2]at hx;simp[zeI]at hy;subst hx hy;exact⟨_,_,rfl,rfl⟩
 | a::l,1,x,y,hx,hy=>by simp[zg2]at hx;simp[zeI]at hy;subst hx hy;exact⟨_,_,rfl,rfl⟩
 | a::l,i+2,x,y,hx,hy=>zo2 l i x y (by simpa[zg2]using hx) (by simpa[zeI]using hy)
theorem zlR {w:World}{b:Nat}:∀(l:List (Int×Nat)) (o:Nat),(∀(i:Nat) (x:Int×Nat),l[i]?=some x->w.cell? ⟨b,o+i*2,none⟩=some (.int .i64 x.1)/\w.cell? ⟨b,o+(i*2+1),none⟩=some (.int .u64 x.2))->∀(j:Nat) (v:Value),(zeI l)[j]?=some v->w.cell? ⟨b,o+j,none⟩=some v
 | [],_,_,j,v,hv=>by simp[zeI]at hv
 | a::l,o,h,0,v,hv=>by simp[zeI]at hv;subst hv;exact(h 0 a rfl).1
 | a::l,o,h,1,v,hv=>by simp[zeI]at hv;subst hv;exact(h 0 a rfl).2
 | a::l,o,h,j+2,v,hv=>by
  have:=zlR l (o+2) (fun i x hx=>by
   have:=h (i+1) x (by simpa using hx);rw[show o+2+i*2=o+(i+1)*2 by omega,show o+2+(i*2+1)=o+((i+1)*2+1) by omega];exact this) j v (by simpa[zeI]using hv)
  rw[show o+(j+2)=o+2+j by omega];exact this
theorem zwl {w:World}{p:Nat}{l:List (Int×Nat)}{b o c:Nat}(hb:b<w.heap.size)(hlc:l.length<=c)(hcm:c<=maxLen)(hcell:∀(i:Nat) (x:Int×Nat),l[i]?=some x->w.cell? ⟨b,o+i*2,none⟩=some (.int .i64 x.1)/\w.cell? ⟨b,o+(i*2+1),none⟩=some (.int .u64 x.2)):CI w (.list p 2 (wdV l)) (.slice (some ⟨b,o,none⟩) l.length c):=by
 have e:l.length=(wdV l).length:=(zAX9 ..).symm;rw[e];have hlen:∀l:List (Int×Nat),(zg2 l).length=(zeI l).length:=fun l=>by
  induction l with
  | nil=>rfl
  | cons a l ih=>simp[zg2,zeI]at ih⊢
 refine CI.list (cs:=zeI l) hb (by rw[zAX9];exact hlc) hcm (fun v hv=>by obtain⟨x,_,rfl⟩:=zAK9.1 hv;rfl) (by rw[zjq];exact hlen l) (fun i x y hx hy=>?_) (zlR l o hcell) (fun x hx=>?_)
 ·rw[zjq]at hx;obtain⟨k,n,rfl,rfl⟩:=zo2 l i x y hx hy;exact .int _ _
 ·rw[zjq]at hx;unfold zg2 at hx;obtain⟨y,_,hx⟩:=zBE9.1 hx;simp at hx;rcases hx with rfl|rfl<;>rfl
def zom (s:ByteArray):List Nat:=s.data.toList.map (·.toNat)
theorem zxo (s:ByteArray):(zom s).length=s.size:=(zAX9 ..).trans (zDW9 ..)
theorem zzs (s:ByteArray):zbF (zom s):=fun x hx=>by
 unfold zom at hx;obtain⟨y,_,rfl⟩:=zAK9.1 hx;exact y.toNat_lt
theorem zie:∀l:List (List Nat),(zfe l).flatMap PV.cells=zfe l
 | []=>rfl
 | x::l=>by have:=zie l;unfold zfe at this⊢;rw[zBZ9,zBR9,this];rfl
theorem zzd {w:World}{p:Nat}{l:List ByteArray}{b o c:Nat}(hb:b<w.heap.size)(hlc:l.length<=c)(hcm:c<=maxLen)(hcell:∀(i:Nat) (x:ByteArray),l[i]?=some x->w.cell? ⟨b,o+i,none⟩=some (.string x)):CI w (.list p 1 (zfe (l.map zom))) (.slice (some ⟨b,o,none⟩) l.length c):=by
 have e:l.length=(zfe (l.map zom)).length:=by unfold zfe;rw[zAX9,zAX9]
 rw[e];refine CI.list (cs:=l.map Value.string) hb (by rw[<- e];exact hlc) hcm (fun v hv=>by obtain⟨x,_,rfl⟩:=zAK9.1 hv;rfl) (by rw[zie];simp) (fun i x y hx hy=>?_) (fun j v hv=>?_) (fun x hx=>?_)
 ·rw[zie]at hx;unfold zfe at hx;rw[zAI9,zAI9]at hx;rw[zAI9]at hy
  cases hn:l[i]? with
  | none=>rw[hn]at hx;cases hx
  | some n=>rw[hn]at hx hy;injection hx with hx;injection hy with hy;subst hx hy;exact .str _
 ·rw[zAI9]at hv
  cases hx:l[j]? with
  | none=>rw[hx]at hv;cases hv
  | some x=>rw[hx]at hv;injection hv with hv;subst hv;exact hcell j x hx
 ·rw[zie]at hx;obtain⟨n,_,rfl⟩:=zAK9.1 hx;rfl
end Fv
section
variable {H:Type}{enc:TypeId×Value->H}{w:World}{base:Nat}{spare:Nat->Bool}{held:Bool}{r:Reach}{b0:Nat}
theorem ztL {fuel:Nat}{v:Value}{x:DataW H×List MemPlace}(hv:Value.okWide Tryz.prog w r b0 23 v)(h:DataW.trod enc Tryz.prog w base spare held fuel 23 [v]=some x):∃(l:List (Int×Nat)),(∀x∈l,Fv.LtU x.2)/\Fv.CI w (.list 0 2 (Fv.wdV l)) v:=by
 rcases Go.Deep.open_slice_pairs Tryz.underlying23 Tryz.underlying96 (by kernel_rfl) rfl rfl (by kernel_rfl) (by kernel_rfl) h with⟨hcs,_⟩|⟨a,len,cap,m,n,V0,V1,D0,D1,P0,P1,hcs,_,hl,hm,hmm,_,hx⟩
 ·injection hcs with hcs;subst hcs;exact⟨[],fun x hx=>by simp at hx,.nilsl _ _⟩
 ·injection hcs with hcs;subst hcs;have hml:len<=m:=by
   rw[hmm];split
   ·exact hl
   ·exact zAE9 _
  obtain⟨hblk,hspot⟩:=Fv.zpS Tryz.underlying23 hv;obtain⟨b,off,spot⟩:=a;dsimp only at hblk hspot;subst hspot;have hall:∀i,i<len->∃y:Int×Nat,Fv.LtU y.2/\w.cell? ⟨b,off+i*2,none⟩=some (.int .i64 y.1)/\w.cell? ⟨b,off+(i*2+1),none⟩=some (.int .u64 y.2):=fun i hi=>by
   obtain⟨c0,c1,t0,t1⟩:=hx i (by omega);obtain⟨n0,e0,_,w0⟩:=DataW.trod_int Tryz.underlying3 t0;obtain⟨n1,e1,_,w1⟩:=DataW.trod_int Tryz.underlying29 t1;injection e0 with e0;injection e1 with e1;have q1:=bounds_u64 w1;refine⟨(n0,n1.toNat),show n1.toNat<_ by omega,?_,?_⟩
   ·rw[e0]at c0;rwa [zn6]at c0
   ·rw[e1]at c1;show _=some (Value.int .u64 ((n1.toNat:Nat):Int));rw[Int.toNat_of_nonneg q1.1];rwa [zn6]at c1
  haveI:Inhabited (Int×Nat):=⟨(0,0)⟩
  obtain⟨f,hf⟩:=Go.Deep.choose_lt (p:=fun i (y:Int×Nat)=>Fv.LtU y.2/\w.cell? ⟨b,off+i*2,none⟩=some (.int .i64 y.1)/\w.cell? ⟨b,off+(i*2+1),none⟩=some (.int .u64 y.2)) hall;refine⟨(List.range len).map f,fun x hx=>by
   obtain⟨i,hi,rfl⟩:=zAK9.1 hx;exact(hf i (zDF9.1 hi)).1,?_⟩
  have hlen:((List.range len).map f).length=len:=by simp
  have:=Fv.zwl (w:=w) (p:=0) (l:=(List.range len).map f) (b:=b) (o:=off) (c:=cap) hblk (by rw[hlen];exact hl) hm (fun i x hi=>by
   have hil:i<len:=by have:=(zAC9.1 hi).1;rwa [hlen]at this
   rw[zAI9,List.getElem?_range hil]at hi;injection hi with hi;subst hi;exact(hf i hil).2)
  rwa [hlen]at this
theorem zuQ {fuel:Nat}{v:Value}{x:DataW H×List MemPlace}(hv:Value.okWide Tryz.prog w r b0 22 v)(h:DataW.trod enc Tryz.prog w base spare held fuel 22 [v]=some x):∃(l:List (List Nat)),(∀s∈l,Fv.zbF s/\s.length<9223372036854775808)/\Fv.CI w (.list 0 1 (Fv.zfe l)) v:=by
 rcases Go.Deep.open_strs Tryz.underlying22 Tryz.underlying9 (by kernel_rfl) h with⟨hcs,_⟩|⟨a,len,cap,m,Sx,hcs,_,hl,hm,hmm,_,hx⟩
 ·injection hcs with hcs;subst hcs;exact⟨[],fun x hx=>by simp at hx,.nilsl _ _⟩
 ·injection hcs with hcs;subst hcs;have hml:len<=m:=by
   rw[hmm];split
   ·exact hl
   ·exact zAE9 _
  obtain⟨hblk,hspot⟩:=Fv.zpS Tryz.underlying22 hv;obtain⟨b,off,spot⟩:=a;dsimp only at hblk hspot;subst hspot;refine⟨((List.range len).map Sx).map Fv.zom,fun s hs=>?_,?_⟩
  ·obtain⟨y,hy,rfl⟩:=zAK9.1 hs;obtain⟨i,hi,rfl⟩:=zAK9.1 hy;refine⟨Fv.zzs _,?_⟩;rw[Fv.zxo];have:=(hx i (by have:=zDF9.1 hi;omega)).2;unfold maxLen at this;omega
  ·have hlen:((List.range len).map Sx).length=len:=by simp
   have:=Fv.zzd (w:=w) (p:=0) (l:=(List.range len).map Sx) (b:=b) (o:=off) (c:=cap) hblk (by rw[hlen];exact hl) hm (fun i x hi=>by
    have hil:i<len:=by have:=(zAC9.1 hi).1;rwa [hlen]at this
    rw[zAI9,List.getElem?_range hil]at hi;injection hi with hi;subst hi;have:=(hx i (by omega)).1
    rwa [zn6]at this)
   rwa [hlen]at this
theorem zvo {fuel:Nat}{v:Value}{x:DataW H×List MemPlace}(hv:Value.okWide Tryz.prog w r b0 25 v)(h:DataW.trod enc Tryz.prog w base spare held fuel 25 v.cells.toList=some x):∃(names:List (List Nat)) (bits:Int) (bent:List (Int×Nat)),(∀s∈names,Fv.zbF s/\s.length<9223372036854775808)/\(∀x∈bent,Fv.LtU x.2)/\Fv.CI w (.agg [.list 0 1 (Fv.zfe names),Fv.iv bits,.list 0 2 (Fv.wdV bent)]) v:=by
 unfold Value.okWide at hv;rw[Tryz.underlying25]at hv;obtain⟨cs,rfl,hsz,ts,hts,_,hcell⟩:=hv;obtain rfl:[22,3,23]=ts:=Option.some.inj (Eq.trans (show Tryz.prog.cellTypes Tryz.prog.depth 25=some [22,3,23] by kernel_rfl).symm hts);have hsz:cs.size=3:=hsz.trans (by kernel_rfl);obtain⟨c0,c1,c2,rfl⟩:∃c0 c1 c2,cs=#[c0,c1,c2]:=⟨cs[0],cs[1],cs[2],by
  apply Array.ext
  ·simp[hsz]
  ·intro i h1 h2
   match i with
   | 0=>rfl
   | 1=>rfl
   | 2=>rfl
   | i+3=>omega⟩
 obtain⟨u0,e0,k0⟩:=hcell 0 c0 rfl;obtain⟨u1,e1,k1⟩:=hcell 1 c1 rfl;obtain⟨u2,e2,k2⟩:=hcell 2 c2 rfl;injection e0 with e0;injection e1 with e1;injection e2 with e2;subst e0 e1 e2;have w0:Value.okWide Tryz.prog w r b0 22 c0:=by unfold Value.okWide;rw[Tryz.underlying22];exact k0
 have w2:Value.okWide Tryz.prog w r b0 23 c2:=by unfold Value.okWide;rw[Tryz.underlying23];exact k2
 obtain⟨y0,y1,y2,n,_,_,t0,t1,t2⟩:=Go.Deep.trod_struct3 Tryz.underlying25 h;have q0:Tryz.prog.cellsOf 22=1:=by kernel_rfl
 have q1:Tryz.prog.cellsOf 3=1:=by kernel_rfl
 have q2:Tryz.prog.cellsOf 23=1:=by kernel_rfl
 dsimp only at t0 t1 t2;rw[q0]at t0;rw[q1]at t1;rw[q2]at t2;obtain⟨names,hn,hc0⟩:=zuQ w0 t0;obtain⟨bits,eb,_,_⟩:=DataW.trod_int Tryz.underlying3 t1;obtain rfl:c1=.int .i64 bits:=(List.cons.inj eb).1;obtain⟨bent,hb,hc2⟩:=ztL w2 t2;refine⟨names,bits,bent,hn,hb,?_⟩;refine Fv.CI.agg (cs:=[c0,.int .i64 bits,c2]) rfl (fun i x y hx hy=>?_) (fun x hx=>?_)
 ·match i with
  | 0=>injection hx with hx;injection hy with hy;subst hx hy;exact hc0
  | 1=>injection hx with hx;injection hy with hy;subst hx hy;exact .int _ _
  | 2=>injection hx with hx;injection hy with hy;subst hx hy;exact hc2
  | i+3=>simp at hx
 ·simp only[zBA9,zCR9,or_false]at hx;rcases hx with rfl|rfl|rfl<;>rfl
end
end Go.Proofs.YtkeknmgnoceogaaGreat
namespace Go.Proofs.YtkeknmgnoceogaaGreat
open Go.ChangeShapes Go.WideShapes
set_option maxRecDepth 100000
theorem zcw {a b:Bool}(ha:a=true)(hb:b=true):(a&&b)=true:=by subst ha hb;rfl
theorem j1:(Rows.dirFromRow.wf (OpenSpec.ofChange Rows.dirFromSpec))=true:=by kernel_rfl
theorem j2:(laidOutB Tryz.prog)=true:=by kernel_rfl
theorem j3:(mapsRowed Tryz.prog)=true:=by kernel_rfl
theorem j4:(Tryz.f8.params.all (Tryz.prog.readableRec ·))=true:=by kernel_rfl
theorem j5:(namedTie Tryz.prog Rows.dirFromRow.named Rows.dirFromSpec.vars)=true:=by kernel_rfl
theorem j6:(Rows.dirFromRow.stops == [])=true:=by kernel_rfl
theorem j7:(Tryz.prog.stops == [])=true:=by kernel_rfl
theorem j8:(Rows.dirFromRow.knobs == [])=true:=by kernel_rfl
theorem j9:(Tryz.prog.stopKnobs == [])=true:=by kernel_rfl
theorem j10:(Rows.dirFromRow.inPlace==Tryz.prog.inPlace 8)=true:=by kernel_rfl
theorem j11:(Rows.dirFromRow.unfollowed==Tryz.prog.unfollowed 8)=true:=by kernel_rfl
theorem j12:(Rows.dirFromRow.recurses==Tryz.prog.recurses 8)=true:=by kernel_rfl
theorem j13:(Rows.dirFromRow.named==Tryz.prog.varsNamed 8)=true:=by kernel_rfl
theorem j14:(Rows.dirFromRow.maps==(Tryz.f8.params.toList++Rows.dirFromSpec.plain.varTypes Tryz.prog).any (Tryz.prog.mapsRec ·))=true:=by kernel_rfl
theorem j15:(Rows.dirFromRow.ifaces==(Tryz.f8.params.toList++Rows.dirFromSpec.plain.varTypes Tryz.prog).any (Tryz.prog.ifacesRec ·))=true:=by kernel_rfl
theorem j16:(Rows.dirFromRow.mapsOut==Tryz.prog.mapsAmong Tryz.f8.resultTypes.toList)=true:=by kernel_rfl
theorem j17:(Rows.dirFromRow.loops==(Tryz.f8.params.toList++Rows.dirFromSpec.plain.varTypes Tryz.prog).any (Tryz.prog.loopsFrom ·))=true:=by kernel_rfl
theorem j18:(Rows.dirFromRow.wideKeys==(Tryz.f8.params.toList++Rows.dirFromSpec.plain.varTypes Tryz.prog++Tryz.f8.resultTypes.toList).any (Tryz.prog.wideKeysFrom ·))=true:=by kernel_rfl
theorem j19:(Rows.dirFromSpec.vars.all (Tryz.prog.varReadable ·))=true:=by kernel_rfl
theorem j20:(Tryz.f8.resultTypes.all (fun t=>Tryz.prog.readableRec t&&decide (t<Tryz.prog.types.size)))=true:=by kernel_rfl
theorem j21:(Rows.dirFromRow.ifacesOut==Tryz.f8.resultTypes.toList.any (Tryz.prog.ifacesRec ·))=true:=by kernel_rfl
theorem j22:(Rows.dirFromRow.loopsOut==Tryz.f8.resultTypes.toList.any (Tryz.prog.loopsFrom ·))=true:=by kernel_rfl
theorem j23:(Rows.dirFromRow.plainKeys==Tryz.prog.plainKeys)=true:=by kernel_rfl
theorem j24:(Rows.dirFromRow.shortTexts.isNone)=true:=by kernel_rfl
theorem j25:(Tryz.prog.stopsHeard)=true:=by kernel_rfl
theorem j26:(Tryz.prog.mayEnter)=true:=by kernel_rfl
theorem j27:(Rows.dirFromRow.lifted==Tryz.prog.liftsFinal)=true:=by kernel_rfl
theorem j28:(Tryz.prog.make==some Rows.dirFromRow.make)=true:=by kernel_rfl
theorem j29:(Rows.dirFromRow.kinds==(if Rows.dirFromRow.domain.isEmpty then[]else Tryz.f8.params.toList.map fun t=>match Tryz.prog.underlying t with|some (.int k)=>some k|_=>none))=true:=by kernel_rfl
theorem j30:(Rows.dirFromRow.pinned==Rows.dirFromRow.pinnedBy)=true:=by kernel_rfl
theorem j31:(Rows.dirFromRow.veiled==(Tryz.f8.params.toList++Rows.dirFromSpec.plain.varTypes Tryz.prog++Tryz.f8.resultTypes.toList).any (Tryz.prog.veiledRec ·))=true:=by kernel_rfl
theorem j32:(Rows.dirFromRow.veiledFits Tryz.prog Tryz.f8.params.toList (Tryz.f8.params.toList++Rows.dirFromSpec.plain.varTypes Tryz.prog++Tryz.f8.resultTypes.toList))=true:=by kernel_rfl
theorem zAG:joinedFacts Tryz.prog 8 Tryz.f8 Rows.dirFromSpec Rows.dirFromRow=true:=zcw (zcw (zcw (zcw (zcw (zcw (zcw (zcw (zcw (zcw (zcw (zcw (zcw (zcw (zcw (zcw (zcw (zcw (zcw (zcw (zcw (zcw (zcw (zcw (zcw (zcw (zcw (zcw (zcw (zcw (zcw (j1) j2) j3) j4) j5) j6) j7) j8) j9) j10) j11) j12) j13) j14) j15) j16) j17) j18) j19) j20) j21) j22) j23) j24) j25) j26) j27) j28) j29) j30) j31) j32
end Go.Proofs.YtkeknmgnoceogaaGreat
namespace Go.Proofs.YtkeknmgnoceogaaGreat
open Go.ChangeShapes Go.WideShapes Go.ChangeAt Go.RowKit
set_option maxRecDepth 100000
set_option maxHeartbeats 1000000 in
theorem zA6 (os:Os)(started:os.Started)(H:Type)(enc:TypeId×Value->H) :
  ReturnsInHanded {} Tryz.checked os 8 .any (Rows.dirFromSpec.pre6 enc Tryz.prog Tryz.f8 Rows.dirFromRow.domain false) (Rows.dirFromSpec.post enc Tryz.prog Tryz.f8 false true false false):=by
 refine returnsInHanded_of_change (C:=Tryz.checked) zAJ started (by kernel_rfl) Tryz.func8
  (ChangeSpec.witness6 (enc:=enc) (C:=Tryz.checked) false ⟨#[],#[.agg #[.slice none 0 0,.int .i64 0,.slice none 0 0],.int .u64 0,.int .i64 0],[]⟩ 8 (by kernel_rfl) (by kernel_rfl) (by kernel_rfl) (by kernel_rfl)) ?_
 intro W base args ds gs before hval0 hW hcnd _;have hval:∀(j:Nat) t v,Tryz.f8.params[j]?=some t->args[j]?=some v->Value.okWide Tryz.prog W .any base t v:=hval0;have hW':=hW;obtain⟨p,q,hA0,hV,rfl,hfz,hnd⟩:=hW;have hA:DataW.TrodAll enc Tryz.prog W 0 (fun _=>true) true Tryz.f8.params.toList args.toList ds p:=hA0;rw[Tryz.params8]at hA hval;obtain⟨v0,vs0,d0,ds0,p0,q0,hargs,rfl,rfl,h0,r0⟩:=trodAll_cons hA;obtain⟨v1,vs1,d1,ds1,p1,q1,rfl,rfl,rfl,h1,r1⟩:=trodAll_cons r0;obtain⟨v2,vs2,d2,ds2,p2,q2,rfl,rfl,rfl,h2,r2⟩:=trodAll_cons r1;obtain⟨rfl,rfl,rfl⟩:=trodAll_nil r2;obtain rfl:args=#[v0,v1,v2]:=by cases args;simp_all
 obtain⟨rfl,rfl⟩:=trodVars_none hV;have w0:=hval 0 25 v0 rfl rfl;have k0:=h0;have lt0:∀x∈p0,x.block<W.heap.size:=by obtain⟨m,hm⟩:=k0;exact DataW.trod_lt m _ _ _ hm
 obtain⟨n1,rfl,rfl,rfl,g1⟩:=open_int Tryz.underlying29 (hval 1 29 v1 rfl rfl) h1;have b1:=bounds_u64 g1;obtain⟨m1,rfl⟩:∃m:Nat,n1=m:=⟨n1.toNat,by omega⟩
 obtain⟨n2,rfl,rfl,rfl,g2⟩:=open_int Tryz.underlying3 (hval 2 3 v2 rfl rfl) h2;obtain⟨names,bits,bent,hn,hb,hc0⟩:∃(names:List (List Nat)) (bits:Int) (bent:List (Int×Nat)),(∀s∈names,Fv.zbF s/\s.length<9223372036854775808)/\(∀x∈bent,Fv.LtU x.2)/\Fv.CI W (.agg [.list 0 1 (Fv.zfe names),Fv.iv bits,.list 0 2 (Fv.wdV bent)]) v0:=by
  obtain⟨fuel,hf⟩:=h0;exact zvo w0 hf
 clear hA0 hval0;refine(Fv.FP.calls (w:=W) Fv.zAj (Fv.FN.FP (Fv.zBe 0 0 names bits bent m1 n2 hn hb)) (args':=[v0,.int .u64 m1,.int .i64 n2]) rfl (fun i x y hx hy=>?_)).mono fun e W' ⟨he,hx⟩=>?_
 ·match i with
  | 0=>injection hx with hx;injection hy with hy;subst hx hy;exact hc0
  | 1=>injection hx with hx;injection hy with hy;subst hx hy;exact .int _ _
  | 2=>injection hx with hx;injection hy with hy;subst hx hy;exact .int _ _
  | i+3=>simp at hx
 have bel:Below W.heap.size W W':=hx;subst he;exact⟨_,rfl,_,_,_,[],_,[],hW',trodAll_mk1 (shut_bool Tryz.underlying4 _),(trodAll_cons_mk (Below.trod zzb (by kernel_rfl) (of_decide_eq_true (by kernel_rfl)) k0 bel lt0) (trodAll_cons_mk (shut_int Tryz.underlying29 g1) (trodAll_cons_mk (shut_int Tryz.underlying3 g2) trodAll_mk0))),rfl,bel.frame _,fun h=>by cases h⟩
theorem zBg:Rows.dirFromRow.holds Tryz.pinned (OpenSpec.ofChange Rows.dirFromSpec) :=
 OpenClaim.holds_of_wide 8 Tryz.f8 rfl rfl rfl rfl rfl rfl rfl ⟨rfl,rfl,rfl,rfl,rfl⟩ rfl rfl rfl rfl rfl (by kernel_rfl) Tryz.func8 zAG
  (of_decide_eq_true (by kernel_rfl)) (by unfold Func.isWrapper;first|(rw[if_pos (by decide +kernel)];kernel_rfl)|(rw[if_neg (by decide +kernel)];exact⟨rfl,rfl⟩))
  (fun os started H enc _=>zA6 os started H enc)
theorem dir_from:Rows.DirFromSaid:=zBg
#print axioms dir_from
end Go.Proofs.YtkeknmgnoceogaaGreat
