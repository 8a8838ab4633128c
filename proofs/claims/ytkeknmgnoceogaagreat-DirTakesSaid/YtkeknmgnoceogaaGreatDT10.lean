/- DirTakes returns true for every input, and its input reads afterwards as it did. No condition. -/
import Derived.Test.YtkeknmgnoceogaaGreatDT9
import Derived.ProofKit
import Derived.OpenShut
import Derived.ShutString
import Derived.ChangeOld
import Derived.Deep.Strs
import Derived.Deep.SlicePairs
import Derived.JoinedOf
import Derived.KernelRfl
import Derived.Test.YtkeknmgnoceogaaGreatRows
import Derived.Test.YtkeknmgnoceogaaGreatChecked
import Derived.ChangeMaps5
set_option linter.unusedSimpArgs false
set_option linter.unusedVariables false
set_option maxRecDepth 100000
set_option maxHeartbeats 1000000
namespace Go.Proofs.YtkeknmgnoceogaaGreat
open Go.Proofs.Tryz
namespace Fv
open Tw


theorem f19:ET.funcs.get 19=some T19:=zh func19
def zd3(w:LN)(b d:Nat)(a:Int)(name:LN):AQ×Nat:=if zgY w.length d a=true then if zb1 name=0 then zfb w b d a else([],zb1 name)else([],2)
variable {a:Int}{b d:Nat}{w:LN}
theorem zCP(w:LN)(b d:Nat)(a:Int)(name:LN)(hw:w.length<=131072):(zd3 w b d a name).1.length<=60000:=by
 have:=ztb w b d a hw;unfold zd3
 grind
theorem zDJ(h:¬(zfb w b d a).2=0):(zfb w b d a).1=[]:=by
 unfold zfb at h⊢
 grind
theorem zx5{name:LN}(h:¬(zd3 w b d a name).2=0):(zd3 w b d a name).1=[]:=by
 unfold zd3 at h⊢
 split
 .rename_i h1;rw[if_pos h1]at h
  split
  .rename_i h2;rw[if_pos h2]at h;exact zDJ h
  .rfl
 .rfl
def zD0(w:LN)(b d:Nat)(a:Int)(name:LN):FE:=.ret (.tuple [esv 0 (zd3 w b d a name).1,iv ((zd3 w b d a name).2:Nat)])
theorem zwn(p b d:Nat)(h:1<=b/\b<=40)(w:LN)(hs:zbQ w.length)(hw:WB w)(a:Int)(name:LN)(hnl:name.length<9223372036854775808):FN ET 48 [wv p w,zb7 b d,iv a,.str name] (zD0 w b d a name):=by
 have hr:=zoL p b d h w hs a;have hc:=zg1 name hnl;have hl:=zyI p b d h w hs hw a;unfold zke at hl;refine zfn (eG T48 func48) (Lb.two (Lb.esv _) (.int _ _)) ?_;unfold zD0 zd3;unfold zb7 zdD at hr hl⊢
 by_cases hd:zgY w.length d a=true
 rotate_left
 .rw[if_neg hd];rw[show zgY w.length d a=false by grind]at hr;refine zMG hr ?_;refine zU ?_;exact zLF
 rw[if_pos hd];rw[hd]at hr
 by_cases hn:zb1 name=0
 rotate_left
 .rw[if_neg hn];have g:¬(zb1 name:Int)=0:=fun h=>hn (Int.ofNat.inj h);refine zMG hr ?_;refine zH ?_;refine zB ?_;refine zM hc ?_;refine zSF g ?_;refine zO ?_;exact zLF
 rw[if_pos hn];rw[hn]at hc;refine zMG hr ?_;refine zH ?_;refine zB ?_;refine zM hc ?_;refine zTH ?_;refine zB ?_;refine zI ?_;refine zca hl ?_;refine zP ?_;exact zLF
def zey(name:LN)(y:zcR):Bool:=decide (y.name=name)
variable {fr:LG}{h:zn1}{key:Nat}{s:Pr}{ws:LN}(q1 p q2:Nat)(F:zcR×Bool×Nat)(names:List (LN))(x:zcR)(l:AQ)(L:LJ)(bits:Int)(r:Nat)(bent:List (Int×Nat))(u:Nat)(name:LN)
theorem zw4(hl:zbQ l.length):FR 49 [esv p l,.str name] (iv (zgq (zey name) l)):=by
 refine zfn (eG T49 func49) (.int _ _) ?_;refine zG ?_;refine ze (zbk (fun m s=>∃i:Nat,m=l.length-i/\i<=l.length/\l.findIdx? (zey name)=((l.drop i).findIdx? (zey name)).map (· + i)/\s.tm 0=esv p l/\s.tm 1=.str name/\s.tm 5=iv i/\s.df=[]/\s.H=[]) (n:=l.length) ?_ ?_)
 .exact⟨0,by simp[upd,zn]⟩
 .rintro m ⟨tm,df,H⟩ ⟨i,rfl,hi,hf,h0,h1,h5,rfl,rfl⟩;dsimp only at h0 h1 h5;refine zLh (zr2 h0 h5) ?_ ?_
  .intro hlt;have hlt:i<l.length:=ztd hlt;obtain⟨y,hy⟩:=zex (l:=l) hlt;have hyv:(l.map zdj)[i]?=some (zdj y):=zmg hy;obtain⟨hd1,hd2⟩:=zAC9.1 hy;rw[zAM9 hd1,hd2,zEU9]at hf;refine zBb ?_;refine zB ?_
   by_cases hn:y.name=name
   .rw[show zey name y=true from decide_eq_true hn,if_pos rfl]at hf;refine zB ?_;refine zbj (zr6 h0 h1 h5 hlt hyv hn) ?_;refine zUF h5 ?_;exact zbp.int (by unfold zgq;grind)
   .rw[show zey name y=false from decide_eq_false hn,if_neg zEV9]at hf;refine zB ?_;refine zbj (zr6 h0 h1 h5 hlt hyv hn) ?_;refine zH ?_;refine zJF h5 ?_;refine⟨_,?_,i+1,rfl,hlt,?_,zu h0,zu h1,zt,zt,zt⟩
    .omega
    .rw[hf]
     cases (l.drop (i+1)).findIdx? (zey name)with
     | none=>rfl
     | some j=>grind
  .intro hlt;have hlt:¬i<l.length:=zfd hlt;obtain rfl:i=l.length:=zo;rw[zBH9]at hf;refine zO ?_;exact zbp.int (by unfold zgq;grind)
theorem zqr(pr:zcR->Bool)(l:AQ):(l.find? pr=none/\zgq pr l=-1)\/∃(i:Nat) (x:zcR),l.find? pr=some x/\l[i]?=some x/\i<l.length/\zgq pr l=i:=by
 unfold zgq
 cases h:l.findIdx? pr with
 | none =>
  grind
 | some i =>
  right
  obtain⟨hi,h1,h2⟩:=List.findIdx?_eq_some_iff_getElem.1 h;refine⟨i,l[i],?_,zAA9 hi,hi,rfl⟩;rw[List.find?_eq_some_iff_getElem]
  grind
@[reducible] def zE:zcR:=⟨0,0,0,[]⟩
def zgj(w:LN)(b d:Nat)(a:Int)(name:LN):zcR×Bool×Nat:=match(zd3 w b d a name).1.find? (zey name)with
 | some x=>(x,true,0)
 | none=>(zE,false,(zd3 w b d a name).2)
def ze9(w:LN)(b d:Nat)(a:Int)(name:LN):FE:=.ret (.tuple [zdj (zgj w b d a name).1,.bool (zgj w b d a name).2.1,iv ((zgj w b d a name).2.2:Nat)])
theorem zyt(b d:Nat)(h:1<=b/\b<=40)(w:LN)(hs:zbQ w.length)(hwl:w.length<=131072)(hw:WB w)(a:Int)(name:LN)(hnl:name.length<9223372036854775808):FN ET 17 [wv p w,zb7 b d,iv a,.str name] (ze9 w b d a name):=by
 have hA:=zwn p b d h w hs hw a name hnl;have hln:=zCP w b d a name hwl;have hno:=zx5 (w:=w) (b:=b) (d:=d) (a:=a) (name:=name);have hI:=zw4 0 (zd3 w b d a name).1 name (by unfold zbQ;omega);refine zfn (eG T17 func17) (Lb.three (Lb.ent _) (.bool _) (.int _ _)) ?_;unfold zD0 at hA;unfold ze9 zgj;generalize zd3 w b d a name=L at *
 obtain⟨l,no⟩:=L;dsimp only at *
 unfold zb7 zdD at *
 refine zMG hA ?_;refine zM hI ?_;rcases zqr (zey name) l with⟨e1,e2⟩|⟨i,x,e1,e2,e3,e4⟩
 .rw[e1,e2];dsimp only;refine zB ?_
  by_cases h0:no=0
  .subst h0;refine zS ?_;refine zO ?_;exact zLF
  .have g:¬(no:Int)=0:=zo;refine zSF g ?_;refine zO ?_;exact zLF
 .rw[e1,e4];dsimp only;have h0:no=0:=by
   cases Nat.decEq no 0 with
   | isTrue h=>exact h
   | isFalse h=>grind
  subst h0;have g1:¬(i:Int)<0:=zo;have hxv:(l.map zdj)[i]?=some (zdj x):=zmg e2;refine zB ?_;refine zHY g1 ?_;refine zOF (zr2 hxv e3) ?_;exact zLF


theorem f47:ET.funcs.get 47=some T47:=eG _ func47
theorem f16:ET.funcs.get 16=some T16:=zh func16
theorem zG6:Id0 (zdj x):=.agg fun v hv=>by
 simp at hv;rcases hv with rfl|rfl|rfl|rfl
 .exact .int _ _
 .exact .int _ _
 .exact .int _ _
 .exact .str _
theorem zwI(hl:zbQ l.length)(g:Nat)(caps:LQ)(hc:∀v∈caps,Id0 v)(pr:zcR->Bool)(hg:∀x∈l,FN ET g (zdj x::caps) (.ret (.bool (pr x)))):FR 134 [esv p l,.fn g caps] (iv (zgq pr l)):=by
 refine zfn (eG T134 func134) (.int _ _) ?_;refine zG ?_;refine ze (zbk (fun m s=>∃i:Nat,m=l.length-i/\i<=l.length/\l.findIdx? pr=((l.drop i).findIdx? pr).map (· + i)/\s.tm 0=esv p l/\s.tm 1=.fn g caps/\s.tm 7=iv l.length/\s.tm 8=iv i/\s.df=[]/\s.H=[]) (n:=l.length) ?_ ?_)
 .exact⟨0,by simp[upd,zn]⟩
 .rintro m ⟨tm,df,H⟩ ⟨i,rfl,hi,hf,h0,h1,h7,h8,rfl,rfl⟩;dsimp only at *
  refine zLh (zr4 h0 h1 h7 h8) ?_ ?_
  .intro hlt;have hlt:i<l.length:=ztd hlt;have hv:(l.map zdj)[i]?=some (zdj l[i]):=by rw[zAF9,zAA9 hlt];rfl
   refine zHW (ze ?_);refine zGF h8 ?_;refine zIF (zr4 h0 h1 hv hlt) ?_;refine zeA (caps:=caps) (vs:=[zdj l[i]]) rfl ?_ (hg _ (zBK9 hlt)) (zpZ _ (fun v hv=>?_)) ?_
   .simp only[go_sem,h1]
   .rcases zBA9.1 hv with rfl|hv
    .exact zG6 _
    .exact hc v hv
   refine zN ?_;rw[zAM9 hlt,zEU9]at hf;refine zfc ?_ ?_
   .intro hb;have hb:pr l[i]=true:=hb;refine zO ?_;rw[if_pos hb]at hf;exact zbp.int (by simp[zgq,hf])
   .intro hb;have hb:pr l[i]=false:=hb;refine zr ?_;refine zJF h8 ?_;refine⟨_,?_,i+1,rfl,hlt,?_,zu h0,zu h1,zu h7,zt,zt,zt⟩
    .omega
    .rw[hf,hb]
     cases (l.drop (i+1)).findIdx? pr with
     | none=>rfl
     | some j=>simp;omega
  .intro hlt;have hlt:¬i<l.length:=zfd hlt;obtain rfl:i=l.length:=zo;rw[zBH9]at hf;refine zO ?_;exact zbp.int (by simp[zgq,hf])
def zpJ(pr:zcR->Bool)(l:AQ):FE:=match l.find? pr with
 | some x=>.ret (.tuple [zdj x,.bool true])
 | none=>.ret (.tuple [zdj zE,.bool false])
theorem zzw(hl:zbQ l.length)(g:Nat)(caps:LQ)(hc:∀v∈caps,Id0 v)(pr:zcR->Bool)(hg:∀x∈l,FN ET g (zdj x::caps) (.ret (.bool (pr x)))):FN ET 87 [esv p l,.fn g caps] (zpJ pr l):=by
 have hI:=zwI p l hl g caps hc pr hg;refine zfn (eG T87 func87) ?_ ?_
 .unfold zpJ;split
  .exact Lb.two (Lb.ent _) (.bool _)
  .exact Lb.two (Lb.ent _) (.bool _)
 unfold zpJ;refine zGI ?_;refine zeA (caps:=[]) (vs:=[esv p l,.fn g caps]) rfl ?_ hI ?_ ?_
 .simp only[go_sem]
 .exact zpZ _ fun v hv=>by
   rcases zBA9.1 hv with rfl|hv
   .exact .list _ _ _
   .obtain rfl:=zBI9.1 hv;exact .fn hc
 refine zN ?_;rcases zqr pr l with⟨e1,e2⟩|⟨i,x,e1,e2,e3,e4⟩
 .rw[e1,e2];refine zTH ?_;refine zO ?_;exact zLF
 .rw[e1,e4];have g1:(0:Int)<=i:=zo;have hxv:(l.map zdj)[i]?=some (zdj x):=zmg e2;refine zSF g1 ?_;refine zOF (zr2 hxv e3) ?_;exact zLF
theorem zwZ(x:zcR):FR 88 [zdj x,.elem [.str name]] (.bool (zey name x)):=by
 refine zfn (eG T88 func88) (.bool _) ?_;unfold zey;refine zO ?_;exact Frz.bool _
theorem zEn{a:Int}(hd:zgY w.length 28 a=true):zqs w b a=if(zfb w b 28 a).2=0 then .ret (esv 0 (zfb w b 28 a).1)else .panic (zck ((zfb w b 28 a).2:Nat)):=by
 unfold zqs zfb
 grind
def zgL(w:LN)(b:Nat)(a:Int)(name:LN):FE:=if(zd3 w b 28 a name).2=0 then match(zd3 w b 28 a name).1.find? (zey name)with
  | some x=>.ret (.tuple [esv 0 (zd3 w b 28 a name).1,zdj x,.bool true])
  | none=>.ret (.tuple [esv 0 (zd3 w b 28 a name).1,zdj zE,.bool false])
 else .panic (zck ((zd3 w b 28 a name).2:Nat))
theorem zD2(w:LN)(b:Nat)(a:Int)(name:LN):LbE (zgL w b a name):=by
 unfold zgL
 split
 .split
  .exact Lb.three (Lb.esv _) (Lb.ent _) (.bool _)
  .exact Lb.three (Lb.esv _) (Lb.ent _) (.bool _)
 .exact .iface (.int _ _)
theorem zw2(b:Nat)(h:1<=b/\b<=40)(w:LN)(hs:zbQ w.length)(hw:WB w)(a:Int)(hd:zgY w.length 28 a=true)(name:LN):FN ET 47 [zjw p w b a,.str name] (zgL w b a name):=by
 obtain⟨_,hwl,_,_⟩:=zmr.1 hd;have hc:=zkV name;have hl:=zBL p b h w hwl hw hs a;rw[zEn hd]at hl;have hlb:=zD2 w b a name
 by_cases hn:zb1 name=0
 rotate_left
 .have hE:zgL w b a name=.panic (zck (zb1 name:Nat)):=by unfold zgL zd3;rw[if_pos hd,if_neg hn,if_neg hn]
  rw[hE]at hlb⊢;have g:¬(zb1 name:Int)=0:=fun h=>hn (Int.ofNat.inj h);refine zfn f47 hlb ?_;refine zGI ?_;refine zca hc ?_;refine zfx ?_;refine zcx (zry _ g) ?_;exact zcz rfl
 have hA:zd3 w b 28 a name=zfb w b 28 a:=by unfold zd3;rw[if_pos hd,if_pos hn]
 rw[hn]at hc;have hln:=ztb w b 28 a zo;unfold zgL at hlb⊢;rw[hA]at hlb⊢;generalize zfb w b 28 a=L at *
 obtain⟨l,no⟩:=L;dsimp only at *
 by_cases h0:no=0
 rotate_left
 .rw[if_neg h0]at hl hlb⊢;refine zfn f47 hlb ?_;refine zGI ?_;refine zca hc ?_;refine zfx ?_;refine zCN zoh ?_;refine zI ?_;refine zcx hl ?_;exact zcz rfl
 rw[if_pos h0]at hl hlb⊢;have hF:=zzw 0 l (by unfold zbQ;omega) 88 [.elem [.str name]] (fun v hv=>by obtain rfl:=zBI9.1 hv;exact .elem _) (zey name) (fun x _=>zwZ name x);refine zfn f47 hlb ?_;refine zGI ?_;refine zca hc ?_;refine zfx ?_;refine zCN zoh ?_;refine zM hl ?_;unfold zpJ at hF;refine zB ?_
 cases hf:l.find? (zey name)with
 | none =>
  rw[hf]at hF;dsimp only at hF;refine zI ?_;refine zeA (caps:=[]) (vs:=[esv 0 l,.fn 88 [.ptr 1 0 0 0 1]]) rfl ?_ hF ?_ ?_
  .simp only[go_sem]
  .refine⟨.list _ _ _,Frz.fnL ⟨.ptr (w:=.str name) rfl (zAE9 _) rfl fun j x y hx hy=>?_,trivial⟩,trivial⟩
   cases j with
   | zero=>simp[PV.cells]at hx hy;subst hx;subst hy;exact Frz.str _
   | succ j=>simp at hy
  refine zN ?_;refine zBd ?_;refine zcs hl ?_;refine zQF hl ?_;refine zbN (zfr ?_);exact zLF
 | some x =>
  rw[hf]at hF;dsimp only at hF;refine zI ?_;refine zeA (caps:=[]) (vs:=[esv 0 l,.fn 88 [.ptr 1 0 0 0 1]]) rfl ?_ hF ?_ ?_
  .simp only[go_sem]
  .refine⟨.list _ _ _,Frz.fnL ⟨.ptr (w:=.str name) rfl (zAE9 _) rfl fun j x y hx hy=>?_,trivial⟩,trivial⟩
   cases j with
   | zero=>simp[PV.cells]at hx hy;subst hx;subst hy;exact Frz.str _
   | succ j=>simp at hy
  refine zN ?_;refine zBd ?_;refine zcs hl ?_;refine zQF hl ?_;refine zbN (zfr ?_);exact zLF


theorem f18:ET.funcs.get 18=some T18:=zh func18


theorem f59:ET.funcs.get 59=some T59:=eG _ func59
def zna(w:LN)(b:Nat)(a:Int)(name:LN):FE:=if(zd3 w b 28 a name).2=0 then match(zd3 w b 28 a name).1.find? (zey name)with
  | some x=>.ret (.tuple [esv 0 (zd3 w b 28 a name).1,zdj x])
  | none=>.panic (zck 5)
 else .panic (zck ((zd3 w b 28 a name).2:Nat))
theorem zAG(w:LN)(b:Nat)(a:Int)(name:LN):LbE (zna w b a name):=by
 unfold zna
 split
 .split
  .exact Lb.two (Lb.esv _) (Lb.ent _)
  .exact .iface (.int _ _)
 .exact .iface (.int _ _)
theorem zzh(b:Nat)(h:1<=b/\b<=40)(w:LN)(hs:zbQ w.length)(hw:WB w)(a:Int)(hd:zgY w.length 28 a=true)(name:LN):FN ET 59 [zjw p w b a,.str name] (zna w b a name):=by
 have hl:=zw2 p b h w hs hw a hd name;have hlb:=zAG w b a name;unfold zna at hlb⊢;unfold zgL at hl;generalize zd3 w b 28 a name=L at *
 obtain⟨l,no⟩:=L;dsimp only at *
 by_cases h0:no=0
 rotate_left
 .rw[if_neg h0]at hl hlb⊢;refine zfn f59 hlb ?_;refine zGI ?_;refine zcx hl ?_;exact zcz rfl
 rw[if_pos h0]at hl hlb⊢
 cases hf:l.find? (zey name)with
 | none =>
  rw[hf]at hl hlb;dsimp only at hl hlb⊢;refine zfn f59 hlb ?_;refine zMG hl ?_;refine zI ?_;refine zcx (zhy 5) ?_;exact zcz rfl
 | some x =>
  rw[hf]at hl hlb;dsimp only at hl hlb⊢;refine zfn f59 hlb ?_;refine zMG hl ?_;refine zM (zhu 5) ?_;refine zBd ?_;refine zcs hl ?_;refine zQF hl ?_;refine zbN (zfr ?_);exact zLF
@[reducible] def zpz (x:zcR) (L:LJ) (u:Nat) (bl:LN) (no:Nat):PV:=.tuple [zdj x,.list 0 2 (L.map zbx),iv u,.list 0 1 (bfl bl),iv no]
theorem zn2(bl:LN)(no:Nat):Lb (zpz x L u bl no):=.tuple fun v hv=>by
 simp only[zBA9,zCW9,or_false]at hv;rcases hv with rfl|rfl|rfl|rfl|rfl
 .exact Lb.ent _
 .exact ze2 _
 .exact .int _ _
 .refine .list fun x hx=>?_;obtain⟨y,hy,hx⟩:=zAU9.1 hx;obtain⟨n,_,rfl⟩:=zAH9.1 hy;simp[PV.cells]at hx;subst hx;exact .int _ _
 .exact .int _ _
def zkQ(F:zcR×Bool×Nat)(L:LJ)(u:Nat)(bl:LN)(no:Nat):FE:=if F.2.2=0 then(if F.2.1=true then(if no=0 then .ret (zpz F.1 L u bl 0)else .ret (zpz zE [] 0 [] no))else .ret (zpz zE [] 0 [] 5))else .ret (zpz zE [] 0 [] F.2.2)
theorem zx8(bl:LN)(no:Nat):LbE (zkQ F L u bl no):=by
 unfold zkQ
 split
 .split
  .split
   .exact zn2 _ _ _ _ _
   .exact zn2 _ _ _ _ _
  .exact zn2 _ _ _ _ _
 .exact zn2 _ _ _ _ _
theorem zF5(x:zc)(a b c d:PV)(ha:a.cells.length=4):FO ET 58 [.ptr 1 0 0 0 4,.ptr 2 0 0 0 1,.ptr 3 0 0 0 1,.ptr 4 0 0 0 1] [x,.row 47 4 0 0 [a],.row 57 1 0 0 [b],.row 3 1 0 0 [c],.row 33 1 0 0 [d],.row 38 1 0 0 [iv 0]] false fun e H'=>e=.ret (.tuple [])/\H'=[x,.row 47 4 0 0 [zdj zE],.row 57 1 0 0 [.nilsl],.row 3 1 0 0 [iv 0],.row 33 1 0 0 [.nilsl],.row 38 1 0 0 [iv 0]]:=by
 refine zro (eG T58 func58) ?_;refine zJF ha ?_;exact⟨[],rfl,rfl,rfl⟩
theorem zsD(b:Nat)(h:1<=b/\b<=40)(w:LN)(hs:zbQ w.length)(hw:WB w)(n:Nat)(hd:zgY w.length 28 n=true)(name:LN)(fr:LG)(L:LJ)(u:Nat)(bl:LN)(no:Nat)(hT:∀x,(zd3 w b 28 n name).1.find? (zey name)=some x->FR 60 [wv p w,iv n,uv x.key,.list r 1 (fr.map iv)] (zeK L u bl no)):FN ET 23 [wv p w,zb7 b 28,iv n,.str name,.list r 1 (fr.map iv)] (zkQ (zgj w b 28 n name) L u bl no):=by
 refine zfn (eG T23 func23) (zx8 _ _ _ _ _) ?_;have hof:=zFT p b h w hs n hd;have hl:=zzh p b h w hs hw n hd name;unfold zna at hl;have hno:=zx5 (w:=w) (b:=b) (d:=28) (a:=n) (name:=name);unfold zgj;generalize zd3 w b 28 n name=A at *
 obtain⟨l,na⟩:=A;dsimp only at *
 unfold zb7 zdD at hof⊢;refine zGI ?_;refine zgt (f:=38) (p:=.ptr 5 0 0 0 1) (cl:=.fn 58 [.ptr 1 0 0 0 4,.ptr 2 0 0 0 1,.ptr 3 0 0 0 1,.ptr 4 0 0 0 1]) ?_ ?_ c38 ?_
 .rfl
 .simp only[go_sem]<;>rfl
 refine zN ?_;have bad:∀(e:FE) (tm:Nat->PV) (k:Nat) (x:zc) (a b c d:PV),a.cells.length=4->e=.ret (zpz zE [] 0 [] k)->tm 10=.ptr 1 0 0 0 4->tm 11=.ptr 2 0 0 0 1->tm 12=.ptr 3 0 0 0 1->tm 13=.ptr 4 0 0 0 1->tm 14=.ptr 5 0 0 0 1->zev ET T23 (fun e' H=>zbp H 0 e' e) (.panic (zck k)) ⟨tm,[.caught (.ptr 5 0 0 0 1) (.fn 58 [.ptr 1 0 0 0 4,.ptr 2 0 0 0 1,.ptr 3 0 0 0 1,.ptr 4 0 0 0 1])],[x,.row 47 4 0 0 [a],.row 57 1 0 0 [b],.row 3 1 0 0 [c],.row 33 1 0 0 [d],.row 38 1 0 0 [iv 0]]⟩:=fun e tm k x a b c d ha he h10 h11 h12 h13 h14=>by
  refine⟨k,58,[.ptr 1 0 0 0 4,.ptr 2 0 0 0 1,.ptr 3 0 0 0 1,.ptr 4 0 0 0 1],false,5,0,1,rfl,rfl,rfl,(zF5 _ _ _ _ _ ha).mono fun e H he=>?_⟩;obtain⟨rfl,rfl⟩:=he;refine⟨rfl,_,rfl,[zdj zE,.nilsl,iv 0,.nilsl,iv k],?_,?_⟩
  .simp[T23,xT,zaS,okv,h10,h11,h12,h13,h14,zaz,zbl,zbo];rfl
  .rw[he];exact zLF
 refine zI ?_;refine zcp hof (hl:=⟨.list _ _ _,zvW b,.int _ _,trivial⟩) ?_;refine zfx ?_;unfold zkQ
 by_cases hz:na=0
 rotate_left
 .rw[if_neg hz]at hl;obtain rfl:l=[]:=hno hz;refine zcx hl ?_;refine bad _ _ na _ _ _ _ _ rfl ?_ rfl rfl rfl rfl rfl;show (if na=0 then _ else _)=_;rw[if_neg hz];rfl
 rw[if_pos hz]at hl;subst hz
 cases hf:l.find? (zey name)with
 | none =>
  rw[hf]at hl;dsimp only at hl⊢;refine zcx hl ?_;refine bad _ _ 5 _ _ _ _ _ rfl rfl rfl rfl rfl rfl rfl
 | some x =>
  rw[hf]at hl;have hT:=hT x hf;dsimp only at hl⊢;refine zCN hl ?_;refine zM hT ?_
  by_cases hn:no=0
  rotate_left
  .have g:¬(no:Int)=0:=zo;refine zI ?_;refine zcx (zry no g) ?_;refine bad _ _ no _ _ _ _ _ rfl ?_ rfl rfl rfl rfl rfl
   grind
  subst hn;refine zM zoh ?_;refine zBd ?_;refine zcs hf ?_;refine zcs hf ?_;refine zcs hf ?_;refine zcs hf ?_;refine zcs hf ?_;refine zQF hf ?_;refine zbN ?_;exact⟨[zdj x,.list 0 2 (L.map zbx),iv u,.list 0 1 (bfl bl),iv 0],rfl,Frz.tL ⟨Frz.aggL ⟨.int _ _,.int _ _,.int _ _,.str _,trivial⟩,.list _ _ _,.int _ _,.list _ _ _,.int _ _,trivial⟩⟩


theorem f4:ET.funcs.get 4=some T4:=eG _ func4
theorem zyR(hn:∀s∈names,zbT s/\s.length<9223372036854775808)(hbe:∀x∈bent,LtU x.2):
  (∃(w:LN) (lay:PV) (fr:LQ),Id0 lay/\lay.cells.length=10/\(∃c,lay=.agg c/\c.length=10)/\FR 10 [.agg [.list q1 1 (zgs names),iv bits,.list q2 2 (wdV bent)]] (.tuple [wv 0 w,lay,.list 0 1 fr,.bool false])) \/
  ∃(b:Nat) (w:LN) (fr:LG),bits=b/\(1<=b/\b<=40)/\zjo ⟨names,b,bent⟩ b=some (w,fr,true)/\w.length=3072/\WB w/\fr.length<=20/\FR 10 [.agg [.list q1 1 (zgs names),iv b,.list q2 2 (wdV bent)]] (.tuple [wv 0 w,zb7 b 28,.list 0 1 (fr.map iv),.bool true]):=by
 have hM:=zAc q1 q2 names bits bent hn hbe;unfold zpF at hM;dsimp only at hM
 by_cases hbits:1<=bits/\bits<=40
 rotate_left
 .rw[if_neg hbits]at hM;exact .inl ⟨[],layZ,[],zlQ,rfl,⟨_,rfl,rfl⟩,hM⟩
 rw[if_pos hbits]at hM;obtain⟨b,rfl⟩:∃b:Nat,bits=b:=⟨bits.toNat,by omega⟩
 rw[zCO9]at hM;have hb:1<=b/\b<=40:=zo
 cases ho:zjo ⟨names,b,bent⟩ b with
 | none=>rw[ho]at hM;exact .inl ⟨[],zb7 b 28,[],zgP b 28,rfl,⟨_,rfl,rfl⟩,hM⟩
 | some r =>
  obtain⟨w,fr,c⟩:=r;rw[ho]at hM
  cases c with
  | false=>exact .inl ⟨w,zb7 b 28,fr.map iv,zgP b 28,rfl,⟨_,rfl,rfl⟩,hM⟩
  | true =>
   obtain⟨hwl,hw,hfr⟩:=zwG hb ho (fun s hs=>(hn s hs).1) hbe;exact .inr ⟨b,w,fr,rfl,hb,ho,hwl,hw,hfr,hM⟩


theorem zG5{d k:Nat}(h:s∈dnL w d k):s.1<2*(d+k):=by
 unfold dnL at h
 grind
theorem zzF{left:Nat}(hm:(zbO left w).length<=9):∀s∈(zcQ left w key).1,s.1≠16:=fun s hs e=>by
 unfold zcQ at hs
 split at hs
 rotate_left
 .cases hs
 split at hs
 rotate_left
 .cases hs
 rename_i hI;have hlt:=zlf hI;rcases zBA9.1 hs with rfl|hs
 .omega
 unfold zdC at hs;rcases zBG9.1 hs with hs|hs
 .have:=zG5 hs;omega
 grind
theorem zyW{l:LN}(hm:(zbO (l.getD 3 0) (l.drop 8)).length<=9):∀s∈(zdZ l key).1,s.1≠24:=fun s hs e=>by
 unfold zdZ chg at hs
 split at hs
 rotate_left
 .cases hs
 split at hs
 rotate_left
 .cases hs
 rcases zBG9.1 hs with hs|hs
 .unfold zfX at hs
  grind
 .unfold zcP at hs;obtain⟨c,hc,rfl⟩:=zAH9.1 hs;exact zzF hm c hc (by omega)
def nz(l:LN):Nat:=((List.range 64).filter fun j=>decide (j≠24)&&decide (l.getD j 0≠0)).length
theorem zCH:∀(P:LJ) (i:Nat) (c:Pr),zbV P=true->P[i]?=some c->i<=c.1
 | [],i,c,_,h=>by simp at h
 | [a],i,c,_,h=>by
  grind
 | a::b::P,i,c,hr,h=>by
  match i with
  | 0=>exact zAJ9 _
  | i+1 =>
   unfold zbV at hr;rw[zAO9,decide_eq_true_eq]at hr;have aux:∀(Q:LJ) (x:Pr) (j:Nat) (c:Pr),zbV (x::Q)=true->(x::Q)[j]?=some c->x.1+j<=c.1:=by
    intro Q
    induction Q with
    | nil =>
     intro x j c _ h
     match j with
     | 0=>simp at h;subst h;exact zAE9 _
     | j+1=>simp at h
    | cons y Q ih =>
     intro x j c hr h;unfold zbV at hr;rw[zAO9,decide_eq_true_eq]at hr
     match j with
     | 0=>simp at h;subst h;exact zAE9 _
     | j+1 =>
      have:=ih y j c hr.2 (by simpa using h);omega
   have:=aux P b i c hr.2 (by simpa using h);omega
theorem zz1(P:LJ)(R:LN)(i:Nat)(c:Pr)(h:P[i]?=some c):(zch P++R).getD (2*i) 0=c.1/\(zch P++R).getD (2*i+1) 0=c.2:=by
 induction P generalizing i with
 | nil=>simp at h
 | cons a P ih =>
  rw[show zch (a::P)=a.1::a.2::zch P from rfl]
  match i with
  | 0=>simp at h;subst h;exact⟨rfl,rfl⟩
  | i+1 =>
   have:=ih i (by simpa using h);rw[show 2*(i+1)=2*i+1+1 by omega];simpa using this
theorem zHk{l:LN}(hc:zbZ l=0)(hm:10<=(zbO (l.getD 3 0) (l.drop 8)).length):20<=nz l:=by
 have hh:=zg5 hc;unfold zbZ at hc;rw[if_pos hh]at hc;have hp:zfO l=true:=by grind
 unfold zfO at hp;rw[zAO9,decide_eq_true_eq]at hp;have hs:=hp.1;have el:(headN l).left=l.getD 3 0:=by unfold headN;rfl
 rw[el]at hs;have hr:=zfz hs;unfold zcg at hs;rw[if_pos hr]at hs;have hss:zde (l.getD 3 0) (l.drop 8)=true:=by grind
 unfold zde zcq at hss;rw[if_pos hr]at hss;simp only[zAO9,decide_eq_true_eq]at hss;obtain⟨⟨⟨⟨h1,h2⟩,h3⟩,h4⟩,h5⟩:=hss;obtain⟨rest,e,e1,e2⟩:=zkO (l.drop 8) (l.getD 3 0) h3;generalize zbO (l.getD 3 0) (l.drop 8)=P at *
 have hgd:∀j,(l.drop 8).getD j 0=l.getD (8+j) 0:=fun j=>by grind
 have hk:∀i,i<10->l.getD (8+(2*i+1)) 0≠0/\(1<=i->l.getD (8+2*i) 0≠0):=fun i hi=>by
  obtain⟨c,hc⟩:∃c,P[i]?=some c:=⟨_,zAA9 zo⟩
  obtain⟨g1,g2⟩:=zz1 P rest i c hc;rw[<- e]at g1 g2;rw[hgd]at g1 g2;refine⟨by grind,fun h=>?_⟩;rw[g1];have:=zCH P i c (by omega) hc;omega
 have h03:l.getD 0 0≠0/\l.getD 3 0≠0:=by
  unfold headB at hh;rw[zAO9,zBV9]at hh;have m0:=hh.2 0 zy;have m3:=hh.2 3 zy;generalize zhp (l.getD 0 0)=lv at *
  generalize l.getD 0 0=w0 at *
  generalize l.getD 3 0=w3 at *
  unfold zdV at m0 m3;simp only[zAO9,zEA9,decide_eq_true_eq]at m0 m3;refine⟨fun e=>?_,fun e=>?_⟩
  .omega
  .subst e;rcases m3 with⟨_,m3⟩|⟨_,m3⟩
   .omega
   .exact absurd ((ze4 _).1 m3).1 zy
 unfold nz;rw[<- List.countP_eq_length_filter];have hK:((List.range 64).countP fun j=>decide (j=0)||decide (j=3)||(decide (9<=j)&&decide (j<=27)&&decide (j≠24)))=20:=by decide
 rw[<- hK];refine List.countP_mono_left fun j hj hp=>?_;simp only[zEA9,zAO9,decide_eq_true_eq]at hp⊢;rcases hp with(rfl|rfl)|⟨⟨a,b⟩,c⟩
 .omega
 .omega
 .refine⟨c,?_⟩;rcases Nat.mod_two_eq_zero_or_one j with h|h
  .have:=(hk ((j-8)/2) zo).2 zo
   rwa [show 8+2*((j-8)/2)=j by omega]at this
  .have:=(hk ((j-9)/2) zo).1
   rwa [show 8+(2*((j-9)/2)+1)=j by omega]at this
theorem zp4(p q:Nat->Bool)(j0:Nat)(h:∀j,j≠j0->q j=p j):∀n,(List.range n).countP q<=(List.range n).countP p+(if j0<n then 1 else 0)
 | 0=>by simp
 | n+1=>by
  have ih:=zp4 p q j0 h n;rw[zCJ9,List.countP_append,List.countP_append]
  grind
def nzW(w:LN):Nat:=(List.range 64).countP fun j=>decide (j≠24)&&decide (w.getD (576+j) 0≠0)
theorem zCX(hw:640<=w.length):nz (zap w 9)=nzW w:=by
 unfold nz nzW;rw[<- List.countP_eq_length_filter];refine List.countP_congr fun j hj=>?_;rw[zCL9]at hj;have:(zap w 9).getD j 0=w.getD (576+j) 0:=by
  unfold zap;rw[zAK9,zCP9,zBU9,if_pos zo,<- zAK9]
 rw[this]
theorem zIb(w:LN)(a v i:Nat):(w.set a v).getD i 0=if a=i/\i<w.length then v else w.getD i 0:=by
 grind
def zme(x:Int×Nat):Bool:=decide (576<=x.1)&&decide (x.1<640)&&decide (x.1≠600)
theorem zFo(w:LN)(a v:Nat):nzW (w.set a v)<=nzW w+(if 576<=a/\a<640/\a≠600 then 1 else 0):=by
 unfold nzW
 by_cases h:576<=a/\a<640
 .by_cases h6:a=600
  .grind
  .rw[if_pos ⟨h.1,h.2,h6⟩];refine zBW9 (zp4 (fun j=>decide (j≠24)&&decide (w.getD (576+j) 0≠0)) _ (a-576) (fun j hj=>?_) 64) (by grind)
   grind
 .rw[if_neg (fun k=>h ⟨k.1,k.2.1⟩),zDC9];refine Nat.le_of_eq (List.countP_congr fun j hj=>?_)
  grind
theorem zuf:∀(l:List (Int×Nat)) (w:LN),nzW (zeo w l)<=nzW w+l.countP zme
 | [],w=>zAE9 _
 | x::l,w=>by
  have ih:=zuf l (if 0<=x.1/\x.1<(w.length:Int)then w.set x.1.toNat x.2 else w);rw[List.countP_cons];have e:zeo w (x::l)=zeo (if 0<=x.1/\x.1<(w.length:Int)then w.set x.1.toNat x.2 else w) l:=rfl;rw[e]
  split at ih
  .rename_i hx;rw[if_pos hx];have h1:=zFo w x.1.toNat x.2;have h2:(if 576<=x.1.toNat/\x.1.toNat<640/\x.1.toNat≠600 then 1 else 0)<=(if zme x=true then 1 else 0):=by
    split
    .rw[if_pos (by unfold zme;grind)];omega
    .omega
   omega
  grind
theorem zvF:∀(l:List (Int×Nat)) (w:LN) (i:Nat),(∀x∈l,zme x=true)->¬(576<=i/\i<640/\i≠600)->(zeo w l).getD i 0=w.getD i 0
 | [],w,i,_,_=>rfl
 | x::l,w,i,h,hi=>by
  have e:zeo w (x::l)=zeo (if 0<=x.1/\x.1<(w.length:Int)then w.set x.1.toNat x.2 else w) l:=rfl;rw[e,zvF l _ i (fun y hy=>h y (zAQ9 _ hy)) hi];have hx:=h x (zAR9 ..);unfold zme at hx
  grind


theorem zzD{i:Nat}{nm:LN}:∀s∈zhA i nm,704<=s.1:=fun s hs=>by
 unfold zhA stN at hs
 grind
theorem zqj:∀{l done:List (LN)} {w w':LN} {ps ps':LJ},zdY b done l w ps=some (w',ps')->∀i,i<704->w'.getD i 0=w.getD i 0
 | [],done,w,w',ps,ps',h,i,_=>by
  unfold zdY at h
  grind
 | nm::l,done,w,w',ps,ps',h,i,hi=>by
  by_cases hc:zb1 nm=0/\¬nm∈done
  rotate_left
  .rw[zfL hc]at h;cases h
  rw[zhD hc.1 hc.2 rfl rfl]at h;rw[zqj h i hi];exact zgw i _ w fun s hs e=>by have:=zzD s hs;omega
theorem zEP{b0:Nat}{vs:LN}(h:zkG w b0 key ws)(k:zkG w b0 key vs):ws=vs:=by
 refine zDU9 fun(i:Nat)=>?_;have aux:∀i:Nat,ws[i]?=vs[i]?:=fun i=>by
  induction i with
  | zero=>rw[h.first,k.first]
  | succ i ih =>
   cases hi:ws[i]? with
   | none =>
    grind
   | some b =>
    rw[hi]at ih;have step:∀{xs ys:LN},zkG w b0 key xs->zkG w b0 key ys->xs[i]?=some b->ys[i]?=some b->∀c,xs[i+1]?=some c->ys[i+1]?=some c:=fun{xs ys} hx hy e1 e2 c hc=>by
     have n1:=hx.next i b c e1 hc
     cases hd:ys[i+1]? with
     | some d =>
      have n2:=hy.next i b d e2 hd
      grind
     | none =>
      exfalso
      refine hy.last b ?_ (by rw[n1])
      grind
    grind
 grind
theorem zCl(h:s∈zeq b ws):64*b<=s.1:=by
 unfold zeq at h
 grind
theorem zwS{N:Nat}{T:LD}(h:∀b∈T.flatMap Prod.fst,N<=64*b):∀s∈zcH T,N<=s.1:=fun s hs=>by
 unfold zcH at hs;obtain⟨L,hL,hs⟩:=zAU9.1 hs;unfold zeh at hs;obtain⟨x,hx,hs⟩:=zAU9.1 hs;have h1:=zCl hs;have h2:=h x.1 (zAU9.2 ⟨L,hL,(zEK9 hx).1⟩);omega
theorem znz{w':LN}{c:Nat}(hl:w.length=w'.length)(hc:64*c+64<=w.length)(h:∀j,j<64->w.getD (64*c+j) 0=w'.getD (64*c+j) 0):zap w c=zap w' c:=by
 refine zDU9 fun j=>?_;unfold zap;rw[zCP9,zCP9,zBU9,zBU9]
 grind
theorem zzI:okI [] zdz=true:=by decide
theorem zIa:zdz.map Int.toNat=(List.range 20).map (28 + ·):=by decide
structure zGh(bent:List (Int×Nat))(w w1:LN)(T:LD)(ps:LJ):Prop where
 w:w=zeo w1 bent
 len:w1.length=3072
 low:∀i,i<704->i≠600->w1.getD i 0=0
 root:w1.getD 600 0=zi6 T
 okP:okP ps=true
 okF:zmV ((List.range 20).map (28 + ·))=true
 built:zzn ps ((List.range 20).map (28 + ·)) T
 laid:∀M∈T,zd7 w1 M.1 M.2
theorem zFl(ho:zjo h b=some (w,fr,true)):h.bent.length<=20/\∃w1 T ps,zGh h.bent w w1 T ps:=by
 unfold zjo at ho
 split at ho
 rotate_left
 .cases ho
 rename_i hc
 split at ho
 .cases ho
 rename_i w0 ps hgo;have hps:=zm8 hgo;simp only[zAN9]at hps;have hsl:=zkS ps;refine⟨hc.2,(zbA w0 (zed (zdJ ps) zdz).2.1).set 600 (zed (zdJ ps) zdz).1,?_⟩;have hlow:=zqj hgo;obtain⟨hwl,_⟩:w0.length=3072/\True:=⟨by
  have aux:∀{l done:List (LN)} {w w':LN} {ps ps':LJ},zdY b done l w ps=some (w',ps')->w'.length=w.length:=fun{l}=>by
   induction l with
   | nil=>intro done w w' ps ps' h;unfold zdY at h;grind
   | cons nm l ih =>
    intro done w w' ps ps' h
    by_cases hc:zb1 nm=0/\¬nm∈done
    rotate_left
    .rw[zfL hc]at h;cases h
    rw[zhD hc.1 hc.2 rfl rfl]at h;exact(ih h).trans (zc2 _ _)
  grind,trivial⟩
 generalize zdJ ps=sp at *
 unfold zed at ho⊢;rw[zzI,zFH9]at ho⊢
 by_cases hP:okP sp=true
 rotate_left
 .grind
 rw[if_pos hP]at ho⊢;rw[zIa]at ho⊢;have hF:zmV ((List.range 20).map (28 + ·))=true:=by decide
 cases hb:zeV sp ((List.range 20).map (28 + ·))with
 | none=>grind
 | some T =>
  rw[hb]at ho;dsimp only at ho⊢;have hT:=zmU hP hF zo hb;refine⟨T,sp,?_⟩;obtain⟨used,hu,e⟩:=hT.blocks;have hin:∀c∈T.reverse.flatMap Prod.fst,28<=c/\c<48:=fun c hc=>by
   grind
  have hat:=zwS (N:=1792) (T:=T.reverse) fun c hc=>by grind
  have hal:=zc2 (zcH T.reverse) w0;injection ho with ho;injection ho with h1 _;refine⟨h1.symm,by grind,fun i hi h6=>?_,?_,hP,hF,hT,fun M hM i c m hc hm=>?_⟩
  .rw[zIb,if_neg (fun h=>h6 h.1.symm),zgw i _ w0 (fun s hs e=>by grind),hlow i hi,zAK9,List.getElem?_replicate]
   grind
  .grind
  .have hnr:(T.reverse.flatMap Prod.fst).Nodup:=by rw[e];exact((zfQ _).1 hF).2.sublist (zGF9 _ _)
   have hcin:=hin c (zAU9.2 ⟨M,zEE9.2 hM,zAI9 hc⟩);have hlt:=zsB T.reverse w0 (fun L hL=>hT.len L (zEE9.1 hL)) hnr (fun c hc=>by grind);refine⟨by grind,?_⟩;rw[<- hlt.1 M (zEE9.2 hM) i c m hc hm];refine znz (zBT9 ..) (by grind) fun j hj=>?_;rw[zIb,if_neg (fun h=>by omega)]


theorem zyz(ho:zjo h b=some (w,fr,true)){frN:LN}{leaf:Nat}(hS:zoc w 600 key frN ws)(ht:(zaL w 600).2=true)(hset:zgh w (zaL w 600).1=true)(hlf:ws[ws.length-1]?=some leaf)(h9:leaf=600/64):(zbA w (zb8 (64*leaf) (zdZ (zap w leaf) key).1)).getD 600 0=w.getD 600 0:=by
 obtain rfl:leaf=9:=h9;obtain⟨hbl,w1,T,ps,M⟩:=zFl ho;have hwl:w.length=3072:=by rw[M.w,zmS,M.len]
 have hmem:9∈ws:=zAI9 hlf
 by_cases hm:(zbO ((zap w 9).getD 3 0) ((zap w 9).drop 8)).length<=9
 .refine zgw 600 _ w fun s hs e=>?_;unfold zb8 at hs;obtain⟨c,hc,rfl⟩:=zAH9.1 hs;exact zyW hm c hc (by dsimp only at e;omega)
 exfalso
 have h20:=zHk (hS.chk 9 hmem) zo;rw[zCX zo]at h20;have hb:=zuf h.bent w1;rw[<- M.w]at hb;have hz:nzW w1=0:=by
  unfold nzW;rw[List.countP_eq_zero];intro j hj;rw[zCL9]at hj
  by_cases e:j=24
  .subst e;simp
  .have:=M.low (576+j) zo zo;rw[this];simp
 have hcl:=List.countP_le_length (p:=zme) (l:=h.bent);have hall:∀x∈h.bent,zme x=true:=List.countP_eq_length.1 zo;have hag:∀i,¬(576<=i/\i<640/\i≠600)->w.getD i 0=w1.getD i 0:=fun i hi=>by rw[M.w];exact zvF _ _ i hall hi
 have hB:=M.built;obtain⟨hst,⟨b0,n0,T',rfl,hsib⟩,hlast,hlen,⟨used,hu,hblk⟩,hfew⟩:=hB;have hokF:=M.okF;rw[zfQ]at hokF;have hnr:((([b0],[n0])::T').reverse.flatMap Prod.fst).Nodup:=by rw[hblk];exact hokF.2.sublist (zGF9 _ _)
 have hperm:((([b0],[n0])::T').reverse.flatMap Prod.fst).Perm ((([b0],[n0])::T').flatMap Prod.fst):=List.Perm.flatMap_right _ (List.reverse_perm _);have hnd:=hperm.nodup hnr;have hin:∀c∈(([b0],[n0])::T').flatMap Prod.fst,28<=c:=fun c hc=>by
  have hc:=hperm.symm.subset hc;rw[hblk]at hc;obtain⟨k,_,rfl⟩:=zAH9.1 (zBP9 hc);omega
 have hlaid:∀K∈(([b0],[n0])::T':LD),zd7 w K.1 K.2:=fun K hK i c m hc hm'=>by
  obtain⟨q1,q2⟩:=M.laid K hK i c m hc hm';have h28:=hin c (zAU9.2 ⟨K,hK,zAI9 hc⟩);have hwl1:=M.len;refine⟨by omega,?_⟩;rw[<- q2];exact znz zo zo fun j hj=>hag _ zo
 have hr:=zmx w T' ([b0],[n0]) [] [] 14 (-1) hst hlaid hnd (fun K _ c _ h=>by simp at h) (.inl zy) (by simp at hfew;omega);have hroot:w.getD 600 0=b0:=by rw[hag 600 zo,M.root];rfl
 have hT:(zaL w 600).1=([b0],[n0])::T':=by
  unfold zaL;rw[hroot];exact congrArg Prod.fst hr
 obtain⟨vs,hv⟩:=zoR key (fr:=[9]) zo ht hset (fun f hf=>by obtain rfl:=zBI9.1 hf;omega) (by
  rw[hT];unfold zh6 zom;rw[zBV9];intro L hL;simp only[zBY9,zBD9,zHL9,List.all_nil,zFH9,zDD9,zFE9,decide_eq_false_iff_not,zAH9,not_exists,not_and];intro c hc e;have:=hin c (zAU9.2 ⟨L,hL,hc⟩);omega)
 have hvw:=zEP hv.way hS.way;rw[hvw]at hv;exact hv.out 9 (zBI9.2 rfl) hmem


theorem zqh(b d:Nat)(h:1<=b/\b<=40)(w:LN)(hs:zbQ w.length)(hwl:w.length<=131072)(hw:WB w)(n:Nat)(name:LN)(hnl:name.length<9223372036854775808)(fr:LG)(L:LJ)(u:Nat)(bl:LN)(no:Nat)(hT:∀x,(zd3 w b d n name).1.find? (zey name)=some x->FR 62 [wv p w,iv n,uv x.key,.list r 1 (fr.map iv)] (zeK L u bl no)):FN ET 24 [wv p w,zb7 b d,iv n,.str name,.list r 1 (fr.map iv)] (zkQ (zgj w b d n name) L u bl no):=by
 have hF:=zyt p b d h w hs hwl hw n name hnl;unfold ze9 at hF;have hfr:∀x:zcR,(zgj w b d n name).2.1=true->(zgj w b d n name).1=x->(zd3 w b d n name).1.find? (zey name)=some x:=fun x h1 h2=>by
  unfold zgj at h1 h2
  split at h1
  .rename_i y hy;rw[hy]at h2;dsimp only at h2;rw[hy,h2]
  .cases h1
 refine zfn (eG T24 func24) (zx8 _ _ _ _ _) ?_;unfold zkQ;obtain⟨F,hFe⟩:∃F,zgj w b d n name=F:=⟨_,rfl⟩
 rw[hFe]at hF hfr⊢;obtain⟨x,is,nf⟩:=F;dsimp only at hF hfr⊢;unfold zb7 zdD at hF⊢;refine zMG hF ?_;refine zB ?_
 by_cases hz:nf=0
 rotate_left
 .have g:¬(nf:Int)=0:=zo;rw[if_neg hz];refine zHY g ?_;refine zSF g ?_;refine zO ?_;exact zLF
 subst hz;rw[if_pos rfl]
 cases is with
 | false =>
  refine zS ?_;refine zS ?_;refine zO ?_;exact zLF
 | true =>
  have hT:=hT x (hfr x rfl rfl);rw[if_pos rfl];refine zTH ?_;refine zTH ?_;refine zB ?_;refine zM hT ?_;refine zB ?_
  by_cases hn:no=0
  .subst hn;rw[if_pos rfl];refine zTH ?_;refine zO ?_;exact zLF
  .have g:¬(no:Int)=0:=zo;rw[if_neg hn];refine zSF g ?_;refine zO ?_;exact zLF


theorem f6:ET.funcs.get 6=some T6:=eG _ func6
theorem zFg(bl:LN)(no:Nat):∃(X:zcR) (L':LJ) (u':Nat) (bl':LN) (no':Nat),zkQ F L u bl no=.ret (zpz X L' u' bl' no')/\L'.length<=L.length/\bl'.length<=bl.length:=by
 unfold zkQ
 split
 .split
  .split
   .exact⟨_,_,_,_,_,rfl,zAE9 _,zAE9 _⟩
   .exact⟨_,_,_,_,_,rfl,zAJ9 _,zAJ9 _⟩
  .exact⟨_,_,_,_,_,rfl,zAJ9 _,zAJ9 _⟩
 .exact⟨_,_,_,_,_,rfl,zAJ9 _,zAJ9 _⟩
theorem zDg(l:LN):bfl l=(l.map fun(b:Nat)=>(b:Int)).map iv:=by rw[zDH9];rfl
theorem zAm(many:Int)(hn:∀s∈names,zbT s/\s.length<9223372036854775808)(hbe:∀x∈bent,LtU x.2)(hnb:zbT name)(hnl:name.length<9223372036854775808):FR 6 [.agg [.list q1 1 (zgs names),iv bits,.list q2 2 (wdV bent)],.str name,iv many] (.bool true):=by
 rcases zyR q1 q2 names bits bent hn hbe with⟨w,lay,fr,hil,hl10,⟨c,rfl,hc10⟩,hM⟩|⟨b,w,fr,rfl,hb,ho,hwl,hw,hfr,hM⟩
 .refine zfn f6 (.bool _) ?_;refine zGI ?_;refine zca hM ?_;refine zNF hc10 ?_;refine zS ?_;refine zI ?_;refine zca f11 ?_;refine zP ?_;exact Frz.bool _
 by_cases hl3:300<name.length
 .have g:(300:Int)<(name.length:Int):=zo;refine zfn f6 (.bool _) ?_;unfold zb7 zdD at hM;refine zMG hM ?_;refine zSF g ?_;refine zI ?_;refine zca f11 ?_;refine zP ?_;exact Frz.bool _
 have g:¬(300:Int)<(name.length:Int):=zo;have hs:zbQ w.length:=by unfold zbQ;omega
 have hd:zgY w.length 28 (600:Nat)=true:=zmr.2 ⟨rfl,hwl,by decide,by decide⟩;obtain⟨k,hk,hkl⟩:∃k:Nat,max 0 (min (fr.length:Int) many)=k/\k<=fr.length:=⟨(max 0 (min (fr.length:Int) many)).toNat,by omega,by omega⟩
 have ht:List.take k (fr.map iv)=(fr.take k).map iv:=zCN9.symm;have hfl:(fr.take k).length<=100:=by rw[zAT9];omega
 obtain⟨L,u,bl,no,h1,h2,hL,hbl⟩:∃(L:LJ) (u:Nat) (bl:LN) (no:Nat),FN ET 23 [wv 0 w,zb7 b 28,iv (600:Nat),.str name,.list 0 1 ((fr.take k).map iv)] (zkQ (zgj w b 28 (600:Nat) name) L u bl no)/\FN ET 24 [wv 0 w,zb7 b 28,iv (600:Nat),.str name,.list 0 1 ((fr.take k).map iv)] (zkQ (zgj w b 28 (600:Nat) name) L u bl no)/\L.length<=900000/\bl.length<=900000:=by
  cases hf:(zd3 w b 28 (600:Nat) name).1.find? (zey name)with
  | none=>exact⟨[],0,[],0,zsD 0 0 b hb w hs hw 600 hd name _ _ _ _ _ (fun x hx=>by rw[hf]at hx;cases hx),zqh 0 0 b 28 hb w hs zo hw 600 name hnl _ _ _ _ _ (fun x hx=>by rw[hf]at hx;cases hx),zAJ9 _,zAJ9 _⟩
  | some x =>
   obtain⟨L,u,bl,no,t1,t2,t3,t4⟩:=zBc w zo 600 x.key (fun frN ws leaf hS ht hset hlf h9 _=>zyz ho hS ht hset hlf h9) (fr.take k) hfl;exact⟨L,u,bl,no,zsD 0 0 b hb w hs hw 600 hd name _ _ _ _ _ (fun y hy=>by rw[hf]at hy;injection hy with hy;subst hy;exact t1 0 0),zqh 0 0 b 28 hb w hs zo hw 600 name hnl _ _ _ _ _ (fun y hy=>by rw[hf]at hy;injection hy with hy;subst hy;exact t2 0 0),t3,t4⟩
 obtain⟨X,L',u',bl',no',hE,hL',hbl'⟩:=zFg (zgj w b 28 (600:Nat) name) L u bl no;rw[hE]at h1 h2;have hSP:=zwF 0 0 L' L' (by unfold zbQ;omega) (by unfold zbQ;omega);have hSI:=zwT 0 0 (bl'.map fun(b:Nat)=>(b:Int)) (bl'.map fun(b:Nat)=>(b:Int)) (by rw[zAP9];unfold zbQ;omega) (by rw[zAP9];unfold zbQ;omega);rw[decide_eq_true rfl]at hSP hSI;rw[<- zDg]at hSI;clear hE hL' hbl' hL hbl hd ho;refine zfn f6 (.bool _) ?_;unfold zb7 zdD at hM h1 h2;refine zMG hM ?_;refine zHY g ?_;refine zGF (zr3 hk hkl ht) ?_;refine zB ?_;refine zM h1 ?_;refine zM h2 ?_;refine zB ?_;refine zrg ?_ (by simp(disch:=omega)only[go_sem,zFR]<;>rfl);refine zca hSP ?_;refine zfx ?_;refine zca hSI ?_;refine zfx ?_;refine zca (zG3 no') ?_;refine zfx ?_;refine zca f11 ?_;refine zP ?_;exact Frz.bool _
end Fv
open Go.ChangeShapes Go.WideShapes Go.ChangeAt Go.RowKit
theorem zso(b o j:Nat):(⟨b,o,none⟩:Addr).add j=⟨b,o+j,none⟩:=by unfold Addr.add;split<;>simp_all
theorem zHL:ownKnob prog.godebug=none:=by kernel_rfl
theorem zFI:laidOutB prog=true:=by kernel_rfl
namespace Fv
variable {b c o p:Nat}{w:World}(s:ByteArray)
theorem ztC{P:Program}{r:Reach}{base:Nat}{t e:TypeId}{a:Addr}{len cap:Nat}(ht:P.underlying t=some (.slice e))(h:Value.okWide P w r base t (.slice (some a) len cap)):a.block<w.heap.size/\a.spot=none:=by
 simp only[Value.okWide,ht,Cell.okWide,Cell.ok,World.has]at h;obtain⟨_,_,_,h2,row,cells,h3,_⟩:=h;refine⟨?_,h2⟩;unfold World.shape? at h3
 grind
def ziQ(l:List (Int×Nat)):LQ:=l.flatMap fun x=>[iv x.1,uv x.2]
def zf4(l:List (Int×Nat)):LM:=l.flatMap fun x=>[.int .i64 x.1,.int .u64 (x.2:Int)]
theorem zlO:∀l:List (Int×Nat),(wdV l).flatMap PV.cells=ziQ l
 | []=>rfl
 | x::l=>by have:=zlO l;unfold wdV ziQ at this⊢;rw[zBY9,zBQ9,this];rfl
theorem ztx:∀(l:List (Int×Nat)) (i:Nat) (x:PV) (y:Value),(ziQ l)[i]?=some x->(zf4 l)[i]?=some y->(∃k n,x=.int k n/\y=.int k n)
 | [],i,x,y,hx,_=>by simp[ziQ]at hx
 | a::l,0,x,y,hx,hy=>by simp[ziQ]at hx;simp[zf4]at hy;subst hx hy;exact⟨_,_,rfl,rfl⟩
 | a::l,1,x,y,hx,hy=>by simp[ziQ]at hx;simp[zf4]at hy;subst hx hy;exact⟨_,_,rfl,rfl⟩
 | a::l,i+2,x,y,hx,hy=>ztx l i x y (by simpa[ziQ]using hx) (by simpa[zf4]using hy)
theorem zoE:∀(l:List (Int×Nat)) (o:Nat),(∀(i:Nat) (x:Int×Nat),l[i]?=some x->w.cell? ⟨b,o+i*2,none⟩=some (.int .i64 x.1)/\w.cell? ⟨b,o+(i*2+1),none⟩=some (.int .u64 x.2))->∀(j:Nat) (v:Value),(zf4 l)[j]?=some v->w.cell? ⟨b,o+j,none⟩=some v
 | [],_,_,j,v,hv=>by simp[zf4]at hv
 | a::l,o,h,0,v,hv=>by simp[zf4]at hv;subst hv;exact(h 0 a rfl).1
 | a::l,o,h,1,v,hv=>by simp[zf4]at hv;subst hv;exact(h 0 a rfl).2
 | a::l,o,h,j+2,v,hv=>by
  have:=zoE l (o+2) (fun i x hx=>by
   have:=h (i+1) x (by simpa using hx);rw[show o+2+i*2=o+(i+1)*2 by omega,show o+2+(i*2+1)=o+((i+1)*2+1) by omega];exact this) j v (by simpa[zf4]using hv)
  rw[show o+(j+2)=o+2+j by omega];exact this
theorem zD3{l:List (Int×Nat)}(hb:b<w.heap.size)(hlc:l.length<=c)(hcm:c<=maxLen)(hcell:∀(i:Nat) (x:Int×Nat),l[i]?=some x->w.cell? ⟨b,o+i*2,none⟩=some (.int .i64 x.1)/\w.cell? ⟨b,o+(i*2+1),none⟩=some (.int .u64 x.2)):CI w (.list p 2 (wdV l)) (.slice (some ⟨b,o,none⟩) l.length c):=by
 have e:l.length=(wdV l).length:=(zAP9 ..).symm;rw[e];have hlen:∀l:List (Int×Nat),(ziQ l).length=(zf4 l).length:=fun l=>by
  induction l with
  | nil=>rfl
  | cons a l ih=>simp[ziQ,zf4]at ih⊢
 refine CI.list (cs:=zf4 l) hb (by rw[zAP9];exact hlc) hcm zmm (by rw[zlO];exact hlen l) (fun i x y hx hy=>?_) (zoE l o hcell) (fun x hx=>?_)
 .rw[zlO]at hx;obtain⟨k,n,rfl,rfl⟩:=ztx l i x y hx hy;exact .int _ _
 .rw[zlO]at hx;unfold ziQ at hx;obtain⟨y,_,hx⟩:=zAU9.1 hx;simp at hx;rcases hx with rfl|rfl<;>rfl
def zpf(s:ByteArray):LN:=s.data.toList.map (·.toNat)
theorem zvi:(zpf s).length=s.size:=(zAP9 ..).trans (zEQ9 ..)
theorem zxU:zbT (zpf s):=fun x hx=>by
 unfold zpf at hx;obtain⟨y,_,rfl⟩:=zAH9.1 hx;exact y.toNat_lt
theorem zkk:∀l:List (LN),(zgs l).flatMap PV.cells=zgs l
 | []=>rfl
 | x::l=>by have:=zkk l;unfold zgs at this⊢;rw[zBY9,zBQ9,this];rfl
theorem zF0{l:List ByteArray}(hb:b<w.heap.size)(hlc:l.length<=c)(hcm:c<=maxLen)(hcell:∀(i:Nat) (x:ByteArray),l[i]?=some x->w.cell? ⟨b,o+i,none⟩=some (.string x)):CI w (.list p 1 (zgs (l.map zpf))) (.slice (some ⟨b,o,none⟩) l.length c):=by
 have e:l.length=(zgs (l.map zpf)).length:=by unfold zgs;rw[zAP9,zAP9]
 rw[e];refine CI.list (cs:=l.map Value.string) hb (by rw[<- e];exact hlc) hcm zmm (by rw[zkk];simp) (fun i x y hx hy=>?_) (fun j v hv=>?_) (fun x hx=>?_)
 .rw[zkk]at hx;unfold zgs at hx;rw[zAF9,zAF9]at hx;rw[zAF9]at hy
  cases hn:l[i]? with
  | none=>rw[hn]at hx;cases hx
  | some n=>rw[hn]at hx hy;injection hx with hx;injection hy with hy;subst hx hy;exact .str _
 .rw[zAF9]at hv
  cases hx:l[j]? with
  | none=>rw[hx]at hv;cases hv
  | some x=>rw[hx]at hv;injection hv with hv;subst hv;exact hcell j x hx
 .rw[zkk]at hx;obtain⟨n,_,rfl⟩:=zAH9.1 hx;rfl
end Fv
section
variable {H:Type}{enc:TypeId×Value->H}{w:World}{base:Nat}{spare:Nat->Bool}{held:Bool}{r:Reach}{b0:Nat}
variable {fuel:Nat}{v:Value}{x:DataW H×List MemPlace}
theorem zzN(hv:Value.okWide prog w r b0 23 v)(h:DataW.trod enc prog w base spare held fuel 23 [v]=some x):∃(l:List (Int×Nat)),(∀x∈l,Fv.LtU x.2)/\Fv.CI w (.list 0 2 (Fv.wdV l)) v:=by
 rcases Go.Deep.open_slice_pairs underlying23 underlying96 (by kernel_rfl) rfl rfl (by kernel_rfl) (by kernel_rfl) h with⟨hcs,_⟩|⟨a,len,cap,m,n,V0,V1,D0,D1,P0,P1,hcs,_,hl,hm,hmm,_,hx⟩
 .injection hcs with hcs;subst hcs;exact⟨[],fun x hx=>by simp at hx,.nilsl _ _⟩
 .injection hcs with hcs;subst hcs;have hml:len<=m:=by
   rw[hmm];split
   .exact hl
   .exact zAE9 _
  obtain⟨hblk,hspot⟩:=Fv.ztC underlying23 hv;obtain⟨b,off,spot⟩:=a;dsimp only at hblk hspot;subst hspot;have hall:∀i,i<len->∃y:Int×Nat,Fv.LtU y.2/\w.cell? ⟨b,off+i*2,none⟩=some (.int .i64 y.1)/\w.cell? ⟨b,off+(i*2+1),none⟩=some (.int .u64 y.2):=fun i hi=>by
   obtain⟨c0,c1,t0,t1⟩:=hx i zo;obtain⟨n0,e0,_,w0⟩:=DataW.trod_int underlying3 t0;obtain⟨n1,e1,_,w1⟩:=DataW.trod_int underlying29 t1;injection e0 with e0;injection e1 with e1;have q1:=bounds_u64 w1;refine⟨(n0,n1.toNat),show n1.toNat<_ by omega,?_,?_⟩
   .rw[e0]at c0;rwa [zso]at c0
   .rw[e1]at c1;show _=some (Value.int .u64 ((n1.toNat:Nat):Int));rw[Int.toNat_of_nonneg q1.1];rwa [zso]at c1
  haveI:Inhabited (Int×Nat):=⟨(0,0)⟩
  obtain⟨f,hf⟩:=Go.Deep.choose_lt (p:=fun i (y:Int×Nat)=>Fv.LtU y.2/\w.cell? ⟨b,off+i*2,none⟩=some (.int .i64 y.1)/\w.cell? ⟨b,off+(i*2+1),none⟩=some (.int .u64 y.2)) hall;refine⟨(List.range len).map f,fun x hx=>by
   obtain⟨i,hi,rfl⟩:=zAH9.1 hx;exact(hf i (zCL9.1 hi)).1,?_⟩
  have hlen:((List.range len).map f).length=len:=by simp
  have:=Fv.zD3 (w:=w) (p:=0) (l:=(List.range len).map f) (b:=b) (o:=off) (c:=cap) hblk (by rw[hlen];exact hl) hm (fun i x hi=>by
   have hil:i<len:=by have:=(zAC9.1 hi).1;rwa [hlen]at this
   rw[zAF9,zGZ9 hil]at hi;injection hi with hi;subst hi;exact(hf i hil).2)
  rwa [hlen]at this
theorem zH3(hv:Value.okWide prog w r b0 22 v)(h:DataW.trod enc prog w base spare held fuel 22 [v]=some x):∃(l:List (LN)),(∀s∈l,Fv.zbT s/\s.length<9223372036854775808)/\Fv.CI w (.list 0 1 (Fv.zgs l)) v:=by
 rcases Go.Deep.open_strs underlying22 underlying9 (by kernel_rfl) h with⟨hcs,_⟩|⟨a,len,cap,m,Sx,hcs,_,hl,hm,hmm,_,hx⟩
 .injection hcs with hcs;subst hcs;exact⟨[],fun x hx=>by simp at hx,.nilsl _ _⟩
 .injection hcs with hcs;subst hcs;have hml:len<=m:=by
   rw[hmm];split
   .exact hl
   .exact zAE9 _
  obtain⟨hblk,hspot⟩:=Fv.ztC underlying22 hv;obtain⟨b,off,spot⟩:=a;dsimp only at hblk hspot;subst hspot;refine⟨((List.range len).map Sx).map Fv.zpf,fun s hs=>?_,?_⟩
  .obtain⟨y,hy,rfl⟩:=zAH9.1 hs;obtain⟨i,hi,rfl⟩:=zAH9.1 hy;refine⟨Fv.zxU _,?_⟩;rw[Fv.zvi];have:=(hx i (by have:=zCL9.1 hi;omega)).2;unfold maxLen at this;omega
  .have hlen:((List.range len).map Sx).length=len:=by simp
   have:=Fv.zF0 (w:=w) (p:=0) (l:=(List.range len).map Sx) (b:=b) (o:=off) (c:=cap) hblk (by rw[hlen];exact hl) hm (fun i x hi=>by
    have hil:i<len:=by have:=(zAC9.1 hi).1;rwa [hlen]at this
    rw[zAF9,zGZ9 hil]at hi;injection hi with hi;subst hi;have:=(hx i zo).1
    rwa [zso]at this)
   rwa [hlen]at this
theorem zAb(hv:Value.okWide prog w r b0 25 v)(h:DataW.trod enc prog w base spare held fuel 25 v.cells.toList=some x):∃(names:List (LN)) (bits:Int) (bent:List (Int×Nat)),(∀s∈names,Fv.zbT s/\s.length<9223372036854775808)/\(∀x∈bent,Fv.LtU x.2)/\Fv.CI w (.agg [.list 0 1 (Fv.zgs names),Fv.iv bits,.list 0 2 (Fv.wdV bent)]) v:=by
 unfold Value.okWide at hv;rw[underlying25]at hv;obtain⟨cs,rfl,hsz,ts,hts,_,hcell⟩:=hv;obtain rfl:[22,3,23]=ts:=Option.some.inj (Eq.trans (show prog.cellTypes prog.depth 25=some [22,3,23] by kernel_rfl).symm hts);have hsz:cs.size=3:=hsz.trans (by kernel_rfl);obtain⟨c0,c1,c2,rfl⟩:∃c0 c1 c2,cs=#[c0,c1,c2]:=⟨cs[0],cs[1],cs[2],by
  apply Array.ext
  .simp[hsz]
  .intro i h1 h2
   match i with
   | 0=>rfl
   | 1=>rfl
   | 2=>rfl
   | i+3=>omega⟩
 obtain⟨u0,e0,k0⟩:=hcell 0 c0 rfl;obtain⟨u1,e1,k1⟩:=hcell 1 c1 rfl;obtain⟨u2,e2,k2⟩:=hcell 2 c2 rfl;injection e0 with e0;injection e1 with e1;injection e2 with e2;subst e0 e1 e2;have w0:Value.okWide prog w r b0 22 c0:=by unfold Value.okWide;rw[underlying22];exact k0
 have w2:Value.okWide prog w r b0 23 c2:=by unfold Value.okWide;rw[underlying23];exact k2
 obtain⟨y0,y1,y2,n,_,_,t0,t1,t2⟩:=Go.Deep.trod_struct3 underlying25 h;have q0:prog.cellsOf 22=1:=by kernel_rfl
 have q1:prog.cellsOf 3=1:=by kernel_rfl
 have q2:prog.cellsOf 23=1:=by kernel_rfl
 dsimp only at t0 t1 t2;rw[q0]at t0;rw[q1]at t1;rw[q2]at t2;obtain⟨names,hn,hc0⟩:=zH3 w0 t0;obtain⟨bits,eb,_,_⟩:=DataW.trod_int underlying3 t1;obtain rfl:c1=.int .i64 bits:=(List.cons.inj eb).1;obtain⟨bent,hb,hc2⟩:=zzN w2 t2;refine⟨names,bits,bent,hn,hb,?_⟩;refine Fv.CI.agg (cs:=[c0,.int .i64 bits,c2]) rfl (fun i x y hx hy=>?_) (fun x hx=>?_)
 .match i with
  | 0=>injection hx with hx;injection hy with hy;subst hx hy;exact hc0
  | 1=>injection hx with hx;injection hy with hy;subst hx hy;exact .int _ _
  | 2=>injection hx with hx;injection hy with hy;subst hx hy;exact hc2
  | i+3=>simp at hx
 .simp only[zBA9,zCW9,or_false]at hx;rcases hx with rfl|rfl|rfl<;>rfl
end
open Go.ChangeShapes Go.WideShapes
theorem zdd{a b:Bool}(ha:a=true)(hb:b=true):(a&&b)=true:=by subst ha hb;rfl
theorem j1:(Rows.dirTakesRow.wf (OpenSpec.ofChange Rows.dirTakesSpec))=true:=by kernel_rfl
theorem j2:(laidOutB prog)=true:=by kernel_rfl
theorem j3:(mapsRowed prog)=true:=by kernel_rfl
theorem j4:(Tryz.f6.params.all (prog.readableRec ·))=true:=by kernel_rfl
theorem j5:(namedTie prog Rows.dirTakesRow.named Rows.dirTakesSpec.vars)=true:=by kernel_rfl
theorem j6:(Rows.dirTakesRow.stops == [])=true:=by kernel_rfl
theorem j7:(prog.stops == [])=true:=by kernel_rfl
theorem j8:(Rows.dirTakesRow.knobs == [])=true:=by kernel_rfl
theorem j9:(prog.stopKnobs == [])=true:=by kernel_rfl
theorem j10:(Rows.dirTakesRow.inPlace==prog.inPlace 6)=true:=by kernel_rfl
theorem j11:(Rows.dirTakesRow.unfollowed==prog.unfollowed 6)=true:=by kernel_rfl
theorem j12:(Rows.dirTakesRow.recurses==prog.recurses 6)=true:=by kernel_rfl
theorem j13:(Rows.dirTakesRow.named==prog.varsNamed 6)=true:=by kernel_rfl
theorem j14:(Rows.dirTakesRow.maps==(Tryz.f6.params.toList++Rows.dirTakesSpec.plain.varTypes prog).any (prog.mapsRec ·))=true:=by kernel_rfl
theorem j15:(Rows.dirTakesRow.ifaces==(Tryz.f6.params.toList++Rows.dirTakesSpec.plain.varTypes prog).any (prog.ifacesRec ·))=true:=by kernel_rfl
theorem j16:(Rows.dirTakesRow.mapsOut==prog.mapsAmong Tryz.f6.resultTypes.toList)=true:=by kernel_rfl
theorem j17:(Rows.dirTakesRow.loops==(Tryz.f6.params.toList++Rows.dirTakesSpec.plain.varTypes prog).any (prog.loopsFrom ·))=true:=by kernel_rfl
theorem j18:(Rows.dirTakesRow.wideKeys==(Tryz.f6.params.toList++Rows.dirTakesSpec.plain.varTypes prog++Tryz.f6.resultTypes.toList).any (prog.wideKeysFrom ·))=true:=by kernel_rfl
theorem j19:(Rows.dirTakesSpec.vars.all (prog.varReadable ·))=true:=by kernel_rfl
theorem j20:(Tryz.f6.resultTypes.all (fun t=>prog.readableRec t&&decide (t<prog.types.size)))=true:=by kernel_rfl
theorem j21:(Rows.dirTakesRow.ifacesOut==Tryz.f6.resultTypes.toList.any (prog.ifacesRec ·))=true:=by kernel_rfl
theorem j22:(Rows.dirTakesRow.loopsOut==Tryz.f6.resultTypes.toList.any (prog.loopsFrom ·))=true:=by kernel_rfl
theorem j23:(Rows.dirTakesRow.plainKeys==prog.plainKeys)=true:=by kernel_rfl
theorem j24:(Rows.dirTakesRow.shortTexts.isNone)=true:=by kernel_rfl
theorem j25:(prog.stopsHeard)=true:=by kernel_rfl
theorem j26:(prog.mayEnter)=true:=by kernel_rfl
theorem j27:(Rows.dirTakesRow.lifted==prog.liftsFinal)=true:=by kernel_rfl
theorem j28:(prog.make==some Rows.dirTakesRow.make)=true:=by kernel_rfl
theorem j29:(Rows.dirTakesRow.kinds==(if Rows.dirTakesRow.domain.isEmpty then[]else Tryz.f6.params.toList.map fun t=>match prog.underlying t with|some (.int k)=>some k|_=>none))=true:=by kernel_rfl
theorem j30:(Rows.dirTakesRow.pinned==Rows.dirTakesRow.pinnedBy)=true:=by kernel_rfl
theorem j31:(Rows.dirTakesRow.veiled==(Tryz.f6.params.toList++Rows.dirTakesSpec.plain.varTypes prog++Tryz.f6.resultTypes.toList).any (prog.veiledRec ·))=true:=by kernel_rfl
theorem j32:(Rows.dirTakesRow.veiledFits prog Tryz.f6.params.toList (Tryz.f6.params.toList++Rows.dirTakesSpec.plain.varTypes prog++Tryz.f6.resultTypes.toList))=true:=by kernel_rfl
theorem zHD:joinedFacts prog 6 Tryz.f6 Rows.dirTakesSpec Rows.dirTakesRow=true:=zdd (zdd (zdd (zdd (zdd (zdd (zdd (zdd (zdd (zdd (zdd (zdd (zdd (zdd (zdd (zdd (zdd (zdd (zdd (zdd (zdd (zdd (zdd (zdd (zdd (zdd (zdd (zdd (zdd (zdd (zdd (j1) j2) j3) j4) j5) j6) j7) j8) j9) j10) j11) j12) j13) j14) j15) j16) j17) j18) j19) j20) j21) j22) j23) j24) j25) j26) j27) j28) j29) j30) j31) j32
theorem zyY(os:Os)(started:os.Started)(H:Type)(enc:TypeId×Value->H) :
  ReturnsInHanded {} Tryz.checked os 6 .any (Rows.dirTakesSpec.pre6 enc prog Tryz.f6 Rows.dirTakesRow.domain false) (Rows.dirTakesSpec.post enc prog Tryz.f6 false true false false):=by
 refine returnsInHanded_of_change (C:=Tryz.checked) zHL started (by kernel_rfl) func6
  (ChangeSpec.witness6 (enc:=enc) (C:=Tryz.checked) false ⟨#[],#[.agg #[.slice none 0 0,.int .i64 0,.slice none 0 0],.string ⟨#[]⟩,.int .i64 0],[]⟩ 8 (by kernel_rfl) (by kernel_rfl) (by kernel_rfl) (by kernel_rfl)) ?_
 intro W base args ds gs before hval0 hW hcnd _;have hval:∀(j:Nat) t v,Tryz.f6.params[j]?=some t->args[j]?=some v->Value.okWide prog W .any base t v:=hval0;have hW':=hW;obtain⟨p,q,hA0,hV,rfl,hfz,hnd⟩:=hW;have hA:DataW.TrodAll enc prog W 0 (fun _=>true) true Tryz.f6.params.toList args.toList ds p:=hA0;rw[Tryz.params6]at hA hval;obtain⟨v0,vs0,d0,ds0,p0,q0,hargs,rfl,rfl,h0,r0⟩:=trodAll_cons hA;obtain⟨v1,vs1,d1,ds1,p1,q1,rfl,rfl,rfl,h1,r1⟩:=trodAll_cons r0;obtain⟨v2,vs2,d2,ds2,p2,q2,rfl,rfl,rfl,h2,r2⟩:=trodAll_cons r1;obtain⟨rfl,rfl,rfl⟩:=trodAll_nil r2;obtain rfl:args=#[v0,v1,v2]:=by cases args;simp_all
 obtain⟨rfl,rfl⟩:=trodVars_none hV;have w0:=hval 0 25 v0 rfl rfl;have k0:=h0;have lt0:∀x∈p0,x.block<W.heap.size:=by obtain⟨m,hm⟩:=k0;exact DataW.trod_lt m _ _ _ hm
 obtain⟨s1,rfl,rfl,rfl,g1⟩:=Go.ChangeMaps.open_string underlying9 (hval 1 9 v1 rfl rfl) h1;obtain⟨n2,rfl,rfl,rfl,g2⟩:=open_int underlying3 (hval 2 3 v2 rfl rfl) h2;obtain⟨names,bits,bent,hn,hb,hc0⟩:∃(names:List (LN)) (bits:Int) (bent:List (Int×Nat)),(∀s∈names,Fv.zbT s/\s.length<9223372036854775808)/\(∀x∈bent,Fv.LtU x.2)/\Fv.CI W (.agg [.list 0 1 (Fv.zgs names),Fv.iv bits,.list 0 2 (Fv.wdV bent)]) v0:=by
  obtain⟨fuel,hf⟩:=h0;exact zAb w0 hf
 clear hA0 hval0;refine(Fv.FP.calls (w:=W) Fv.zHb (Fv.FN.FP (Fv.zAm 0 0 names bits bent (Fv.zpf s1) n2 hn hb (Fv.zxU s1) (by rw[Fv.zvi];unfold maxLen at g1;omega))) (args':=[v0,.string s1,.int .i64 n2]) rfl (fun i x y hx hy=>?_)).mono fun e W' ⟨he,hx⟩=>?_
 .match i with
  | 0=>injection hx with hx;injection hy with hy;subst hx hy;exact hc0
  | 1=>injection hx with hx;injection hy with hy;subst hx hy;exact .str _
  | 2=>injection hx with hx;injection hy with hy;subst hx hy;exact .int _ _
  | i+3=>simp at hx
 have bel:Below W.heap.size W W':=hx;subst he;exact⟨_,rfl,_,_,_,[],_,[],hW',trodAll_mk1 (shut_bool underlying4 _),(trodAll_cons_mk (Below.trod zFI (by kernel_rfl) (of_decide_eq_true (by kernel_rfl)) k0 bel lt0) (trodAll_cons_mk (Go.ChangeMaps.shut_string underlying9 g1) (trodAll_cons_mk (shut_int underlying3 g2) trodAll_mk0))),rfl,bel.frame _,fun h=>by cases h⟩
theorem zDZ:Rows.dirTakesRow.holds Tryz.pinned (OpenSpec.ofChange Rows.dirTakesSpec) :=
 OpenClaim.holds_of_wide 6 Tryz.f6 rfl rfl rfl rfl rfl rfl rfl ⟨rfl,rfl,rfl,rfl,rfl⟩ rfl rfl rfl rfl rfl (by kernel_rfl) func6 zHD
  (of_decide_eq_true (by kernel_rfl)) (by unfold Func.isWrapper;first|(rw[if_pos (by decide +kernel)];kernel_rfl)|(rw[if_neg (by decide +kernel)];exact⟨rfl,rfl⟩))
  (fun os started H enc _=>zyY os started H enc)
theorem dir_takes:Rows.DirTakesSaid:=zDZ
#print axioms dir_takes
end Go.Proofs.YtkeknmgnoceogaaGreat
