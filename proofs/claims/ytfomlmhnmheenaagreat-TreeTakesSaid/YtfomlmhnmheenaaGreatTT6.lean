/- part 6 of the proof of tree_takes. -/
import Derived.Test.YtfomlmhnmheenaaGreatTT5
import Derived.KernelRfl
set_option linter.unusedSimpArgs false
set_option linter.unusedVariables false
set_option maxRecDepth 1000000
namespace Go.Proofs.YtfomlmhnmheenaaGreat
namespace Fv
open Tw
def zz5 (f:Nat):Option (List TV->TH->Option (TE×TH)):=bif Nat.beq f 127 then some (ziD 83)else bif Nat.beq f 9 then some zmO else bif Nat.beq f 56 then some (zib 3)else none
noncomputable def ET:Env:=⟨(zeo.set 9 none).set 56 none,zz5,zg1,zBe,0⟩
theorem zH {n:Nat}{f:Func}{F:zD}(h:Tryz.prog.funcs[n]?=some f)(hF:fnO Tryz.prog f=some F:=by kernel_rfl)(hn:n≠9/\n≠56:=by decide):ET.funcs.get n=some F:=by
 show ((zeo.set 9 none).set 56 none).get n=some F;rw[Tr.get_set,if_neg hn.2,Tr.get_set,if_neg hn.1];exact zAe h hF
theorem zAP:ET.funcs.get 56=none:=by
 show ((zeo.set 9 none).set 56 none).get 56=none;rw[Tr.get_set,if_pos rfl]
theorem zAD:ET.spec 56=some (zib 3):=rfl
end Fv
end Go.Proofs.YtfomlmhnmheenaaGreat
namespace Go.Proofs.YtfomlmhnmheenaaGreat
namespace Fv
abbrev Pr:=Nat×Nat
def zbx (left n:Nat):Bool:=decide (left≠0)&&decide (n%2=0)&&decide (2<=n/2)&&decide (n/2<=28)
def zbr:List Nat->Nat
 | _::p::l=>if p=0 then 0 else zbr l+1
 | _=>0
def zab:Nat->List Nat->List Pr
 | prev,k::p::l=>if p=0 then[]else if p=prev then zab p l else(k,p)::zab p l
 | _,_=>[]
def zbv (left:Nat)(l:List Nat):List Pr:=if zbx left l.length=true then zab left l else[]
def zbn:List Pr->Bool
 | a::b::l=>decide (a.1<b.1)&&zbn (b::l)
 | _=>true
def zcn:List Nat->List Pr->Bool
 | seen,p::l=>!seen.contains p.2&&zcn (p.2::seen) l
 | _,[]=>true
def zd4:List Nat->Bool
 | _::p::l=>decide (p=0)&&zd4 l
 | _=>true
def zb9 (left:Nat)(l:List Nat):Bool :=
 zbn (zbv left l)&&zcn [left] (zbv left l)&&decide ((zbv left l).length=zbr l)&&decide ((zbv left l).length<l.length/2)&&zd4 (l.drop (2*(zbv left l).length))
def zbt (left:Nat)(l:List Nat):Nat:=if zbx left l.length=true then if zb9 left l=true then 0 else 190 else 2
def zbU (left:Nat)(l:List Nat)(j:Nat):Nat:=if j=0 then left else l.getD (2*(j-1)+1) 0
theorem zk1 (l:List Nat)(j:Nat)(h:2*j+1<l.length):l.drop (2*j)=l[2*j]::l[2*j+1]::l.drop (2*(j+1)):=by
 rw[zAW9 (i:=2*j) (by omega),zAW9 (i:=2*j+1) h];rfl
theorem zi4:∀l:List Nat,2*zbr l<=l.length
 | []=>by simp[zbr]
 | [_]=>by simp[zbr]
 | _::p::l=>by
  have:=zi4 l;rw[zbr]
  split<;>simp<;>omega
theorem zmC {l:List Nat}(h:l.length<2):zbr l=0:=by
 match l,h with
 | [],_=>rfl
 | [_],_=>rfl
@[reducible] def wv (p:Nat) (l:List Nat):PV:=.list p 1 (l.map uv)
@[reducible] def pv (x:Pr):PV:=.agg [uv x.1,uv x.2]
@[reducible] def psv (p:Nat) (l:List Pr):PV:=.list p 2 (l.map pv)
theorem Lb.uvs {z:Nat}(l:List Nat):Lb (.list 0 z (l.map uv)):=.list fun x hx=>by
 obtain⟨y,hy,hx⟩:=zBB9.1 hx;obtain⟨n,_,rfl⟩:=zAM9.1 hy;simp[PV.cells]at hx;subst hx;exact .int _ _
theorem Lb.ivs {z:Nat}(l:List Int):Lb (.list 0 z (l.map iv)):=.list fun x hx=>by
 obtain⟨y,hy,hx⟩:=zBB9.1 hx;obtain⟨n,_,rfl⟩:=zAM9.1 hy;simp[PV.cells]at hx;subst hx;exact .int _ _
theorem Lb.pvs {z:Nat}(l:List Pr):Lb (.list 0 z (l.map pv)):=.list fun x hx=>by
 obtain⟨y,hy,hx⟩:=zBB9.1 hx;obtain⟨n,_,rfl⟩:=zAM9.1 hy;simp[PV.cells]at hx;rcases hx with rfl|rfl<;>exact .int _ _
end Fv
end Go.Proofs.YtfomlmhnmheenaaGreat
namespace Go.Proofs.YtfomlmhnmheenaaGreat
namespace Fv
open Tw
@[reducible] def zBo (x:Pr):PV:=.agg [iv x.1,uv x.2]
end Fv
end Go.Proofs.YtfomlmhnmheenaaGreat
namespace Go.Proofs.YtfomlmhnmheenaaGreat
namespace Fv
open Tw
attribute [go_sem] daF dnF xT zi zBs zE T3 T4 T5 T8 T9 T10 T11 T12 T13 T14 T15 T16 T17 T18 T19 T20 T22 T23 T26 T27 T28 T30 T33 T34 T36 T37 T38 T39 T40 T41 T42 T43 T44 T45 T46 T47 T48 T49 T50 T51 T52 T53 T55 T56 T57 T58 T60 T61 T62 T63 T64 T65 T67 T68 T69 T70 T71 T72 T73 T75 T76 T77 T80 T81 T82 T83 T84 T85 T86 T87 T88 T89 T90 T91 T92 T93 T94 T95 T96 T97 T98 T99 T100 T101 T102 T103 T104 T105 T106 T107 T108 T109 T110 T111 T112 T113 T114 T115 T116 T119 T120 T121 T122 T123 T124 T125 T126 T129 T130 T131 T132 T133 T134 T135 T136 T137 T138 T139 T140 T141 T142 T143 T144 T145 T146 T147 T148 T149 T150 T151 T152 T153 T154 T155 T156 T157 T158 T159 T160 T161 T162 T163 T164 T165 T166 T167 T168 T169 T170 T171 T173 T174 T175 T176 T177 T178 T181 T182 T183 T184 T185 T186 T187 T188 T189 T190 T191 T192 T193 T194 T195 T196 T197 T198 T199 T200 T201 T202 T203 T204 T205 T206 T207 T208 T209 T210 T211 T212 T213 T214 T215 T216 T217 T218 T219 T220 T222 T223

set_option maxRecDepth 100000
theorem f65:ET.funcs.get 65=some T65:=zH Tryz.func65
theorem f132:ET.funcs.get 132=some T132:=zH Tryz.func132
theorem f58:ET.funcs.get 58=some T58:=zH Tryz.func58
theorem f170:ET.funcs.get 170=some T170:=zH Tryz.func170
theorem f188:ET.funcs.get 188=some T188:=zH Tryz.func188
theorem f185:ET.funcs.get 185=some T185:=zH Tryz.func185
theorem f181:ET.funcs.get 181=some T181:=zH Tryz.func181
theorem f135:ET.funcs.get 135=some T135:=zH Tryz.func135
theorem f184:ET.funcs.get 184=some T184:=zH Tryz.func184
@[reducible] def zcd (n:Int):PV:=.iface 31 (.int .i64 n)
theorem zc6 (e:Int):FN ET 65 [.bool true,.int .i64 e] (.ret (.tuple [])):=by
 refine zfn f65 Lb.unit ?_;refine za (zgo ?_);refine zfc ?_ ?_
 ·intro h;cases h
 ·intro _;refine zBl ?_;exact⟨[],rfl,Frz.tupL trivial⟩
theorem zcg (e:Int):FN ET 65 [.bool false,.int .i64 e] (.panic (zcd e)):=by
 refine zfn f65 (.iface (.int _ _)) ?_;refine za (zgo ?_);refine zfc ?_ ?_
 ·intro _;refine zAU ?_;refine zfx ?_;refine zqM (ty:=31) (v:=.int .i64 e) rfl (by simp[evs,ev,okv,upd,zq]) ?_;exact Frz.iface (.int _ _)
 ·intro h;cases h
theorem zhr (e:Int):FN ET 132 [.bool true,.int .i64 e] (.ret (.tuple [])):=by
 refine zfn f132 Lb.unit ?_;refine za (zgo ?_);refine zfc ?_ ?_
 ·intro h;cases h
 ·intro _;refine zBl ?_;exact⟨[],rfl,Frz.tupL trivial⟩
theorem zgp (e:Int):FN ET 132 [.bool false,.int .i64 e] (.panic (zcd e)):=by
 refine zfn f132 (.iface (.int _ _)) ?_;refine za (zgo ?_);refine zfc ?_ ?_
 ·intro _;refine zAU ?_;refine zfx ?_;refine zqM (ty:=31) (v:=.int .i64 e) rfl (by simp[evs,ev,okv,upd,zq]) ?_;exact Frz.iface (.int _ _)
 ·intro h;cases h
theorem zmK (p:Nat)(l:List Int)(n:Int)(hl:l.length<4611686018427387904):FN ET 58 [.list p 1 (l.map iv),.int .i64 n] (.ret (.bool (l.contains n))):=by
 refine zfn f58 (.bool _) ?_;refine za (zgo ?_);refine za ?_;refine za (zgo ?_);refine zB (zar (fun m s=>∃i:Nat,m=l.length-i/\i<=l.length/\(l.take i).contains n=false/\s.tm 0=.list p 1 (l.map iv)/\s.tm 1=.int .i64 n/\s.tm 5=.int .i64 i/\s.df=[]/\s.H=[]) (n:=l.length) ?_ ?_)
 ·exact⟨0,by simp[upd,zq]⟩
 ·rintro m ⟨tm,df,H⟩ ⟨i,rfl,hi,hc,h0,h1,h5,rfl,rfl⟩;dsimp only at h0 h1 h5;refine zBp ?_;refine za (zAV (zr3 h0 h1 h5) ?_);refine zwh ?_ ?_
  ·intro hlt;have hlt:i<l.length:=by have:=of_decide_eq_true hlt;omega
   refine za (zB ?_);refine za (zAV (zr4 h0 h1 h5 (zAB9 hlt)) ?_);refine zfc ?_ ?_
   ·intro he;have he:=of_decide_eq_true he;refine za (zgo ?_);refine zy (zfr ?_);have:l.contains n=true:=by
     rw[zDE9];rw[<- he];exact zBN9 hlt
    rw[this];exact Frz.bool _
   ·intro he;have he:=of_decide_eq_false he;refine zBl ?_;refine zAU ?_;refine zKF (zr3 h0 h1 h5) ?_;refine⟨_,?_,i+1,rfl,hlt,?_,?_⟩
    ·omega
    ·rw[zFX9 hlt];rw[List.contains_append,hc];simp[Ne.symm he]
    ·have:IntKind.i64.wrap ((i:Int)+1)=((i+1:Nat):Int):=by rw[wrap_i64 (by omega) (by omega)];omega
     simp[upd,h0,h1,this]
  ·intro hlt;have hlt:¬i<l.length:=by have:=of_decide_eq_false hlt;omega
   obtain rfl:i=l.length:=by omega
   refine za (zgo ?_);refine zy (zfr ?_);rw[zBG9]at hc;rw[hc];exact Frz.bool _
abbrev za7 (n:Nat):Prop:=n<4611686018427387904
theorem zi2 (p:Nat)(w:List Nat)(hw:za7 w.length):FN ET 170 [wv p w] (.ret (.int .i64 (w.length/2:Nat))):=by
 refine zfn f170 (.int _ _) ?_;refine za (zgo ?_);have e1:IntKind.i64.wrap ((w.length:Int).tdiv 2)=((w.length/2:Nat):Int):=by
  rw[IntWalk.i64_quo _ _ (by omega)];omega
 refine za (zAU ?_);refine zPF e1 ?_;exact Frz.int _ _
theorem zvs (p:Nat)(w:List Nat)(j:Nat)(hw:za7 w.length)(h:2*j<w.length):FN ET 188 [wv p w,.int .i64 j] (.ret (uv w[2*j])):=by
 refine zfn f188 (.int _ _) ?_;refine za (zgo ?_);have e1:IntKind.i64.wrap (2*(j:Int))=2*(j:Int):=zwi;have e2:(2*(j:Int)).toNat=2*j:=by omega
 have e3:(0:Int)<=2*(j:Int):=by omega
 refine za (zAV (zr4 e1 e2 e3 (zAB9 h)) ?_);refine zy (zfr ?_);exact Frz.int _ _
theorem zi8 (p:Nat)(w:List Nat)(j:Nat)(hw:za7 w.length)(h:2*j+1<w.length):FN ET 185 [wv p w,.int .i64 j] (.ret (uv w[2*j+1])):=by
 refine zfn f185 (.int _ _) ?_;refine za (zgo ?_);have e1:IntKind.i64.wrap (2*(j:Int))=2*(j:Int):=zwi;have e4:IntKind.i64.wrap (2*(j:Int)+1)=2*(j:Int)+1:=zwi;have e2:(2*(j:Int)+1).toNat=2*j+1:=by omega
 have e3:(0:Int)<=2*(j:Int)+1:=by omega
 refine za (zAV (zr5 e1 e2 e3 e4 (zAB9 h)) ?_);refine zy (zfr ?_);exact Frz.int _ _
@[reducible] def zfb (p:Nat) (w:List Nat) (left:Nat):PV:=.agg [wv p w,uv left]
theorem zqR (p:Nat)(w:List Nat)(left:Nat)(hw:za7 w.length):FN ET 181 [zfb p w left] (.ret (.bool (zbx left w.length))):=by
 refine zfn f181 (.bool _) ?_;refine za (zgo ?_);refine za (zAU ?_)
 by_cases h1:left=0
 ·subst h1;refine zP ?_;exact Frz.bool _
 ·have g1:¬(left:Int)=0:=by omega
  by_cases h2:w.length%2=0
  ·have g2:(w.length:Int).tmod 2=0:=by rw[IntWalk.rem_in _ _ (by omega)];omega
   refine zAW (zr2 g1 g2) ?_;refine zca (zi2 p w hw) ?_
   by_cases h3:2<=w.length/2
   ·have g3:(2:Int)<=((w.length/2:Nat):Int):=by omega
    refine zAW g3 ?_;refine zca (zi2 p w hw) ?_;refine zP ?_;have:zbx left w.length=decide (((w.length/2:Nat):Int)<=28):=by simp[zbx,h1,h2,h3];omega
    rw[this];exact Frz.bool _
   ·have g3:¬(2:Int)<=((w.length/2:Nat):Int):=by omega
    refine zPF g3 ?_;have:zbx left w.length=false:=by simp[zbx,h1,h2,h3]
    rw[this];exact Frz.bool _
  ·have g2:¬(w.length:Int).tmod 2=0:=by rw[IntWalk.rem_in _ _ (by omega)];omega
   refine zPF (zr2 g1 g2) ?_;have:zbx left w.length=false:=by simp[zbx,h1,h2]
   rw[this];exact Frz.bool _
theorem f183:ET.funcs.get 183=some T183:=zH Tryz.func183
theorem f182:ET.funcs.get 182=some T182:=zH Tryz.func182
theorem zrQ (p:Nat)(w:List Nat)(left j:Nat)(hw:za7 w.length)(h:2*j<w.length+1):FN ET 135 [zfb p w left,.int .i64 j] (.ret (uv (zbU left w j))):=by
 refine zfn f135 (.int _ _) ?_;refine zG ?_;refine zfc ?_ ?_
 ·intro hj;obtain rfl:j=0:=by have:=of_decide_eq_true hj;omega
  refine zO ?_;exact Frz.int _ _
 ·intro hj;have hj:¬j=0:=by have:=of_decide_eq_false hj;omega
  refine zBl ?_;show W _ _ _ _ _ _;refine zI ?_;have e1:(j:Int)-1=((j-1:Nat):Int):=by omega
  rw[e1];refine zca (zi8 p w (j-1) hw (by omega)) ?_;refine zP ?_;have:zbU left w j=w[2*(j-1)+1]'(by omega):=by
   unfold zbU;rw[if_neg hj,zAL9,zAB9 (by omega)];rfl
  rw[this];exact Frz.int _ _
theorem zwA (p:Nat)(w:List Nat)(left:Nat)(hw:za7 w.length):FN ET 184 [zfb p w left] (.ret (.int .i64 (zbr w:Nat))):=by
 refine zfn f184 (.int _ _) ?_;refine zG ?_;refine zB (zar (fun m s=>∃i:Nat,m=w.length-i/\2*i<=w.length/\zbr w=i+zbr (w.drop (2*i))/\s.tm 1=.ptr 0 0 0 0 2/\s.tm 2=.int .i64 i/\s.df=[]/\s.H=[.row 209 2 0 0 [zfb p w left]]) (n:=w.length) ?_ ?_)
 ·exact⟨0,by simp[upd,zq]⟩
 ·rintro m ⟨tm,df,H⟩ ⟨i,rfl,hi,hc,h1,h2,rfl,rfl⟩;dsimp only at h1 h2;refine zBp ?_;refine zIF (zr2 h1 h2) ?_;refine zca (zi2 p w hw) ?_;have stop:∀tm',zbr (w.drop (2*i))=0->tm' 2=.int .i64 i->zf (fun m s=>∃i:Nat,m=w.length-i/\2*i<=w.length/\zbr w=i+zbr (w.drop (2*i))/\s.tm 1=.ptr 0 0 0 0 2/\s.tm 2=.int .i64 i/\s.df=[]/\s.H=[.row 209 2 0 0 [zfb p w left]]) (w.length-i)
    (ze 0 (zc (fun s'=>W ET ET.caught none (.seq (.region [⟨some 17,.mov,[.tmp 2],none⟩,⟨some 2,.mov,[.tmp 17],none⟩]) .ret) s' (zdj ET T184 fun e' H=>za0 H 0 e' (.ret (.int .i64 (zbr w:Nat))))) (zdj ET T184 fun e' H=>za0 H 0 e' (.ret (.int .i64 (zbr w:Nat)))))) (.exit 0) ⟨tm',[],[.row 209 2 0 0 [zfb p w left]]⟩:=fun tm' h0 ht=>by
   refine zOF ht ?_;rw[hc,h0];exact Frz.int _ _
  by_cases hlt:i<w.length/2
  ·have g1:(i:Int)<((w.length/2:Nat):Int):=by omega
   refine zAW (zr3 g1 h1 h2) ?_;refine zca (zi8 p w i hw (by omega)) ?_;refine zN ?_;have hd:=zk1 w i (by omega);refine zwh ?_ ?_
   ·intro hz;have hz:¬w[2*i+1]'(by omega)=0:=by simpa using hz
    refine zB ?_;refine zJF h2 ?_;refine⟨_,?_,i+1,rfl,?_,?_,?_⟩
    ·omega
    ·omega
    ·rw[hc,hd,zbr,if_neg hz];omega
    ·simp[upd,h1]
   ·intro hz;have hz:w[2*i+1]'(by omega)=0:=by simpa using hz
    refine stop _ ?_ (by simp[upd,h2]);rw[hd,zbr,if_pos hz]
  ·have g1:¬(i:Int)<((w.length/2:Nat):Int):=by omega
   refine zNF (zr3 g1 h1 h2) ?_;refine zwh ?_ ?_
   ·intro h;cases h
   ·intro _;refine stop _ ?_ (by simp[upd,h2]);exact zmC (by simp;omega)
theorem zzn (a b:Pr):FN ET 183 [pv a,pv b] (.ret (.bool (decide (a.1<b.1)))):=by
 refine zfn f183 (.bool _) ?_;refine zO ?_;have:decide ((a.1:Int)<(b.1:Int))=decide (a.1<b.1):=by simp
 rw[this];exact Frz.bool _
theorem zx4 {α:Type}(l:List α)(i:Nat)(h:i+1<l.length):l.drop i=l[i]::l[i+1]::l.drop (i+2):=by
 rw[zAW9 (by omega),zAW9 h]
theorem zsC {l:List Pr}(h:l.length<2):zbn l=true:=by
 match l,h with
 | [],_=>rfl
 | [_],_=>rfl
theorem zwS (p:Nat)(l:List Pr)(hl:za7 l.length):FN ET 182 [psv p l,.fn 183 []] (.ret (.bool (zbn l))):=by
 refine zfn f182 (.bool _) ?_;refine zG ?_;refine zB (zar (fun m s=>∃i:Nat,m=l.length+1-i/\i<=l.length/\zbn l=zbn (l.drop i)/\s.tm 0=psv p l/\s.tm 1=.fn 183 []/\s.tm 5=.int .i64 (i+1:Nat)/\s.df=[]/\s.H=[]) (n:=l.length+1) ?_ ?_)
 ·exact⟨0,by simp[upd,zq]⟩
 ·rintro m ⟨tm,df,H⟩ ⟨i,rfl,hi,hc,h0,h1,h5,rfl,rfl⟩;dsimp only at h0 h1 h5;(try refine zBp ?_);refine za (zAV (zr3 h0 h1 h5) ?_);refine zwh ?_ ?_
  ·intro hlt;have hlt:i+1<l.length:=by have:=of_decide_eq_true hlt;omega
   refine za (zB ?_);refine za ?_;refine zad ?_;have e1:((i+1:Nat):Int)-1=(i:Int):=by omega
   refine zAZ (zr6 h0 h1 h5 e1 (zAB9 hlt) (zAB9 (show i<l.length by omega))) (zzn l[i] l[i+1]) ?_;refine zQF h0 ?_;have hd:=zx4 l i hlt;refine zfc ?_ ?_
   ·intro hb;have hb:¬(l[i].1<l[i+1].1):=by simpa using hb
    refine zO ?_;rw[hc,hd,zbn];simp only[hb,decide_false,zDQ9];exact Frz.bool _
   ·intro hb;have hb:l[i].1<l[i+1].1:=by simpa using hb
    refine zBl ?_;refine zJF h5 ?_;refine⟨_,?_,i+1,rfl,by omega,?_,?_⟩
    ·omega
    ·rw[hc,hd,zbn,zAW9 hlt];simp[hb]
    ·simp[upd,h0,h1]
  ·intro hlt;have hlt:¬i+1<l.length:=by have:=of_decide_eq_false hlt;omega
   refine zO ?_;rw[hc,zsC (by simp;omega)];exact Frz.bool _
def zbG:Nat->Nat->List Nat->List (Nat×Pr)
 | i,prev,k::p::l=>if p=0 then[]else if p=prev then zbG (i+1) p l else(i,(k,p))::zbG (i+1) p l
 | _,_,_=>[]
def zc5 (left:Nat)(l:List Nat):List (Nat×Pr):=if zbx left l.length=true then zbG 0 left l else[]
theorem zcL:∀(l:List Nat) (i prev:Nat),(zbG i prev l).map (·.2)=zab prev l
 | [],_,_=>by simp[zbG,zab]
 | [_],_,_=>by simp[zbG,zab]
 | k::p::l,i,prev=>by
  rw[zbG,zab]
  split
  ·rfl
  ·split
   ·exact zcL l (i+1) p
   ·simp[zcL l (i+1) p]
theorem zgK (left:Nat)(l:List Nat):(zc5 left l).map (·.2)=zbv left l:=by
 unfold zc5 zbv
 split
 ·exact zcL l 0 left
 ·rfl
theorem f223:ET.funcs.get 223=some T223:=zH Tryz.func223
theorem f215:ET.funcs.get 215=some T215:=zH Tryz.func215
theorem f164:ET.funcs.get 164=some T164:=zH Tryz.func164
theorem zxm (id p:Nat)(w:List Nat)(left:Nat)(hw:za7 w.length)(P:Nat->List zn)(hlen:∀k,(P k).length=(P 0).length)(hnr:∀(k i:Nat) (o:zn),(P k)[i]?=some o->NRO (P 0).length o)
  (hy:∀(k j:Nat) (x:Pr) (G:List zn),(zc5 left w)[k]?=some (j,x)->FY ET id [.int .i64 j,pv x] (P k++G) fun r H'=>r=true/\H'=P (k+1)++G) :
  FO ET 223 [.yield id,.elem [wv p w],.elem [uv left]] (P 0) false fun e H'=>e=.ret (.tuple [])/\H'=P (zc5 left w).length:=by
 refine FO.gc (zro f223 ?_);have hb:∀k (x:zn),(P k++[x])[(P 0).length]?=some x:=fun k x=>by rw[<- hlen k];exact zb _ _
 have hs:∀k (x y:zn),(P k++[x]).set (P 0).length y=P k++[y]:=fun k x y=>by rw[<- hlen k];exact zo _ _ _
 have fin:∀(tm:Nat->PV) (k:Nat),k=(zc5 left w).length->zdj ET T223 (fun e H'=>∃H'' G,ziG (P 0) H' H'' G/\NRE (P 0).length e/\e=.ret (.tuple [])/\H''=P (zc5 left w).length) .ret ⟨tm,[],P k++[.row 209 2 0 0 [zfb p w left]]⟩:=fun tm k hk=>by
  subst hk;refine zj (vs:=[]) rfl ⟨P (zc5 left w).length,_,⟨rfl,hlen _,fun i o ho=>.inr (hnr _ i o ho)⟩,.tuple (fun x h=>by cases h),rfl,rfl⟩
 refine ztz ?_;(repeat refine za ?_);refine zAV (zr2 (hb 0) (hs 0)) ?_;refine zIF (hb 0) ?_;refine zca (zqR p w left hw) ?_;refine zN ?_
 by_cases hr:zbx left w.length=true
 ·have hev:w.length%2=0:=by simp[zbx]at hr;omega
  have hit:zc5 left w=zbG 0 left w:=by unfold zc5;rw[if_pos hr]
  refine zfc ?_ ?_
  ·rw[hr];intro h;cases h
  ·intro _;refine zBl ?_;show W _ _ _ _ _ _;refine za (zBl ?_);refine zIF (hb 0) ?_;refine zca (zwA p w left hw) ?_;refine zN ?_;refine zB (zar (fun m s=>∃j k:Nat,m=w.length-j/\j<=zbr w/\zbr w=j+zbr (w.drop (2*j))/\k<=(zc5 left w).length/\(zc5 left w).drop k=zbG j (zbU left w j) (w.drop (2*j))/\s.tm 0=.yield id/\s.tm 4=.ptr (P 0).length 0 0 0 2/\s.tm 13=.int .i64 (zbr w:Nat)/\s.tm 14=.int .i64 j/\s.df=[]/\s.H=P k++[.row 209 2 0 0 [zfb p w left]]) (n:=w.length) ?_ ?_)
   ·exact⟨0,0,by simp,by omega,by simp,by omega,by simp[hit,zbU],zt,zt,zt,zt,rfl,rfl⟩
   ·rintro m ⟨tm,df,H⟩ ⟨j,k,rfl,hj,hraw,hk,hdk,h0,h4,h13,h14,rfl,rfl⟩;dsimp only at h0 h4 h13 h14;have hrl:=zi4 w;(try refine zBp ?_);refine za (zAV (zr4 h0 h4 h13 h14) ?_);refine zwh ?_ ?_
    ·intro hlt;have hlt:j<zbr w:=by have:=of_decide_eq_true hlt;omega
     have hd:=zk1 w j (by omega);have hpz:¬w[2*j+1]'(by omega)=0:=by
      intro e;rw[hd,zbr,if_pos e]at hraw;omega
     rw[hd,zbG,if_neg hpz]at hdk;rw[hd,zbr,if_neg hpz]at hraw;have hah:zbU left w (j+1)=w[2*j+1]'(by omega):=by
      unfold zbU;rw[if_neg (by omega),zAL9];simp only[zEP9];rw[zAB9 (by omega)];rfl
     refine za (zB ?_);(repeat refine za ?_);refine zAV h14 ?_;refine za ?_;refine zad ?_;refine zAZ (zr4 h0 h4 h14 (hb k)) (zi8 p w j hw (by omega)) ?_;refine zAZ (zr4 h0 h4 h14 (hb k)) (zrQ p w left j hw (by omega)) ?_
     by_cases heq:w[2*j+1]'(by omega)=zbU left w j
     ·have g1:((w[2*j+1]'(by omega):Nat):Int)=((zbU left w j:Nat):Int):=by rw[heq]
      rw[if_pos heq]at hdk;refine ze2 (by first|exact trivial|simp only[go_sem,g1,h0,h4,h14,hb k]) (by simp(disch:=omega)only[go_sem,g1,h0,h4,h14,hb k]<;>rfl) rfl (by simp only[go_sem,g1,h0,h4,h14,hb k]<;>rfl) (by simp only[go_sem]<;>rfl) ?_;refine ze2 (by first|exact trivial|simp only[go_sem,g1,h0,h4,h14,hb k]) (by simp(disch:=omega)only[go_sem,g1,h0,h4,h14,hb k]<;>rfl) rfl (by simp only[go_sem,g1,h0,h4,h14,hb k]<;>rfl) (by simp only[go_sem]<;>rfl) ?_;refine ze2 (by first|exact trivial|simp only[go_sem,g1,h0,h4,h14,hb k]) (by simp(disch:=omega)only[go_sem,g1,h0,h4,h14,hb k]<;>rfl) rfl (by simp only[go_sem,g1,h0,h4,h14,hb k]<;>rfl) (by simp only[go_sem]<;>rfl) ?_;refine zQF (zr5 g1 h0 h4 h14 (hb k)) ?_;refine zfc ?_ ?_
      ·intro h;cases h
      ·intro _;refine zBl ?_;refine zJF h14 ?_;refine⟨_,?_,j+1,k,rfl,by omega,by omega,hk,?_,?_⟩
       ·omega
       ·rw[hdk,hah]
       ·simp[upd,h0,h4,h13]
     ·have g1:¬((w[2*j+1]'(by omega):Nat):Int)=((zbU left w j:Nat):Int):=by omega
      rw[if_neg heq]at hdk;have hk1:(zc5 left w)[k]?=some (j,(w[2*j]'(by omega),w[2*j+1]'(by omega))):=by
       have:=congrArg List.head? hdk;rw[List.head?_drop]at this;simpa using this
      have hk2:k<(zc5 left w).length:=(zAC9.1 hk1).1;have hdk2:(zc5 left w).drop (k+1)=zbG (j+1) (w[2*j+1]'(by omega)) (w.drop (2*(j+1))):=by
       rw[<- zEX9,hdk];rfl
      refine zAZ (zr5 g1 h0 h4 h14 (hb k)) (zvs p w j hw (by omega)) ?_;refine zAZ (zr5 g1 h0 h4 h14 (hb k)) (zi8 p w j hw (by omega)) ?_;refine zxC (s1:=?_) (id:=?_) (vs:=?_) ?_ ?_ rfl rfl ?_ ?_ ?_;rotate_left 3;(first|exact trivial|(simp only[go_sem,g1,h0,h4,h14,hb k]));(simp(disch:=omega)only[go_sem,g1,h0,h4,h14,hb k]<;>rfl);(first|rfl|(simp only[go_sem,g1,h0,h4,h14,hb k]<;>rfl));(simp only[go_sem,g1,h0,h4,h14,hb k]<;>rfl);refine FY.mono (hy k j _ _ hk1) fun r H' hh=>?_;obtain⟨rfl,rfl⟩:=hh;refine⟨_,by simp only[go_sem]<;>rfl,?_⟩;generalize zau _ _=K0;refine zQF g1 ?_;refine zfc ?_ ?_
      ·intro h;cases h
      ·intro _;refine zBl ?_;refine zJF h14 ?_;refine⟨_,?_,j+1,k+1,rfl,by omega,by omega,hk2,?_,?_⟩
       ·omega
       ·rw[hdk2,hah]
       ·simp[upd,h0,h4,h13]
    ·intro hlt;have hlt:¬j<zbr w:=by have:=of_decide_eq_false hlt;omega
     obtain rfl:j=zbr w:=by omega
     have hz:zbG (zbr w) (zbU left w (zbr w)) (w.drop (2*zbr w))=[]:=by
      have hr0:zbr (w.drop (2*zbr w))=0:=by omega
      revert hr0
      generalize w.drop (2*zbr w)=l
      match l with
      | []=>intro _;simp[zbG]
      | [_]=>intro _;simp[zbG]
      | a::b::l =>
       intro hr0;rw[zbr]at hr0
       split at hr0
       ·rename_i hb;rw[zbG,if_pos hb]
       ·omega
     rw[hz]at hdk;have hk3:k=(zc5 left w).length:=by
      have:=congrArg List.length hdk;simp at this;omega
     exact fin _ _ hk3
 ·have hr:zbx left w.length=false:=by simpa using hr
  refine zfc ?_ ?_
  ·intro _;refine zy ?_;exact fin _ 0 (by simp[zc5,hr])
  ·rw[hr];intro h;cases h
theorem zy6 (p:Nat)(w:List Nat)(left:Nat):FP ET 215 [uv left,wv p w] (.ret (.fn 223 [.elem [wv p w],.elem [uv left]])):=by
 refine zfp f215 ?_;refine zO ?_;refine Frz.fnL ⟨.ptr (w:=wv p w) rfl (zAJ9 _) rfl fun j x y hx hy=>?_,.ptr (w:=uv left) rfl (zAJ9 _) rfl fun j x y hx hy=>?_,trivial⟩
 ·cases j with
  | zero=>simp[PV.cells]at hx hy;subst hx;subst hy;exact Frz.list _ _ _
  | succ j=>simp at hy
 ·cases j with
  | zero=>simp[PV.cells]at hx hy;subst hx;subst hy;exact Frz.int _ _
  | succ j=>simp at hy
def zuO:zbk:=.region [⟨some 6,.alloc 66 [.int .u64 (.ofNat 0),.int .u64 (.ofNat 0)],[],none⟩,⟨none,.store 2,[.tmp 6,.tmp 11],none⟩]
def zuG:zbk:=.block 1 (.region [⟨some 12,.load false 1,[.tmp 4],none⟩,⟨some 13,.load true 2,[.tmp 6],none⟩,⟨some 14,.bslice 66 2 1 [.int .u64 (.ofNat 0),.int .u64 (.ofNat 0)] [(0,2)],[.tmp 13],none⟩,⟨some 15,.append 66 2 16,[.tmp 12,.tmp 14],none⟩,⟨none,.store 1,[.tmp 4,.tmp 15],none⟩])
def zfv (tm:Nat->PV)(L:List Pr)(k:Nat):List zn:=[.row 41 1 0 0 [.sl 1 k 0 k (2*k) 2],.row 66 2 k 0 ((L.take k).map pv),.dfr false,.loop .ready .norm tm [10,11] zuO zuG 2]
theorem zeF {l:List Pr}:∀v∈(l.map pv).flatMap PV.cells,Id0 v:=fun v hv=>by
 obtain⟨x,hx,hv⟩:=zBB9.1 hv;obtain⟨n,_,rfl⟩:=zAM9.1 hx;simp[PV.cells]at hv;rcases hv with rfl|rfl<;>exact .int _ _
theorem zqE {tm:Nat->PV}{L:List Pr}(hnr:∀i,tm i=.bad\/NR 4 (tm i))(k i:Nat)(o:zn)(ho:(zfv tm L k)[i]?=some o):NRO 4 o:=by
 match i with
 | 0=>injection ho with ho;subst ho;intro x hx;simp[PV.cells]at hx;subst hx;exact .sl _ _ _ _ _ (by omega)
 | 1=>injection ho with ho;subst ho;exact zob zeF
 | 2=>injection ho with ho;subst ho;trivial
 | 3=>injection ho with ho;subst ho;exact⟨by omega,hnr,trivial⟩
 | i+4=>simp[zfv]at ho
theorem zuu {tm:Nat->PV}{L:List Pr}(hnr:∀i,tm i=.bad\/NR 4 (tm i))(k:Nat)(G G':List zn):ziG (zfv tm L k++G) (zfv tm L (k+1)++G++G') (zfv tm L (k+1)++G) G' :=
 ziG.front rfl fun id o ho=>zqE hnr (k+1) id o ho
theorem zdz (left:Nat)(w:List Nat):(zbv left w).length<=28:=by
 unfold zbv
 split
 ·rename_i h;have h1:∀(prev:Nat) (l:List Nat),2*(zab prev l).length<=l.length:=by
   intro prev l
   induction prev,l using zab.induct<;>rw[zab]<;>simp_all<;>omega
  have h2:=h1 left w;simp[zbx]at h;omega
 ·simp
theorem zwk (tm:Nat->PV)(h4:tm 4=.ptr 0 0 0 0 1)(hnr:∀i,tm i=.bad\/NR 4 (tm i))(L:List Pr)(k j:Nat)(x:Pr)(hx:L[k]?=some x)(hL:L.length<1000000)(G:List zn) :
  FY ET 3 [.int .i64 j,pv x] (zfv tm L k++G) fun r H'=>r=true/\H'=zfv tm L (k+1)++G:=by
 have hk:k<L.length:=(zAC9.1 hx).1;have hxk:L[k]=x:=(zAC9.1 hx).2;have hlt:(L.take k).length=k:=by simp;omega
 refine FY.gc (zmp (tm:=tm) (ps:=[10,11]) (aS:=zuO) (bo:=zuG) rfl rfl ?_);refine zAU ?_;refine zfx ?_ (by simp(disch:=omega)only[go_sem,h4,zfv]<;>rfl);refine zr ?_;refine⟨rfl,_,_,_,_,_,_,rfl,?_⟩;refine zB (zAU ?_);have hb:(k+1)*17<=140737488355328:=by omega
 refine zKF (zr3 h4 hlt hb) ?_;have htk:(L.take k).map pv++[PV.agg [uv x.1,uv x.2]]=(L.take (k+1)).map pv:=by
  rw[zBE9,hx];simp
 rw[htk,zAG9];exact⟨rfl,.busy,.norm,tm,[10,11],zuO,zuG,2,rfl,zfv tm L (k+1)++G,[zn.row 66 2 0 0 [pv x]]++[zn.row 66 2 0 0 [PV.agg [uv x.1,uv x.2]]],zuu hnr k G _,rfl,rfl⟩
theorem ztb (p:Nat)(w:List Nat)(left:Nat)(hw:za7 w.length):FN ET 164 [uv left,wv p w] (.ret (psv 0 (zbv left w))):=by
 refine zfn f164 (Lb.pvs _) ?_;refine zG ?_;refine zI ?_;refine zbz (by first|rfl|(simp only[go_sem]<;>rfl)) (by simp only[go_sem]<;>rfl) (zy6 p w left) rfl ?_ ?_;(repeat(first|exact trivial|refine And.intro ?_ ?_|exact Id0.int _ _|exact Id0.bool _|exact Id0.list _ _ _|exact Id0.elem _|exact Id0.nilsl|exact Id0.str _|exact zbE _ _ _));refine zN ?_;refine zB ?_;refine zfH 66 2 (id:=0) rfl ?_;simp only[lzy,zAE9,zAF9,zCK9,zAI9,zAK9];refine zl7 (g:=223) (cap:=[.elem [wv p w],.elem [uv left]]) (b:=false) (by simp only[go_sem]) ?_;have hL:(zc5 left w).length=(zbv left w).length:=by rw[<- zgK];simp
 have h28:=zdz left w;have hnr:∀i,(upd (upd (upd (upd (zq [uv left,wv p w]) 4 (PV.ptr 0 0 0 0 1)) 7 (uv left)) 8 (wv p w)) 9 (PV.fn 223 [PV.elem [wv p w],PV.elem [uv left]])) i=.bad\/NR 4 ((upd (upd (upd (upd (zq [uv left,wv p w]) 4 (PV.ptr 0 0 0 0 1)) 7 (uv left)) 8 (wv p w)) 9 (PV.fn 223 [PV.elem [wv p w],PV.elem [uv left]])) i) :=
  zfh (zfh (zfh (zfh (zoK fun v hv=>by simp at hv;rcases hv with rfl|rfl<;>constructor) (.ptr _ _ _ _ (by omega))) (.int _ _)) (.list _ _ _)) (.fn fun x hx=>by simp at hx;rcases hx with rfl|rfl<;>constructor)
 have hP:=zxm 3 p w left hw (zfv _ (zbv left w)) (fun _=>rfl) (fun k i o ho=>zqE hnr k i o ho) fun k j x G hk =>
  zwk _ rfl hnr (zbv left w) k j x (by rw[<- zgK];simp[hk]) (by omega) G
 refine FO.mono (fun e H' he=>?_) hP;obtain⟨rfl,rfl⟩:=he;refine⟨⟨_,rfl⟩,.ready,.norm,_,_,_,_,_,by simp,rfl,?_⟩;rw[hL];refine za (zAU ?_);refine zfx ?_ (by simp(disch:=omega)only[go_sem,zfv]<;>rfl);refine zh ?_;refine zy ?_;refine zmi (vs:=[.sl 1 (zbv left w).length 0 (zbv left w).length (2*(zbv left w).length) 2]) rfl rfl ?_;refine Frz.whole (e:=66) (z':=2) (G:=(zbv left w).length) (l:=(zbv left w).map pv) ?_ rfl (by simp) (by simp) (fun v hv=>?_) zeF
 ·simp[zfv]
 ·obtain⟨x,_,rfl⟩:=zAM9.1 hv;rfl
theorem f130:ET.funcs.get 130=some T130:=zH Tryz.func130
def zc4 (left:Nat)(w:List Nat):FE:=if zbx left w.length=true then if zb9 left w=true then .ret (psv 0 (zbv left w))else .panic (zcd 190)else .panic (zcd 2)
theorem zcP {H:List zn}{e:FE}{n:Int}(h:e=.panic (zcd n)):za0 H 0 (.panic (zcd n)) e:=by subst h;exact Frz.iface (.int _ _)
theorem zpz (seen:List Nat)(L:List Pr)(i:Nat)(h:i<L.length):zcn seen (L.drop i)=(!seen.contains L[i].2&&zcn (L[i].2::seen) (L.drop (i+1))):=by
 rw[zAW9 h];rfl
theorem znF (w:List Nat)(i:Nat)(h:2*i+1<w.length):zd4 (w.drop (2*i))=(decide (w[2*i+1]=0)&&zd4 (w.drop (2*(i+1)))):=by
 rw[zk1 w i h];rfl
theorem zpG (w:List Nat)(i:Nat)(h:w.length<=2*i+1):zd4 (w.drop (2*i))=true:=by
 match h2:w.drop (2*i)with
 | []=>rfl
 | [_]=>rfl
 | a::b::l=>have:=congrArg List.length h2;simp at this;omega
theorem znp (p:Nat)(w:List Nat)(left:Nat)(hw:za7 w.length):FN ET 130 [zfb p w left] (zc4 left w):=by
 refine zfn f130 ?_ ?_
 ·unfold zc4;split
  ·split
   ·exact Lb.pvs _
   ·exact .iface (.int _ _)
  ·exact .iface (.int _ _)
 refine zG ?_;refine zI ?_;refine zca (zqR p w left hw) ?_
 by_cases hr:zbx left w.length=true
 rotate_left
 ·have hr:zbx left w.length=false:=by simpa using hr
  rw[hr];refine zfx ?_;refine zcx (zgp 2) ?_;exact zcP (by simp[zc4,hr])
 rw[hr];refine zfx ?_;refine zca (zhr 2) ?_;refine zN ?_;refine zI ?_;refine zca (ztb p w left hw) ?_;refine zN ?_;have h28:=zdz left w;refine zI ?_;refine zca (zwS 0 (zbv left w) (by omega)) ?_
 by_cases hs1:zbn (zbv left w)=true
 rotate_left
 ·have hs1:zbn (zbv left w)=false:=by simpa using hs1
  rw[hs1];refine zfx ?_;refine zcx (zgp 190) ?_;exact zcP (by simp[zc4,hr,zb9,hs1])
 rw[hs1];refine zfx ?_;refine zca (zhr 190) ?_;refine zN ?_;refine zG ?_;generalize hL:zbv left w=L at *
 have hset:zb9 left w=(zcn [left] L&&decide (L.length=zbr w)&&decide (L.length<w.length/2)&&zd4 (w.drop (2*L.length))):=by simp[zb9,hL,hs1]
 refine zB (zar (fun m s=>∃(i:Nat) (seen:List Nat) (mm:Int->Option PV) (G:List zn),m=L.length-i/\i<=L.length/\zcn [left] L=zcn seen (L.drop i)/\(∀q:Nat,mm q=if seen.contains q=true then some (iv 1)else none)/\s.tm 1=.ptr 0 0 0 0 2/\s.tm 3=psv 0 L/\s.tm 4=.map 1/\s.tm 23=psv 0 L/\s.tm 24=iv L.length/\s.tm 25=iv i/\s.df=[]/\s.H=.row 209 2 0 0 [zfb p w left]::.mapI .u64 mm::G) (n:=L.length) ?_ ?_)
 ·refine⟨0,[left],_,[],by simp,by omega,rfl,?_,zt,zt,zt,zt,zt,zt,rfl,rfl⟩;intro q
  by_cases hq:q=left
  ·subst hq;simp
  ·have:¬(q:Int)=left:=by omega
   simp[hq,this]
 ·rintro m ⟨tm,df,H⟩ ⟨i,seen,mm,G,rfl,hi,hpt,hmm,h1,h3,h4,h23,h24,h25,rfl,rfl⟩;dsimp only at h1 h3 h4 h23 h24 h25;(try refine zBp ?_);refine za (zAV (zr6 h1 h3 h4 h23 h24 h25) ?_);refine zwh ?_ ?_
  ·intro hlt;have hlt:i<L.length:=by have:=of_decide_eq_true hlt;omega
   have hq:=hmm L[i].2;refine za (zB ?_);refine zGF (zr7 h1 h3 h4 h23 h24 h25 (zAB9 hlt)) ?_
   by_cases hc:seen.contains L[i].2=true
   ·rw[if_pos hc]at hq;refine zIF (zr7 h1 h3 h4 h23 h24 h25 hq) ?_;refine zcx (zgp 190) ?_;exact zcP (by unfold zc4;rw[if_pos hr,hset,hpt,zpz _ _ _ hlt,hc];simp)
   ·rw[if_neg hc]at hq;have hc:seen.contains L[i].2=false:=by simpa using hc
    refine zIF (zr7 h1 h3 h4 h23 h24 h25 hq) ?_;refine zca (zhr 190) ?_;refine zN ?_;refine zAU ?_;refine zKF (zr6 h1 h3 h4 h23 h24 h25) ?_;refine zJF h25 ?_;refine⟨_,?_,i+1,L[i].2::seen,_,_,rfl,by omega,?_,?_,zu h1,zu h3,zu h4,zu h23,zu h24,zu h25,rfl,rfl⟩
    ·omega
    ·rw[hpt,zpz _ _ _ hlt,hc];simp
    ·intro q
     by_cases hq:q=L[i].2
     ·subst hq;simp
     ·have:¬(q:Int)=(L[i].2:Nat):=by omega
      rw[if_neg this,hmm q];simp[hq]
  ·intro hlt;have hlt:¬i<L.length:=by have:=of_decide_eq_false hlt;omega
   obtain rfl:i=L.length:=by omega
   rw[zBM9]at hpt;have hpt:zcn [left] L=true:=by rw[hpt];rfl
   refine zIF (zr2 h1 h3) ?_;refine zca (zwA p w left hw) ?_;have hmm2:2*(w.length/2)=w.length:=by simp[zbx]at hr;omega
   by_cases hc1:L.length=zbr w
   rotate_left
   ·have g1:¬(L.length:Int)=(zbr w:Nat):=by omega
    refine zAW (zr3 h1 h3 g1) ?_;refine zcx (zgp 190) ?_;exact zcP (by unfold zc4;rw[if_pos hr,hset,hpt];simp[hc1])
   have g1:(L.length:Int)=(zbr w:Nat):=by omega
   refine zAW (zr3 h1 h3 g1) ?_;refine zca (zi2 p w hw) ?_
   by_cases hc2:L.length<w.length/2
   rotate_left
   ·have g2:¬((zbr w:Nat):Int)<((w.length/2:Nat):Int):=by omega
    refine zAW (zr4 h1 h3 g1 g2) ?_;refine zcx (zgp 190) ?_;exact zcP (by unfold zc4;rw[if_pos hr,hset,hpt,decide_eq_false hc2];simp)
   have g2:((zbr w:Nat):Int)<((w.length/2:Nat):Int):=by omega
   refine zAW (zr4 h1 h3 g1 g2) ?_;refine zca (zhr 190) ?_;refine zN ?_;refine zGF (zr2 h1 h3) ?_;refine zB (zar (fun m s=>∃i:Nat,m=w.length-i/\2*i<=w.length/\zd4 (w.drop (2*L.length))=zd4 (w.drop (2*i))/\s.tm 1=.ptr 0 0 0 0 2/\s.tm 3=psv 0 L/\s.tm 7=iv i/\s.df=[]/\s.H=.row 209 2 0 0 [zfb p w left]::.mapI .u64 mm::G) (n:=w.length-L.length) ?_ ?_)
   ·exact⟨L.length,rfl,by omega,rfl,zu h1,zu h3,by simp[upd,h3,g1],rfl,rfl⟩
   ·clear h1 h3 h4 h23 h24 h25;rintro m ⟨tm,df,H⟩ ⟨i,rfl,hi,hz,h1,h3,h7,rfl,rfl⟩;dsimp only at h1 h3 h7;refine zBp ?_;refine zIF (zr3 h1 h3 h7) ?_;refine zca (zi2 p w hw) ?_;refine zN ?_;refine zwh ?_ ?_
    ·intro hlt;have hlt:i<w.length/2:=by have:=of_decide_eq_true hlt;omega
     refine za (zB ?_);refine zAU ?_;refine zAW (zr3 h1 h3 h7) ?_;refine zca (zi8 p w i hw (by omega)) ?_;have hst:=znF w i (by omega)
     by_cases h0:w[2*i+1]'(by omega)=0
     ·have g3:((w[2*i+1]'(by omega):Nat):Int)=0:=by omega
      refine zAW g3 ?_;refine zca (zhr 190) ?_;refine zK ?_;refine zJF h7 ?_;refine⟨_,?_,i+1,rfl,by omega,?_,zu h1,zu h3,zu h7,zt,zt⟩
      ·omega
      ·rw[hz,hst];simp[h0]
     ·have g3:¬((w[2*i+1]'(by omega):Nat):Int)=0:=by omega
      refine zAW g3 ?_;refine zcx (zgp 190) ?_;exact zcP (by unfold zc4;rw[if_pos hr,hset,hpt,hz,hst];simp[h0])
    ·intro hlt;have hlt:¬i<w.length/2:=by have:=of_decide_eq_false hlt;omega
     refine zOF (zr2 h1 h3) ?_;have:zc4 left w=.ret (psv 0 L):=by unfold zc4;rw[if_pos hr,hset,hpt,hz,zpG w i (by omega),hL,decide_eq_true hc1,decide_eq_true hc2];rfl
     rw[this];exact Frz.list _ _ _
theorem f174:ET.funcs.get 174=some T174:=zH Tryz.func174
theorem f219:ET.funcs.get 219=some T219:=zH Tryz.func219
theorem zAg:ET.caught.get 128=some ():=by kernel_rfl
theorem zyT:FN ET 219 [] (.ret (.tuple [])):=by
 refine zfn f219 Lb.unit ?_;refine zBl ?_;exact⟨[],rfl,Frz.tupL trivial⟩
theorem za0.int {H:List zn}{k:IntKind}{n:Int}{e:FE}(h:e=.ret (.int k n)):za0 H 0 (.ret (.int k n)) e:=by subst h;exact Frz.int _ _
theorem zvQ (p:Nat)(w:List Nat)(left:Nat)(hw:za7 w.length):FN ET 174 [uv left,wv p w] (.ret (.int .i64 (zbt left w:Nat))):=by
 refine zfn f174 (.int _ _) ?_;refine zG ?_;refine zI ?_;refine zgq (f:=128) (p:=.ptr 0 0 0 0 1) (cl:=.fn 219 []) ?_ ?_ zAg ?_
 ·rfl
 ·simp only[go_sem]<;>rfl
 refine zN ?_;refine zI ?_;have hs:=znp p w left hw;have bad:∀(tm:Nat->PV) (n:Nat),zbt left w=n->tm 4=.ptr 0 0 0 0 1->zdj ET T174 (fun e' H=>za0 H 0 e' (.ret (.int .i64 (zbt left w:Nat)))) (.panic (zcd n)) ⟨tm,[.caught (.ptr 0 0 0 0 1) (.fn 219 [])],[.row 31 1 0 0 [.int .i64 0]]⟩:=fun tm n hn h4=>by
  refine⟨n,219,[],true,0,0,1,rfl,rfl,rfl,(FN.FO (args:=[]) zyT trivial).mono fun e H he=>?_⟩;obtain⟨rfl,rfl⟩:=he;refine⟨rfl,_,rfl,[.int .i64 n],?_,za0.int (by rw[hn])⟩;simp[T174,xT,zE,okv,h4,zae,zaz,zaH,zag];rfl
 by_cases hr:zbx left w.length=true
 rotate_left
 ·have he:zc4 left w=.panic (zcd 2):=by simp[zc4,hr]
  rw[he]at hs;refine zcx hs ?_;exact bad _ 2 (by simp[zbt,hr]) rfl
 by_cases h2:zb9 left w=true
 rotate_left
 ·have he:zc4 left w=.panic (zcd 190):=by simp[zc4,hr,h2]
  rw[he]at hs;refine zcx hs ?_;exact bad _ 190 (by simp[zbt,hr,h2]) rfl
 have he:zc4 left w=.ret (psv 0 (zbv left w)):=by simp[zc4,hr,h2]
 rw[he]at hs;refine zca hs ?_;refine zN ?_;refine zG ?_;refine zy ?_;have:zbt left w=0:=by simp[zbt,hr,h2]
 rw[this];exact⟨[.int .i64 0],rfl,Frz.int _ _⟩
end Fv
end Go.Proofs.YtfomlmhnmheenaaGreat
namespace Go.Proofs.YtfomlmhnmheenaaGreat
namespace Fv
structure zC where
 level:Nat
 sib:Nat
 low:Nat
 left:Nat
 way:Nat
 pairs:List Pr
deriving DecidableEq
def zc0 (p:Nat):Bool:=decide (1<=p)&&decide (p<2048)
def zcR:Nat->Nat->Nat->Bool
 | 0,_,w=>decide (7522529147838689024<=w)&&decide (w<=7522529147838689024+12)
 | 1,_,w=>decide (w<2048)
 | 2,_,_=>true
 | 3,lv,w=>(decide (lv=0)&&decide (w=9223372036854775808))||(decide (0<lv)&&zc0 w)
 | _,_,w=>decide (w<=2)
@[irreducible] def zf0 (x:Nat):Nat:=x - 7522529147838689024
theorem zkW (x:Nat):zf0 x=x-7522529147838689024:=by unfold zf0;rfl
def headB (l:List Nat):Bool:=decide (l.length=64)&&((l.take 8).drop 5).all (fun x=>decide (x=0))&&(List.range 5).all fun i=>zcR i (zf0 (l.getD 0 0)) (l.getD i 0)
def headN (l:List Nat):zC:=⟨zf0 (l.getD 0 0),l.getD 1 0,l.getD 2 0,l.getD 3 0,l.getD 4 0,zbv (l.getD 3 0) (l.drop 8)⟩
def zd3:zC:=⟨0,0,0,0,0,[]⟩
def zlk:Nat->zC->Nat
 | 0,n=>7522529147838689024+n.level
 | 1,n=>n.sib
 | 2,n=>n.low
 | 3,n=>n.left
 | _,n=>n.way
def zb1 (n:zC)(p:Pr):Bool:=if n.level=0 then decide (1<=p.2)&&decide (p.2<=1099511627776)&&decide (n.low<=p.1)else zc0 p.2&&decide (n.low<p.1)
def zet (l:List Nat):Bool:=decide (zbt (headN l).left (l.drop 8)=0) && !((headN l).pairs.any fun q=>!zb1 (headN l) q)
def zbi (l:List Nat):Nat:=if headB l=true then if zet l=true then 0 else 190 else 210
def zm7 (n:zC):List Nat:=[7522529147838689024+n.level,n.sib,n.low,n.left,n.way,0,0,0]
def zbH (l:List Pr):List Nat:=l.flatMap fun x=>[x.1,x.2]
@[reducible] def zW (p:Nat) (n:zC):PV:=.agg [iv n.level,iv n.sib,uv n.low,uv n.left,iv n.way,psv p n.pairs]
def zAf:Nat->Nat
 | 0=>198|1=>201|2=>204|3=>207|_=>211
def zzH:Nat->Nat
 | 0=>199|1=>202|2=>205|3=>209|_=>212
def zzK:Nat->Nat
 | 0=>200|1=>203|2=>206|3=>210|_=>213
@[reducible] def zyo (i:Nat):PV:=.agg [.fn (zAf i) [],.fn (zzH i) [],.fn (zzK i) []]
def zgZ:List PV:=(List.range 5).map zyo
end Fv
end Go.Proofs.YtfomlmhnmheenaaGreat
namespace Go.Proofs.YtfomlmhnmheenaaGreat
namespace Fv
open Tw


set_option maxRecDepth 100000
theorem f208:ET.funcs.get 208=some T208:=zH Tryz.func208
theorem f198:ET.funcs.get 198=some T198:=zH Tryz.func198
theorem f199:ET.funcs.get 199=some T199:=zH Tryz.func199
theorem f200:ET.funcs.get 200=some T200:=zH Tryz.func200
theorem f201:ET.funcs.get 201=some T201:=zH Tryz.func201
theorem f202:ET.funcs.get 202=some T202:=zH Tryz.func202
theorem f203:ET.funcs.get 203=some T203:=zH Tryz.func203
theorem f204:ET.funcs.get 204=some T204:=zH Tryz.func204
theorem f205:ET.funcs.get 205=some T205:=zH Tryz.func205
theorem f206:ET.funcs.get 206=some T206:=zH Tryz.func206
theorem f207:ET.funcs.get 207=some T207:=zH Tryz.func207
theorem f209:ET.funcs.get 209=some T209:=zH Tryz.func209
theorem f210:ET.funcs.get 210=some T210:=zH Tryz.func210
theorem f211:ET.funcs.get 211=some T211:=zH Tryz.func211
theorem f212:ET.funcs.get 212=some T212:=zH Tryz.func212
theorem f213:ET.funcs.get 213=some T213:=zH Tryz.func213
theorem f161:ET.funcs.get 161=some T161:=zH Tryz.func161
theorem za0.bool {H:List zn}{b b':Bool}(h:b=b'):za0 H 0 (.ret (.bool b)) (.ret (.bool b')):=by subst h;exact Frz.bool _
theorem za0.uv {H:List zn}{k:IntKind}{b b':Int}(h:b=b'):za0 H 0 (.ret (.int k b)) (.ret (.int k b')):=by subst h;exact Frz.int _ _
theorem zsa (x:Nat):FN ET 208 [uv x] (.ret (.bool (zc0 x))):=by
 refine zfn f208 (.bool _) ?_;refine zG ?_;refine zAU ?_
 by_cases h:1<=x
 ·have g:(1:Int)<=x:=by omega
  refine zPF g ?_;exact za0.bool (by simp[zc0,h];omega)
 ·have g:¬(1:Int)<=x:=by omega
  refine zPF g ?_;exact za0.bool (by simp[zc0,h])
@[reducible] def zdF (a b c d e:Nat):List PV:=[iv a,iv b,uv c,uv d,iv e,.nilsl]
theorem zAJ (cs:List PV)(x:Nat):FN ET 198 [.elem cs,uv x] (.ret (.bool (decide (7522529147838689024<=x)&&decide (x<=7522529147838689024+12)))):=by
 refine zfn f198 (.bool _) ?_;refine zG ?_;refine zAU ?_
 by_cases h:7522529147838689024<=x
 ·have g:(7522529147838689024:Int)<=x:=by omega
  refine zPF g ?_;exact za0.bool (by simp[h];omega)
 ·have g:¬(7522529147838689024:Int)<=x:=by omega
  refine zPF g ?_;exact za0.bool (by simp[h])
theorem zAM (cs:List PV)(x:Nat):FN ET 201 [.elem cs,uv x] (.ret (.bool (decide (x<2048)))):=by
 refine zfn f201 (.bool _) ?_;refine zO ?_;exact za0.bool (by simp;omega)
theorem zAB (cs:List PV)(x:Nat):FN ET 204 [.elem cs,uv x] (.ret (.bool true)):=by
 refine zfn f204 (.bool _) ?_;refine zO ?_;exact za0.bool rfl
theorem zAL (cs:List PV)(x:Nat):FN ET 211 [.elem cs,uv x] (.ret (.bool (decide (x<=2)))):=by
 refine zfn f211 (.bool _) ?_;refine zO ?_;exact za0.bool (by simp;omega)
theorem zAE (a b c d e x:Nat):FN ET 207 [.elem (zdF a b c d e),uv x] (.ret (.bool (zcR 3 a x))):=by
 refine zfn f207 (.bool _) ?_;refine zG ?_;refine zAU ?_
 by_cases h:a=0
 ·have g0:(a:Int)=0:=by omega
  by_cases h2:x=9223372036854775808
  ·have g:(x:Int)=9223372036854775808:=by omega
   refine zPF (zr2 g0 g) ?_;exact za0.bool (by simp[zcR,h,h2])
  ·have g:¬(x:Int)=9223372036854775808:=by omega
   refine zPF (zr2 g0 g) ?_;exact za0.bool (by simp[zcR,h,h2])
 ·have g:¬(a:Int)=0:=by omega
  have g2:(0:Int)<a:=by omega
  have h2:0<a:=by omega
  refine zAW (zr2 g g2) ?_;refine zca (zsa x) ?_;refine zP ?_;exact za0.bool (by simp[zcR,h,h2])
theorem zq3:FN ET 161 [] (.ret (.list 0 3 zgZ)):=by
 refine zfn f161 ?_ ?_
 ·refine .list fun x hx=>?_;simp[zgZ,List.range,List.range.loop,PV.cells]at hx;rcases hx with h|h|h|h|h|h|h|h|h|h|h|h|h|h|h<;>subst h<;>exact .fn fun _ h=>by cases h
 refine zO ?_;refine Frz.whole rfl rfl rfl (by decide) ?_ ?_
 ·intro v hv;simp[zgZ,List.range,List.range.loop]at hv;rcases hv with h|h|h|h|h<;>subst h<;>rfl
 ·intro v hv;simp[zgZ,List.range,List.range.loop,PV.cells]at hv;rcases hv with h|h|h|h|h|h|h|h|h|h|h|h|h|h|h<;>subst h<;>exact .fn fun _ h=>by cases h
@[reducible] def zeq (cs:List PV):zn:=.row 124 6 0 0 [.agg cs]
theorem zeO {F:zD}{R:FE->List zn->Prop}{tm:Nat->PV}{H:List zn}(h:F.res=[])(k:R (.ret (.tuple [])) H):zdj ET F R .norm ⟨tm,[],H⟩:=zl8 (vs:=[]) (by rw[h];rfl) k
section
variable (a b c d e x:Nat)(G:List zn)
theorem zAp (k:Nat)(h2:k<=12)(e1:IntKind.u64.wrap ((x:Int)-7522529147838689024)=(k:Int)):FO ET 199 [.ptr 0 0 0 0 6,uv x] (zeq (zdF a b c d e)::G) false fun e' H'=>e'=.ret (.tuple [])/\H'=zeq (zdF k b c d e)::G:=by
 refine zro f199 ?_;refine zAU ?_;refine zAW e1 ?_;refine zgY (zeO rfl ⟨rfl,rfl⟩)
theorem zyu (h1:7522529147838689024<=x)(h2:x<=7522529147838689024+12)(k:Nat)(hk:k=x-7522529147838689024):k<=12/\IntKind.u64.wrap ((x:Int)-7522529147838689024)=(k:Int):=by rw[zBm (by omega) (by omega)];omega
theorem set0 (h1:7522529147838689024<=x)(h2:x<=7522529147838689024+12)(k:Nat)(hk:k=x-7522529147838689024):FO ET 199 [.ptr 0 0 0 0 6,uv x] (zeq (zdF a b c d e)::G) false fun e' H'=>e'=.ret (.tuple [])/\H'=zeq (zdF k b c d e)::G :=
 zAp a b c d e x G k (zyu x h1 h2 k hk).1 (zyu x h1 h2 k hk).2
theorem set1 (h1:x<2048):FO ET 202 [.ptr 0 0 0 0 6,uv x] (zeq (zdF a b c d e)::G) false fun e' H'=>e'=.ret (.tuple [])/\H'=zeq (zdF a x c d e)::G:=by
 refine zro f202 ?_;refine zAU ?_;refine zfx ?_;refine zgY (zeO rfl ⟨rfl,rfl⟩)
theorem set2:FO ET 205 [.ptr 0 0 0 0 6,uv x] (zeq (zdF a b c d e)::G) false fun e' H'=>e'=.ret (.tuple [])/\H'=zeq (zdF a b x d e)::G:=by
 refine zro f205 ?_;refine zAU ?_;refine zfx ?_;refine zgY (zeO rfl ⟨rfl,rfl⟩)
theorem set3:FO ET 209 [.ptr 0 0 0 0 6,uv x] (zeq (zdF a b c d e)::G) false fun e' H'=>e'=.ret (.tuple [])/\H'=zeq (zdF a b c x e)::G:=by
 refine zro f209 ?_;refine zAU ?_;refine zfx ?_;refine zgY (zeO rfl ⟨rfl,rfl⟩)
theorem zAR (h1:x<=2):FO ET 212 [.ptr 0 0 0 0 6,uv x] (zeq (zdF a b c d e)::G) false fun e' H'=>e'=.ret (.tuple [])/\H'=zeq (zdF a b c d x)::G:=by
 refine zro f212 ?_;refine zAU ?_;refine zfx ?_;refine zgY (zeO rfl ⟨rfl,rfl⟩)
end
section
variable (p:Nat)(n:zC)
theorem zAu (k:Nat)(h:n.level<=12)(e1:IntKind.u64.wrap (7522529147838689024+(n.level:Int))=(k:Int)):FN ET 200 [zW p n] (.ret (uv k)):=by
 refine zfn f200 (.int _ _) ?_;refine zOF e1 ?_;exact Frz.int _ _
theorem zAn (h:n.level<=12)(k:Nat)(hk:k=7522529147838689024+n.level):IntKind.u64.wrap (7522529147838689024+(n.level:Int))=(k:Int):=by rw[zBm (by omega) (by omega)];omega
theorem zAH (h:n.level<=12)(k:Nat)(hk:k=7522529147838689024+n.level):FN ET 200 [zW p n] (.ret (uv k)):=zAu p n k h (zAn n h k hk)
theorem zAO (h:n.sib<2048):FN ET 203 [zW p n] (.ret (uv n.sib)):=by
 refine zfn f203 (.int _ _) ?_;refine zO ?_;exact Frz.int _ _
theorem zAS:FN ET 206 [zW p n] (.ret (uv n.low)):=by
 refine zfn f206 (.int _ _) ?_;refine zO ?_;exact Frz.int _ _
theorem zAC:FN ET 210 [zW p n] (.ret (uv n.left)):=by
 refine zfn f210 (.int _ _) ?_;refine zO ?_;exact Frz.int _ _
theorem zAN (h:n.way<=2):FN ET 213 [zW p n] (.ret (uv n.way)):=by
 refine zfn f213 (.int _ _) ?_;refine zO ?_;exact Frz.int _ _
end
def hAt (lv:Nat)(w:List Nat)(i:Nat):List PV :=
 zdF (if 0<i then lv else 0) (if 1<i then w.getD 1 0 else 0) (if 2<i then w.getD 2 0 else 0) (if 3<i then w.getD 3 0 else 0) (if 4<i then w.getD 4 0 else 0)
theorem zAj (lv:Nat)(w:List Nat)(i x:Nat)(hi:i<5):FN ET (zAf i) [.elem (hAt lv w i),uv x] (.ret (.bool (zcR i lv x))):=by
 match i,hi with
 | 0,_=>exact zAJ _ x
 | 1,_=>exact zAM _ x
 | 2,_=>exact zAB _ x
 | 3,_=>exact zAE _ _ _ _ _ x
 | 4,_=>exact zAL _ x
theorem zzW (lv:Nat)(w:List Nat)(hlv:lv=w.getD 0 0-7522529147838689024)(i:Nat)(hi:i<5)(hm:zcR i lv (w.getD i 0)=true)(G:List zn):FO ET (zzH i) [.ptr 0 0 0 0 6,uv (w.getD i 0)] (zeq (hAt lv w i)::G) false fun e H'=>e=.ret (.tuple [])/\H'=zeq (hAt lv w (i+1))::G:=by
 match i,hi with
 | 0,_=>rw[zcR,zAQ9,decide_eq_true_eq,decide_eq_true_eq]at hm;exact set0 _ _ _ _ _ _ _ hm.1 hm.2 lv hlv
 | 1,_=>rw[zcR,decide_eq_true_eq]at hm;exact set1 _ _ _ _ _ _ _ hm
 | 2,_=>exact set2 _ _ _ _ _ _ _
 | 3,_=>exact set3 _ _ _ _ _ _ _
 | 4,_=>rw[zcR,decide_eq_true_eq]at hm<;>first|exact zAR _ _ _ _ _ _ _ hm|simp
theorem zzY (p:Nat)(n:zC)(i k:Nat)(hi:i<5)(h1:n.level<=12)(h2:n.sib<2048)(h3:n.way<=2)(hk:k=zlk i n):FN ET (zzK i) [zW p n] (.ret (uv k)):=by
 match i,hi with
 | 0,_=>exact zAH p n h1 k hk
 | 1,_=>subst hk;exact zAO p n h2
 | 2,_=>subst hk;exact zAS p n
 | 3,_=>subst hk;exact zAC p n
 | 4,_=>subst hk;exact zAN p n h3
theorem zpm (i:Nat)(hi:i<5):zgZ[i]?=some (zyo i):=by
 match i,hi with
 | 0,_=>rfl
 | 1,_=>rfl
 | 2,_=>rfl
 | 3,_=>rfl
 | 4,_=>rfl
theorem zpS:zgZ.length=5:=rfl
def zkq {α:Type}(pr:α->Bool)(l:List α):Int:=match l.findIdx? pr with|some i=>(i:Int)|none=>-1
theorem zlR {α:Type}(pr:α->Bool)(l:List α):decide (0<=zkq pr l)=l.any pr:=by
 unfold zkq
 cases h:l.findIdx? pr with
 | none =>
  have:l.any pr=false:=by rw[List.findIdx?_eq_none_iff]at h;simpa using h
  rw[this];rfl
 | some i =>
  have:l.any pr=true:=by
   have:=List.findIdx?_isSome (xs:=l) (p:=pr);rw[h]at this;exact this.symm
  rw[this];simp
theorem ztS {H:List zn}{lab:Nat}:∀l:List PV,(∀v∈l,Id0 v)->LF H lab l l
 | [],_=>trivial
 | x::l,h=>⟨(h x zAU9).frz,ztS l fun v hv=>h v (zAT9 _ hv)⟩
theorem f214:ET.funcs.get 214=some T214:=zH Tryz.func214
theorem f162:ET.funcs.get 162=some T162:=zH Tryz.func162
theorem zsZ (p:Nat)(l:List Nat)(hl:za7 l.length)(g:Nat)(caps:List PV)(hc:∀v∈caps,Id0 v)(pr:Nat->Bool)(hg:∀x∈l,FN ET g (uv x::caps) (.ret (.bool (pr x)))):FN ET 214 [wv p l,.fn g caps] (.ret (iv (zkq pr l))):=by
 refine zfn f214 (.int _ _) ?_;refine zG ?_;refine zB (zar (fun m s=>∃i:Nat,m=l.length-i/\i<=l.length/\l.findIdx? pr=((l.drop i).findIdx? pr).map (· + i)/\s.tm 0=wv p l/\s.tm 1=.fn g caps/\s.tm 7=iv l.length/\s.tm 8=iv i/\s.df=[]/\s.H=[]) (n:=l.length) ?_ ?_)
 ·exact⟨0,by simp[upd,zq]⟩
 ·rintro m ⟨tm,df,H⟩ ⟨i,rfl,hi,hf,h0,h1,h7,h8,rfl,rfl⟩;dsimp only at h0 h1 h7 h8;(try refine zBp ?_);refine za (zAV (zr4 h0 h1 h7 h8) ?_);refine zwh ?_ ?_
  ·intro hlt;have hlt:i<l.length:=by have:=of_decide_eq_true hlt;omega
   refine za (zB ?_);refine zGF h8 ?_;refine zIF (zr3 h0 h1 (zAB9 hlt)) ?_;refine zdA (caps:=caps) (vs:=[uv l[i]]) rfl ?_ (hg _ (zBN9 hlt)) (ztS _ (fun v hv=>?_)) ?_
   ·simp only[go_sem,h1]
   ·rcases zAX9.1 hv with rfl|hv
    ·exact .int _ _
    ·exact hc v hv
   refine zN ?_;rw[zAW9 hlt,zFM9]at hf;refine zfc ?_ ?_
   ·intro hb;have hb:pr l[i]=true:=hb;refine zO ?_;rw[if_pos hb]at hf;exact za0.uv (by simp[zkq,hf])
   ·intro hb;have hb:pr l[i]=false:=hb;refine zBl ?_;refine zJF h8 ?_;refine⟨_,?_,i+1,rfl,hlt,?_,zu h0,zu h1,zu h7,zt,zt,zt⟩
    ·omega
    ·rw[hf,hb]
     cases (l.drop (i+1)).findIdx? pr with
     | none=>rfl
     | some j=>simp;omega
  ·intro hlt;have hlt:¬i<l.length:=by have:=of_decide_eq_false hlt;omega
   obtain rfl:i=l.length:=by omega
   refine zO ?_;rw[zBM9]at hf;exact za0.uv (by simp[zkq,hf])
theorem znX (p:Nat)(l:List Nat)(hl:za7 l.length)(g:Nat)(caps:List PV)(hc:∀v∈caps,Id0 v)(pr:Nat->Bool)(hg:∀x∈l,FN ET g (uv x::caps) (.ret (.bool (pr x)))):FN ET 162 [wv p l,.fn g caps] (.ret (.bool (l.any pr))):=by
 refine zfn f162 (.bool _) ?_;refine zG ?_;refine zI ?_;refine zdA (caps:=[]) (vs:=[wv p l,.fn g caps]) rfl ?_ (zsZ p l hl g caps hc pr hg) ?_ ?_
 ·simp only[go_sem]
 ·refine⟨.list _ _ _,⟨Id0.frz (.fn hc),trivial⟩⟩
 refine zP ?_;exact za0.bool (zlR _ _)
theorem f220:ET.funcs.get 220=some T220:=zH Tryz.func220
theorem f175:ET.funcs.get 175=some T175:=zH Tryz.func175
theorem zsG (p:Nat)(l:List Pr)(hl:za7 l.length)(g:Nat)(caps:List PV)(hc:∀v∈caps,Id0 v)(pr:Pr->Bool)(hg:∀x∈l,FN ET g (pv x::caps) (.ret (.bool (pr x)))):FN ET 220 [psv p l,.fn g caps] (.ret (iv (zkq pr l))):=by
 refine zfn f220 (.int _ _) ?_;refine zG ?_;refine zB (zar (fun m s=>∃i:Nat,m=l.length-i/\i<=l.length/\l.findIdx? pr=((l.drop i).findIdx? pr).map (· + i)/\s.tm 0=psv p l/\s.tm 1=.fn g caps/\s.tm 7=iv l.length/\s.tm 8=iv i/\s.df=[]/\s.H=[]) (n:=l.length) ?_ ?_)
 ·exact⟨0,by simp[upd,zq]⟩
 ·rintro m ⟨tm,df,H⟩ ⟨i,rfl,hi,hf,h0,h1,h7,h8,rfl,rfl⟩;dsimp only at h0 h1 h7 h8;(try refine zBp ?_);refine za (zAV (zr4 h0 h1 h7 h8) ?_);refine zwh ?_ ?_
  ·intro hlt;have hlt:i<l.length:=by have:=of_decide_eq_true hlt;omega
   refine za (zB ?_);refine zGF h8 ?_;refine zIF (zr3 h0 h1 (zAB9 hlt)) ?_;refine zdA (caps:=caps) (vs:=[pv l[i]]) rfl ?_ (hg _ (zBN9 hlt)) (ztS _ (fun v hv=>?_)) ?_
   ·simp only[go_sem,h1]
   ·rcases zAX9.1 hv with rfl|hv
    ·exact .agg fun y hy=>by simp at hy;rcases hy with rfl|rfl<;>exact .int _ _
    ·exact hc v hv
   refine zN ?_;rw[zAW9 hlt,zFM9]at hf;refine zfc ?_ ?_
   ·intro hb;have hb:pr l[i]=true:=hb;refine zO ?_;rw[if_pos hb]at hf;exact za0.uv (by simp[zkq,hf])
   ·intro hb;have hb:pr l[i]=false:=hb;refine zBl ?_;refine zJF h8 ?_;refine⟨_,?_,i+1,rfl,hlt,?_,zu h0,zu h1,zu h7,zt,zt,zt⟩
    ·omega
    ·rw[hf,hb]
     cases (l.drop (i+1)).findIdx? pr with
     | none=>rfl
     | some j=>simp;omega
  ·intro hlt;have hlt:¬i<l.length:=by have:=of_decide_eq_false hlt;omega
   obtain rfl:i=l.length:=by omega
   refine zO ?_;rw[zBM9]at hf;exact za0.uv (by simp[zkq,hf])
theorem zoc (p:Nat)(l:List Pr)(hl:za7 l.length)(g:Nat)(caps:List PV)(hc:∀v∈caps,Id0 v)(pr:Pr->Bool)(hg:∀x∈l,FN ET g (pv x::caps) (.ret (.bool (pr x)))):FN ET 175 [psv p l,.fn g caps] (.ret (.bool (l.any pr))):=by
 refine zfn f175 (.bool _) ?_;refine zG ?_;refine zI ?_;refine zdA (caps:=[]) (vs:=[psv p l,.fn g caps]) rfl ?_ (zsG p l hl g caps hc pr hg) ?_ ?_
 ·simp only[go_sem]
 ·refine⟨.list _ _ _,⟨Id0.frz (.fn hc),trivial⟩⟩
 refine zP ?_;exact za0.bool (zlR _ _)
theorem f107:ET.funcs.get 107=some T107:=zH Tryz.func107
theorem f163:ET.funcs.get 163=some T163:=zH Tryz.func163
theorem zz9 (x:Nat):FN ET 163 [uv x] (.ret (.bool (decide (x≠0)))):=by
 refine zfn f163 (.bool _) ?_;refine zO ?_;exact za0.bool (by by_cases h:x=0<;>simp[h];try omega)
theorem Lb.node (n:zC):Lb (zW 0 n):=.agg fun v hv=>by
 simp at hv;rcases hv with h|h|h|h|h|h<;>subst h
 ·exact .int _ _
 ·exact .int _ _
 ·exact .int _ _
 ·exact .int _ _
 ·exact .int _ _
 ·exact Lb.pvs _
theorem Lb.two {a b:PV}(ha:Lb a)(hb:Lb b):Lb (.tuple [a,b]):=.tuple fun v hv=>by
 simp at hv;rcases hv with h|h<;>subst h<;>assumption
def zdX (w:List Nat):FE:=if headB w=true then .ret (.tuple [zW 0 (headN w),iv 0])else .ret (.tuple [zW 0 zd3,iv 210])
theorem zzZ (lv:Nat)(w:List Nat)(i:Nat):∀v∈hAt lv w i,Id0 v:=fun v hv=>by
 simp[hAt]at hv;rcases hv with h|h|h|h|h|h<;>subst h<;>constructor
@[reducible] def zfl:PV:=.agg [iv 0,iv 0,uv 0,uv 0,iv 0,.nilsl]
theorem zoq {H:List zn}:Frz H 0 (.tuple [zfl,iv 210]) (.tuple [zW 0 zd3,iv 210]):=by
 refine Frz.tupL ⟨Frz.aggL ⟨.int _ _,.int _ _,.int _ _,.int _ _,.int _ _,.nil _ _,trivial⟩,.int _ _,trivial⟩
theorem zrj {H:List zn}{w:List Nat}(h:headB w=false):za0 H 0 (.ret (zF [zfl,iv 210])) (zdX w):=by
 unfold zdX;rw[if_neg (by rw[h];decide)];exact zoq
theorem zqv (w:List Nat)(hl:w.length=64)(lv:Nat)(hlv:lv=zf0 (w.getD 0 0)):headB w=(!(((w.take 8).drop 5).any fun x=>decide (x≠0))&&(List.range 5).all fun i=>zcR i lv (w.getD i 0)):=by
 subst hlv;unfold headB;rw[decide_eq_true hl,zBY9,List.all_eq_not_any_not]
 congr 2
 simp
theorem zqS (w:List Nat)(lv:Nat)(hlv:lv=zf0 (w.getD 0 0)):headN w=⟨lv,w.getD 1 0,w.getD 2 0,w.getD 3 0,w.getD 4 0,zbv (w.getD 3 0) (w.drop 8)⟩:=by
 subst hlv;unfold headN;rfl
theorem zun (w:List Nat):∃lv,lv=zf0 (w.getD 0 0):=⟨_,rfl⟩
theorem zt3 (p:Nat)(w:List Nat)(hw:za7 w.length):FN ET 107 [wv p w] (zdX w):=by
 refine zfn f107 ?_ ?_
 ·unfold zdX;split
  ·exact Lb.two (Lb.node _) (.int _ _)
  ·exact Lb.two (Lb.node _) (.int _ _)
 refine za (zAU ?_);refine zN ?_;refine ztz ?_;(repeat refine za ?_);refine zAU ?_;have h2:(1:Nat)=1:=rfl
 by_cases hl:w.length=64
 rotate_left
 ·have g:¬(w.length:Int)=64:=by omega
  refine zNF g ?_;refine zfc ?_ ?_
  ·intro _;refine zrK ⟨rfl,?_⟩;refine za (zBl ?_);simp only[zc,zf,ze,zd,zi,zg,if_true,reduceIte];refine zIF h2 ?_;refine zh ?_;refine zy ⟨(fun l h=>FX.noConfusion h),?_⟩;refine zj (vs:=[zfl,iv 210]) ?_ ?_
   ·simp only[T107,zE,go_sem];rfl
   ·exact zrj (by simp[headB,hl])
  ·intro h;cases h
 have g:(w.length:Int)=64:=by omega
 have hm1:List.drop 5 (List.take 8 (List.map uv w))=((w.take 8).drop 5).map uv:=by simp[zCM9,zDL9]
 refine zfx ?_ (by simp(disch:=omega)only[go_sem,g,hl,hm1]<;>rfl);refine zca (znX p ((w.take 8).drop 5) (by simp;omega) 163 [] (fun _ h=>by cases h) (fun x=>decide (x≠0)) fun x _=>zz9 x) ?_;refine zN ?_;obtain⟨lv,hlv⟩:=zun w;have hsp:=zqv w hl lv hlv;refine zfc ?_ ?_
 ·intro hb;have hb:(((w.take 8).drop 5).any fun x=>decide (x≠0))=true:=hb;refine zrK ⟨rfl,?_⟩;refine za (zBl ?_);simp only[zc,zf,ze,zd,zi,zg,if_true,reduceIte];refine zIF h2 ?_;refine zh ?_;refine zy ⟨(fun l h=>FX.noConfusion h),?_⟩;refine zj (vs:=[zfl,iv 210]) ?_ ?_
  ·simp only[T107,zE,go_sem];rfl
  ·exact zrj (by rw[hsp,hb];rfl)
 intro hb;have hb:(((w.take 8).drop 5).any fun x=>decide (x≠0))=false:=hb;rw[hb]at hsp;refine zBl ?_;show W _ _ _ _ _ _;refine zI ?_;refine zca zq3 ?_;refine zfx ?_ (by simp(disch:=omega)only[go_sem,zpS]<;>rfl);refine zh ?_;have hsp:headB w=(List.range 5).all fun i=>zcR i lv (w.getD i 0):=by simpa using hsp
 clear hm1 h2;refine zB (zar (fun m s=>∃(i:Nat) (G:List zn),m=5-i/\i<=5/\(∀j,j<i->zcR j lv (w.getD j 0)=true)/\s.tm 0=wv p w/\s.tm 2=.ptr 0 0 0 0 6/\s.tm 14=.list 0 3 zgZ/\s.tm 15=iv 5/\s.tm 16=iv i/\s.df=[]/\s.H=zeq (hAt lv w i)::G) (n:=5) ?_ ?_)
 ·exact⟨0,[],rfl,by omega,(fun j hj=>by omega),zt,zt,zt,zt,zt,rfl,rfl⟩
 ·rintro m ⟨tm,df,H⟩ ⟨i,G,rfl,hi,hmay,h0,h2,h14,h15,h16,rfl,rfl⟩;dsimp only at h0 h2 h14 h15 h16;(try refine zBp ?_);refine za (zAV (zr5 h0 h2 h14 h15 h16) ?_);refine zwh ?_ ?_
  ·intro hlt;have hlt:i<5:=by have:=of_decide_eq_true hlt;omega
   have hwi:w[i]?=some (w.getD i 0):=by rw[zAL9,zAB9 (by omega)];rfl
   have hid:=zzZ lv w i;(repeat refine za ?_);refine zB ?_;refine zGF (zr5 h0 h2 h14 h16 (zpm i hlt)) ?_;(repeat refine za ?_);refine zad ?_;refine zAZ (zr3 h0 h2 hwi) (zAj lv w i (w.getD i 0) hlt) ?_;refine zQF h0 ?_
   by_cases hm:zcR i lv (w.getD i 0)=true
   rotate_left
   ·have hm:zcR i lv (w.getD i 0)=false:=by simpa using hm
    refine zfc ?_ ?_
    ·intro _;refine zrK ⟨rfl,?_⟩;refine za (zBl ?_);simp only[zc,zf,ze,zd,zi,zg,if_true,reduceIte];refine zIF h2 ?_;refine zh ?_;refine zy ⟨(fun l h=>FX.noConfusion h),?_⟩;refine zj (vs:=[zfl,iv 210]) ?_ ?_
     ·simp only[T107,zE,go_sem,h2];rfl
     ·exact zrj (by rw[hsp,List.all_eq_false];exact⟨i,zCT9.2 hlt,by rw[hm];decide⟩)
    ·rw[hm];intro h;cases h
   refine zfc ?_ ?_
   ·rw[hm];intro h;cases h
   intro _;refine zBl ?_;show W _ _ _ _ _ _;refine zad ?_;refine zgS (s1:=?_) (caps:=?_) (vs:=?_) ?_ ?_ rfl rfl ?_ ?_ (zzW lv w (by rw[hlv,zkW]) i hlt hm ?_) ?_ ?_ ?_;rotate_left 3;(first|exact trivial|(simp only[go_sem,h0,h2,hwi]));(simp(disch:=omega)only[go_sem,h0,h2,hwi]<;>rfl);(first|rfl|(simp only[go_sem,h0,h2,hwi]<;>rfl));(simp only[go_sem,h0,h2,hwi]<;>rfl);rotate_left 1;rfl;rfl;rintro e H' he;obtain⟨rfl,rfl⟩:=he;refine⟨_,by simp only[go_sem]<;>rfl,?_⟩;refine zQF h0 ?_;refine zJF h16 ?_;refine⟨_,?_,i+1,_,rfl,hlt,?_,zu h0,zu h2,zu h14,zu h15,zu h16,rfl,rfl⟩
   ·omega
   ·intro j hj
    by_cases hj2:j=i
    ·rw[hj2];exact hm
    ·exact hmay j (by omega)
  ·intro hlt;have hlt:¬i<5:=by have:=of_decide_eq_false hlt;omega
   obtain rfl:i=5:=by omega
   have hok:headB w=true:=by rw[hsp,zBL9];intro j hj;exact hmay j (zCT9.1 hj)
   have h5:hAt lv w 5=zdF lv (w.getD 1 0) (w.getD 2 0) (w.getD 3 0) (w.getD 4 0):=rfl;have hm2:List.drop 8 (List.map uv w)=(w.drop 8).map uv:=by simp[zCM9]
   rw[h5];refine za (zad ?_);refine zdn (ztb p (w.drop 8) (w.getD 3 0) (by simp;omega)) ?_ (by simp(disch:=omega)only[go_sem,h0,h2,hl,hm2]<;>rfl);refine zA0 (zr2 h0 h2) ?_;refine zQF h0 ?_;refine zGF h2 ?_;refine zy (zfr ?_ (by simp only[go_sem,h2]<;>rfl));unfold zdX;rw[if_pos hok];rw[zqS w lv hlv];exact Frz.tupL ⟨Frz.aggL ⟨.int _ _,.int _ _,.int _ _,.int _ _,.int _ _,.list _ _ _,trivial⟩,.int _ _,trivial⟩
theorem f167:ET.funcs.get 167=some T167:=zH Tryz.func167
theorem f176:ET.funcs.get 176=some T176:=zH Tryz.func176
theorem f125:ET.funcs.get 125=some T125:=zH Tryz.func125
theorem f85:ET.funcs.get 85=some T85:=zH Tryz.func85
theorem zw8 (p:Nat)(n:zC)(q:Pr):FN ET 167 [zW p n,pv q] (.ret (.bool (zb1 n q))):=by
 obtain⟨lv,sib,low,left,way,ps⟩:=n;obtain⟨k,x⟩:=q;refine zfn f167 (.bool _) ?_;refine zG ?_
 by_cases h0:lv=0
 ·have g0:(lv:Int)=0:=by omega
  refine zfc ?_ ?_
  ·intro _;refine za (zAU ?_)
   by_cases h1:1<=x
   ·have g1:(1:Int)<=x:=by omega
    by_cases h2:x<=1099511627776
    ·have g2:(x:Int)<=1099511627776:=by omega
     refine zPF (zr2 g1 g2) ?_;exact za0.bool (by simp[zb1,h0,h1,h2];try omega)
    ·have g2:¬(x:Int)<=1099511627776:=by omega
     refine zPF (zr2 g1 g2) ?_;exact za0.bool (by simp[zb1,h0,h1,h2])
   ·have g1:¬(1:Int)<=x:=by omega
    refine zPF g1 ?_;exact za0.bool (by simp[zb1,h0,h1])
  ·intro h;exact absurd g0 (of_decide_eq_false h)
 ·have g0:¬(lv:Int)=0:=by omega
  refine zfc ?_ ?_
  ·intro h;exact absurd (of_decide_eq_true h) g0
  ·intro _;refine zBl ?_;show W _ _ _ _ _ _;refine zI ?_;refine zca (zsa x) ?_
   by_cases hb:zc0 x=true
   ·rw[hb];refine zP ?_;exact za0.bool (by simp[zb1,h0,hb])
   ·have hb:zc0 x=false:=by simpa using hb
    rw[hb];refine zP ?_;exact za0.bool (by simp[zb1,h0,hb])
@[reducible] def zug (p:Nat) (n:zC):List PV:=[iv n.level,iv n.sib,uv n.low,uv n.left,iv n.way,psv p n.pairs]
theorem zsq (p:Nat)(n:zC)(q:Pr):FN ET 176 [pv q,.elem (zug p n)] (.ret (.bool (!zb1 n q))):=by
 refine zfn f176 (.bool _) ?_;refine zG ?_;refine zI ?_;refine zca (zw8 p n q) ?_;refine zP ?_;exact za0.bool rfl
theorem zrW (p:Nat)(n:zC):∀v∈zug p n,Id0 v:=fun v hv=>by
 simp at hv;rcases hv with h|h|h|h|h|h<;>subst h<;>constructor
def zgG (w:List Nat):FE:=if zbi w=0 then .ret (.tuple [zW 0 (headN w),iv 0])else .ret (.tuple [zW 0 zd3,iv (zbi w:Nat)])
theorem zwa {w:List Nat}(h:headB w=true):w.length=64:=by
 unfold headB at h;rw[zAQ9,zAQ9,decide_eq_true_eq]at h;exact h.1.1
theorem zxF {H:List zn}{n:zC}{k:Int}:Frz H 0 (.tuple [zW 0 n,iv k]) (.tuple [zW 0 n,iv k]):=by
 refine Frz.tupL ⟨Frz.aggL ⟨.int _ _,.int _ _,.int _ _,.int _ _,.int _ _,.list _ _ _,trivial⟩,.int _ _,trivial⟩
theorem zl2 {H:List zn}{k:Int}:Frz H 0 (.tuple [zfl,iv k]) (.tuple [zW 0 zd3,iv k]):=by
 refine Frz.tupL ⟨Frz.aggL ⟨.int _ _,.int _ _,.int _ _,.int _ _,.int _ _,.nil _ _,trivial⟩,.int _ _,trivial⟩
def zgJ (n:zC)(w:List Nat):FE:=if(decide (zbt n.left (w.drop 8)=0) && !(n.pairs.any fun q=>!zb1 n q))=true then .ret (.tuple [zW 0 n,iv 0])else .ret (.tuple [zW 0 zd3,iv 190])
theorem zst (p:Nat)(w:List Nat)(n:zC)(hOf:FN ET 107 [wv p w] (.ret (.tuple [zW 0 n,iv 0])))(hl:w.length=64)(hps:n.pairs.length<=28):FN ET 125 [wv p w] (zgJ n w):=by
 refine zfn f125 ?_ ?_
 ·unfold zgJ;split
  ·exact Lb.two (Lb.node _) (.int _ _)
  ·exact Lb.two (Lb.node _) (.int _ _)
 refine zG ?_;refine zI ?_;refine zca hOf ?_;refine zN ?_;refine zT ?_;refine zBl ?_;show W _ _ _ _ _ _;have hm2:List.drop 8 (List.map uv w)=(w.drop 8).map uv:=by simp[zCM9]
 have hck:=zvQ p (w.drop 8) n.left (by simp;omega);(repeat refine za ?_);refine zad ?_;have hid:=zrW 0 n
 by_cases h1:zbt n.left (w.drop 8)=0
 rotate_left
 ·have g1:¬((zbt n.left (w.drop 8):Nat):Int)=0:=by omega
  refine zdn hck ?_ (by simp(disch:=omega)only[go_sem,hl,hm2]<;>rfl);refine ze2 (by first|exact trivial|simp only[go_sem,g1]) (by simp(disch:=omega)only[go_sem,g1]<;>rfl) rfl (by simp only[go_sem,g1]<;>rfl) (by simp only[go_sem]<;>rfl) ?_;refine zQF g1 ?_;refine zfc ?_ ?_
  ·intro _;refine zO ?_;have hs:zgJ n w=.ret (.tuple [zW 0 zd3,iv 190]):=by unfold zgJ;rw[decide_eq_false h1];rfl
   rw[hs];exact zl2
  ·intro h;cases h
 rw[h1]at hck;refine zdn hck ?_ (by simp(disch:=omega)only[go_sem,hl,hm2]<;>rfl);refine zAZ hl (zoc 0 n.pairs (by omega) 176 [.elem (zug 0 n)] (fun v hv=>by simp at hv;subst hv;exact .elem _) (fun q=>!zb1 n q) fun q _=>zsq 0 n q) ?_;refine zQF hl ?_
 by_cases h2:(n.pairs.any fun q=>!zb1 n q)=true
 ·refine zfc ?_ ?_
  ·intro _;refine zO ?_;have hs:zgJ n w=.ret (.tuple [zW 0 zd3,iv 190]):=by unfold zgJ;rw[h2,decide_eq_true h1];rfl
   rw[hs];exact zl2
  ·rw[h2];intro h;cases h
 ·have h2:(n.pairs.any fun q=>!zb1 n q)=false:=by simpa using h2
  refine zfc ?_ ?_
  ·rw[h2];intro h;cases h
  ·intro _;refine zBl ?_;show W _ _ _ _ _ _;refine zO ?_;have hs:zgJ n w=.ret (.tuple [zW 0 n,iv 0]):=by unfold zgJ;rw[h2,decide_eq_true h1];rfl
   rw[hs];exact zxF
theorem zeg (w:List Nat)(hh:headB w=true):zdX w=.ret (.tuple [zW 0 (headN w),iv 0]):=by unfold zdX;rw[if_pos hh]
theorem zxc (w:List Nat)(hh:headB w=true):zgJ (headN w) w=zgG w:=by
 have hpk:zet w=(decide (zbt (headN w).left (w.drop 8)=0) && !((headN w).pairs.any fun q=>!zb1 (headN w) q)):=by unfold zet;rfl
 unfold zgJ zgG zbi;rw[if_pos hh,<- hpk]
 by_cases hp:zet w=true
 ·rw[if_pos hp,if_pos hp,if_pos rfl]
 ·rw[if_neg hp,if_neg hp,if_neg (by decide)];simp
theorem zlq (p:Nat)(w:List Nat)(hw:za7 w.length):FN ET 125 [wv p w] (zgG w):=by
 have hOf:=zt3 p w hw
 by_cases hh:headB w=true
 ·rw[zeg w hh]at hOf;have h1:=zst p w (headN w) hOf (zwa hh) (zdz _ _);rw[zxc w hh]at h1;exact h1
 have hh:headB w=false:=by simpa using hh
 have he:zdX w=.ret (.tuple [zW 0 zd3,iv 210]):=by unfold zdX;rw[if_neg (by rw[hh];decide)]
 have hc:zbi w=210:=by unfold zbi;rw[if_neg (by rw[hh];decide)]
 have hs:zgG w=.ret (.tuple [zW 0 zd3,iv 210]):=by unfold zgG;rw[hc];rfl
 rw[he]at hOf;rw[hs];refine zfn f125 (Lb.two (Lb.node _) (.int _ _)) ?_;refine zG ?_;refine zI ?_;refine zca hOf ?_;refine zN ?_;refine zG ?_;refine zfc ?_ ?_
 ·intro _;refine zO ?_;exact zl2
 ·intro h;cases h
theorem zo7 (p:Nat)(w:List Nat)(n:zC)(c:Nat)(hs:FN ET 125 [wv p w] (.ret (.tuple [zW 0 n,iv c]))):FN ET 85 [wv p w] (.ret (iv c)):=by
 refine zfn f85 (.int _ _) ?_;refine zG ?_;refine zI ?_;refine zca hs ?_;refine zN ?_;refine zO ?_;exact Frz.int _ _
theorem zyX (w:List Nat)(h:zbi w=0):zgG w=.ret (.tuple [zW 0 (headN w),iv ((0:Nat):Int)]):=by unfold zgG;rw[if_pos h];rfl
theorem zy4 (w:List Nat)(h:¬zbi w=0):zgG w=.ret (.tuple [zW 0 zd3,iv (zbi w:Nat)]):=by unfold zgG;rw[if_neg h]
theorem zkp (p:Nat)(w:List Nat)(hw:za7 w.length):FN ET 85 [wv p w] (.ret (iv (zbi w:Nat))):=by
 have hs:=zlq p w hw
 by_cases h0:zbi w=0
 ·rw[zyX w h0]at hs;rw[h0];exact zo7 p w _ 0 hs
 ·rw[zy4 w h0]at hs;exact zo7 p w _ _ hs
theorem f106:ET.funcs.get 106=some T106:=zH Tryz.func106
def zbW (n:zC):Nat->List Nat
 | 0=>List.replicate 64 0
 | i+1=>(zbW n i).set i (zlk i n)
theorem zgT (n:zC):∀i,(zbW n i).length=64
 | 0=>by simp[zbW]
 | i+1=>by simp[zbW,zgT n i]
def zcs (n:zC):Nat->List Nat
 | 0=>zbW n 5
 | j+1=>((zcs n j).set (8+2*j) (n.pairs.getD j (0,0)).1).set (8+2*j+1) (n.pairs.getD j (0,0)).2
theorem zdh (n:zC):∀j,(zcs n j).length=64
 | 0=>zgT n 5
 | j+1=>by simp[zcs,zdh n j]
theorem zze (p:Nat)(n:zC)(h1:n.level<=12)(h2:n.sib<2048)(h3:n.way<=2)(hp:n.pairs.length<=28):FN ET 106 [zW p n] (.ret (wv 0 (zcs n n.pairs.length))):=by
 refine zfn f106 (Lb.uvs _) ?_;refine za (zAU ?_);refine zN ?_;refine za (zAU ?_);refine zN ?_;refine zI ?_;refine zca zq3 ?_;refine zfx ?_ (by simp(disch:=omega)only[go_sem,zpS]<;>rfl);refine zh ?_;refine zB (zar (fun m s=>∃(i:Nat) (G:List zn),m=5-i/\i<=5/\s.tm 1=.ptr 0 0 0 0 6/\s.tm 3=.sl 1 0 0 64 128 1/\s.tm 9=.list 0 3 zgZ/\s.tm 10=iv 5/\s.tm 11=iv i/\s.df=[]/\s.H=.row 124 6 0 0 [zW p n]::.row 24 1 0 0 ((zbW n i).map uv)::G) (n:=5) ?_ ?_)
 ·exact⟨0,[],rfl,by omega,zt,zt,zt,zt,zt,rfl,by simp[zbW]⟩
 ·rintro m ⟨tm,df,H⟩ ⟨i,G,rfl,hi,t1,t3,t9,t10,t11,rfl,rfl⟩;dsimp only at t1 t3 t9 t10 t11;(try refine zBp ?_);refine za (zgo ?_ (by simp(disch:=omega)only[go_sem,t1,t3,t9,t10,t11]<;>rfl));refine zwh ?_ ?_
  ·intro hlt;have hlt:i<5:=by have:=of_decide_eq_true hlt;omega
   obtain⟨old,hold⟩:∃old,(zbW n i)[i]?=some old:=⟨_,zAB9 (by rw[zgT];omega)⟩
   have hb:i<64:=by omega
   (repeat refine za ?_);refine zB ?_;(repeat(first|refine za ?_|refine zgo ?_ (by simp(disch:=omega)only[go_sem,t1,t3,t9,t11,zpm i hlt]<;>rfl)));refine zAU ?_;refine zfx ?_ (by simp(disch:=omega)only[go_sem,t1,t3,t9,t11]<;>rfl);refine zca (zzY p n i (zlk i n) hlt h1 h2 h3 rfl) ?_;refine zfx ?_ (by simp(disch:=omega)only[go_sem,hold,hb,zgT]<;>rfl);refine zr ?_;(repeat refine za ?_);refine zrg ?_ (by simp(disch:=omega)only[go_sem,t11]<;>rfl);refine zr ?_;refine⟨_,?m,i+1,?G,rfl,hlt,by simp[upd,t1],by simp[upd,t3],by simp[upd,t9],by simp[upd,t10],by simp[upd,t11],zt,?H⟩
   case m=>omega
   case H=>(try dsimp only);rw[show zbW n (i+1)=(zbW n i).set i (zlk i n)from rfl,zDU9]
  ·intro hlt;have hlt:¬i<5:=by have:=of_decide_eq_false hlt;omega
   obtain rfl:i=5:=by omega
   refine zGF t1 ?_;refine zB (zar (fun m s=>∃(j:Nat) (G:List zn),m=n.pairs.length-j/\j<=n.pairs.length/\s.tm 3=.sl 1 0 0 64 128 1/\s.tm 25=psv p n.pairs/\s.tm 26=iv n.pairs.length/\s.tm 27=iv j/\s.df=[]/\s.H=.row 124 6 0 0 [zW p n]::.row 24 1 0 0 ((zcs n j).map uv)::G) (n:=n.pairs.length) ?_ ?_)
   ·exact⟨0,_,rfl,by omega,by simp[upd,t3],zt,zt,zt,rfl,rfl⟩
   ·clear t1 t3 t9 t10 t11;rintro m ⟨tm,df,H⟩ ⟨j,G,rfl,hj,t3,t25,t26,t27,rfl,rfl⟩;dsimp only at t3 t25 t26 t27;(try refine zBp ?_);refine za (zgo ?_ (by simp(disch:=omega)only[go_sem,t3,t25,t26,t27]<;>rfl));refine zwh ?_ ?_
    ·intro hlt;have hlt:j<n.pairs.length:=by have:=of_decide_eq_true hlt;omega
     have hpj:n.pairs[j]?=some (n.pairs.getD j (0,0)):=by rw[zAL9,zAB9 hlt];rfl
     obtain⟨o1,ho1⟩:∃old,(zcs n j)[8+2*j]?=some old:=⟨_,zAB9 (by rw[zdh];omega)⟩
     obtain⟨o2,ho2⟩:∃old,((zcs n j).set (8+2*j) (n.pairs.getD j (0,0)).1)[8+2*j+1]?=some old:=⟨_,zAB9 (by rw[zCP9,zdh];omega)⟩
     have a1:(8+2*(j:Int)).toNat=8+2*j:=by omega
     have a2:(8+2*(j:Int)+1).toNat=8+2*j+1:=by omega
     have b1:(0:Int)<=8+2*(j:Int):=by omega
     have b2:(0:Int)<=8+2*(j:Int)+1:=by omega
     have c1:8+2*j<64:=by omega
     have c2:8+2*j+1<64:=by omega
     generalize hq:n.pairs.getD j (0,0)=q at *
     (repeat refine za ?_);refine zB ?_;(repeat(first|refine za ?_|refine zgo ?_ (by simp(disch:=omega)only[go_sem,t3,t25,t27,hpj]<;>rfl)));refine zad ?_;refine zda ?_ (by simp(disch:=omega)only[go_sem,t3,a1,b1,c1,ho1]<;>rfl);refine zda ?_ (by simp(disch:=omega)only[go_sem,t3,a2,b2,c2,<- zDU9,ho2]<;>rfl);refine zdl ?_ (by simp(disch:=omega)only[go_sem,t3]<;>rfl);refine zL ?_;simp only[go_sem];(repeat refine za ?_);refine zrg ?_ (by simp(disch:=omega)only[go_sem,t27]<;>rfl);refine zr ?_;refine⟨_,?m2,j+1,?G2,rfl,hlt,by simp[upd,t3],by simp[upd,t25],by simp[upd,t26],by simp[upd,t27],zt,?H2⟩
     case m2=>omega
     case H2=>(try dsimp only);rw[show zcs n (j+1)=((zcs n j).set (8+2*j) q.1).set (8+2*j+1) q.2 from by rw[<- hq];rfl,zDU9]
    ·intro hlt;have hlt:¬j<n.pairs.length:=by have:=of_decide_eq_false hlt;omega
     obtain rfl:j=n.pairs.length:=by omega
     (repeat(first|refine za ?_|refine zgo ?_ (by simp(disch:=omega)only[go_sem,t3]<;>rfl)));refine zy (zfr ?_);refine Frz.whole (l:=(zcs n n.pairs.length).map uv) rfl rfl (by simp[zdh]) (by simp[zdh]) (fun v hv=>?_) zhl;obtain⟨x,_,rfl⟩:=zAM9.1 hv;rfl
theorem zuS (k k':IntKind)(x y x' y':Int):zfJ [1,1] [.int k x,.int k' y] [.int k x',.int k' y']=some (decide (x=x')&&decide (y=y')):=by
 by_cases h:x=x'<;>by_cases h2:y=y'<;>simp[zfJ,znt,zeJ,zc1,h,h2]
theorem f108:ET.funcs.get 108=some T108:=zH Tryz.func108
theorem zsN (p q:Nat)(a b:List Pr)(ha:za7 a.length)(hb:za7 b.length):FN ET 108 [psv p a,psv q b] (.ret (.bool (decide (a=b)))):=by
 refine zfn f108 (.bool _) ?_;refine zG ?_
 by_cases hl:a.length=b.length
 rotate_left
 ·have g:¬(a.length:Int)=b.length:=by omega
  have hne:¬a=b:=fun h=>hl (by rw[h]);refine zfc ?_ ?_
  ·intro _;refine zO ?_;exact za0.bool (decide_eq_false hne).symm
  ·intro h;simp[g]at h
 have g:(a.length:Int)=b.length:=by omega
 refine zfc ?_ ?_
 ·intro h;simp[g]at h
 intro _;refine zBl ?_;show W _ _ _ _ _ _;refine zG ?_;refine zB (zar (fun m s=>∃i:Nat,m=a.length-i/\i<=a.length/\decide (a=b)=decide (a.drop i=b.drop i)/\s.tm 0=psv p a/\s.tm 1=psv q b/\s.tm 12=iv a.length/\s.tm 13=iv i/\s.df=[]/\s.H=[]) (n:=a.length) ?_ ?_)
 ·exact⟨0,by simp[upd,zq]⟩
 ·rintro m ⟨tm,df,H⟩ ⟨i,rfl,hi,hd,h0,h1,h12,h13,rfl,rfl⟩;dsimp only at h0 h1 h12 h13;(try refine zBp ?_);refine za (zAV (zr4 h0 h1 h12 h13) ?_);refine zwh ?_ ?_
  ·intro hlt;have hlt:i<a.length:=by have:=of_decide_eq_true hlt;omega
   have hltb:i<b.length:=by omega
   (repeat refine za ?_);refine zB ?_;refine zGF h13 ?_;(repeat refine za ?_);refine zad ?_;refine zdl ?_ (by simp(disch:=omega)only[go_sem,h0,h1,h13,zAB9 hlt,zAB9 hltb,zuS]<;>rfl);refine zL ?_;simp only[go_sem];have hda:a.drop i=a[i]::a.drop (i+1):=zAW9 hlt;have hdb:b.drop i=b[i]::b.drop (i+1):=zAW9 hltb;rw[hda,hdb]at hd;have hee:(decide (((a[i].1:Nat):Int)=(b[i].1:Nat))&&decide (((a[i].2:Nat):Int)=(b[i].2:Nat)))=decide (a[i]=b[i]):=by
    rw[<- Bool.decide_and]
    congr 1
    rw[Prod.ext_iff];simp only[Int.natCast_inj]
   rw[hee]
   by_cases hx:a[i]=b[i]
   ·refine zfc ?_ ?_
    ·rw[decide_eq_true hx];intro h;cases h
    ·intro _;refine zBl ?_;refine zJF h13 ?_;refine⟨_,?_,i+1,rfl,hlt,?_,zu h0,zu h1,zu h12,zu h13,zt,zt⟩
     ·omega
     ·rw[hd];simp only[hx,List.cons.injEq,true_and]
   ·refine zfc ?_ ?_
    ·intro _;refine zO ?_;exact za0.bool (by rw[hd];simp only[List.cons.injEq,hx,false_and,decide_false,Bool.not_false])
    ·rw[decide_eq_false hx];intro h;cases h
  ·intro hlt;have hlt:¬i<a.length:=by have:=of_decide_eq_false hlt;omega
   obtain rfl:i=a.length:=by omega
   refine zO ?_;refine za0.bool ?_;rw[hd,zBM9,hl,zBM9];rfl
theorem f69:ET.funcs.get 69=some T69:=zH Tryz.func69
@[reducible] def ztL:FE:=.ret (.tuple [wv 0 [],iv 210])
theorem zgm {H:List zn}{k:Int}:Frz H 0 (.tuple [.nilsl,iv k]) (.tuple [wv 0 [],iv k]):=Frz.tupL ⟨.nil _ _,.int _ _,trivial⟩
theorem zwm {H:List zn}{k:Int}{l:List Nat}:Frz H 0 (.tuple [wv 0 l,iv k]) (.tuple [wv 0 l,iv k]):=Frz.tupL ⟨.list _ _ _,.int _ _,trivial⟩
theorem zyI (p:Nat)(n:zC)(h:¬(n.level<=12/\n.sib<2048/\n.way<=2/\n.pairs.length<=27))(hs:za7 n.pairs.length):FN ET 69 [zW p n] ztL:=by
 refine zfn f69 (Lb.two (Lb.uvs _) (.int _ _)) ?_;refine zG ?_;(repeat refine za ?_);refine zAU ?_;have g0:¬(n.level:Int)<0:=by omega
 have g1:¬(n.sib:Int)<0:=by omega
 have g2:¬(n.way:Int)<0:=by omega
 by_cases a1:n.level<=12
 rotate_left
 ·have b1:(12:Int)<n.level:=by omega
  refine zNF (zr2 g0 b1) ?_;refine zfc ?_ ?_
  ·intro _;refine zO ?_;exact zgm
  ·intro h;cases h
 have b1:¬(12:Int)<n.level:=by omega
 by_cases a2:n.sib<2048
 rotate_left
 ·have b2:(2048:Int)<=n.sib:=by omega
  refine zNF (zr4 g0 b1 g1 b2) ?_;refine zfc ?_ ?_
  ·intro _;refine zO ?_;exact zgm
  ·intro h;cases h
 have b2:¬(2048:Int)<=n.sib:=by omega
 by_cases a3:n.way<=2
 rotate_left
 ·have b3:(2:Int)<n.way:=by omega
  refine zNF (zr6 g0 b1 g1 b2 g2 b3) ?_;refine zfc ?_ ?_
  ·intro _;refine zO ?_;exact zgm
  ·intro h;cases h
 have b3:¬(2:Int)<n.way:=by omega
 have b4:(27:Int)<n.pairs.length:=by omega
 refine zNF (zr7 g0 b1 g1 b2 g2 b3 b4) ?_;refine zfc ?_ ?_
 ·intro _;refine zO ?_;exact zgm
 ·intro h;cases h
def zqj (ws:List Nat)(ok:Bool):FE:=if ok=true then .ret (.tuple [wv 0 ws,iv 0])else ztL
theorem zxH (p:Nat)(n n':zC)(ws:List Nat)(c:Nat)(hlaid:FN ET 106 [zW p n] (.ret (wv 0 ws)))(hck:FN ET 85 [wv 0 ws] (.ret (iv (c:Nat))))(hOf:c=0->FN ET 107 [wv 0 ws] (.ret (.tuple [zW 0 n',iv 0])))(hl:n'.pairs.length<=28)
  (h:n.level<=12/\n.sib<2048/\n.way<=2/\n.pairs.length<=27):FN ET 69 [zW p n] (zqj ws (decide (c=0)&&decide (n'.pairs=n.pairs))):=by
 refine zfn f69 ?_ ?_
 ·unfold zqj;split
  ·exact Lb.two (Lb.uvs _) (.int _ _)
  ·exact Lb.two (Lb.uvs _) (.int _ _)
 obtain⟨a1,a2,a3,a4⟩:=h;refine zG ?_;(repeat refine za ?_);refine zAU ?_;have g0:¬(n.level:Int)<0:=by omega
 have g1:¬(n.sib:Int)<0:=by omega
 have g2:¬(n.way:Int)<0:=by omega
 have b1:¬(12:Int)<n.level:=by omega
 have b2:¬(2048:Int)<=n.sib:=by omega
 have b3:¬(2:Int)<n.way:=by omega
 have b4:¬(27:Int)<n.pairs.length:=by omega
 refine zNF (zr7 g0 b1 g1 b2 g2 b3 b4) ?_;refine zcf ?_;refine zBl ?_;show W _ _ _ _ _ _;refine zI ?_;refine zca hlaid ?_;refine zN ?_;refine zI ?_;refine zca hck ?_
 by_cases h0:c=0
 rotate_left
 ·have g:¬(c:Int)=0:=by omega
  refine zNF g ?_;refine zfc ?_ ?_
  ·intro _;refine zO ?_;rw[decide_eq_false h0];exact zgm
  ·intro h;cases h
 subst h0;refine zN ?_;refine zcf ?_;refine zBl ?_;show W _ _ _ _ _ _;refine zI ?_;refine zca (hOf rfl) ?_;refine zN ?_;refine zI ?_;refine zca (zsN 0 p n'.pairs n.pairs (by omega) (by omega)) ?_;refine zN ?_
 by_cases h1:n'.pairs=n.pairs
 ·rw[decide_eq_true h1];refine zcf ?_;refine zBl ?_;show W _ _ _ _ _ _;refine zO ?_;exact zwm
 ·rw[decide_eq_false h1];refine zfc ?_ ?_
  ·intro _;refine zO ?_;exact zgm
  ·intro h;cases h
def zbh (n:zC):List Nat:=zcs n n.pairs.length
def zm8 (n:zC):Bool:=decide (n.level<=12)&&decide (n.sib<2048)&&decide (n.way<=2)&&decide (n.pairs.length<=27)
def zjQ (n:zC):Bool:=zm8 n&&(decide (zbi (zbh n)=0)&&decide ((headN (zbh n)).pairs=n.pairs))
theorem zkB (n:zC):zm8 n=true↔(n.level<=12/\n.sib<2048/\n.way<=2/\n.pairs.length<=27):=by
 unfold zm8;simp only[zAQ9,decide_eq_true_eq,and_assoc]
theorem zdd {w:List Nat}(h:zbi w=0):headB w=true:=by
 unfold zbi at h
 by_cases hh:headB w=true
 ·exact hh
 ·rw[if_neg hh]at h;cases h
theorem zyJ (p:Nat)(n:zC)(hs:za7 n.pairs.length):FN ET 69 [zW p n] (zqj (zbh n) (zjQ n)):=by
 by_cases hf:zm8 n=true
 ·have h:=(zkB n).1 hf;have hsm:za7 (zbh n).length:=by unfold zbh;rw[zdh];decide
  have k:=zxH p n (headN (zbh n)) (zbh n) (zbi (zbh n)) (zze p n h.1 h.2.1 h.2.2.1 (by omega)) (zkp 0 _ hsm)
   (fun h0=>by have:=zt3 0 (zbh n) hsm;rw[zeg _ (zdd h0)]at this;exact this) (zdz _ _) h
  have:zjQ n=(decide (zbi (zbh n)=0)&&decide ((headN (zbh n)).pairs=n.pairs)):=by unfold zjQ;rw[hf,zBY9]
  rw[this];exact k
 ·have h:¬(n.level<=12/\n.sib<2048/\n.way<=2/\n.pairs.length<=27):=fun h=>hf ((zkB n).2 h);have hf:zm8 n=false:=by simpa using hf
  have:zjQ n=false:=by unfold zjQ;rw[hf,zDQ9]
  rw[this];exact zyI p n h hs
def za9 (k:Nat)(l:List Pr):List (List Pr):=(List.range ((l.length+(k-1))/k)).map fun i=>(l.drop (k*i)).take k
theorem zcM (k:Nat)(l:List Pr):(za9 k l).length=(l.length+(k-1))/k:=by simp[za9]
theorem zhc (k:Nat)(l:List Pr)(i:Nat)(h:i<(za9 k l).length):(za9 k l)[i]?=some ((l.drop (k*i)).take k):=by
 have:=zcM k l;simp[za9,zEI9 (show i<(l.length+(k-1))/k by omega)]
theorem zbE (f:Nat)(a b:List PV):Id0 (.fn f [.elem a,.elem b]):=.fn fun x hx=>by simp at hx;rcases hx with rfl|rfl<;>exact .elem _
@[reducible] def cv (x:Pr):PV:=.agg [uv x.1,iv x.2]
@[reducible] def csv (p:Nat) (l:List Pr):PV:=.list p 2 (l.map cv)
theorem f197:ET.funcs.get 197=some T197:=zH Tryz.func197
theorem f160:ET.funcs.get 160=some T160:=zH Tryz.func160
theorem f196:ET.funcs.get 196=some T196:=zH Tryz.func196
theorem f159:ET.funcs.get 159=some T159:=zH Tryz.func159
theorem f105:ET.funcs.get 105=some T105:=zH Tryz.func105
theorem zsY (id p:Nat)(l:List Pr)(hl:za7 l.length)(P:Nat->List zn)
  (hy:∀(i:Nat) (x:List Pr),(za9 18 l)[i]?=some x->FY ET id [psv p x] (P i) fun r H'=>r=true/\H'=P (i+1)) :
  FO ET 197 [.yield id,.elem [psv p l],.elem [iv 18]] (P 0) false fun e H'=>e=.ret (.tuple [])/\H'=P (za9 18 l).length:=by
 refine zro f197 ?_;have hlen:(za9 18 l).length=(l.length+(18-1))/18:=zcM _ _;refine zG ?_;refine zB (zar (fun m s=>∃i:Nat,m=l.length-18*i/\i<=(za9 18 l).length/\s.tm 0=.yield id/\s.tm 1=.elem [psv p l]/\s.tm 2=.elem [iv 18]/\s.tm 4=iv (18*i:Nat)/\s.df=[]/\s.H=P i) (n:=l.length) ?_ ?_)
 ·exact⟨0,by simp[upd,zq]⟩
 ·rintro m ⟨tm,df,H⟩ ⟨i,rfl,hi,h0,h1,h2,h4,rfl,rfl⟩;dsimp only at h0 h1 h2 h4;(try refine zBp ?_);refine za (zAV (zr4 h0 h1 h2 h4) ?_);refine zwh ?_ ?_
  ·intro hlt;have hlt:18*i<l.length:=by have:=of_decide_eq_true hlt;omega
   have hic:i<(za9 18 l).length:=by omega
   (repeat refine za ?_);refine zB ?_;(repeat refine za ?_);refine zad ?_;have a1:(((18*i:Nat):Int)).toNat=18*i:=by omega
   have a2:min (18:Int) ((l.length-18*i:Nat):Int)=((min 18 (l.length-18*i):Nat):Int):=by omega
   have a3:(0:Int)<=((18*i:Nat):Int):=by omega
   have a4:18*i<=l.length:=by omega
   refine zdl ?_ (by simp(disch:=omega)only[go_sem,h1,h2,h4,a1,a2,a3,a4,zBT9]<;>rfl);refine zL ?_;simp only[go_sem];obtain⟨n,hn⟩:∃n,n=min 18 (l.length-18*i):=⟨_,rfl⟩
   rw[<- hn];have b1:((18*i:Nat):Int)+(n:Nat)=((18*i+n:Nat):Int):=by omega
   have b2:18*i+n<=l.length:=by omega
   have b3:18*i<=18*i+n:=by omega
   have b4:0<l.length:=by omega
   have b5:((18*i:Nat):Int)+18=((18*(i+1):Nat):Int):=by omega
   have c1:List.drop (18*i) (List.take (18*i+n) (List.map pv l))=((l.drop (18*i)).take 18).map pv:=by
    rw[zDL9,zCM9,zEM9,zFR9,hn];rw[<- (show (l.map pv).length=l.length from zAA9 ..),<- zBT9,List.take_eq_take_min (i:=18)]
   (repeat refine za ?_);refine zAU ?_;refine zAW (zr9 h0 h1 h2 h4 b1 b2 b3 b4 c1) ?_;refine zsd (id:=id) (vs:=[psv p ((l.drop (18*i)).take 18)]) rfl (by simp only[go_sem,h0]) (FY.mono (hy i _ (zhc _ _ _ hic)) fun r H' hh=>?_);obtain⟨rfl,rfl⟩:=hh;refine zN ?_;refine zcf ?_;refine zBl ?_;refine zJF (zr3 h2 h4 b5) ?_;refine⟨_,?_,i+1,rfl,by omega,zu h0,zu h1,zu h2,zt,rfl,rfl⟩;omega
  ·intro hlt;have hlt:¬18*i<l.length:=by have:=of_decide_eq_false hlt;omega
   have hic:i=(za9 18 l).length:=by omega
   refine zeO rfl ⟨rfl,by rw[hic]⟩
theorem zw2 (p:Nat)(l:List Pr):FP ET 160 [psv p l,iv 18] (.ret (.fn 197 [.elem [psv p l],.elem [iv 18]])):=by
 refine zfp f160 ?_;refine zT ?_;refine zBl ?_;show W _ _ _ _ _ _;refine zO ?_;refine Frz.fnL ⟨.ptr (w:=psv p l) rfl (zAJ9 _) rfl fun j x y hx hy=>?_,.ptr (w:=iv 18) rfl (zAJ9 _) rfl fun j x y hx hy=>?_,trivial⟩
 ·cases j with
  | zero=>simp[PV.cells]at hx hy;subst hx;subst hy;exact Frz.list _ _ _
  | succ j=>simp at hy
 ·cases j with
  | zero=>simp[PV.cells]at hx hy;subst hx;subst hy;exact Frz.int _ _
  | succ j=>simp at hy
def zn4:zbk:=.region [⟨some 5,.mov,[.tmp 7],none⟩]
def zn9:zbk:=.block 1 (.region [⟨some 8,.load false 1,[.tmp 2],none⟩,⟨some 9,.mov,[.tmp 5],none⟩,⟨some 10,.bslice 41 1 1 [.nilsl] [(0,1)],[.tmp 9],none⟩,⟨some 11,.append 41 1 24,[.tmp 8,.tmp 10],none⟩,⟨none,.store 1,[.tmp 2,.tmp 11],none⟩])
def zeZ (p:Nat)(tm:Nat->PV)(C:List (List Pr))(k:Nat):List zn:=[.row 181 1 0 0 [.sl 1 k 0 k (2*k) 1],.row 41 1 k 0 ((C.take k).map (psv p)),.dfr false,.loop .ready .norm tm [7] zn4 zn9 2]
theorem zts {p:Nat}{C:List (List Pr)}:∀v∈(C.map (psv p)).flatMap PV.cells,Id0 v:=fun v hv=>by
 obtain⟨x,hx,hv⟩:=zBB9.1 hv;obtain⟨n,_,rfl⟩:=zAM9.1 hx;simp[PV.cells]at hv;subst hv;exact .list _ _ _
theorem zvr {p:Nat}{tm:Nat->PV}{C:List (List Pr)}(hnr:∀i,tm i=.bad\/NR 4 (tm i))(k i:Nat)(o:zn)(ho:(zeZ p tm C k)[i]?=some o):NRO 4 o:=by
 match i with
 | 0=>injection ho with ho;subst ho;intro x hx;simp[PV.cells]at hx;subst hx;exact .sl _ _ _ _ _ (by omega)
 | 1=>injection ho with ho;subst ho;exact zob zts
 | 2=>injection ho with ho;subst ho;trivial
 | 3=>injection ho with ho;subst ho;exact⟨by omega,hnr,trivial⟩
 | i+4=>simp[zeZ]at ho
theorem zsL (p:Nat)(tm:Nat->PV)(h2:tm 2=.ptr 0 0 0 0 1)(hnr:∀i,tm i=.bad\/NR 4 (tm i))(C:List (List Pr))(k:Nat)(x:List Pr)(hx:C[k]?=some x)(hC:C.length<1000000) :
  FY ET 3 [psv p x] (zeZ p tm C k) fun r H'=>r=true/\H'=zeZ p tm C (k+1):=by
 have hk:k<C.length:=(zAC9.1 hx).1;have hlt:(C.take k).length=k:=by simp;omega
 refine FY.gc (zmp (tm:=tm) (ps:=[7]) (aS:=zn4) (bo:=zn9) rfl rfl ?_);refine zAU ?_;refine zfx ?_ (by simp(disch:=omega)only[go_sem,h2,zeZ]<;>rfl);refine zr ?_;refine⟨rfl,_,_,_,_,_,_,rfl,?_⟩;refine zB (zAU ?_);have hb:(k+1)*25<=140737488355328:=by omega
 refine zKF (zr3 h2 hlt hb) ?_;have htk:(C.take k).map (psv p)++[psv p x]=(C.take (k+1)).map (psv p):=by
  rw[zBE9,hx];simp
 rw[htk];exact⟨rfl,.busy,.norm,tm,[7],zn4,zn9,2,rfl,zeZ p tm C (k+1),[zn.row 41 1 0 0 [psv p x]],⟨rfl,rfl,fun id o ho=>.inr (zvr hnr (k+1) id o ho)⟩,rfl,rfl⟩
theorem zwp (p:Nat)(l:List Pr)(hl:l.length<1000000):FP ET 196 [.nilsl,.fn 197 [.elem [psv p l],.elem [iv 18]]] (.ret (.list 0 1 ((za9 18 l).map (psv p)))):=by
 refine zfp f196 ?_;refine zG ?_;refine zB ?_;refine zfH 41 1 (id:=0) rfl ?_;simp only[lzy,zAE9,zAF9,zCK9,zAI9,zAK9];refine zl7 (g:=197) (cap:=[.elem [psv p l],.elem [iv 18]]) (b:=false) (by simp only[go_sem]) ?_;have hlen:=zcM 18 l;have hnr:∀i,(upd (upd (upd (zq [.nilsl,.fn 197 [.elem [psv p l],.elem [iv 18]]]) 2 (PV.ptr 0 0 0 0 1)) 4 .nilsl) 6 (.fn 197 [.elem [psv p l],.elem [iv 18]])) i=.bad\/NR 4 ((upd (upd (upd (zq [.nilsl,.fn 197 [.elem [psv p l],.elem [iv 18]]]) 2 (PV.ptr 0 0 0 0 1)) 4 .nilsl) 6 (.fn 197 [.elem [psv p l],.elem [iv 18]])) i) :=
  zfh (zfh (zfh (zoK fun v hv=>by simp at hv;rcases hv with rfl|rfl;exact .nilsl;exact(zbE _ _ _).nr) (.ptr _ _ _ _ (by omega))) .nilsl) (zbE _ _ _).nr
 have hP:=zsY 3 p l (by omega) (zeZ p _ (za9 18 l)) fun k x hk=>zsL p _ rfl hnr (za9 18 l) k x hk (by omega);refine FO.mono (fun e H' he=>?_) hP;obtain⟨rfl,rfl⟩:=he;refine⟨⟨_,rfl⟩,.ready,.norm,_,_,_,_,_,by simp,rfl,?_⟩;refine za (zAU ?_);refine zfx ?_ (by simp(disch:=omega)only[go_sem,zeZ]<;>rfl);refine zh ?_;refine zy ?_;refine zmi (vs:=[.sl 1 (za9 18 l).length 0 (za9 18 l).length (2*(za9 18 l).length) 1]) rfl rfl ?_;refine Frz.whole (e:=41) (z':=1) (G:=(za9 18 l).length) (l:=(za9 18 l).map (psv p)) ?_ rfl (by simp) (by simp) (fun v hv=>?_) zts
 ·simp[zeZ]
 ·obtain⟨x,_,rfl⟩:=zAM9.1 hv;rfl
theorem zp2 (p:Nat)(l:List Pr)(hl:l.length<1000000):FP ET 159 [.fn 197 [.elem [psv p l],.elem [iv 18]]] (.ret (.list 0 1 ((za9 18 l).map (psv p)))):=by
 refine zfp f159 ?_;refine zG ?_;refine zI ?_;refine zbz (by first|rfl|(simp only[go_sem]<;>rfl)) (by simp only[go_sem]<;>rfl) (zwp p l hl) rfl ?_ ?_;(repeat(first|exact trivial|refine And.intro ?_ ?_|exact Id0.int _ _|exact Id0.bool _|exact Id0.list _ _ _|exact Id0.elem _|exact Id0.nilsl|exact Id0.str _|exact zbE _ _ _));refine zP ?_;exact Frz.list _ _ _
theorem zwx (p:Nat)(l:List Pr)(hl:l.length<1000000):FP ET 105 [psv p l,iv 18] (.ret (.list 0 1 ((za9 18 l).map (psv p)))):=by
 refine zfp f105 ?_;refine zG ?_;refine zI ?_;refine zbz (by first|rfl|(simp only[go_sem]<;>rfl)) (by simp only[go_sem]<;>rfl) (zw2 p l) rfl ?_ ?_;(repeat(first|exact trivial|refine And.intro ?_ ?_|exact Id0.int _ _|exact Id0.bool _|exact Id0.list _ _ _|exact Id0.elem _|exact Id0.nilsl|exact Id0.str _|exact zbE _ _ _));refine zfx ?_;refine zbz (by first|rfl|(simp only[go_sem]<;>rfl)) (by simp only[go_sem]<;>rfl) (zp2 p l hl) rfl ?_ ?_;(repeat(first|exact trivial|refine And.intro ?_ ?_|exact Id0.int _ _|exact Id0.bool _|exact Id0.list _ _ _|exact Id0.elem _|exact Id0.nilsl|exact Id0.str _|exact zbE _ _ _));refine zP ?_;exact Frz.list _ _ _
theorem f217:ET.funcs.get 217=some T217:=zH Tryz.func217
theorem f166:ET.funcs.get 166=some T166:=zH Tryz.func166
theorem f216:ET.funcs.get 216=some T216:=zH Tryz.func216
theorem f165:ET.funcs.get 165=some T165:=zH Tryz.func165
theorem f109:ET.funcs.get 109=some T109:=zH Tryz.func109
theorem zs2 (id p:Nat)(l:List Pr)(hl:za7 l.length)(P:Nat->List zn)
  (hy:∀(i:Nat) (x:List Pr),(za9 19 l)[i]?=some x->FY ET id [csv p x] (P i) fun r H'=>r=true/\H'=P (i+1)) :
  FO ET 217 [.yield id,.elem [csv p l],.elem [iv 19]] (P 0) false fun e H'=>e=.ret (.tuple [])/\H'=P (za9 19 l).length:=by
 refine zro f217 ?_;have hlen:(za9 19 l).length=(l.length+(19-1))/19:=zcM _ _;refine zG ?_;refine zB (zar (fun m s=>∃i:Nat,m=l.length-19*i/\i<=(za9 19 l).length/\s.tm 0=.yield id/\s.tm 1=.elem [csv p l]/\s.tm 2=.elem [iv 19]/\s.tm 4=iv (19*i:Nat)/\s.df=[]/\s.H=P i) (n:=l.length) ?_ ?_)
 ·exact⟨0,by simp[upd,zq]⟩
 ·rintro m ⟨tm,df,H⟩ ⟨i,rfl,hi,h0,h1,h2,h4,rfl,rfl⟩;dsimp only at h0 h1 h2 h4;(try refine zBp ?_);refine za (zAV (zr4 h0 h1 h2 h4) ?_);refine zwh ?_ ?_
  ·intro hlt;have hlt:19*i<l.length:=by have:=of_decide_eq_true hlt;omega
   have hic:i<(za9 19 l).length:=by omega
   (repeat refine za ?_);refine zB ?_;(repeat refine za ?_);refine zad ?_;have a1:(((19*i:Nat):Int)).toNat=19*i:=by omega
   have a2:min (19:Int) ((l.length-19*i:Nat):Int)=((min 19 (l.length-19*i):Nat):Int):=by omega
   have a3:(0:Int)<=((19*i:Nat):Int):=by omega
   have a4:19*i<=l.length:=by omega
   refine zdl ?_ (by simp(disch:=omega)only[go_sem,h1,h2,h4,a1,a2,a3,a4,zBT9]<;>rfl);refine zL ?_;simp only[go_sem];obtain⟨n,hn⟩:∃n,n=min 19 (l.length-19*i):=⟨_,rfl⟩
   rw[<- hn];have b1:((19*i:Nat):Int)+(n:Nat)=((19*i+n:Nat):Int):=by omega
   have b2:19*i+n<=l.length:=by omega
   have b3:19*i<=19*i+n:=by omega
   have b4:0<l.length:=by omega
   have b5:((19*i:Nat):Int)+19=((19*(i+1):Nat):Int):=by omega
   have c1:List.drop (19*i) (List.take (19*i+n) (List.map cv l))=((l.drop (19*i)).take 19).map cv:=by
    rw[zDL9,zCM9,zEM9,zFR9,hn];rw[<- (show (l.map cv).length=l.length from zAA9 ..),<- zBT9,List.take_eq_take_min (i:=19)]
   (repeat refine za ?_);refine zAU ?_;refine zAW (zr9 h0 h1 h2 h4 b1 b2 b3 b4 c1) ?_;refine zsd (id:=id) (vs:=[csv p ((l.drop (19*i)).take 19)]) rfl (by simp only[go_sem,h0]) (FY.mono (hy i _ (zhc _ _ _ hic)) fun r H' hh=>?_);obtain⟨rfl,rfl⟩:=hh;refine zN ?_;refine zcf ?_;refine zBl ?_;refine zJF (zr3 h2 h4 b5) ?_;refine⟨_,?_,i+1,rfl,by omega,zu h0,zu h1,zu h2,zt,rfl,rfl⟩;omega
  ·intro hlt;have hlt:¬19*i<l.length:=by have:=of_decide_eq_false hlt;omega
   have hic:i=(za9 19 l).length:=by omega
   refine zeO rfl ⟨rfl,by rw[hic]⟩
theorem zxV (p:Nat)(l:List Pr):FP ET 166 [csv p l,iv 19] (.ret (.fn 217 [.elem [csv p l],.elem [iv 19]])):=by
 refine zfp f166 ?_;refine zT ?_;refine zBl ?_;show W _ _ _ _ _ _;refine zO ?_;refine Frz.fnL ⟨.ptr (w:=csv p l) rfl (zAJ9 _) rfl fun j x y hx hy=>?_,.ptr (w:=iv 19) rfl (zAJ9 _) rfl fun j x y hx hy=>?_,trivial⟩
 ·cases j with
  | zero=>simp[PV.cells]at hx hy;subst hx;subst hy;exact Frz.list _ _ _
  | succ j=>simp at hy
 ·cases j with
  | zero=>simp[PV.cells]at hx hy;subst hx;subst hy;exact Frz.int _ _
  | succ j=>simp at hy
def zn5:zbk:=.region [⟨some 5,.mov,[.tmp 7],none⟩]
def zoA:zbk:=.block 1 (.region [⟨some 8,.load false 1,[.tmp 2],none⟩,⟨some 9,.mov,[.tmp 5],none⟩,⟨some 10,.bslice 134 1 1 [.nilsl] [(0,1)],[.tmp 9],none⟩,⟨some 11,.append 134 1 24,[.tmp 8,.tmp 10],none⟩,⟨none,.store 1,[.tmp 2,.tmp 11],none⟩])
def zfa (p:Nat)(tm:Nat->PV)(C:List (List Pr))(k:Nat):List zn:=[.row 185 1 0 0 [.sl 1 k 0 k (2*k) 1],.row 134 1 k 0 ((C.take k).map (csv p)),.dfr false,.loop .ready .norm tm [7] zn5 zoA 2]
theorem ztO {p:Nat}{C:List (List Pr)}:∀v∈(C.map (csv p)).flatMap PV.cells,Id0 v:=fun v hv=>by
 obtain⟨x,hx,hv⟩:=zBB9.1 hv;obtain⟨n,_,rfl⟩:=zAM9.1 hx;simp[PV.cells]at hv;subst hv;exact .list _ _ _
theorem zvV {p:Nat}{tm:Nat->PV}{C:List (List Pr)}(hnr:∀i,tm i=.bad\/NR 4 (tm i))(k i:Nat)(o:zn)(ho:(zfa p tm C k)[i]?=some o):NRO 4 o:=by
 match i with
 | 0=>injection ho with ho;subst ho;intro x hx;simp[PV.cells]at hx;subst hx;exact .sl _ _ _ _ _ (by omega)
 | 1=>injection ho with ho;subst ho;exact zob ztO
 | 2=>injection ho with ho;subst ho;trivial
 | 3=>injection ho with ho;subst ho;exact⟨by omega,hnr,trivial⟩
 | i+4=>simp[zfa]at ho
theorem zsK (p:Nat)(tm:Nat->PV)(h2:tm 2=.ptr 0 0 0 0 1)(hnr:∀i,tm i=.bad\/NR 4 (tm i))(C:List (List Pr))(k:Nat)(x:List Pr)(hx:C[k]?=some x)(hC:C.length<1000000) :
  FY ET 3 [csv p x] (zfa p tm C k) fun r H'=>r=true/\H'=zfa p tm C (k+1):=by
 have hk:k<C.length:=(zAC9.1 hx).1;have hlt:(C.take k).length=k:=by simp;omega
 refine FY.gc (zmp (tm:=tm) (ps:=[7]) (aS:=zn5) (bo:=zoA) rfl rfl ?_);refine zAU ?_;refine zfx ?_ (by simp(disch:=omega)only[go_sem,h2,zfa]<;>rfl);refine zr ?_;refine⟨rfl,_,_,_,_,_,_,rfl,?_⟩;refine zB (zAU ?_);have hb:(k+1)*25<=140737488355328:=by omega
 refine zKF (zr3 h2 hlt hb) ?_;have htk:(C.take k).map (csv p)++[csv p x]=(C.take (k+1)).map (csv p):=by
  rw[zBE9,hx];simp
 rw[htk];exact⟨rfl,.busy,.norm,tm,[7],zn5,zoA,2,rfl,zfa p tm C (k+1),[zn.row 134 1 0 0 [csv p x]],⟨rfl,rfl,fun id o ho=>.inr (zvV hnr (k+1) id o ho)⟩,rfl,rfl⟩
theorem zvM (p:Nat)(l:List Pr)(hl:l.length<1000000):FP ET 216 [.nilsl,.fn 217 [.elem [csv p l],.elem [iv 19]]] (.ret (.list 0 1 ((za9 19 l).map (csv p)))):=by
 refine zfp f216 ?_;refine zG ?_;refine zB ?_;refine zfH 134 1 (id:=0) rfl ?_;simp only[lzy,zAE9,zAF9,zCK9,zAI9,zAK9];refine zl7 (g:=217) (cap:=[.elem [csv p l],.elem [iv 19]]) (b:=false) (by simp only[go_sem]) ?_;have hlen:=zcM 19 l;have hnr:∀i,(upd (upd (upd (zq [.nilsl,.fn 217 [.elem [csv p l],.elem [iv 19]]]) 2 (PV.ptr 0 0 0 0 1)) 4 .nilsl) 6 (.fn 217 [.elem [csv p l],.elem [iv 19]])) i=.bad\/NR 4 ((upd (upd (upd (zq [.nilsl,.fn 217 [.elem [csv p l],.elem [iv 19]]]) 2 (PV.ptr 0 0 0 0 1)) 4 .nilsl) 6 (.fn 217 [.elem [csv p l],.elem [iv 19]])) i) :=
  zfh (zfh (zfh (zoK fun v hv=>by simp at hv;rcases hv with rfl|rfl;exact .nilsl;exact(zbE _ _ _).nr) (.ptr _ _ _ _ (by omega))) .nilsl) (zbE _ _ _).nr
 have hP:=zs2 3 p l (by omega) (zfa p _ (za9 19 l)) fun k x hk=>zsK p _ rfl hnr (za9 19 l) k x hk (by omega);refine FO.mono (fun e H' he=>?_) hP;obtain⟨rfl,rfl⟩:=he;refine⟨⟨_,rfl⟩,.ready,.norm,_,_,_,_,_,by simp,rfl,?_⟩;refine za (zAU ?_);refine zfx ?_ (by simp(disch:=omega)only[go_sem,zfa]<;>rfl);refine zh ?_;refine zy ?_;refine zmi (vs:=[.sl 1 (za9 19 l).length 0 (za9 19 l).length (2*(za9 19 l).length) 1]) rfl rfl ?_;refine Frz.whole (e:=134) (z':=1) (G:=(za9 19 l).length) (l:=(za9 19 l).map (csv p)) ?_ rfl (by simp) (by simp) (fun v hv=>?_) ztO
 ·simp[zfa]
 ·obtain⟨x,_,rfl⟩:=zAM9.1 hv;rfl
theorem zpW (p:Nat)(l:List Pr)(hl:l.length<1000000):FP ET 165 [.fn 217 [.elem [csv p l],.elem [iv 19]]] (.ret (.list 0 1 ((za9 19 l).map (csv p)))):=by
 refine zfp f165 ?_;refine zG ?_;refine zI ?_;refine zbz (by first|rfl|(simp only[go_sem]<;>rfl)) (by simp only[go_sem]<;>rfl) (zvM p l hl) rfl ?_ ?_;(repeat(first|exact trivial|refine And.intro ?_ ?_|exact Id0.int _ _|exact Id0.bool _|exact Id0.list _ _ _|exact Id0.elem _|exact Id0.nilsl|exact Id0.str _|exact zbE _ _ _));refine zP ?_;exact Frz.list _ _ _
theorem zv1 (p:Nat)(l:List Pr)(hl:l.length<1000000):FP ET 109 [csv p l,iv 19] (.ret (.list 0 1 ((za9 19 l).map (csv p)))):=by
 refine zfp f109 ?_;refine zG ?_;refine zI ?_;refine zbz (by first|rfl|(simp only[go_sem]<;>rfl)) (by simp only[go_sem]<;>rfl) (zxV p l) rfl ?_ ?_;(repeat(first|exact trivial|refine And.intro ?_ ?_|exact Id0.int _ _|exact Id0.bool _|exact Id0.list _ _ _|exact Id0.elem _|exact Id0.nilsl|exact Id0.str _|exact zbE _ _ _));refine zfx ?_;refine zbz (by first|rfl|(simp only[go_sem]<;>rfl)) (by simp only[go_sem]<;>rfl) (zpW p l hl) rfl ?_ ?_;(repeat(first|exact trivial|refine And.intro ?_ ?_|exact Id0.int _ _|exact Id0.bool _|exact Id0.list _ _ _|exact Id0.elem _|exact Id0.nilsl|exact Id0.str _|exact zbE _ _ _));refine zP ?_;exact Frz.list _ _ _
theorem f68:ET.funcs.get 68=some T68:=zH Tryz.func68
def zch (l:List Pr)(i:Nat):zC:=⟨0,0,if 0<i then(l.getD (18*i) (0,0)).1 else 0,9223372036854775808,0,(l.drop (18*i)).take 18⟩
def zbS (l:List Pr):List zC:=if l=[]then[⟨0,0,0,9223372036854775808,0,[]⟩]else(List.range (za9 18 l).length).map (zch l)
theorem zfI {p:Nat}{L:List zC}:∀v∈(L.map (zW p)).flatMap PV.cells,Id0 v:=fun v hv=>by
 obtain⟨x,hx,hv⟩:=zBB9.1 hv;obtain⟨n,_,rfl⟩:=zAM9.1 hx;exact zrW p n v hv
theorem zwr {H:List zn}{id p:Nat}{L:List zC}{e G n:Nat}(hH:H[id]?=some (.row e 6 G 0 (L.map (zW p))))(hn:n=L.length):Frz H 0 (.sl id G 0 n (2*n) 6) (.list 0 6 (L.map (zW p))) :=
 Frz.whole hH rfl (by simp[hn]) (by simp[hn]) (fun v hv=>by obtain⟨x,_,rfl⟩:=zAM9.1 hv;rfl) zfI
theorem zvZ {H:List zn}{id p e G:Nat}(hH:H[id]?=some (.row e 6 G 0 [.agg [iv 0,iv 0,uv 0,uv 9223372036854775808,iv 0,.nilsl]])):Frz H 0 (.sl id G 0 1 2 6) (.list 0 6 [zW p ⟨0,0,0,9223372036854775808,0,[]⟩]):=by
 refine .sl hH (zAS9 _) (zAJ9 _) (by simp) (by simp) rfl (fun v hv=>by simp at hv;subst hv;rfl) rfl fun i x y hx hy=>?_
 match i with
 | 0=>injection hx with hx;injection hy with hy;subst hx hy;exact .int _ _
 | 1=>injection hx with hx;injection hy with hy;subst hx hy;exact .int _ _
 | 2=>injection hx with hx;injection hy with hy;subst hx hy;exact .int _ _
 | 3=>injection hx with hx;injection hy with hy;subst hx hy;exact .int _ _
 | 4=>injection hx with hx;injection hy with hy;subst hx hy;exact .int _ _
 | 5=>injection hx with hx;injection hy with hy;subst hx hy;exact .nil _ _
 | i+6=>simp[PV.cells]at hx
theorem zwE (p:Nat)(l:List Pr)(hl:l.length<1000000):FP ET 68 [psv p l] (.ret (.list 0 6 ((zbS l).map (zW p)))):=by
 refine zfp f68 ?_;refine zG ?_;refine zI ?_;refine zbz (by first|rfl|(simp only[go_sem]<;>rfl)) (by simp only[go_sem]<;>rfl) (zwx p l hl) rfl ?_ ?_;(repeat(first|exact trivial|refine And.intro ?_ ?_|exact Id0.int _ _|exact Id0.bool _|exact Id0.list _ _ _|exact Id0.elem _|exact Id0.nilsl|exact Id0.str _|exact zbE _ _ _));refine zN ?_;have hlen:=zcM 18 l;refine zb2 124 6 (i:=2) rfl ?_;simp only[lzy,zAF9,zAK9];refine zB (zar (fun m s=>∃(i:Nat) (G:List zn),m=(za9 18 l).length-i/\i<=(za9 18 l).length/\s.tm 2=.sl 0 i 0 i (2*i) 6/\s.tm 7=.list 0 1 ((za9 18 l).map (psv p))/\s.tm 8=iv (za9 18 l).length/\s.tm 9=iv i/\s.df=[]/\s.H=.row 124 6 i 0 (((List.range i).map (zch l)).map (zW p))::G) (n:=(za9 18 l).length) ?_ ?_)
 ·exact⟨0,[],rfl,by omega,zt,zt,zt,zt,rfl,rfl⟩
 ·rintro m ⟨tm,df,H⟩ ⟨i,G,rfl,hi,h2,h7,h8,h9,rfl,rfl⟩;dsimp only at h2 h7 h8 h9;(try refine zBp ?_);refine za (zAV (zr4 h2 h7 h8 h9) ?_);refine zwh ?_ ?_
  ·intro hlt;have hlt:i<(za9 18 l).length:=by have:=of_decide_eq_true hlt;omega
   have hci:=zhc 18 l i hlt;have hb:(i+1)*65<=140737488355328:=by omega
   have hil:18*i<l.length:=by omega
   have hc0:((l.drop (18*i)).take 18)[0]?=some (l.getD (18*i) (0,0)):=by
    rw[zBH9,if_pos (by omega),zBU9,zDF9,zAL9,zAB9 hil];rfl
   generalize hc:(l.drop (18*i)).take 18=c at hci hc0;have hrl:((List.range i).map (zch l)).length=i:=by simp
   (repeat refine za ?_);refine zB ?_;refine zGF (zr4 h7 h8 h9 hci) ?_;have hrs:((List.range (i+1)).map (zch l)).map (zW p)=((List.range i).map (zch l)).map (zW p)++[zW p (zch l i)]:=by
    rw[zDG9,zBJ9,zBJ9];rfl
   by_cases hi0:0<i
   ·have g:(0:Int)<i:=by omega
    have hlf:zch l i=⟨0,0,(l.getD (18*i) (0,0)).1,9223372036854775808,0,c⟩:=by unfold zch;rw[if_pos hi0,hc]
    rw[hlf]at hrs;refine zfc ?_ ?_
    ·intro _;refine zAU ?_;refine zKF (zr4 h2 h7 h9 hc0) ?_;refine zGF (zr3 h2 hrl hb) ?_;refine zJF (zr3 h2 hrl hb) ?_;refine zJF h9 ?_;refine⟨_,?m,i+1,?G,rfl,hlt,zt,zu h7,zu h8,zu h9,zt,?H⟩
     case m=>omega
     case H=>(try dsimp only);rw[hrs];rfl
    ·intro h;exact absurd g (of_decide_eq_false h)
   ·obtain rfl:i=0:=by omega
    have hlf:zch l 0=⟨0,0,0,9223372036854775808,0,c⟩:=by unfold zch;rw[if_neg hi0,hc]
    rw[hlf]at hrs;refine zfc ?_ ?_
    ·intro h;exact absurd h (by decide)
    ·intro _;refine zBl ?_;show W _ _ _ _ _ _;refine zGF (zr3 h2 hrl hb) ?_;refine zJF (zr3 h2 hrl hb) ?_;refine zJF h9 ?_;refine⟨_,?m2,0+1,?G2,rfl,hlt,zt,zu h7,zu h8,zu h9,zt,?H2⟩
     case m2=>omega
     case H2=>(try dsimp only);rw[hrs];rfl
  ·intro hlt;have hlt:¬i<(za9 18 l).length:=by have:=of_decide_eq_false hlt;omega
   obtain rfl:i=(za9 18 l).length:=by omega
   by_cases h0:(za9 18 l).length=0
   ·have g:((za9 18 l).length:Int)=0:=by omega
    have hl0:l=[]:=zCO9 (by omega);rw[h0]at h2;have hH:((List.range (za9 18 l).length).map (zch l)).map (zW p)=[]:=by rw[h0];rfl
    rw[hH,h0];refine zGF h2 ?_;refine zfc ?_ ?_
    ·intro _;refine zOF h2 ?_;have:zbS l=[⟨0,0,0,9223372036854775808,0,[]⟩]:=by unfold zbS;rw[if_pos hl0]
     rw[this];exact zvZ rfl
    ·intro h;cases h
   ·have g:¬((za9 18 l).length:Int)=0:=by omega
    have hl0:¬l=[]:=fun h=>h0 (by rw[hlen,h];rfl);refine zGF (zr2 h2 g) ?_;refine zfc ?_ ?_
    ·intro h;cases h
    ·intro _;refine zBl ?_;show W _ _ _ _ _ _;refine zOF h2 ?_;have:zbS l=(List.range (za9 18 l).length).map (zch l):=by unfold zbS;rw[if_neg hl0]
     rw[this];exact zwr rfl (by simp)
theorem f40:ET.funcs.get 40=some T40:=zH Tryz.func40
theorem f90:ET.funcs.get 90=some T90:=zH Tryz.func90
theorem f138:ET.funcs.get 138=some T138:=zH Tryz.func138
def zA (w:List Nat)(b:Nat):List Nat:=(w.take (64*b+64)).drop (64*b)
theorem zyp (p:Nat)(w:List Nat)(b:Nat)(hw:za7 w.length)(hb:64*b+64<=w.length):FP ET 40 [wv p w,iv b] (.ret (wv p (zA w b))):=by
 refine zfp f40 ?_;refine zG ?_;have e1:(64:Int)*(b:Int)=((64*b:Nat):Int):=by omega
 have e2:((64*b:Nat):Int)+64=((64*b+64:Nat):Int):=by omega
 have e3:64*b<=64*b+64:=by omega
 have e4:0<w.length:=by omega
 have e5:List.drop (64*b) (List.take (64*b+64) (List.map uv w))=(zA w b).map uv:=by simp[zA,zCM9,zDL9]
 refine zOF (zr6 e1 e2 e3 e4 hb e5) ?_;exact Frz.list _ _ _
def zbO (n:Nat)(a:Int):Bool:=decide (64<=n)&&decide (n%64=0)&&decide (n<=131072)&&decide (0<=a)&&decide (a<n)
theorem zkI (p:Nat)(w:List Nat)(a:Int)(hw:za7 w.length):FN ET 90 [wv p w,iv a] (if zbO w.length a=true then .ret (.tuple [])else .panic (zcd 2)):=by
 refine zfn f90 ?_ ?_
 ·split
  ·exact Lb.unit
  ·exact .iface (.int _ _)
 refine zAU ?_
 by_cases h1:64<=w.length
 rotate_left
 ·have g1:¬(64:Int)<=w.length:=by omega
  refine zAW g1 ?_;refine zcx (zcg 2) ?_;exact zcP (by simp[zbO,h1])
 have g1:(64:Int)<=w.length:=by omega
 by_cases h2:w.length%64=0
 rotate_left
 ·have g2:¬(w.length:Int).tmod 64=0:=by rw[IntWalk.rem_in _ _ (by omega)];omega
  refine zAW (zr2 g1 g2) ?_;refine zcx (zcg 2) ?_;exact zcP (by simp[zbO,h1,h2])
 have g2:(w.length:Int).tmod 64=0:=by rw[IntWalk.rem_in _ _ (by omega)];omega
 by_cases h3:w.length<=131072
 rotate_left
 ·have g3:¬(w.length:Int)<=131072:=by omega
  refine zAW (zr3 g1 g2 g3) ?_;refine zcx (zcg 2) ?_;exact zcP (by simp[zbO,h1,h2,h3])
 have g3:(w.length:Int)<=131072:=by omega
 by_cases h4:(0:Int)<=a
 rotate_left
 ·refine zAW (zr4 g1 g2 g3 h4) ?_;refine zcx (zcg 2) ?_;exact zcP (by simp[zbO,h1,h2,h3,h4])
 by_cases h5:a<(w.length:Int)
 rotate_left
 ·refine zAW (zr5 g1 g2 g3 h4 h5) ?_;refine zcx (zcg 2) ?_;exact zcP (by simp[zbO,h1,h2,h3,h4,h5])
 refine zAW (zr5 g1 g2 g3 h4 h5) ?_;refine zca (zc6 2) ?_;refine zfx ?_;have:zbO w.length a=true:=by simp[zbO,h1,h2,h3,h4,h5]
 rw[if_pos this];exact zgY (zeO rfl (Frz.tupL trivial))
theorem f70:ET.funcs.get 70=some T70:=zH Tryz.func70
section
variable {α:Type}(G l m n:List α)(x y z:α)
theorem gm0:(G++x::l)[G.length]?=some x:=by simp
theorem gm1:(G++x::l++m)[G.length]?=some x:=by simp
theorem gm2:(G++x::l++m++n)[G.length]?=some x:=by simp
theorem hm0:(G++x::y::l)[G.length+1]?=some y:=by simp[zAP9]
theorem hm1:(G++x::y::l++m)[G.length+1]?=some y:=by rw[zAG9];exact hm0 G _ x y
theorem hm2:(G++x::y::l++m++n)[G.length+1]?=some y:=by rw[zAG9,zAG9];exact hm0 G _ x y
theorem sm0:(G++x::l).set G.length z=G++z::l:=by rw[zCA9 _ _ (zAJ9 _)];simp
theorem sm1:(G++x::l++m).set G.length z=G++z::l++m:=by rw[zAG9,zAG9];exact sm0 G _ x z
theorem sm2:(G++x::l++m++n).set G.length z=G++z::l++m++n:=by rw[zAG9,zAG9,zAG9,zAG9];exact sm0 G _ x z
theorem tm0:(G++x::y::l).set (G.length+1) z=G++x::z::l:=by rw[zCA9 _ _ (by omega)];simp
theorem tm1:(G++x::y::l++m).set (G.length+1) z=G++x::z::l++m:=by rw[zAG9,zAG9];exact tm0 G _ x y z
theorem tm2:(G++x::y::l++m++n).set (G.length+1) z=G++x::z::l++m++n:=by rw[zAG9,zAG9,zAG9,zAG9];exact tm0 G _ x y z
end
def zcG (lv:Nat)(ks:List Pr)(i:Nat):zC:=⟨lv,0,(ks.getD (19*i) (0,0)).1,(ks.getD (19*i) (0,0)).2,0,((ks.drop (19*i)).take 19).drop 1⟩
def zb7 (lv:Nat)(ks:List Pr):List zC:=(List.range (za9 19 ks).length).map (zcG lv ks)
@[reducible] def zz6 (n:zC) (id k:Nat):PV:=.agg [iv n.level,iv n.sib,uv n.low,uv n.left,iv n.way,.sl id k 0 k (2 * k) 2]
theorem LF.append {H:List zn}{lab:Nat}:∀{a b c d:List PV},LF H lab a b->LF H lab c d->LF H lab (a++c) (b++d)
 | [],[],_,_,_,h=>h
 | _::_,_::_,_,_,h,k=>⟨h.1,LF.append h.2 k⟩
theorem LF.get {H:List zn}{lab:Nat}:∀{a b:List PV} {i:Nat} {x y:PV},LF H lab a b->a[i]?=some x->b[i]?=some y->Frz H lab x y
 | [],_,_,_,_,_,hx,_=>by simp at hx
 | _::_,[],_,_,_,h,_,_=>h.elim
 | _::_,_::_,0,_,_,h,hx,hy=>by injection hx with hx;injection hy with hy;subst hx hy;exact h.1
 | _::_,_::_,i+1,_,_,h,hx,hy=>LF.get h.2 hx hy
theorem zt0 {H:List zn}{lab:Nat}:∀{a b:List PV},LF H lab a b->a.length=b.length
 | [],[],_=>rfl
 | _::_,_::_,h=>by simp[zt0 h.2]
theorem LF.flat {H:List zn}{lab:Nat}{α:Type}{f:α->PV}:∀{vs:List PV} {L:List α},vs.length=L.length->(∀(q:Nat) (n:α),L[q]?=some n->∃v,vs[q]?=some v/\LF H lab v.cells (f n).cells)->LF H lab (vs.flatMap PV.cells) ((L.map f).flatMap PV.cells)
 | [],[],_,_=>trivial
 | v::vs,n::L,hl,h=>by
  have h0:=h 0 n rfl;obtain⟨v',e1,e2⟩:=h0;injection e1 with e1;subst e1;exact LF.append e2 (LF.flat (by simpa using hl) fun q m hm=>h (q+1) m hm)
 | [],_::_,hl,_=>by simp at hl
 | _::_,[],hl,_=>by simp at hl
theorem zzd {H:List zn}{id e G k:Nat}{vs:List PV}{L:List zC}(hH:H[id]?=some (.row e 6 G 0 vs))(hl:vs.length=L.length/\k=L.length)(hv:∀(q:Nat) (n:zC),L[q]?=some n->∃i g,vs[q]?=some (zz6 n (i+1) g)/\H[i+1]?=some (.row 66 2 g 0 (n.pairs.map pv))/\g=n.pairs.length):Frz H 0 (.sl id G 0 k (2*k) 6) (.list 0 6 (L.map (zW 0))):=by
 have hf:LF H 0 (vs.flatMap PV.cells) ((L.map (zW 0)).flatMap PV.cells):=LF.flat hl.1 fun q n hn=>by
  obtain⟨i,g,e1,e2,e3⟩:=hv q n hn;refine⟨_,e1,.int _ _,.int _ _,.int _ _,.int _ _,.int _ _,?_,trivial⟩;exact Frz.whole e2 rfl (by simp[e3]) (by simp[e3]) (fun v hv=>by obtain⟨x,_,rfl⟩:=zAM9.1 hv;rfl) zeF
 obtain⟨hl,rfl⟩:=hl;have ht:(vs.drop 0).take L.length=vs:=by rw[zFD9,<- hl,zBG9]
 refine .sl hH (zAS9 _) (zAJ9 _) (by omega) (zAJ9 _) (by simp) (fun v hv=>by obtain⟨x,_,rfl⟩:=zAM9.1 hv;rfl) ?_ ?_
 ·rw[ht];exact zt0 hf
 ·rw[ht];exact fun i x y hx hy=>hf.get hx hy
theorem zxz (p lv:Nat)(ks:List Pr)(hl:ks.length<1000000)(hb:∀x∈ks,x.2<2048):FP ET 70 [csv p ks,iv lv] (.ret (.list 0 6 ((zb7 lv ks).map (zW 0)))):=by
 refine zfp f70 ?_;refine zG ?_;refine zI ?_;refine zbz (by first|rfl|(simp only[go_sem]<;>rfl)) (by simp only[go_sem]<;>rfl) (zv1 p ks hl) rfl ?_ ?_;(repeat(first|exact trivial|refine And.intro ?_ ?_|exact Id0.int _ _|exact Id0.bool _|exact Id0.list _ _ _|exact Id0.elem _|exact Id0.nilsl|exact Id0.str _|exact zbE _ _ _));refine zN ?_;have hlen:=zcM 19 ks;refine zb2 124 6 (i:=4) rfl ?_;simp only[lzy,zAF9,zAK9];refine zB (zar (fun m s=>∃(i:Nat) (vs:List PV) (G:List zn),m=(za9 19 ks).length-i/\i<=(za9 19 ks).length/\vs.length=i/\(∀j,j<i->∃id,vs[j]?=some (zz6 (zcG lv ks j) (id+1) (zcG lv ks j).pairs.length)/\G[id]?=some (.row 66 2 (zcG lv ks j).pairs.length 0 ((zcG lv ks j).pairs.map pv)))/\s.tm 1=iv lv/\s.tm 4=.sl 0 i 0 i (2*i) 6/\s.tm 11=.list 0 1 ((za9 19 ks).map (csv p))/\s.tm 12=iv (za9 19 ks).length/\s.tm 13=iv i/\s.df=[]/\s.H=.row 124 6 i 0 vs::G) (n:=(za9 19 ks).length) ?_ ?_)
 ·exact⟨0,[],[],rfl,by omega,rfl,(fun j hj=>by omega),zt,zt,zt,zt,zt,rfl,rfl⟩
 ·rintro m ⟨tm,df,H⟩ ⟨i,vs,G,rfl,hi,hvl,hvs,h1,h4,h11,h12,h13,rfl,rfl⟩;dsimp only at h1 h4 h11 h12 h13;(try refine zBp ?_);refine za (zAV (zr5 h1 h4 h11 h12 h13) ?_);refine zwh ?_ ?_
  ·intro hlt;have hlt:i<(za9 19 ks).length:=by have:=of_decide_eq_true hlt;omega
   have hci:=zhc 19 ks i hlt;have hil:19*i<ks.length:=by omega
   have hc0:((ks.drop (19*i)).take 19)[0]?=some (ks.getD (19*i) (0,0)):=by
    rw[zBH9,if_pos (by omega),zBU9,zDF9,zAL9,zAB9 hil];rfl
   have hx2:(ks.getD (19*i) (0,0)).2<2048:=by
    rw[zAL9,zAB9 hil];exact hb _ (zBN9 hil)
   have hcm:∀x∈(ks.drop (19*i)).take 19,x.2<2048:=fun x hx=>hb x (zBW9 (zBX9 hx));have hcl:((ks.drop (19*i)).take 19).length<=19:=by simp;omega
   obtain⟨nd,hnd⟩:∃nd,nd=zcG lv ks i:=⟨_,rfl⟩
   have hnd2:nd=⟨lv,0,(ks.getD (19*i) (0,0)).1,(ks.getD (19*i) (0,0)).2,0,((ks.drop (19*i)).take 19).drop 1⟩:=hnd;generalize (ks.drop (19*i)).take 19=c at hci hc0 hcm hcl hnd2;generalize ks.getD (19*i) (0,0)=c0 at hc0 hx2 hnd2;(repeat refine za ?_);refine zB ?_;refine zGF (zr3 h11 h13 hci) ?_;(repeat refine za ?_);refine zad ?_;refine zA0 (zr2 h1 hc0) ?_;refine zQF h1 ?_;have hcd:List.drop 1 (List.map cv c)=(c.drop 1).map cv:=by simp[zCM9]
   have hcp:1<=c.length:=by have:=(zAC9.1 hc0).1;omega
   refine zGF (zr2 hcd hcp) ?_;refine zeN 66 2 (id:=G.length+1) (v:=.agg [iv lv,iv 0,uv c0.1,uv c0.2,iv 0,.nilsl]) (v':=.agg [iv lv,iv 0,uv c0.1,uv c0.2,iv 0,.sl (G.length+1+1) 0 0 0 0 2]) (e0:=124) (z0:=6) (G:=0) (M:=0) (by simp only[zAY9,zb]<;>rfl) rfl (fun k x y hx hy=>?_) ?_
   ·match k with
    | 0=>injection hx with hx;injection hy with hy;subst hx hy;exact .inl rfl
    | 1=>injection hx with hx;injection hy with hy;subst hx hy;exact .inl rfl
    | 2=>injection hx with hx;injection hy with hy;subst hx hy;exact .inl rfl
    | 3=>injection hx with hx;injection hy with hy;subst hx hy;exact .inl rfl
    | 4=>injection hx with hx;injection hy with hy;subst hx hy;exact .inl rfl
    | 5=>injection hx with hx;injection hy with hy;subst hx hy;exact .inr ⟨rfl,by simp[lzy]⟩
    | k+6=>simp[PV.cells]at hx
   simp only[zCI9,zo,zAI9,zAG9,zAK9];generalize hD:c.drop 1=D at *
   have hDl:D.length<=19:=by rw[<- hD];simp;omega
   have hDm:∀x∈D,x.2<2048:=fun x hx=>hcm x (by rw[<- hD]at hx;exact zBW9 hx);refine zB (zar (fun m s=>∃(j:Nat) (G2:List zn),m=D.length-j/\j<=D.length/\s.tm 1=iv lv/\s.tm 4=.sl 0 i 0 i (2*i) 6/\s.tm 11=.list 0 1 ((za9 19 ks).map (csv p))/\s.tm 12=iv (za9 19 ks).length/\s.tm 13=iv i/\s.tm 7=.ptr (G.length+1) 0 0 0 6/\s.tm 29=csv p D/\s.tm 30=iv D.length/\s.tm 31=iv j/\s.df=[] /\
    s.H=.row 124 6 i 0 vs::(G++.row 124 6 0 0 [.agg [iv lv,iv 0,uv c0.1,uv c0.2,iv 0,.sl (G.length+1+1) j 0 j (2*j) 2]]::.row 66 2 j 0 ((D.take j).map pv)::G2)) (n:=D.length) ?_ ?_)
   ·exact⟨0,[],rfl,by omega,zu h1,zu h4,zu h11,zu h12,zu h13,zt,zt,zt,zt,rfl,rfl⟩
   ·clear h1 h4 h11 h12 h13;rintro m ⟨tm,df,H⟩ ⟨j,G2,rfl,hj,h1,h4,h11,h12,h13,h7,h29,h30,h31,rfl,rfl⟩;dsimp only at h1 h4 h11 h12 h13 h7 h29 h30 h31;(try refine zBp ?_);refine za (zAV (zr3 h29 h30 h31) ?_);refine zwh ?_ ?_
    ·intro hlt;have hlt:j<D.length:=by have:=of_decide_eq_true hlt;omega
     have hy2:D[j].2<2048:=hDm _ (zBN9 hlt);have hbb:(j+1)*17<=140737488355328:=by omega
     have htl:(D.take j).length=j:=by simp;omega
     (repeat refine za ?_);refine zB ?_;refine zGF (zr3 h29 h31 (zAB9 hlt)) ?_;(repeat refine za ?_);refine zrg ?_ (by simp(disch:=omega)only[go_sem,h7,gm0,gm1,gm2,hm0,hm1,hm2,sm0,sm1,sm2,tm0,tm1,tm2,htl,hbb]<;>rfl);refine zr ?_;refine zJF h31 ?_;have htk:(D.take j).map pv++[PV.agg [uv D[j].1,uv D[j].2]]=(D.take (j+1)).map pv:=by
      rw[zFX9 hlt,zBJ9];rfl
     refine⟨_,?m,j+1,?G,rfl,hlt,zu h1,zu h4,zu h11,zu h12,zu h13,zu h7,zu h29,zu h30,zu h31,zt,?H⟩
     case m=>omega
     case H=>(try dsimp only);rw[<- htk];simp only[zAG9,zAI9];rfl
    ·intro hlt2;have hlt2:¬j<D.length:=by have:=of_decide_eq_false hlt2;omega
     obtain rfl:j=D.length:=by omega
     rw[zBG9];have hbb:(i+1)*65<=140737488355328:=by omega
     (repeat refine za ?_);refine zrg ?_ (by simp(disch:=omega)only[go_sem,h7,h4,gm0,hvl,hbb]<;>rfl);refine zr ?_;refine zJF h13 ?_;refine⟨_,?m2,i+1,?V2,?G2,rfl,hlt,?L2,?F2,zu h1,zt,zu h11,zu h12,zu h13,zt,?H2⟩
     case H2=>rfl
     case m2=>omega
     case L2=>simp[hvl]
     case F2 =>
      intro q hq
      by_cases hqi:q=i
      ·refine⟨G.length+1,?_,?_⟩
       ·rw[hqi,<- hnd,hnd2,zAP9 (by omega),hvl];simp
       ·rw[hqi,<- hnd,hnd2,zAG9];exact hm0 ..
      ·obtain⟨id,e1,e2⟩:=hvs q (by omega);refine⟨id,?_,?_⟩
       ·rw[zAV9 (by omega)];exact e1
       ·rw[zAG9,zAV9 (zAC9.1 e2).1];exact e2
  ·intro hlt;have hlt:¬i<(za9 19 ks).length:=by have:=of_decide_eq_false hlt;omega
   obtain rfl:i=(za9 19 ks).length:=by omega
   refine zOF h4 ?_;refine zzd (L:=zb7 lv ks) rfl ⟨by simp[zb7,hvl],by simp[zb7]⟩ fun q n hn=>?_;have hq:q<(za9 19 ks).length:=by have:=(zAC9.1 hn).1;simpa[zb7]using this
   obtain⟨id,e1,e2⟩:=hvs q hq;have hnq:n=zcG lv ks q:=by
    simp[zb7,hq]at hn;exact hn.symm
   subst hnq;exact⟨_,_,e1,e2,rfl⟩
theorem f102:ET.funcs.get 102=some T102:=zH Tryz.func102
theorem zsn (p q:Nat)(a b:List Pr)(ha:za7 a.length)(hb:za7 b.length):FN ET 102 [csv p a,csv q b] (.ret (.bool (decide (a=b)))):=by
 refine zfn f102 (.bool _) ?_;refine zG ?_
 by_cases hl:a.length=b.length
 rotate_left
 ·have g:¬(a.length:Int)=b.length:=by omega
  have hne:¬a=b:=fun h=>hl (by rw[h]);refine zfc ?_ ?_
  ·intro _;refine zO ?_;exact za0.bool (decide_eq_false hne).symm
  ·intro h;simp[g]at h
 have g:(a.length:Int)=b.length:=by omega
 refine zfc ?_ ?_
 ·intro h;simp[g]at h
 intro _;refine zBl ?_;show W _ _ _ _ _ _;refine zG ?_;refine zB (zar (fun m s=>∃i:Nat,m=a.length-i/\i<=a.length/\decide (a=b)=decide (a.drop i=b.drop i)/\s.tm 0=csv p a/\s.tm 1=csv q b/\s.tm 12=iv a.length/\s.tm 13=iv i/\s.df=[]/\s.H=[]) (n:=a.length) ?_ ?_)
 ·exact⟨0,by simp[upd,zq]⟩
 ·rintro m ⟨tm,df,H⟩ ⟨i,rfl,hi,hd,h0,h1,h12,h13,rfl,rfl⟩;dsimp only at h0 h1 h12 h13;(try refine zBp ?_);refine za (zAV (zr4 h0 h1 h12 h13) ?_);refine zwh ?_ ?_
  ·intro hlt;have hlt:i<a.length:=by have:=of_decide_eq_true hlt;omega
   have hltb:i<b.length:=by omega
   (repeat refine za ?_);refine zB ?_;refine zGF h13 ?_;(repeat refine za ?_);refine zad ?_;refine zdl ?_ (by simp(disch:=omega)only[go_sem,h0,h1,h13,zAB9 hlt,zAB9 hltb,zuS]<;>rfl);refine zL ?_;simp only[go_sem];have hda:a.drop i=a[i]::a.drop (i+1):=zAW9 hlt;have hdb:b.drop i=b[i]::b.drop (i+1):=zAW9 hltb;rw[hda,hdb]at hd;have hee:(decide (((a[i].1:Nat):Int)=(b[i].1:Nat))&&decide (((a[i].2:Nat):Int)=(b[i].2:Nat)))=decide (a[i]=b[i]):=by
    rw[<- Bool.decide_and]
    congr 1
    rw[Prod.ext_iff];simp only[Int.natCast_inj]
   rw[hee]
   by_cases hx:a[i]=b[i]
   ·refine zfc ?_ ?_
    ·rw[decide_eq_true hx];intro h;cases h
    ·intro _;refine zBl ?_;refine zJF h13 ?_;refine⟨_,?_,i+1,rfl,hlt,?_,zu h0,zu h1,zu h12,zu h13,zt,zt⟩
     ·omega
     ·rw[hd];simp only[hx,List.cons.injEq,true_and]
   ·refine zfc ?_ ?_
    ·intro _;refine zO ?_;exact za0.bool (by rw[hd];simp only[List.cons.injEq,hx,false_and,decide_false,Bool.not_false])
    ·rw[decide_eq_false hx];intro h;cases h
  ·intro hlt;have hlt:¬i<a.length:=by have:=of_decide_eq_false hlt;omega
   obtain rfl:i=a.length:=by omega
   refine zO ?_;refine za0.bool ?_;rw[hd,zBM9,hl,zBM9];rfl
def zbT (L:List zC)(n:zC)(lv:Int):Bool:=match L.getLast? with
 | none=>decide (n.low=0)&&(decide (lv<0)||decide ((n.level:Int)=lv))
 | some z=>decide (z.low<n.low)&&decide (n.level=z.level)
@[reducible] def zby (p q:Nat) (bs:List Nat) (L:List zC):PV:=.agg [.list p 1 (bs.map fun (b:Nat)=>iv (b:Int)),.list p 6 (L.map (zW q))]
theorem zzC (p q q':Nat)(bs:List Nat)(L:List zC)(n:zC)(lv:Int)(hl:za7 L.length):FN ET 138 [zby p q bs L,zW q' n,iv lv] (.ret (.bool (zbT L n lv))):=by
 obtain⟨nl,ns,nlo,nle,nw,np⟩:=n;refine zfn f138 (.bool _) ?_;refine za (zAU ?_);refine zN ?_;refine zG ?_
 by_cases h0:L.length=0
 ·have g0:(L.length:Int)=0:=by omega
  obtain rfl:L=[]:=zCO9 h0;refine zfc ?_ ?_
  ·intro _;refine za (zAU ?_)
   by_cases h1:nlo=0
   ·have g1:(nlo:Int)=0:=by omega
    by_cases h2:lv<0
    ·refine zPF (zr2 g1 h2) ?_;exact za0.bool (by simp[zbT,h1,h2])
    ·refine zPF (zr2 g1 h2) ?_;exact za0.bool (by simp[zbT,h1,h2])
   ·have g1:¬(nlo:Int)=0:=by omega
    refine zPF g1 ?_;exact za0.bool (by simp[zbT,h1])
  ·intro h;cases h
 ·have g0:¬(L.length:Int)=0:=by omega
  refine zfc ?_ ?_
  ·intro h;exact absurd (of_decide_eq_true h) g0
  ·intro _;refine zBl ?_;show W _ _ _ _ _ _;obtain⟨z,hz⟩:∃z,L.getLast?=some z:=by
    cases hh:L.getLast? with
    | none=>rw[zDA9]at hh;subst hh;simp at h0
    | some z=>exact⟨z,rfl⟩
   have hz2:L[L.length-1]?=some z:=by rw[<- zCJ9];exact hz
   have e1:(L.length:Int)-1=((L.length-1:Nat):Int):=by omega
   have hg:zbT L ⟨nl,ns,nlo,nle,nw,np⟩ lv=(decide (z.low<nlo)&&decide (nl=z.level)):=by unfold zbT;rw[hz]
   rw[hg];obtain⟨zl,zs,zlo,zle,zw,zp⟩:=z;refine zGF (zr2 e1 hz2) ?_;refine zAU ?_
   by_cases h1:zlo<nlo
   ·have g1:(zlo:Int)<nlo:=by omega
    refine zPF g1 ?_;exact za0.bool (by simp[h1];try omega)
   ·have g1:¬(zlo:Int)<nlo:=by omega
    refine zPF g1 ?_;exact za0.bool (by simp[h1])
theorem f43:ET.funcs.get 43=some T43:=zH Tryz.func43
def zdv (z:Option zC)(x:Pr):Bool:=match z with
 | some z=>!decide (z.low<=x.1)
 | none=>true
def levP:List zC->List Pr
 | []=>[]
 | n::M=>n.pairs.filter (zdv M.head?)++levP M
theorem zpQ (L:List zC)(i:Nat)(h:i<L.length):levP (L.drop i)=L[i].pairs.filter (zdv L[i+1]?)++levP (L.drop (i+1)):=by
 rw[zAW9 h,levP,List.head?_drop]
theorem zjp:∀(a:List Pr) (x:Pr),zbn (a++[x])=(zbn a&&(match a.getLast? with|some y=>decide (y.1<x.1)|none=>true))
 | [],_=>rfl
 | [a],x=>by simp[zbn]
 | a::b::l,x=>by
  have:=zjp (b::l) x;rw[zAI9,zAI9,zbn,<- zAI9,this,zbn,zEH9,Bool.and_assoc]
theorem zjP:∀(a b:List Pr),zbn (a++b)=true->zbn a=true
 | [],_,_=>rfl
 | [_],_,_=>rfl
 | a::c::l,b,h=>by
  rw[zAI9,zAI9,zbn,<- zAI9,zAQ9]at h;rw[zbn,h.1,zBY9];exact zjP (c::l) b h.2
def zf7 (L:List zC):FE:=if zbn (levP L)=true then .ret (.tuple [psv 0 (levP L),.bool true])else .ret (.tuple [psv 0 [],.bool false])
theorem zyr {H:List zn}{L:List zC}{acc:List Pr}{x:Pr}{r:List Pr}(hall:levP L=acc++x::r)(hx:∃y,acc.getLast?=some y/\¬y.1<x.1):za0 H 0 (.ret (.tuple [.nilsl,.bool false])) (zf7 L):=by
 have:zbn (levP L)=false:=by
  cases h:zbn (levP L)with
  | false=>rfl
  | true =>
   rw[hall,<- List.singleton_append,<- zAG9]at h;have h2:=zjP _ _ h;obtain⟨y,e1,e2⟩:=hx;rw[zjp,e1]at h2;simp[e2]at h2
 unfold zf7;rw[this];exact Frz.tupL ⟨.nil _ _,.bool _,trivial⟩
def zdN (acc:List Pr)(x:Pr):Bool:=match acc.getLast? with
 | some y=>decide (x.1<=y.1)
 | none=>false
theorem znr {acc:List Pr}{x:Pr}(h:zdN acc x=true):∃y,acc.getLast?=some y/\¬y.1<x.1:=by
 unfold zdN at h
 cases hh:acc.getLast? with
 | none=>rw[hh]at h;cases h
 | some y=>rw[hh]at h;exact⟨y,rfl,by have:=of_decide_eq_true h;omega⟩
theorem zBg {acc:List Pr}{x:Pr}(h:zbn acc=true)(hb:zdN acc x=false):zbn (acc++[x])=true:=by
 rw[zjp,h,zBY9];unfold zdN at hb
 cases hh:acc.getLast? with
 | none=>rfl
 | some y=>rw[hh]at hb;have:=of_decide_eq_false hb;simp;omega
theorem zlK (p q:Nat)(bs:List Nat)(L:List zC)(hl:L.length<1000000)(hp:∀n∈L,n.pairs.length<=28)(hall:(levP L).length<1000000):FN ET 43 [zby p q bs L] (zf7 L):=by
 refine zfn f43 ?_ ?_
 ·unfold zf7;split
  ·exact Lb.two (Lb.pvs _) (.bool _)
  ·exact Lb.two (Lb.pvs _) (.bool _)
 refine za (zAU ?_);refine zN ?_;refine zG ?_;refine zb2 66 2 (i:=2) rfl ?_;simp only[lzy,zAE9,zAF9,zAI9,zAK9];refine zB (zar (fun m s=>∃(i:Nat) (acc:List Pr) (G:List zn),m=L.length-i/\i<=L.length/\levP L=acc++levP (L.drop i)/\zbn acc=true/\s.tm 1=.ptr 0 0 0 0 2/\s.tm 2=.sl 1 acc.length 0 acc.length (2*acc.length) 2/\s.tm 10=.list p 6 (L.map (zW q))/\s.tm 11=iv L.length/\s.tm 12=iv i/\s.df=[]/\s.H=.row 100 2 0 0 [zby p q bs L]::.row 66 2 acc.length 0 (acc.map pv)::G) (n:=L.length) ?_ ?_)
 ·exact⟨0,[],[],rfl,by omega,rfl,rfl,zt,zt,zt,zt,zt,rfl,rfl⟩
 ·rintro m ⟨tm,df,H⟩ ⟨i,acc,G,rfl,hi,hac,hri,h1,h2,h10,h11,h12,rfl,rfl⟩;dsimp only at h1 h2 h10 h11 h12;(try refine zBp ?_);refine za (zAV (zr5 h1 h2 h10 h11 h12) ?_);refine zwh ?_ ?_
  ·intro hlt;have hlt:i<L.length:=by have:=of_decide_eq_true hlt;omega
   have hLi:=zAB9 hlt;rw[zpQ L i hlt]at hac;have hn28:=hp _ (zBN9 hlt);generalize L[i]=n at *
   (repeat refine za ?_);refine zB ?_;refine zGF (zr3 h10 h12 hLi) ?_;generalize hR:levP (List.drop (i+1) L)=R at hac;refine zB (zar (fun m s=>∃(j:Nat) (acc:List Pr) (G:List zn),m=n.pairs.length-j/\j<=n.pairs.length/\levP L=acc++((n.pairs.drop j).filter (zdv L[i+1]?)++R)/\zbn acc=true/\s.tm 1=.ptr 0 0 0 0 2/\s.tm 2=.sl 1 acc.length 0 acc.length (2*acc.length) 2/\s.tm 4=iv i/\s.tm 10=.list p 6 (L.map (zW q))/\s.tm 11=iv L.length/\s.tm 12=iv i/\s.tm 18=psv q n.pairs/\s.tm 19=iv n.pairs.length/\s.tm 20=iv j/\s.df=[]/\s.H=.row 100 2 0 0 [zby p q bs L]::.row 66 2 acc.length 0 (acc.map pv)::G) (n:=n.pairs.length) ?_ ?_)
   ·exact⟨0,acc,_,rfl,by omega,hac,hri,zu h1,zu h2,zt,zu h10,zu h11,zu h12,zt,zt,zt,rfl,rfl⟩
   ·clear h1 h2 h10 h11 h12 hac hri;rintro m ⟨tm,df,H⟩ ⟨j,acc,G,rfl,hj,hac,hri,h1,h2,h4,h10,h11,h12,h18,h19,h20,rfl,rfl⟩;dsimp only at h1 h2 h4 h10 h11 h12 h18 h19 h20;(try refine zBp ?_);refine za (zAV (zr3 h18 h19 h20) ?_);refine zwh ?_ ?_
    ·intro hltj;have hltj:j<n.pairs.length:=by have:=of_decide_eq_true hltj;omega
     have hxj:=zAB9 hltj;rw[zAW9 hltj,zBR9]at hac;generalize n.pairs[j]=x at *
     (repeat refine za ?_);refine zB ?_;refine zGF (zr3 h18 h20 hxj) ?_;(repeat refine za ?_);refine zbD (Q:=fun y s'=>y=.norm/\s'.tm 1=.ptr 0 0 0 0 2/\s'.tm 2=.sl 1 acc.length 0 acc.length (2*acc.length) 2/\s'.tm 4=iv i/\s'.tm 10=.list p 6 (L.map (zW q))/\s'.tm 11=iv L.length/\s'.tm 12=iv i/\s'.tm 18=psv q n.pairs/\s'.tm 19=iv n.pairs.length/\s'.tm 20=iv j/\s'.tm 41=.bool (!zdv L[i+1]? x)/\s'.tm 7=.ptr (G.length+1+1) 0 0 0 2/\s'.df=[]/\s'.H=.row 100 2 0 0 [zby p q bs L]::.row 66 2 acc.length 0 (acc.map pv)::(G++[.row 66 2 0 0 [pv x]])) (zad ?_) ?_
     ·have e1:((i:Int)+1)=((i+1:Nat):Int):=by omega
      by_cases hi1:i+1<L.length
      ·have g1:((i+1:Nat):Int)<(L.length:Nat):=by omega
       have hz:=zAB9 hi1;rw[hz];generalize L[i+1]=z at *
       refine zQF (zr5 h1 h4 e1 g1 hz) ?_;exact⟨h1,h2,h4,h10,h11,h12,h18,h19,h20,by simp[zdv]⟩
      ·have g1:¬((i+1:Nat):Int)<(L.length:Nat):=by omega
       have hz:L[i+1]?=none:=zBP9 (by omega);rw[hz];refine zQF (zr5 h1 h4 e1 g1 hz) ?_;exact⟨h1,h2,h4,h10,h11,h12,h18,h19,h20,by simp[zdv]⟩
     ·clear h1 h2 h4 h10 h11 h12 h18 h19 h20;rintro y ⟨tm,df,H⟩ ⟨rfl,h1,h2,h4,h10,h11,h12,h18,h19,h20,h41,h7,rfl,rfl⟩;dsimp only at h1 h2 h4 h10 h11 h12 h18 h19 h20 h41 h7
      by_cases hk:zdv L[i+1]? x=true
      rotate_left
      ·rw[if_neg hk]at hac;have hk:zdv L[i+1]? x=false:=by simpa using hk
       refine zfc ?_ ?_ (by simp only[go_sem,h41]<;>rfl)
       ·intro _;refine zhE ?_;refine zJF h20 ?_;refine⟨_,?m1,j+1,acc,_,rfl,hltj,hac,hri,zu h1,zu h2,zu h4,zu h10,zu h11,zu h12,zu h18,zu h19,zu h20,rfl,rfl⟩
        case m1=>omega
       ·rw[hk];intro h;cases h
      rw[if_pos hk]at hac;refine zfc ?_ ?_ (by simp only[go_sem,h41]<;>rfl)
      ·rw[hk];intro h;cases h
      intro _;refine zBl ?_;show W _ _ _ _ _ _;refine zGF h2 ?_;have hal:acc.length<1000000:=by have:=congrArg List.length hac;simp only[zAD9]at this;omega
      have hH:∀G2:List zn,True:=fun _=>trivial;refine zbD (Q:=fun y s'=>y=.norm/\s'.tm 1=.ptr 0 0 0 0 2/\s'.tm 2=.sl 1 acc.length 0 acc.length (2*acc.length) 2/\s'.tm 4=iv i/\s'.tm 10=.list p 6 (L.map (zW q))/\s'.tm 11=iv L.length/\s'.tm 12=iv i/\s'.tm 18=psv q n.pairs/\s'.tm 19=iv n.pairs.length/\s'.tm 20=iv j/\s'.tm 56=.bool (zdN acc x)/\s'.tm 7=.ptr (G.length+1+1) 0 0 0 2/\s'.df=[]/\s'.H=.row 100 2 0 0 [zby p q bs L]::.row 66 2 acc.length 0 (acc.map pv)::(G++[.row 66 2 0 0 [pv x]])) (zad ?_) ?_
      ·by_cases ha0:acc.length=0
       ·have g1:¬(0:Int)<(acc.length:Nat):=by omega
        refine zQF (zr2 h2 g1) ?_;obtain rfl:acc=[]:=zCO9 ha0;exact⟨h1,h2,h4,h10,h11,h12,h18,h19,h20,rfl,h7⟩
       ·have g1:(0:Int)<(acc.length:Nat):=by omega
        have e1:(acc.length:Int)-1=((acc.length-1:Nat):Int):=by omega
        have e2:acc.length-1<acc.length:=by omega
        obtain⟨y,hy⟩:∃y,acc.getLast?=some y:=by
         cases hh:acc.getLast? with
         | none=>rw[zDA9]at hh;subst hh;simp at ha0
         | some y=>exact⟨y,rfl⟩
        have hy2:acc[acc.length-1]?=some y:=by rw[<- zCJ9];exact hy
        refine zQF (zr6 h2 h7 g1 e1 e2 hy2) ?_;exact⟨h1,h2,h4,h10,h11,h12,h18,h19,h20,by simp[zdN,hy],h7⟩
      ·clear h1 h2 h4 h10 h11 h12 h18 h19 h20 h41 h7;rintro y ⟨tm,df,H⟩ ⟨rfl,h1,h2,h4,h10,h11,h12,h18,h19,h20,h56,h7,rfl,rfl⟩;dsimp only at h1 h2 h4 h10 h11 h12 h18 h19 h20 h56 h7
       by_cases hk2:zdN acc x=true
       ·refine zfc ?_ ?_ (by simp only[go_sem,h56]<;>rfl)
        ·intro _;refine zO ?_;exact zyr hac (znr hk2)
        ·rw[hk2];intro h;cases h
       have hk2:zdN acc x=false:=by simpa using hk2
       refine zfc ?_ ?_ (by simp only[go_sem,h56]<;>rfl)
       ·rw[hk2];intro h;cases h
       intro _;refine zBl ?_;have hbb:(acc.length+1)*17<=140737488355328:=by omega
       refine zJF (zr3 h2 h7 hbb) ?_;refine zJF h20 ?_;refine⟨_,?m3,j+1,acc++[x],?G3,rfl,hltj,by rw[hac];simp,zBg hri hk2,zu h1,zt,zu h4,zu h10,zu h11,zu h12,zu h18,zu h19,zu h20,zt,?H3⟩
       case m3=>omega
       case H3=>(try dsimp only);rw[zBJ9,zAD9];rfl
    ·intro hltj;have hltj:¬j<n.pairs.length:=by have:=of_decide_eq_false hltj;omega
     obtain rfl:j=n.pairs.length:=by omega
     refine zJF h12 ?_;rw[zBM9,List.filter_nil,zAK9,<- hR]at hac;refine⟨_,?m9,i+1,acc,G,rfl,hlt,hac,hri,zu h1,zu h2,zu h10,zu h11,zu h12,rfl,rfl⟩
     case m9=>omega
  ·intro hlt;have hlt:¬i<L.length:=by have:=of_decide_eq_false hlt;omega
   obtain rfl:i=L.length:=by omega
   refine zOF h2 ?_;rw[zBM9,levP,zDO9]at hac;unfold zf7;rw[hac,if_pos hri];refine Frz.tupL ⟨?_,.bool _,trivial⟩;exact Frz.whole (l:=acc.map pv) rfl rfl (by simp) (by simp) (fun v hv=>by obtain⟨x,_,rfl⟩:=zAM9.1 hv;rfl) zeF
end Fv
end Go.Proofs.YtfomlmhnmheenaaGreat
namespace Go.Proofs.YtfomlmhnmheenaaGreat
namespace Fv
def zdC:Nat->List Nat->Nat
 | 0,_=>0
 | n+1,s=>zdC n s+if s.contains n=true then 0 else 1
theorem zpR:∀(n b:Nat) (s:List Nat),zdC n (b::s)<=zdC n s
 | 0,_,_=>zAJ9 _
 | n+1,b,s=>by
  have:=zpR n b s;rw[zdC,zdC]
  by_cases h:s.contains n=true
  ·have h2:(b::s).contains n=true:=by rw[List.contains_cons,h,zGE9]
   rw[if_pos h,if_pos h2];omega
  ·rw[if_neg h];split<;>omega
theorem zkn:∀(n b:Nat) (s:List Nat),b<n->¬s.contains b=true->zdC n (b::s)<zdC n s
 | 0,_,_,h,_=>by omega
 | n+1,b,s,h,hs=>by
  rw[zdC,zdC]
  by_cases hb:b=n
  ·subst hb;have:=zpR b b s;have h2:(b::s).contains b=true:=by simp
   rw[if_neg hs,if_pos h2];omega
  ·have:=zkn n b s (by omega) hs
   by_cases h3:s.contains n=true
   ·have h2:(b::s).contains n=true:=by rw[List.contains_cons,h3,zGE9]
    rw[if_pos h3,if_pos h2];omega
   ·rw[if_neg h3];split<;>omega
theorem ziE:∀(n b:Nat) (s:List Nat),zdC n s=0->b<n->s.contains b=true
 | 0,_,_,_,h=>by omega
 | n+1,b,s,h,hb=>by
  rw[zdC]at h
  by_cases h3:s.contains n=true
  ·by_cases hbn:b=n
   ·subst hbn;exact h3
   ·exact ziE n b s (by omega) (by omega)
  ·rw[if_neg h3]at h;omega
theorem zjk:∀(n:Nat) (s:List Nat),zdC n s<=n
 | 0,_=>zAJ9 _
 | n+1,s=>by have:=zjk n s;rw[zdC];split<;>omega
abbrev Lev:=List Nat×List zC
def zbs (w:List Nat)(lv:Int):Nat->List Nat->List Nat->List zC->Nat->Option (List Nat×List Nat×List zC)
 | 0,seen,bs,ns,b=>if b=0 then some (seen,bs,ns)else none
 | k+1,seen,bs,ns,b=>if b=0 then some (seen,bs,ns)else
  if decide (w.length/64<=b)||seen.contains b then none else
  if headB (zA w b)&&zbT ns (headN (zA w b)) lv then zbs w lv k (b::seen) (bs++[b]) (ns++[headN (zA w b)]) (headN (zA w b)).sib else none
def zbB (w:List Nat):Nat->List Nat->List Lev->Nat->Int->List Lev×Bool
 | 0,_,acc,_,_=>(acc,false)
 | d+1,seen,acc,b,lv=>match zbs w lv (w.length/64) seen [] [] b with
  | none=>(acc,false)
  | some (_,_,[])=>(acc,false)
  | some (seen',bs,n::ns)=>if n.level=0 then(acc++[(bs,n::ns)],zbn (levP (n::ns)))else zbB w d seen' (acc++[(bs,n::ns)]) n.left ((n.level:Int)-1)
def zac (w:List Nat)(a:Nat):List Lev×Bool:=zbB w 14 [] [] (w.getD a 0) (-1)
end Fv
end Go.Proofs.YtfomlmhnmheenaaGreat
namespace Go.Proofs.YtfomlmhnmheenaaGreat
namespace Fv
open Tw
structure zcQ (n:zC):Prop where
 level:n.level<=12
 sib:n.sib<2048
 way:n.way<=2
 few:n.pairs.length<=27
 rise:zbn n.pairs=true
 ptrs:zcn [n.left] n.pairs=true
 may:∀p∈n.pairs,zb1 n p=true
 left:(n.level=0/\n.left=9223372036854775808)\/(0<n.level/\zc0 n.left=true)
theorem zel (p:Nat):zc0 p=true↔(1<=p/\p<2048):=by unfold zc0;simp
theorem zqU {n:zC}{p:Pr}(h:zb1 n p=true):p.2≠0:=by
 unfold zb1 at h
 split at h
 ·simp only[zAQ9,decide_eq_true_eq]at h;omega
 ·rw[zAQ9,zel]at h;omega
theorem zdy:∀l:List Pr,(zbH l).length=2*l.length
 | []=>rfl
 | a::l=>by have:=zdy l;simp only[zbH,zBS9,zAD9,zAE9,zAF9]at this⊢;omega
theorem zdU (a:Pr)(l:List Pr):zbH (a::l)=a.1::a.2::zbH l:=by simp[zbH]
theorem zjO (a:Pr)(l:List Pr):zbH (l++[a])=zbH l++[a.1,a.2]:=by simp[zbH]
theorem zsR:∀(m prev:Nat),zab prev (List.replicate m 0)=[]
 | 0,_=>rfl
 | 1,_=>rfl
 | m+2,prev=>by rw[zDJ9,zDJ9,zab,if_pos rfl]
theorem zlG (m:Nat):∀(ps:List Pr) (seen:List Nat) (prev:Nat),zcn seen ps=true->prev∈seen->(∀p∈ps,p.2≠0)->zab prev (zbH ps++List.replicate m 0)=ps
 | [],_,prev,_,_,_=>by rw[show zbH []=[]from rfl,zAK9];exact zsR m prev
 | a::ps,seen,prev,h,hm,hz=>by
  rw[zcn,zAQ9,zCU9]at h;have h1:¬a.2=prev:=by
   intro e;subst e;have:seen.contains a.2=true:=by simpa using hm
   rw[this]at h;cases h.1
  rw[zdU,zAI9,zAI9,zab,if_neg (hz a (zAU9 ..)),if_neg h1];rw[zlG m ps (a.2::seen) a.2 h.2 (zAU9 ..) fun p hp=>hz p (zAT9 _ hp)]
theorem zpI (m:Nat):∀ps:List Pr,(∀p∈ps,p.2≠0)->zbr (zbH ps++List.replicate m 0)=ps.length
 | [],_=>by
  rw[show zbH []=[]from rfl,zAK9]
  match m with
  | 0=>rfl
  | 1=>rfl
  | m+2=>rw[zDJ9,zDJ9,zbr,if_pos rfl];rfl
 | a::ps,hz=>by
  rw[zdU,zAI9,zAI9,zbr,if_neg (hz a (zAU9 ..)),zpI m ps fun p hp=>hz p (zAT9 _ hp)];rfl
theorem zps:∀m,zd4 (List.replicate m 0)=true
 | 0=>rfl
 | 1=>rfl
 | m+2=>by rw[zDJ9,zDJ9,zd4,zps m];rfl
theorem ztF (A B:List Nat)(k x y a b:Nat)(hk:k=A.length):((A++x::y::B).set k a).set (k+1) b=A++a::b::B:=by
 subst hk;rw[zCA9 _ _ (zAJ9 _),zCA9 _ _ (by omega)];simp
theorem zxQ (n:zC):zbW n 5=zm7 n++List.replicate 56 0:=rfl
theorem zqz (n:zC)(h:n.pairs.length<=28):∀j,j<=n.pairs.length->zcs n j=zm7 n++zbH (n.pairs.take j)++List.replicate (56-2*j) 0
 | 0,_=>by rw[zcs,zxQ];rfl
 | j+1,hj=>by
  have hr:List.replicate (56-2*j) 0=0::0::List.replicate (56-2*(j+1)) 0:=by
   rw[show 56-2*j=(56-2*(j+1))+1+1 by omega,zDJ9,zDJ9]
  have hl:(zm7 n++zbH (n.pairs.take j)).length=8+2*j:=by
   rw[zAD9,zdy,zBA9];simp[zm7];omega
  rw[zcs,zqz n h j (by omega),hr,ztF _ _ _ _ _ _ _ hl.symm];have ht:n.pairs.take (j+1)=n.pairs.take j++[n.pairs.getD j (0,0)]:=by
   rw[zBE9,zAL9,zAB9 (by omega)];rfl
  rw[ht,zjO];simp[zAG9]
theorem zl9 (n:zC)(h:n.pairs.length<=28):zbh n=zm7 n++(zbH n.pairs++List.replicate (56-2*n.pairs.length) 0):=by
 unfold zbh;rw[zqz n h _ (zAJ9 _),zBG9,zAG9]
theorem zdg (n:zC):(zbh n).length=64:=zdh n _
section
variable {n:zC}(h:zcQ n)
include h
theorem zcQ.rowL:(zbH n.pairs++List.replicate (56-2*n.pairs.length) 0).length=56:=by
 have:=h.few;rw[zAD9,zdy,List.length_replicate];omega
theorem zcQ.left0:n.left≠0:=by
 rcases h.left with⟨_,e⟩|⟨_,e⟩
 ·rw[e];decide
 ·rw[zel]at e;omega
theorem zcQ.row:zbx n.left (zbH n.pairs++List.replicate (56-2*n.pairs.length) 0).length=true:=by
 rw[h.rowL];unfold zbx;simp[h.left0]
theorem zcQ.read:zbv n.left (zbH n.pairs++List.replicate (56-2*n.pairs.length) 0)=n.pairs:=by
 unfold zbv;rw[if_pos h.row];exact zlG _ _ [n.left] _ h.ptrs (zAU9 ..) fun p hp=>zqU (h.may p hp)
theorem zcQ.drop8:(zbh n).drop 8=zbH n.pairs++List.replicate (56-2*n.pairs.length) 0:=by
 rw[zl9 n (by have:=h.few;omega)];rfl
theorem zcQ.parts:(zbh n).getD 0 0=7522529147838689024+n.level/\(zbh n).getD 1 0=n.sib/\(zbh n).getD 2 0=n.low/\(zbh n).getD 3 0=n.left/\(zbh n).getD 4 0=n.way:=by
 rw[zl9 n (by have:=h.few;omega)];exact⟨rfl,rfl,rfl,rfl,rfl⟩
omit h in
theorem zoY (k:Nat):zf0 (7522529147838689024+k)=k:=by rw[zkW,zFR9]
omit h in
theorem zxE {w:List Nat}{a b c d e:Nat}{ps:List Pr}(h0:zf0 (w.getD 0 0)=a)(h1:w.getD 1 0=b)(h2:w.getD 2 0=c)(h3:w.getD 3 0=d)(h4:w.getD 4 0=e)(h5:zbv d (w.drop 8)=ps):headN w=⟨a,b,c,d,e,ps⟩:=by
 unfold headN;rw[h0,h1,h2,h3,h4,h5]
theorem zcQ.headN:headN (zbh n)=n:=by
 obtain⟨p0,p1,p2,p3,p4⟩:=h.parts;exact zxE (by rw[p0];exact zoY n.level) p1 p2 p3 p4 (by rw[h.drop8];exact h.read)
theorem zcQ.headB:headB (zbh n)=true:=by
 obtain⟨p0,p1,p2,p3,p4⟩:=h.parts;unfold Fv.headB;rw[zAQ9,zAQ9,p0,zoY];refine⟨⟨by rw[zdg];rfl,by rw[zl9 n (by have:=h.few;omega)];rfl⟩,?_⟩;rw[zBL9];intro i hi;have hi:i<5:=zCT9.1 hi
 match i,hi with
 | 0,_=>rw[p0,zcR,zAQ9,decide_eq_true_eq,decide_eq_true_eq];exact⟨zFY9 _ _,Nat.add_le_add_left h.level _⟩
 | 1,_=>rw[p1,zcR,decide_eq_true_eq];exact h.sib
 | 2,_=>rfl
 | 3,_ =>
  rw[p3,zcR];rcases h.left with⟨e1,e2⟩|⟨e1,e2⟩
  ·rw[e1,e2];rfl
  ·rw[e2,decide_eq_true e1,zFV9,zGE9]
 | 4,_=>rw[p4];show decide (n.way<=2)=true;rw[decide_eq_true_eq];exact h.way
theorem zcQ.slots:zbt n.left ((zbh n).drop 8)=0:=by
 have hne:∀p∈n.pairs,p.2≠0:=fun p hp=>zqU (h.may p hp);unfold zbt;rw[h.drop8,if_pos h.row,if_pos];unfold zb9;rw[h.read,h.rise,h.ptrs,zpI _ _ hne,h.rowL];have hd:(zbH n.pairs++List.replicate (56-2*n.pairs.length) 0).drop (2*n.pairs.length)=List.replicate (56-2*n.pairs.length) 0:=by
  rw[<- zdy,List.drop_left]
 rw[hd,zps];have:=h.few;simp;omega
theorem zcQ.check:zbi (zbh n)=0:=by
 unfold zbi zet;rw[if_pos h.headB,if_pos];rw[h.headN,h.slots];simp only[decide_true,zBY9,zCU9,List.any_eq_false,zEN9];intro p hp;rw[h.may p hp];simp
theorem zcQ.make:zjQ n=true:=by
 unfold zjQ;rw[h.check,h.headN,(zkB n).2 ⟨h.level,h.sib,h.way,h.few⟩];simp
end
structure zw4 (lv:Nat)(ns:List zC):Prop where
 ne:ns ≠ []
 each:∀n∈ns,zcQ n/\n.level=lv/\n.sib=0
 low0:∀n,ns[0]?=some n->n.low=0
 rise:∀i n m,ns[i]?=some n->ns[i+1]?=some m->n.low<m.low
 below:∀i n m,ns[i]?=some n->ns[i+1]?=some m->∀p∈n.pairs,p.1<m.low
def zbq:List Nat->List zC->List zC
 | _::bs,n::ns=>{ n with sib:=bs.headD 0 }::zbq bs ns
 | _,_=>[]
theorem zcV:∀(bs:List Nat) (ns:List zC),bs.length=ns.length->(zbq bs ns).length=ns.length
 | [],[],_=>rfl
 | _::bs,n::ns,h=>by rw[zbq,zAE9,zAE9,zcV bs ns (by simpa using h)]
 | [],_::_,h=>by simp at h
 | _::_,[],h=>by simp at h
theorem zei:∀(bs:List Nat) (ns:List zC) (i:Nat) (n:zC),bs.length=ns.length->ns[i]?=some n->(zbq bs ns)[i]?=some { n with sib:=bs.getD (i+1) 0 }
 | [],[],i,n,_,h=>by simp at h
 | [],_::_,_,_,h,_=>by simp at h
 | _::_,[],_,_,h,_=>by simp at h
 | b::bs,n::ns,i,m,hl,h=>by
  rw[zbq]
  match i with
  | 0 =>
   rw[zFQ9]at h⊢;injection h with h;subst h
   cases bs<;>rfl
  | i+1 =>
   rw[zAY9]at h⊢;rw[zei bs ns i m (by simpa using hl) h];rfl
theorem zvY {bs:List Nat}{ns:List zC}(hl:bs.length=ns.length)(h:ns ≠ []):zbq bs ns ≠ []:=by
 intro e;have:=zcV bs ns hl;rw[e]at this;exact h (zCO9 this.symm)
def after:Option Nat->Nat->Prop
 | none,n=>n=0
 | some l,n=>l<n
def zlc (lv:Nat):Option Nat->List Nat->List zC->Prop
 | _,[],[]=>True
 | pl,b::bs,n::ns=>1<=b/\b<2048/\zcQ n/\n.level=lv/\n.sib=bs.headD 0/\after pl n.low/\(∀m,ns.head?=some m->∀p∈n.pairs,p.1<m.low)/\zlc lv (some n.low) bs ns
 | _,[],_::_=>False
 | _,_::_,[]=>False
theorem zcQ.setSib {n:zC}(h:zcQ n){s:Nat}(hs:s<2048):zcQ { n with sib:=s }:=⟨h.level,hs,h.way,h.few,h.rise,h.ptrs,h.may,h.left⟩
theorem zrc (lv:Nat):∀(bs:List Nat) (ns:List zC) (pl:Option Nat),bs.length=ns.length->(∀b∈bs,1<=b/\b<2048)->(∀n∈ns,zcQ n/\n.level=lv)->(∀n,ns[0]?=some n->after pl n.low)->(∀i n m,ns[i]?=some n->ns[i+1]?=some m->n.low<m.low)->(∀i n m,ns[i]?=some n->ns[i+1]?=some m->∀p∈n.pairs,p.1<m.low)->zlc lv pl bs (zbq bs ns)
 | [],[],_,_,_,_,_,_,_=>trivial
 | [],_::_,_,h,_,_,_,_,_=>by simp at h
 | _::_,[],_,h,_,_,_,_,_=>by simp at h
 | b::bs,n::ns,pl,hl,hb,hn,h0,hr,hw=>by
  have hs:bs.headD 0<2048:=by
   cases bs with
   | nil=>decide
   | cons c bs=>exact(hb c (by simp)).2
  have hl':bs.length=ns.length:=by simpa using hl
  have hg:=hn n (zAU9 ..);refine⟨(hb b (zAU9 ..)).1,(hb b (zAU9 ..)).2,hg.1.setSib hs,hg.2,rfl,h0 n rfl,?_,?_⟩
  ·intro m hm p hp
   cases ns with
   | nil=>cases bs<;>simp[zbq]at hm
   | cons c ns =>
    cases bs with
    | nil=>simp at hl'
    | cons d bs =>
     simp[zbq]at hm;subst hm;exact hw 0 n c rfl rfl p hp
  ·refine zrc lv bs ns (some n.low) hl' (fun c hc=>hb c (zAT9 _ hc)) (fun c hc=>hn c (zAT9 _ hc)) ?_ (fun i a c ha hc=>hr (i+1) a c ha hc) (fun i a c ha hc=>hw (i+1) a c ha hc);intro m hm;exact hr 0 n m rfl hm
def zdE (w:List Nat)(bs:List Nat)(ns:List zC):Prop:=∀(i b:Nat) (n:zC),bs[i]?=some b->ns[i]?=some n->b<w.length/64/\zA w b=zbh n
theorem zdE.tail {w:List Nat}{b:Nat}{bs:List Nat}{n:zC}{ns:List zC}(h:zdE w (b::bs) (n::ns)):zdE w bs ns:=fun i c m hc hm=>h (i+1) c m hc hm
def zcC (n:zC):List Pr:=(n.low,n.left)::n.pairs
def zcU (L:Lev):List Pr:=(L.2.map zC.low).zip L.1
def zp4:List Lev->Prop
 | []=>False
 | [L]=>zlc 0 none L.1 L.2/\L.2 ≠ []
 | L::M::T=>zlc (T.length+1) none L.1 L.2/\L.2 ≠ []/\L.2.flatMap zcC=zcU M/\zp4 (M::T)
def ze8 (b:Nat)(ws:List Nat):List Pr:=(List.range ws.length).map fun k=>(64*b+k,ws.getD k 0)
def zax (w:List Nat)(l:List Pr):List Nat:=l.foldl (fun w x=>w.set x.1 x.2) w
theorem zfk (w:List Nat)(a b:List Pr):zax w (a++b)=zax (zax w a) b:=zGU9
theorem zcZ:∀(l:List Pr) (w:List Nat),(zax w l).length=w.length
 | [],_=>rfl
 | x::l,w=>by show (zax (w.set x.1 x.2) l).length=_;rw[zcZ l,zCP9]
def ze3 (bs:List Nat)(ns:List zC):List Pr:=(bs.zip ns).flatMap fun x=>ze8 x.1 (zbh x.2)
def zcD (T:List Lev):List Pr:=T.flatMap fun L=>ze3 L.1 L.2
theorem zec:∀l:List Pr,zbn l=true↔∀(i:Nat) (x y:Pr),l[i]?=some x->l[i+1]?=some y->x.1<y.1
 | []=>⟨fun _ i x y h=>by simp at h,fun _=>rfl⟩
 | [a]=>⟨fun _ i x y _ h=>by simp at h,fun _=>rfl⟩
 | a::b::l=>by
  rw[zbn,zAQ9,decide_eq_true_eq,zec (b::l)];refine⟨fun h i x y hx hy=>?_,fun h=>⟨h 0 a b rfl rfl,fun i x y hx hy=>h (i+1) x y hx hy⟩⟩
  match i with
  | 0=>injection hx with hx;injection hy with hy;subst hx hy;exact h.1
  | i+1=>exact h.2 i x y hx hy
theorem zfz {l:List Pr}(h:zbn l=true):∀(k i:Nat) (x y:Pr),l[i]?=some x->l[i+k+1]?=some y->x.1<y.1
 | 0,i,x,y,hx,hy=>(zec l).1 h i x y hx hy
 | k+1,i,x,y,hx,hy=>by
  have hlen:=(zAC9.1 hy).1;have hz:l[i+k+1]?=some l[i+k+1]:=zAB9 (by omega);exact Nat.lt_trans (zfz h k i x _ hx hz) ((zec l).1 h _ _ _ hz hy)
theorem zjU {l:List Pr}(h:zbn l=true)(k:Nat):zbn (l.drop k)=true:=by
 rw[zec]at h⊢;intro i x y hx hy;rw[zBU9]at hx hy;exact h (k+i) x y hx (by rw[<- hy];rfl)
theorem zmY {l:List Pr}(h:zbn l=true)(k:Nat):zbn (l.take k)=true:=by
 have:zbn (l.take k++l.drop k)=true:=by rw[zER9];exact h
 exact zjP _ _ this
theorem zeY:∀(l:List Pr) (seen:List Nat),zcn seen l=true↔(l.map Prod.snd).Nodup/\∀p∈l,¬p.2∈seen
 | [],seen=>by simp[zcn]
 | a::l,seen=>by
  rw[zcn,zAQ9,zCU9,zeY l (a.2::seen),zCC9,zEB9];have:(seen.contains a.2=false)↔¬a.2∈seen:=by rw[<- zEN9,zDE9]
  rw[this]
  constructor
  ·rintro ⟨h1,h2,h3⟩;refine⟨⟨fun hm=>?_,h2⟩,fun p hp=>?_⟩
   ·obtain⟨p,hp,e⟩:=zAM9.1 hm;exact h3 p hp (by rw[e];exact zAU9 ..)
   ·rcases zAX9.1 hp with rfl|hp
    ·exact h1
    ·exact fun h=>h3 p hp (zAT9 _ h)
  ·rintro ⟨⟨h1,h2⟩,h3⟩;refine⟨h3 a (zAU9 ..),h2,fun p hp h=>?_⟩;rcases zAX9.1 h with e|h
   ·exact h1 (zAM9.2 ⟨p,hp,e⟩)
   ·exact h3 p (zAT9 _ hp) h
theorem ziv (k:Nat)(l:List Pr):∀m,((List.range m).map fun i=>(l.drop (k*i)).take k).flatten=l.take (k*m)
 | 0=>by simp
 | m+1=>by
  rw[zDG9,zBJ9,List.flatten_append,ziv k l m,Nat.mul_succ,List.take_add];simp
theorem zh7:∀L:List zC,(∀(i:Nat) (n m:zC),L[i]?=some n->L[i+1]?=some m->∀p∈n.pairs,p.1<m.low)->levP L=L.flatMap zC.pairs
 | [],_=>rfl
 | n::L,h=>by
  rw[levP,zBS9,zh7 L fun i a b ha hb=>h (i+1) a b ha hb]
  congr 1
  rw[List.filter_eq_self];intro p hp;unfold zdv
  cases hh:L.head? with
  | none=>rfl
  | some m =>
   have:=h 0 n m rfl (by rw[List.head?_eq_getElem?]at hh;exact hh) p hp;simp;omega
theorem zeS:∀(bs:List Nat) (ns:List zC),bs.length=ns.length->(zbq bs ns).flatMap zC.pairs=ns.flatMap zC.pairs/\(zbq bs ns).map zC.low=ns.map zC.low/\(zbq bs ns).flatMap zcC=ns.flatMap zcC
 | [],[],_=>⟨rfl,rfl,rfl⟩
 | [],_::_,h=>by simp at h
 | _::_,[],h=>by simp at h
 | b::bs,n::ns,h=>by
  obtain⟨h1,h2,h3⟩:=zeS bs ns (by simpa using h);simp[zbq,h1,h2,h3,zcC]
def okP (l:List Pr):Bool:=zbn l&&zcn [] l&&l.all fun p=>decide (1<=p.2)&&decide (p.2<=1099511627776)
theorem zog (l:List Pr):okP l=true↔zbn l=true/\(l.map Prod.snd).Nodup/\∀p∈l,1<=p.2/\p.2<=1099511627776:=by
 unfold okP;rw[zAQ9,zAQ9,zeY,zBL9];simp[and_assoc]
theorem zkc {l:List Pr}{a k:Nat}{p:Pr}(h:p∈(l.drop a).take k):∃j,j<k/\l[a+j]?=some p:=by
 obtain⟨j,hj,e⟩:=zBO9.1 h;have:=zAB9 hj;rw[e,zBH9]at this;have hjk:j<k:=by have:=hj;simp at this;omega
 rw[if_pos hjk,zBU9]at this;exact⟨j,hjk,this⟩
theorem zlr {l:List Pr}(h:(l.map Prod.snd).Nodup)(a k:Nat):(((l.drop a).take k).map Prod.snd).Nodup :=
 h.sublist (((List.take_sublist k _).trans (List.drop_sublist a l)).map _)
theorem getD_some {l:List Pr}{i:Nat}{x:Pr}(h:l[i]?=some x):l.getD i (0,0)=x:=by rw[zAL9,h];rfl
theorem get_lt (l:List Pr){i:Nat}(h:i<l.length):l[i]?=some (l.getD i (0,0)):=by rw[zAL9,zAB9 h];rfl
theorem zv4 {l:List Pr}(h:okP l=true)(i:Nat)(hi:18*i<l.length\/i=0):zcQ (zch l i):=by
 rw[zog]at h;obtain⟨h1,h2,h3⟩:=h;have hm:∀p∈(zch l i).pairs,∃j,j<18/\l[18*i+j]?=some p:=fun p hp=>zkc hp;refine⟨zAS9 _,show 0<2048 by decide,zAS9 _,?_,?_,?_,fun p hp=>?_,.inl ⟨rfl,rfl⟩⟩
 ·show ((l.drop (18*i)).take 18).length<=27;rw[zBA9];omega
 ·exact zmY (zjU h1 _) _
 ·rw[zeY];refine⟨zlr h2 _ _,fun p hp hq=>?_⟩;obtain⟨j,_,hj⟩:=hm p hp;have:=h3 p (zAO9 hj);have hq:p.2=9223372036854775808:=zBF9.1 hq;omega
 ·obtain⟨j,hjk,hj⟩:=hm p hp;have:=h3 p (zAO9 hj);have hl:(zch l i).low<=p.1:=by
   show (if 0<i then(l.getD (18*i) (0,0)).1 else 0)<=p.1
   split
   ·have hlen:=(zAC9.1 hj).1
    match j with
    | 0=>rw[zDF9]at hj;rw[getD_some hj];exact zAJ9 _
    | j+1=>exact Nat.le_of_lt (zfz h1 j _ _ _ (get_lt l (by omega)) hj)
   ·exact zAS9 _
  unfold zb1;rw[if_pos (show (zch l i).level=0 from rfl)];simp[this.1,this.2,hl]
theorem zhe (l:List Pr):zbS l=(List.range (max 1 ((l.length+17)/18))).map (zch l):=by
 unfold zbS
 split
 ·rename_i h;subst h;rfl
 ·rename_i h;have:0<l.length:=zBV9.2 h;rw[zcM,Nat.max_eq_right (by omega)]
theorem zeA (l:List Pr):(zbS l).length=max 1 ((l.length+17)/18):=by rw[zhe];simp
theorem zeC {n:Nat}{f:Nat->zC}{i:Nat}{x:zC}(h:((List.range n).map f)[i]?=some x):i<n/\x=f i:=by
 have hi:i<n:=by have:=(zAC9.1 h).1;simpa using this
 rw[zAH9,zEI9 hi]at h;injection h with h;exact⟨hi,h.symm⟩
theorem zuc {l:List Pr}(h:okP l=true):zw4 0 (zbS l)/\levP (zbS l)=l:=by
 have h':=(zog l).1 h;obtain⟨h1,h2,h3⟩:=h';rw[zhe];have hsm:∀i,i<max 1 ((l.length+17)/18)->18*i<l.length\/i=0:=fun i hi=>by omega
 have hbelow:∀(i:Nat) (n m:zC),((List.range (max 1 ((l.length+17)/18))).map (zch l))[i]?=some n->((List.range (max 1 ((l.length+17)/18))).map (zch l))[i+1]?=some m->∀p∈n.pairs,p.1<m.low:=by
  intro i n m hn hm p hp;obtain⟨hi,rfl⟩:=zeC hn;obtain⟨hj,rfl⟩:=zeC hm;obtain⟨j,hjk,hj⟩:=zkc hp;show p.1<(if 0<i+1 then(l.getD (18*(i+1)) (0,0)).1 else 0);rw[if_pos (zCQ9 _)];exact zfz h1 (17-j) _ _ _ hj (by rw[show 18*i+j+(17-j)+1=18*(i+1) by omega];exact get_lt l (by omega))
 refine⟨⟨?_,?_,?_,?_,hbelow⟩,?_⟩
 ·intro e;have:=congrArg List.length e;simp at this
 ·intro n hn;obtain⟨i,hi,rfl⟩:=zAM9.1 hn;exact⟨zv4 h i (hsm i (zCT9.1 hi)),rfl,rfl⟩
 ·intro n hn;obtain⟨_,rfl⟩:=zeC hn;rfl
 ·intro i n m hn hm;obtain⟨hi,rfl⟩:=zeC hn;obtain⟨hj,rfl⟩:=zeC hm;show (if 0<i then(l.getD (18*i) (0,0)).1 else 0)<(if 0<i+1 then(l.getD (18*(i+1)) (0,0)).1 else 0);rw[if_pos (zCQ9 _)];have hlt:18*(i+1)<l.length:=by omega
  split
  ·exact zfz h1 17 _ _ _ (get_lt l (by omega)) (get_lt l hlt)
  ·exact Nat.lt_of_le_of_lt (zAS9 _) ((zec l).1 h1 (18*(i+1)-1) _ _ (get_lt l (by omega)) (by rw[show 18*(i+1)-1+1=18*(i+1) by omega];exact get_lt l hlt))
 ·rw[zh7 _ hbelow,List.flatMap_map];have:=ziv 18 l (max 1 ((l.length+17)/18));rw[zCS9 (by omega)]at this;refine Eq.trans ?_ this;rw[List.flatMap_def];rfl
theorem zlQ (ks:List Pr)(i:Nat)(hi:19*i<ks.length):(ks.drop (19*i)).take 19=ks.getD (19*i) (0,0)::((ks.drop (19*i)).take 19).drop 1:=by
 have hd:ks.drop (19*i)=ks[19*i]::ks.drop (19*i+1):=zAW9 hi;have hg:ks.getD (19*i) (0,0)=ks[19*i]:=by rw[zAL9,zAB9 hi];rfl
 rw[hg,hd];rfl
theorem zu5 {lv:Nat}{ks:List Pr}{i:Nat}(hi:19*i<ks.length):zcC (zcG lv ks i)=(ks.drop (19*i)).take 19:=by
 rw[zlQ ks i hi];rfl
theorem zud {lv:Nat}{ks:List Pr}(h1:1<=lv/\lv<=12)(hr:zbn ks=true)(hn:(ks.map Prod.snd).Nodup)(hb:∀x∈ks,1<=x.2/\x.2<2048)(i:Nat)(hi:19*i<ks.length):zcQ (zcG lv ks i):=by
 have hc:=zlQ ks i hi;have hrc:zbn ((ks.drop (19*i)).take 19)=true:=zmY (zjU hr _) _;have hnc:=zlr hn (19*i) 19;rw[hc]at hnc;rw[zCC9,zEB9]at hnc;have hm:∀p∈(zcG lv ks i).pairs,p∈(ks.drop (19*i)).take 19:=fun p hp=>zBW9 hp;have hbk:∀p∈(ks.drop (19*i)).take 19,1<=p.2/\p.2<2048:=fun p hp=>hb p (zBW9 (zBX9 hp));refine⟨h1.2,show 0<2048 by decide,zAS9 _,?_,?_,?_,fun p hp=>?_,.inr ⟨h1.1,?_⟩⟩
 ·show (((ks.drop (19*i)).take 19).drop 1).length<=27;rw[zBT9,zBA9];omega
 ·exact zjU hrc 1
 ·rw[zeY];refine⟨hnc.2,fun p hp hq=>?_⟩;have hq:p.2=(ks.getD (19*i) (0,0)).2:=zBF9.1 hq;exact hnc.1 (zAM9.2 ⟨p,hp,hq⟩)
 ·unfold zb1;rw[if_neg (show ¬(zcG lv ks i).level=0 from by show ¬lv=0;omega),zAQ9,zel,decide_eq_true_eq];refine⟨hbk p (hm p hp),?_⟩;obtain⟨j,hj⟩:=zDW9.1 hp;have hj:(((ks.drop (19*i)).take 19).drop 1)[j]?=some p:=hj;rw[zBU9]at hj;exact zfz hrc j 0 _ p (by rw[hc];rfl) (by rw[<- hj,show 0+j+1=1+j by omega])
 ·rw[zel];exact hb _ (zAO9 (get_lt ks hi))
theorem zef (lv:Nat)(ks:List Pr):(zb7 lv ks).length=(ks.length+18)/19:=by unfold zb7;rw[zAA9,List.length_range,zcM]
theorem zpg {lv:Nat}{ks:List Pr}(h1:1<=lv/\lv<=12)(hne:ks ≠ [])(hr:zbn ks=true)(h0:(ks.getD 0 (0,0)).1=0)(hn:(ks.map Prod.snd).Nodup)(hb:∀x∈ks,1<=x.2/\x.2<2048):zw4 lv (zb7 lv ks)/\(zb7 lv ks).flatMap zcC=ks:=by
 have hpos:0<ks.length:=zBV9.2 hne;unfold zb7;rw[zcM];have hlt:∀i,i<(ks.length+(19-1))/19->19*i<ks.length:=fun i hi=>by omega
 refine⟨⟨?_,?_,?_,?_,?_⟩,?_⟩
 ·intro e;have:=congrArg List.length e;simp at this;omega
 ·intro n hn';obtain⟨i,hi,rfl⟩:=zAM9.1 hn';exact⟨zud h1 hr hn hb i (hlt i (zCT9.1 hi)),rfl,rfl⟩
 ·intro n hn';obtain⟨_,rfl⟩:=zeC hn';exact h0
 ·intro i n m hn' hm;obtain⟨hi,rfl⟩:=zeC hn';obtain⟨hj,rfl⟩:=zeC hm;exact zfz hr 18 _ _ _ (get_lt ks (hlt i hi)) (get_lt ks (hlt _ hj))
 ·intro i n m hn' hm p hp;obtain⟨hi,rfl⟩:=zeC hn';obtain⟨hj,rfl⟩:=zeC hm;obtain⟨j,hjk,hpj⟩:=zkc (zBW9 (i:=1) hp);show p.1<(ks.getD (19*(i+1)) (0,0)).1;exact zfz hr (18-j) _ _ _ hpj (by rw[show 19*i+j+(18-j)+1=19*(i+1) by omega];exact get_lt ks (hlt _ hj))
 ·have:=ziv 19 ks ((ks.length+(19-1))/19);rw[zCS9 (by omega)]at this;rw[List.flatMap_map,List.flatMap_def];rw[<- this]
  congr 1
  ·rw[this];refine zEK9 fun i hi=>?_;exact zu5 (hlt i (zCT9.1 hi))
def zg6 (free:List Nat):Nat->List zC->Nat->List Lev->Option (List Lev)
 | 0,_,_,_=>none
 | k+1,l,used,T=>if free.length<used+l.length then none else
  if l.length=1 then some (((free.drop used).take l.length,zbq ((free.drop used).take l.length) l)::T)else
  zg6 free k (zb7 (T.length+1) ((l.map zC.low).zip ((free.drop used).take l.length))) (used+l.length) (((free.drop used).take l.length,zbq ((free.drop used).take l.length) l)::T)
def bndL:Nat->Nat
 | 0=>28
 | 1=>2
 | _=>1
def zoi (free:List Nat):Bool:=free.all (fun b=>decide (1<=b)&&decide (b<2048))&&decide free.Nodup
theorem zfE (free:List Nat):zoi free=true↔(∀b∈free,1<=b/\b<2048)/\free.Nodup:=by
 unfold zoi;rw[zAQ9,zBL9,decide_eq_true_eq];simp
structure zjn (p:List Pr)(free:List Nat)(l:List zC)(used:Nat)(T:List Lev):Prop where
 ok:zw4 T.length l
 st:match T with | []=>levP l=p|M::T'=>l.flatMap zcC=zcU M/\zp4 (M::T')
 last:∀M,T.getLast?=some M->levP M.2=p
 len:∀M∈T,M.1.length=M.2.length
 blocks:T.reverse.flatMap Prod.fst=free.take used
 used:used<=free.length
 bndL:l.length<=bndL T.length
 lvl:T.length<=2
structure zyB (p:List Pr)(free:List Nat)(T:List Lev):Prop where
 st:zp4 T
 one:∃b n T',T=([b],[n])::T'/\n.sib=0
 last:∀M,T.getLast?=some M->levP M.2=p
 len:∀M∈T,M.1.length=M.2.length
 blocks:∃used,used<=free.length/\T.reverse.flatMap Prod.fst=free.take used
 few:T.length<=3
section
variable {p:List Pr}{free:List Nat}(hf:zoi free=true)
include hf
theorem zjn.level {l:List zC}{used:Nat}{T:List Lev}(h:zjn p free l used T)(hu:¬free.length<used+l.length) :
  ((free.drop used).take l.length).length=l.length/\zlc T.length none ((free.drop used).take l.length) (zbq ((free.drop used).take l.length) l)/\zbq ((free.drop used).take l.length) l ≠ []/\(∀b∈(free.drop used).take l.length,1<=b/\b<2048)/\((free.drop used).take l.length).Nodup /\
  (((free.drop used).take l.length,zbq ((free.drop used).take l.length) l)::T).reverse.flatMap Prod.fst=free.take (used+l.length)/\zp4 (((free.drop used).take l.length,zbq ((free.drop used).take l.length) l)::T) /\
  (∀M,(((free.drop used).take l.length,zbq ((free.drop used).take l.length) l)::T).getLast?=some M->levP M.2=p):=by
 rw[zfE]at hf;have hbl:((free.drop used).take l.length).length=l.length:=by rw[zBA9,zBT9];omega
 have hbb:∀b∈(free.drop used).take l.length,1<=b/\b<2048:=fun b hb=>hf.1 b (zBW9 (zBX9 hb));have hnd:((free.drop used).take l.length).Nodup:=hf.2.sublist ((List.take_sublist _ _).trans (List.drop_sublist _ _));have hch:zlc T.length none ((free.drop used).take l.length) (zbq ((free.drop used).take l.length) l) :=
  zrc _ _ _ _ hbl hbb (fun n hn=>⟨(h.ok.each n hn).1,(h.ok.each n hn).2.1⟩) (fun n hn=>h.ok.low0 n hn) h.ok.rise h.ok.below
 have hne:=zvY hbl h.ok.ne;obtain⟨k1,k2,k3⟩:=zeS _ _ hbl;refine⟨hbl,hch,hne,hbb,hnd,?_,?_,?_⟩
 ·rw[zEF9,zCN9,h.blocks,List.take_add];simp
 ·have hst:=h.st
  cases T with
  | nil=>exact⟨hch,hne⟩
  | cons M T=>exact⟨hch,hne,by rw[k3];exact hst.1,hst.2⟩
 ·intro M hM;have hst:=h.st
  cases hT:T with
  | nil =>
   subst hT;injection hM with hM;subst hM;have hr:∀(i:Nat) (n m:zC),(zbq ((free.drop used).take l.length) l)[i]?=some n->(zbq ((free.drop used).take l.length) l)[i+1]?=some m->∀q∈n.pairs,q.1<m.low:=by
    intro i n m hn hm;have hi:i+1<l.length:=by have:=(zAC9.1 hm).1;rw[zcV _ _ hbl]at this;exact this
    have e1:=zei _ _ i _ hbl (zAB9 (show i<l.length by omega));have e2:=zei _ _ (i+1) _ hbl (zAB9 hi);rw[hn]at e1;rw[hm]at e2;injection e1 with e1;injection e2 with e2;subst e1 e2;exact h.ok.below i (l[i]'(by omega)) (l[i+1]'hi) (zAB9 (show i<l.length by omega)) (zAB9 hi)
   have e1:=zh7 _ hr;have e2:=zh7 _ h.ok.below;show levP (zbq _ l)=p;rw[e1,k1,<- e2];exact hst
  | cons K T' =>
   refine h.last M ?_;rw[hT]at hM⊢;rw[zEH9]at hM;exact hM
theorem zno:∀(k:Nat) (l:List zC) (used:Nat) (T T':List Lev),zjn p free l used T->zg6 free k l used T=some T'->zyB p free T'
 | 0,l,used,T,T',_,h=>by cases h
 | k+1,l,used,T,T',hi,h=>by
  rw[zg6]at h
  by_cases hu:free.length<used+l.length
  ·rw[if_pos hu]at h;cases h
  rw[if_neg hu]at h;obtain⟨h1,h2,h3,h4,h5,h6,h7,h8⟩:=hi.level hf hu;have hbd:=hi.bndL;have hlvl:=hi.lvl
  by_cases ho:l.length=1
  ·rw[if_pos ho]at h;injection h with h;subst h;refine⟨h7,?_,h8,?_,⟨used+l.length,by omega,h6⟩,?_⟩
   ·obtain⟨n,hn⟩:=zDV9.1 ho;obtain⟨b,hb⟩:=zDV9.1 (h1.trans ho);rw[hb,hn];exact⟨b,{ n with sib:=0 },T,rfl,rfl⟩
   ·intro M hM;rcases zAX9.1 hM with rfl|hM
    ·exact h1.trans (zcV _ _ h1).symm
    ·exact hi.len M hM
   ·simp;omega
  ·rw[if_neg ho]at h;refine zno k _ _ _ _ ?_ h;have hne0:0<l.length:=zBV9.2 hi.ok.ne;have hT1:T.length<=1:=by
    rcases zCY9 T.length 2 with h|h
    ·omega
    ·have e:T.length=2:=by omega
     rw[e]at hbd;simp[bndL]at hbd;omega
   obtain⟨k1,k2,k3⟩:=zeS _ _ h1;generalize hbs:(free.drop used).take l.length=bs at *
   have hzl:((l.map zC.low).zip bs).length=l.length:=by simp[h1]
   have hms:((l.map zC.low).zip bs).map Prod.snd=bs:=List.map_snd_zip (by simp[h1]);have hg:∀(i:Nat) (x:Pr),((l.map zC.low).zip bs)[i]?=some x->∃n,l[i]?=some n/\x.1=n.low:=by
    intro i x hx;rw[zDI9]at hx;have h1:=hx.1;rw[zAH9]at h1
    cases hn:l[i]? with
    | none=>rw[hn]at h1;cases h1
    | some n=>rw[hn]at h1;injection h1 with h1;exact⟨n,rfl,h1.symm⟩
   have hz0:(((l.map zC.low).zip bs).getD 0 (0,0)).1=0:=by
    obtain⟨n,hn,e⟩:=hg 0 _ (get_lt _ (by omega));rw[e];exact hi.ok.low0 n hn
   have hrz:zbn ((l.map zC.low).zip bs)=true:=by
    rw[zec];intro i x y hx hy;obtain⟨n,hn,e⟩:=hg i x hx;obtain⟨m,hm,e2⟩:=hg _ y hy;rw[e,e2];exact hi.ok.rise i n m hn hm
   have hab:=zpg (lv:=T.length+1) (ks:=(l.map zC.low).zip bs) ⟨by omega,by omega⟩ (by intro e;rw[e]at hzl;simp at hzl;omega) hrz hz0 (by rw[hms];exact h5) (fun x hx=>h4 x.2 (zES9 hx).2);refine⟨hab.1,⟨?_,h7⟩,h8,?_,h6,by omega,?_,by simp;omega⟩
   ·rw[hab.2];unfold zcU;rw[k2]
   ·intro M hM;rcases zAX9.1 hM with rfl|hM
    ·exact h1.trans (zcV _ _ h1).symm
    ·exact hi.len M hM
   ·rw[zef,hzl];show _<=bndL (T.length+1)
    match hT:T.length,hT1 with
    | 0,_=>rw[hT]at hbd;simp[bndL]at hbd⊢;omega
    | 1,_=>rw[hT]at hbd;simp[bndL]at hbd⊢;omega
end
theorem zjh {p:List Pr}(free:List Nat)(hp:okP p=true)(hl:p.length<=500):zjn p free (zbS p) 0 []:=by
 have h:=zuc hp;refine⟨h.1,h.2,fun M hM=>by simp at hM,fun M hM=>by simp at hM,rfl,zAS9 _,?_,zAS9 _⟩;rw[zeA];simp[bndL];omega
def zeM:Nat->Nat->Nat
 | 0,n=>n
 | k+1,n=>n+if n=1 then 0 else zeM k ((n+18)/19)
def zcO (n:Nat):Nat:=zeM 4 (max 1 ((n+17)/18))
theorem zpE (free:List Nat):∀(k:Nat) (l:List zC) (used:Nat) (T:List Lev),3<=k+T.length->1<=k->1<=l.length->l.length<=bndL T.length->(zg6 free k l used T=none↔free.length<used+zeM k l.length)
 | 0,_,_,_,_,h,_,_=>by omega
 | k+1,l,used,T,h1,_,h3,h4=>by
  rw[zg6,zeM]
  by_cases hu:free.length<used+l.length
  ·rw[if_pos hu];exact⟨fun _=>by omega,fun _=>rfl⟩
  rw[if_neg hu]
  by_cases ho:l.length=1
  ·rw[if_pos ho,if_pos ho];exact⟨fun h=>(by cases h),fun h=>by omega⟩
  rw[if_neg ho,if_neg ho];have hT1:T.length<=1:=by
   rcases zCY9 T.length 2 with h|h
   ·omega
   ·obtain⟨m,e⟩:∃m,T.length=m+2:=⟨T.length-2,by omega⟩
    rw[e]at h4;simp[bndL]at h4;omega
  have hzl:((l.map zC.low).zip ((free.drop used).take l.length)).length=l.length:=by simp;omega
  rw[zpE free k _ _ _ (by simp;omega) (by omega) (by rw[zef,hzl];omega) ?_,zef,hzl]
  ·omega
  ·rw[zef,hzl];show _<=bndL (T.length+1)
   match hT:T.length,hT1 with
   | 0,_=>rw[hT]at h4;simp[bndL]at h4⊢;omega
   | 1,_=>rw[hT]at h4;simp[bndL]at h4⊢;omega
def zex (p:List Pr)(free:List Nat):Option (List Lev):=zg6 free 4 (zbS p) 0 []
theorem ziw {p:List Pr}{free:List Nat}(hl:p.length<=500):zex p free=none↔free.length<zcO p.length:=by
 unfold zex zcO;rw[zpE free 4 _ _ _ (by decide) (by decide) (by rw[zeA];omega) (by rw[zeA];simp[bndL];omega),zeA,zAR9]
theorem zpy {p:List Pr}{free:List Nat}{T:List Lev}(hp:okP p=true)(hf:zoi free=true)(hl:p.length<=500)(h:zex p free=some T):zyB p free T:=zno hf 4 _ _ _ _ (zjh free hp hl) h
def zdp (n:zC)(z:Option zC):Bool:=match n.pairs.getLast?,z with
 | some p,some m=>decide (p.1<m.low)
 | _,_=>true
def zck (w:List Nat):List Nat->List zC->Bool
 | b::bs,n::ns=>decide (zbi (zA w b)=0)&&zdp n ns.head? && zck w bs ns
 | _,_=>true
def zbX (w:List Nat):List Lev->Bool
 | []=>true
 | [L]=>zck w L.1 L.2
 | L::M::T=>zck w L.1 L.2&&decide (L.2.flatMap zcC=zcU M)&&zbX w (M::T)
def zrx:List Lev->Bool
 | (_,n::_)::_=>decide (n.sib=0)
 | _=>false
def zfe (w:List Nat)(T:List Lev):Bool:=zrx T&&zbX w T
def zhz (T:List Lev):Nat:=match T with
 | L::_=>L.1.headD 0
 | []=>0
theorem zdY {l:List Nat}(h:headB l=true):(headN l).level<=12/\(headN l).sib<2048/\(headN l).way<=2:=by
 unfold headB at h;rw[zAQ9,zBL9]at h;have h0:=h.2 0 (by decide);have h1:=h.2 1 (by decide);have h4:=h.2 4 (by decide);rw[zcR,zAQ9,decide_eq_true_eq,decide_eq_true_eq]at h0;rw[zcR,decide_eq_true_eq]at h1;have h4:decide (l.getD 4 0<=2)=true:=h4;rw[decide_eq_true_eq]at h4;refine⟨?_,h1,h4⟩;have:(headN l).level=zf0 (l.getD 0 0):=by unfold headN;rfl
 rw[this,zkW];omega
theorem zBf {ns ms:List zC}(h:ns ≠ []):(ns++ms).head?=ns.head?:=by
 cases ns with
 | nil=>exact absurd rfl h
 | cons a l=>rfl
theorem zA2 (l:List Nat):(headN l).pairs.length<=28:=by unfold headN;exact zdz _ _
structure LvF (w:List Nat)(bs:List Nat)(ns:List zC):Prop where
 is:ns=bs.map fun b=>headN (zA w b)
 each:∀b∈bs,b<w.length/64/\headB (zA w b)=true
 same:∀n∈ns,∀z,ns.head?=some z->n.level=z.level
theorem LvF.len {w:List Nat}{bs:List Nat}{ns:List zC}(h:LvF w bs ns):bs.length=ns.length:=by rw[h.is,zAA9]
theorem LvF.node {w:List Nat}{bs:List Nat}{ns:List zC}(h:LvF w bs ns){n:zC}(hn:n∈ns):n.pairs.length<=28/\n.level<=12/\n.sib<2048:=by
 rw[h.is]at hn;obtain⟨b,hb,rfl⟩:=zAM9.1 hn;have:=zdY (h.each b hb).2;exact⟨zA2 _,this.1,this.2.1⟩
theorem LvF.nil (w:List Nat):LvF w [] []:=⟨rfl,fun b hb=>by simp at hb,fun n hn=>by simp at hn⟩
theorem ze6 {w:List Nat}{lv:Int}{N:Nat}:∀(k:Nat) (seen bs:List Nat) (ns:List zC) (b:Nat) (r:List Nat×List Nat×List zC),zbs w lv k seen bs ns b=some r->LvF w bs ns->(∀n,ns.head?=some n->lv<0\/(n.level:Int)=lv)->bs.length+k<=N->LvF w r.2.1 r.2.2/\(∀n,r.2.2.head?=some n->lv<0\/(n.level:Int)=lv)/\r.2.1.length<=N
 | 0,seen,bs,ns,b,r,h,hF,hh,hN=>by
  rw[zbs]at h
  split at h
  ·injection h with h;subst h;exact⟨hF,hh,by simpa using hN⟩
  ·cases h
 | k+1,seen,bs,ns,b,r,h,hF,hh,hN=>by
  rw[zbs]at h
  split at h
  ·injection h with h;subst h;exact⟨hF,hh,by simp;omega⟩
  ·split at h
   ·cases h
   ·rename_i hb
    split at h
    ·rename_i hg;rw[zAQ9]at hg;have hbl:b<w.length/64:=by
      cases hd:decide (w.length/64<=b)with
      | true=>rw[hd]at hb;exact absurd rfl hb
      | false=>have:=of_decide_eq_false hd;omega
     refine ze6 k _ _ _ _ r h ⟨by rw[hF.is];simp,fun c hc=>?_,fun n hn z hz=>?_⟩ (fun n hn=>?_) (by simp;omega)
     ·rcases zBI9.1 hc with hc|hc
      ·exact hF.each c hc
      ·simp at hc;subst hc;exact⟨hbl,hg.1⟩
     ·have hgo:=hg.2;unfold zbT at hgo
      cases hl:ns.getLast? with
      | none =>
       rw[zDA9]at hl;subst hl;simp at hn hz;rw[hn,<- hz]
      | some y =>
       rw[hl]at hgo;simp only[zAQ9,decide_eq_true_eq]at hgo;have hne:ns ≠ []:=by intro e;rw[e]at hl;simp at hl
       rw[zBf hne]at hz;rcases zBI9.1 hn with hn|hn
       ·exact hF.same n hn z hz
       ·simp at hn;rw[hn,hgo.2];exact hF.same y (zGF9 hl) z hz
     ·have hgo:=hg.2;unfold zbT at hgo
      cases hl:ns.getLast? with
      | none =>
       rw[hl]at hgo;rw[zDA9]at hl;subst hl;simp only[zAQ9,zEQ9,decide_eq_true_eq]at hgo;simp at hn;rw[<- hn];exact hgo.2
      | some y =>
       have hne:ns ≠ []:=by intro e;rw[e]at hl;simp at hl
       rw[zBf hne]at hn;exact hh n hn
    ·cases h
structure zhL (w:List Nat)(L:Lev):Prop where
 lv:LvF w L.1 L.2
 ne:L.2 ≠ []
 few:L.2.length<=2048
def zhK (L:Lev):Prop:=∀n∈L.2,0<n.level
theorem zfu {w:List Nat}(hw:w.length<=131072):∀(d:Nat) (seen:List Nat) (acc:List Lev) (b:Nat) (lv:Int),(∀L∈acc,zhL w L/\zhK L) ->
  (∀L∈(zbB w d seen acc b lv).1,zhL w L)/\(∀L∈(zbB w d seen acc b lv).1.dropLast,zhK L)/\((zbB w d seen acc b lv).2=true->(zbB w d seen acc b lv).1 ≠ []/\∀M,(zbB w d seen acc b lv).1.getLast?=some M->zbn (levP M.2)=true)
 | 0,seen,acc,b,lv,h=>⟨fun L hL=>(h L hL).1,fun L hL=>(h L (zGG9 _ hL)).2,fun e=>by cases e⟩
 | d+1,seen,acc,b,lv,h=>by
  rw[zbB]
  cases hr:zbs w lv (w.length/64) seen [] [] b with
  | none=>exact⟨fun L hL=>(h L hL).1,fun L hL=>(h L (zGG9 _ hL)).2,fun e=>by cases e⟩
  | some r =>
   obtain⟨s',bs,ns⟩:=r;obtain⟨k1,k2,k3⟩:=ze6 (N:=2048) _ _ _ _ _ _ hr (LvF.nil w) (fun n hn=>by simp at hn) (by simp;omega)
   cases ns with
   | nil=>exact⟨fun L hL=>(h L hL).1,fun L hL=>(h L (zGG9 _ hL)).2,fun e=>by cases e⟩
   | cons n ns =>
    have hF:zhL w (bs,n::ns):=⟨k1,by simp,by rw[<- k1.len];exact k3⟩
    simp only
    split
    ·refine⟨fun L hL=>?_,fun L hL=>?_,fun e=>⟨by simp,fun M hM=>?_⟩⟩
     ·rcases zBI9.1 hL with hL|hL
      ·exact(h L hL).1
      ·simp at hL;subst hL;exact hF
     ·rw[zEC9]at hL;exact(h L hL).2
     ·simp at hM;subst hM;exact e
    ·rename_i hlv;refine zfu hw d _ _ _ _ fun L hL=>?_;rcases zBI9.1 hL with hL|hL
     ·exact h L hL
     ·simp at hL;subst hL;exact⟨hF,fun m hm=>by have:=k1.same m hm n rfl;omega⟩
theorem zhM:∀(L:List zC),(∀n∈L,n.pairs.length<=28)->(levP L).length<=28*L.length
 | [],_=>zAS9 _
 | n::L,h=>by
  have h1:=zhM L fun m hm=>h m (zAT9 _ hm);have h2:=h n (zAU9 ..);have h3:=zGC9 (zdv L.head?) n.pairs;rw[levP,zAD9,zAE9];omega
end Fv
end Go.Proofs.YtfomlmhnmheenaaGreat
namespace Go.Proofs.YtfomlmhnmheenaaGreat
open Go.RowKit
namespace Fv
open Tw
theorem zhg:∀l:List Pr,(l.map zBo).flatMap PV.cells=l.flatMap fun x=>[.int .i64 x.1,.int .u64 x.2]
 | []=>rfl
 | x::l=>by rw[zCC9,zBS9,zhg l];rfl
theorem zol {c:Cx}{h:TH}:∀{l:List Pr} {cs:List TV},LR (VR c h) (l.flatMap fun x=>[PV.int .i64 x.1,.int .u64 x.2]) cs->cs=l.flatMap fun x=>[TV.int .i64 x.1,.int .u64 x.2]
 | [],cs,k=>k.of_nil
 | x::l,cs,k=>by
  obtain⟨y,cs',rfl,h1,h2⟩:=LR.of_cons k;obtain⟨y2,cs'',rfl,h3,h4⟩:=LR.of_cons h2;rw[zol h4,h1.int_inv,h3.int_inv];rfl
theorem zs9 {c:Cx}{h:TH}:∀l:List Pr,LR (VR c h) (l.flatMap fun x=>[PV.int .i64 x.1,.int .u64 x.2]) (l.flatMap fun x=>[TV.int .i64 x.1,.int .u64 x.2])
 | []=>LR.nil
 | x::l=>LR.cons (.pure (.int _ _)) (LR.cons (.pure (.int _ _)) (zs9 l))
theorem zis:∀l:List Pr,∃r,zeU (l.flatMap fun x=>[TV.int .i64 x.1,.int .u64 x.2])=some r
 | []=>⟨[],rfl⟩
 | x::l=>by
  obtain⟨r,hr⟩:=zis l;refine⟨((x.1:Int),x.2)::r,?_⟩;show zeU (.int .i64 x.1::.int .u64 (.ofNat x.2)::l.flatMap _)=_;rw[zeU,hr]
theorem zo3 {α:Type}(f g:Pr->α):∀l:List Pr,(l.flatMap fun x=>[f x,g x]).length=l.length*2
 | []=>rfl
 | x::l=>by rw[zBS9,zAD9,zo3 f g l,zAE9];simp;omega
theorem zwg {E:Env}{f e0:Nat}(hf:E.funcs.get f=none)(hg:E.spec f=some (ziD e0)){H:List zn}{id ix g M gx Mx:Nat}{L:List Pr}{c:Pr}(hH:H[id]?=some (.row e0 2 g M (L.map zBo)))(hM:M<=g)(hX:H[ix]?=some (.row e0 2 gx Mx [zBo c]))(hMx:Mx<=gx)(hne:id≠ix)(hL:0<L.length)(hL2:L.length<=100000) :
  FO E f [.sl id g 0 L.length (2*L.length) 2,iv 0,.sl ix gx 0 1 2 2] H false fun e H'=>e=.ret (.sl id (g+1) 0 (L.length+1) (2*(L.length+1)) 2)/\H'=H.set id (.row e0 2 (g+1) (g+1) ((c::L).map zBo)):=by
 intro B cx h us k hv;obtain⟨y,cs',rfl,h1,hv⟩:=hv.of_cons;obtain⟨y2,cs2,rfl,h2,hv⟩:=hv.of_cons;obtain⟨y3,cs3,rfl,h3,hv⟩:=hv.of_cons;obtain rfl:=hv.of_nil;obtain rfl:=h2.int_inv;rcases sl_inv h1 with⟨_,_,e3,_⟩|⟨b,d,g',hρ,hgd,rfl⟩
 ·omega
 rcases sl_inv h3 with⟨_,_,e3,_⟩|⟨bx,dx,gx',hρx,hgdx,rfl⟩
 ·omega
 obtain⟨_,G',M',cells,cs,r1,r2,r3,r4,r5⟩:=ze0 k hH hρ;obtain⟨_,Gx',Mx',cellsx,csx,x1,x2,x3,x4,x5⟩:=ze0 k hX hρx;obtain rfl:g'=G':=by omega
 obtain rfl:gx'=Gx':=by omega
 have r6:=r5.all;rw[zhg]at r6;have hcs:=zol r6;have x6:=x5.all;rw[show ([zBo c]:List PV)=[c].map zBo from rfl,zhg]at x6;have hcsx:=zol x6;rw[zAA9]at r1 r4;have x4:cellsx.getL 0 2=some csx:=x4;have hbb:b≠bx:=fun e=>hne (k.inj _ _ _ _ hρ hρx e);obtain⟨rn,hrn⟩:=zis [c];obtain⟨ro,hro⟩:=zis L;rw[<- hcsx]at hrn;rw[<- hcs]at hro;have hall:csx++cs=(c::L).flatMap fun x=>[TV.int .i64 x.1,.int .u64 x.2]:=by rw[hcs,hcsx];rfl
 have hlen:(csx++cs).length=(L.length+1)*2:=by rw[hall,zo3,zAE9]
 obtain⟨m1,k1⟩:=k.set (o:=.row e0 2 (g+1) (g+1) ((c::L).map zBo)) (x:=.row e0 (g'+1) (g'+1) ((L.length+1)*2) (Tr.putL .nil 0 (csx++cs))) hρ (fun e=>by rw[hH]at e;cases e) fun mm =>
  .inr ⟨b,d,g'+1,g'+1,Tr.putL .nil 0 (csx++cs),csx++cs,hρ,by rw[TH.get_set _ _ _ _ (k.own _ _ hρ).2.1,if_pos rfl,zAA9,zAE9],by omega,by omega,by
   rw[zAA9,zAE9,<- hlen];exact zh8 _,⟨fun v hv=>by obtain⟨a,_,rfl⟩:=zAM9.1 hv;rfl,by rw[zhg,hall];exact zs9 _⟩⟩
 refine⟨.ret (.sl b (g'+1) 0 (L.length+1) (2*(L.length+1)) 2),_,.ret (.sl id (g+1) 0 (L.length+1) (2*(L.length+1)) 2),_,cx,⟨1,fun N hN d' hd=>?_⟩,⟨rfl,rfl⟩,m1,k1,?_,fun h=>by cases h⟩
 ·obtain⟨d',rfl⟩:∃i,d'=i+1:=⟨d'-1,by omega⟩
  show Tw.zaY (EN E N) (zc2 (EN E N) d') f _ h=_;unfold Tw.zaY;rw[show (EN E N).funcs.get f=none from hf];dsimp only;rw[show (EN E N).spec f=some (ziD e0)from hg];show ziD e0 [.sl b g' (0*2) L.length (2*L.length) 2,.int .i64 (.ofNat 0),.sl bx gx' (0*2) 1 2 2] h=_;rw[zFL9];show zqc e0 h b g' L.length (2*L.length) 2 bx gx' 2=_;have hrd:zbw h bx gx' 0 2=some csx:=by
   unfold zbw;rw[x1];show zft gx' 0 2 (.row e0 gx' Mx' (1*2) cellsx)=_;unfold zft;dsimp only;rw[zA1 (by omega),zA1 (zAJ9 _)];exact x4
  unfold zqc;rw[x1,r1,hrd];dsimp only;rw[show zyw e0 (.row e0 gx' Mx' (List.length [zBo c]*2) cellsx)=true from zbu rfl,zbu (show 2=2 from rfl),zbu (show 2*L.length%2=0 by omega),zA1 (show 1<=L.length by omega),zA1 hL2,show Nat.beq b bx=false from zuA hbb];simp only[cond_true,cond_false];unfold ztT;dsimp only;rw[zbu rfl,zbu rfl,zbu rfl,r4];simp only[cond_true];unfold zup;rw[hrn,hro]
 ·show VR cx _ (.sl id (g+1) 0 (L.length+1) (2*(L.length+1)) 2) (.sl b (g'+1) 0 (L.length+1) (2*(L.length+1)) 2);have:=VR.sl (c:=cx) (h:=h.set b (.row e0 (g'+1) (g'+1) ((L.length+1)*2) (Tr.putL .nil 0 (csx++cs)))) (g:=g'+1) (o:=0) (n:=L.length+1) (q:=2*(L.length+1)) hρ;rw[zFL9,show g'+1+d=g+1 by omega]at this;exact this
end Fv
end Go.Proofs.YtfomlmhnmheenaaGreat
namespace Go.Proofs.YtfomlmhnmheenaaGreat
namespace Fv
open Tw


set_option maxRecDepth 100000
theorem f137:ET.funcs.get 137=some T137:=zH Tryz.func137
theorem f91:ET.funcs.get 91=some T91:=zH Tryz.func91
def rdH (p:Nat)(w:List Nat)(mo:zn)(vs:List PV)(G:List zn):List zn :=
 .row 26 1 0 0 [wv p w]::.row 96 1 0 0 [.sl 5 vs.length 0 vs.length (2*vs.length) 2]::mo::.row 131 1 0 0 [.map 2]::.row 216 1 0 0 [.fn 137 [.ptr 0 0 0 0 1,.ptr 3 0 0 0 1,.ptr 1 0 0 0 1,.ptr 4 0 0 0 1]]::.row 100 2 vs.length 0 vs::G
def zky (mo:zn)(seen:List Nat):Prop:=(mo=.map0/\seen=[])\/∃mm:Int->Option PV,mo=.mapI .u64 mm/\∀q:Nat,mm q=if seen.contains q=true then some (iv 1)else none
theorem zAr {α:Type}(G l:List α)(x y z:α):(G++x::y::z::l)[G.length+2]?=some z:=by simp[zAP9]
def zqi (H:List zn)(v:PV)(l:Lev):Prop:=∃i j:Nat,v=.agg [.sl (i+6) l.1.length 0 l.1.length (2*l.1.length) 1,.sl (j+6) l.2.length 0 l.2.length (2*l.2.length) 6] /\
 H[i]?=some (.row 3 1 l.1.length 0 (l.1.map fun(b:Nat)=>iv (b:Int)))/\H[j]?=some (.row 124 6 l.2.length 0 (l.2.map (zW 0)))
def zeP (H:List zn)(vs:List PV)(ls:List Lev):Prop:=vs.length=ls.length/\∀(k:Nat) (v:PV) (l:Lev),vs[k]?=some v->ls[k]?=some l->zqi H v l
def zvn (b:Nat)(lv:Int):List PV:=[uv b,iv lv,.ptr 0 0 0 0 1,.ptr 3 0 0 0 1,.ptr 1 0 0 0 1,.ptr 4 0 0 0 1]
def zjt (p:Nat)(w:List Nat)(mo2:zn)(vs:List PV)(G:List zn)(bs:List Nat)(ns:List zC)(G2:List zn):List zn :=
 .row 26 1 0 0 [wv p w]::.row 96 1 0 0 [.sl 5 vs.length 0 vs.length (2*vs.length) 2]::mo2::.row 131 1 0 0 [.map 2]::.row 216 1 0 0 [.fn 137 [.ptr 0 0 0 0 1,.ptr 3 0 0 0 1,.ptr 1 0 0 0 1,.ptr 4 0 0 0 1]]::.row 100 2 vs.length 0 vs ::
   (G++.row 100 2 0 0 [.agg [.sl (G.length+7) bs.length 0 bs.length (2*bs.length) 1,.sl (G.length+8) ns.length 0 ns.length (2*ns.length) 6]]::.row 3 1 bs.length 0 (bs.map fun(b:Nat)=>iv (b:Int))::.row 124 6 ns.length 0 (ns.map (zW 0))::G2)
theorem zqi.mono {G G':List zn}{v:PV}{l:Lev}(h:zqi G v l):zqi (G++G') v l:=by
 obtain⟨i,j,h1,h2,h3⟩:=h;exact⟨i,j,h1,by rw[zAV9 (zAC9.1 h2).1];exact h2,by rw[zAV9 (zAC9.1 h3).1];exact h3⟩
theorem zeP.mono {G G':List zn}{vs:List PV}{ls:List Lev}(h:zeP G vs ls):zeP (G++G') vs ls:=⟨h.1,fun k v l hv hl=>(h.2 k v l hv hl).mono⟩
theorem zeP.snoc {G:List zn}{vs:List PV}{ls:List Lev}(h:zeP G vs ls)(r:zn)(bs:List Nat)(ns:List zC)(X:List zn)(k:Nat)(hk:k=ns.length):zeP (G++r::.row 3 1 bs.length 0 (bs.map fun(b:Nat)=>iv (b:Int))::.row 124 6 k 0 (ns.map (zW 0))::X) (vs++[.agg [.sl (G.length+7) bs.length 0 bs.length (2*bs.length) 1,.sl (G.length+8) k 0 k (2*k) 6]]) (ls++[(bs,ns)]):=by
 subst hk;refine⟨by simp[h.1],fun q v l hv hl=>?_⟩;rcases zCY9 q vs.length with hq|hq
 ·rw[zAV9 hq]at hv;rw[zAV9 (by rw[<- h.1];exact hq)]at hl;exact(h.2 q v l hv hl).mono
 ·rw[zAP9 hq]at hv;rw[zAP9 (by rw[<- h.1];exact hq)]at hl;obtain rfl:=zBF9.1 (zAO9 hv);obtain rfl:=zBF9.1 (zAO9 hl);exact⟨G.length+1,G.length+2,rfl,hm0 G _ _ _,zAr G _ _ _ _⟩
def zkX (p:Nat)(w:List Nat)(r:List Lev×Bool)(e:FE)(H':List zn):Prop:=e=.ret (.bool r.2)/\∃mo' vs' G',H'=rdH p w mo' vs' G'/\zeP G' vs' r.1
theorem zkb {w:List Nat}{d:Nat}{seen:List Nat}{acc:List Lev}{b:Nat}{lv:Int}(hd:(0<=lv/\lv+1<=d)\/14<=d)(h:zbs w lv (w.length/64) seen [] [] b=none):zbB w d seen acc b lv=(acc,false):=by
 match d,hd with
 | 0,hd=>omega
 | d+1,_=>rw[zbB,h]
theorem zyW {p:Nat}{w:List Nat}{d:Nat}{seen:List Nat}{acc:List Lev}{b:Nat}{lv:Int}{mo2:zn}{vs:List PV}{G:List zn}{bs:List Nat}{ns:List zC}{G2:List zn}(hd:(0<=lv/\lv+1<=d)\/14<=d)(h:zbs w lv (w.length/64) seen [] [] b=none)(hv:zeP G vs acc):zkX p w (zbB w d seen acc b lv) (.ret (.bool false)) (zjt p w mo2 vs G bs ns G2):=by
 rw[zkb hd h];exact⟨rfl,mo2,vs,_,rfl,hv.mono⟩
theorem zre {p:Nat}{w:List Nat}{d:Nat}{seen:List Nat}{acc:List Lev}{b:Nat}{lv:Int}{mo2:zn}{vs:List PV}{G:List zn}(hd:(0<=lv/\lv+1<=d)\/14<=d)(h:zbs w lv (w.length/64) seen [] [] b=none)(hv:zeP G vs acc):zkX p w (zbB w d seen acc b lv) (.ret (.bool false)) (rdH p w mo2 vs G):=by
 rw[zkb hd h];exact⟨rfl,mo2,vs,_,rfl,hv⟩
theorem zbI (n:Nat):(n==n+1)=false:=by simp
theorem zbL (n:Nat):(n+1==n)=false:=by simp
theorem zbJ (n:Nat):(n==n+1+1)=false:=by rw[beq_eq_false_iff_ne];omega
theorem zbK (n:Nat):(n+1+1==n)=false:=by rw[beq_eq_false_iff_ne];omega
theorem zoD (n:Nat):(n+6==n+7)=false:=by simp
theorem zov (n:Nat):(n+7==n+6)=false:=by simp
theorem zoS (n:Nat):(n+6==n+8)=false:=by simp
theorem zos (n:Nat):(n+8==n+6)=false:=by simp
theorem zoO (n:Nat):(n+7==n+8)=false:=by simp
theorem zoz (n:Nat):(n+8==n+7)=false:=by simp
theorem zn1 {α:Type}(G G2:List α)(a b c:α):((G++a::b::c::G2).length==G.length)=false:=by rw[beq_eq_false_iff_ne];simp only[zAD9,zAE9,zAF9];omega
theorem zof {α:Type}(G G2:List α)(a b c:α):(G.length==(G++a::b::c::G2).length)=false:=by rw[beq_eq_false_iff_ne];simp only[zAD9,zAE9,zAF9];omega
theorem zoy {α:Type}(G G2:List α)(a b c x0:α):((G++a::b::c::G2++[x0]).length==G.length)=false:=by rw[beq_eq_false_iff_ne];simp only[zAD9,zAE9,zAF9];omega
theorem zoU {α:Type}(G G2:List α)(a b c x0:α):(G.length==(G++a::b::c::G2++[x0]).length)=false:=by rw[beq_eq_false_iff_ne];simp only[zAD9,zAE9,zAF9];omega
theorem zoL {α:Type}(G G2:List α)(a b c x0 x1:α):((G++a::b::c::G2++[x0]++[x1]).length==G.length)=false:=by rw[beq_eq_false_iff_ne];simp only[zAD9,zAE9,zAF9];omega
theorem znW {α:Type}(G G2:List α)(a b c x0 x1:α):(G.length==(G++a::b::c::G2++[x0]++[x1]).length)=false:=by rw[beq_eq_false_iff_ne];simp only[zAD9,zAE9,zAF9];omega
theorem zox {α:Type}(G G2:List α)(a b c x0 x1 x2:α):((G++a::b::c::G2++[x0]++[x1]++[x2]).length==G.length)=false:=by rw[beq_eq_false_iff_ne];simp only[zAD9,zAE9,zAF9];omega
theorem zoJ {α:Type}(G G2:List α)(a b c x0 x1 x2:α):(G.length==(G++a::b::c::G2++[x0]++[x1]++[x2]).length)=false:=by rw[beq_eq_false_iff_ne];simp only[zAD9,zAE9,zAF9];omega
theorem znU {α:Type}(G G2:List α)(a b c:α):((G++a::b::c::G2).length==G.length+1)=false:=by rw[beq_eq_false_iff_ne];simp only[zAD9,zAE9,zAF9];omega
theorem znT {α:Type}(G G2:List α)(a b c:α):(G.length+1==(G++a::b::c::G2).length)=false:=by rw[beq_eq_false_iff_ne];simp only[zAD9,zAE9,zAF9];omega
theorem zop {α:Type}(G G2:List α)(a b c x0:α):((G++a::b::c::G2++[x0]).length==G.length+1)=false:=by rw[beq_eq_false_iff_ne];simp only[zAD9,zAE9,zAF9];omega
theorem zoM {α:Type}(G G2:List α)(a b c x0:α):(G.length+1==(G++a::b::c::G2++[x0]).length)=false:=by rw[beq_eq_false_iff_ne];simp only[zAD9,zAE9,zAF9];omega
theorem zoe {α:Type}(G G2:List α)(a b c x0 x1:α):((G++a::b::c::G2++[x0]++[x1]).length==G.length+1)=false:=by rw[beq_eq_false_iff_ne];simp only[zAD9,zAE9,zAF9];omega
theorem zoR {α:Type}(G G2:List α)(a b c x0 x1:α):(G.length+1==(G++a::b::c::G2++[x0]++[x1]).length)=false:=by rw[beq_eq_false_iff_ne];simp only[zAD9,zAE9,zAF9];omega
theorem znK {α:Type}(G G2:List α)(a b c x0 x1 x2:α):((G++a::b::c::G2++[x0]++[x1]++[x2]).length==G.length+1)=false:=by rw[beq_eq_false_iff_ne];simp only[zAD9,zAE9,zAF9];omega
theorem zoE {α:Type}(G G2:List α)(a b c x0 x1 x2:α):(G.length+1==(G++a::b::c::G2++[x0]++[x1]++[x2]).length)=false:=by rw[beq_eq_false_iff_ne];simp only[zAD9,zAE9,zAF9];omega
theorem znO {α:Type}(G G2:List α)(a b c:α):((G++a::b::c::G2).length==G.length+2)=false:=by rw[beq_eq_false_iff_ne];simp only[zAD9,zAE9,zAF9];omega
theorem znM {α:Type}(G G2:List α)(a b c:α):(G.length+2==(G++a::b::c::G2).length)=false:=by rw[beq_eq_false_iff_ne];simp only[zAD9,zAE9,zAF9];omega
theorem znS {α:Type}(G G2:List α)(a b c x0:α):((G++a::b::c::G2++[x0]).length==G.length+2)=false:=by rw[beq_eq_false_iff_ne];simp only[zAD9,zAE9,zAF9];omega
theorem znN {α:Type}(G G2:List α)(a b c x0:α):(G.length+2==(G++a::b::c::G2++[x0]).length)=false:=by rw[beq_eq_false_iff_ne];simp only[zAD9,zAE9,zAF9];omega
theorem znP {α:Type}(G G2:List α)(a b c x0 x1:α):((G++a::b::c::G2++[x0]++[x1]).length==G.length+2)=false:=by rw[beq_eq_false_iff_ne];simp only[zAD9,zAE9,zAF9];omega
theorem zoh {α:Type}(G G2:List α)(a b c x0 x1:α):(G.length+2==(G++a::b::c::G2++[x0]++[x1]).length)=false:=by rw[beq_eq_false_iff_ne];simp only[zAD9,zAE9,zAF9];omega
theorem zoT {α:Type}(G G2:List α)(a b c x0 x1 x2:α):((G++a::b::c::G2++[x0]++[x1]++[x2]).length==G.length+2)=false:=by rw[beq_eq_false_iff_ne];simp only[zAD9,zAE9,zAF9];omega
theorem zot {α:Type}(G G2:List α)(a b c x0 x1 x2:α):(G.length+2==(G++a::b::c::G2++[x0]++[x1]++[x2]).length)=false:=by rw[beq_eq_false_iff_ne];simp only[zAD9,zAE9,zAF9];omega
theorem gl2 {α:Type}(G G2:List α)(a b b' c p q z:α):(G++a::b'::c::G2++[p]++[q]++[z])[(G++a::b::c::G2++[p]++[q]).length]?=some z:=by
 have:(G++a::b::c::G2++[p]++[q]).length=(G++a::b'::c::G2++[p]++[q]).length:=by simp
 rw[this];simp
theorem zoI (n:Nat):(n+1==n+2)=false:=by simp
theorem zoN (n:Nat):(n+2==n+1)=false:=by simp
theorem zn8 (n:Nat):(n==n+2)=false:=by simp
theorem zom (n:Nat):(n+2==n)=false:=by simp
section
variable {α:Type}(G l m n o:List α)(x y z u:α)
theorem gm3:(G++x::l++m++n++o)[G.length]?=some x:=by rw[zAG9,zAG9,zAG9];exact gm0 G _ x
theorem hm3:(G++x::y::l++m++n++o)[G.length+1]?=some y:=by rw[zAG9,zAG9,zAG9];exact hm0 G _ x y
theorem zAG:(G++x::y::z::l)[G.length+2]?=some z:=by simp[zAP9]
theorem km3:(G++x::y::z::l++m++n++o)[G.length+2]?=some z:=by rw[zAG9,zAG9,zAG9];exact zAG G _ x y z
theorem sm3:(G++x::l++m++n++o).set G.length u=G++u::l++m++n++o:=by simp[zCA9]
theorem tm3:(G++x::y::l++m++n++o).set (G.length+1) u=G++x::u::l++m++n++o:=by simp[zCA9]
theorem um3:(G++x::y::z::l++m++n++o).set (G.length+2) u=G++x::y::u::l++m++n++o:=by simp[zCA9]
theorem km0:(G++x::y::z::l)[G.length+2]?=some z:=by simp[zAP9]
theorem km1:(G++x::y::z::l++m)[G.length+2]?=some z:=by rw[zAG9];exact km0 G _ x y z
theorem km2:(G++x::y::z::l++m++n)[G.length+2]?=some z:=by rw[zAG9,zAG9];exact km0 G _ x y z
end
theorem zfA {l:List Nat}:∀v∈(l.map fun(b:Nat)=>iv (b:Int)).flatMap PV.cells,Id0 v:=fun v hv=>by
 obtain⟨x,hx,hv⟩:=zBB9.1 hv;obtain⟨n,_,rfl⟩:=zAM9.1 hx;simp[PV.cells]at hv;subst hv;exact .int _ _
theorem zx6 (p:Nat)(w:List Nat)(hw:64<=w.length/\w.length<=131072/\w.length%64=0):∀(d:Nat) (seen:List Nat) (acc:List Lev) (b:Nat) (lv:Int) (mo:zn) (vs:List PV) (G:List zn) (hd:(0<=lv/\lv+1<=d)\/14<=d) (hs:zky mo seen) (hv:zeP G vs acc) (hva:acc.length+d<=100),
  FO ET 137 (zvn b lv) (rdH p w mo vs G) false (zkX p w (zbB w d seen acc b lv)):=by
 intro d
 induction d with
 | zero=>intro seen acc b lv mo vs G hd;omega
 | succ d ih =>
 intro seen acc b lv mo vs G hd hs hv hva;refine zro f137 ?_;unfold zvn rdH;refine zG ?_;refine zeN 3 1 (id:=G.length+6) (v:=.agg [.nilsl,.nilsl]) (v':=.agg [.sl (G.length+7) 0 0 0 0 1,.nilsl]) (e0:=100) (z0:=2) (G:=0) (M:=0) (by simp only[zAY9,zb]<;>rfl) rfl (fun k x y hx hy=>?_) ?_
 ·match k with
  | 0=>injection hx with hx;injection hy with hy;subst hx hy;exact .inr ⟨rfl,by simp[lzy]⟩
  | 1=>injection hx with hx;injection hy with hy;subst hx hy;exact .inl rfl
  | k+2=>simp[PV.cells]at hx
 simp only[zCI9,zo,zAI9,zAG9,zAK9];refine zeN 124 6 (id:=G.length+6) (v:=.agg [.sl (G.length+7) 0 0 0 0 1,.nilsl]) (v':=.agg [.sl (G.length+7) 0 0 0 0 1,.sl (G.length+8) 0 0 0 0 6]) (e0:=100) (z0:=2) (G:=0) (M:=0) (by simp only[zAY9,gm0]<;>rfl) rfl (fun k x y hx hy=>?_) ?_
 ·match k with
  | 0=>injection hx with hx;injection hy with hy;subst hx hy;exact .inl rfl
  | 1=>injection hx with hx;injection hy with hy;subst hx hy;exact .inr ⟨rfl,by simp[lzy]⟩
  | k+2=>simp[PV.cells]at hx
 simp only[zCI9,sm0,zAI9,zAG9,zAK9];have hnb:w.length/64<=2048:=by omega
 refine zB (zar (fun m s=>∃(k:Nat) (seen2:List Nat) (bs:List Nat) (ns:List zC) (b2:Nat) (mo2:zn) (G2:List zn),m=k/\zdC (w.length/64) seen2<=k/\zbs w lv (w.length/64) seen [] [] b=zbs w lv k seen2 bs ns b2/\bs.length=ns.length/\bs.length+k<=2048/\zky mo2 seen2/\s.tm 0=uv b2/\s.tm 1=iv lv/\s.tm 2=.ptr 0 0 0 0 1/\s.tm 3=.ptr 3 0 0 0 1/\s.tm 4=.ptr 1 0 0 0 1/\s.tm 5=.ptr 4 0 0 0 1/\s.tm 9=.ptr (G.length+6) 0 0 0 2/\s.df=[] /\
  s.H=zjt p w mo2 vs G bs ns G2) (n:=w.length/64) ?_ ?_)
 ·exact⟨_,seen,[],[],b,mo,[],rfl,zjk _ _,rfl,rfl,by simpa using hnb,hs,zt,zt,zt,zt,zt,zt,zt,rfl,rfl⟩
 ·rintro m ⟨tm,df,H⟩ ⟨k,seen2,bs,ns,b2,mo2,G2,rfl,hun,hrd,hbn,hbk,hs2,h0,h1,h2,h3,h4,h5,h9,rfl,rfl⟩;dsimp only at h0 h1 h2 h3 h4 h5 h9;unfold zjt;(try refine zBp ?_);refine za (zAV h0 ?_);refine zwh ?_ ?_
  ·intro hb0;have hb0:¬b2=0:=by simpa using hb0
   have q1:IntKind.i64.wrap ((w.length:Int).tdiv 64)=((w.length/64:Nat):Int):=by rw[IntWalk.i64_quo _ _ (by omega)];omega
   (repeat refine za ?_);refine zB ?_;(repeat refine za ?_);refine zbD (Q:=fun y s'=>y=.norm/\s'.tm 0=uv b2/\s'.tm 1=iv lv/\s'.tm 2=.ptr 0 0 0 0 1/\s'.tm 3=.ptr 3 0 0 0 1/\s'.tm 4=.ptr 1 0 0 0 1/\s'.tm 5=.ptr 4 0 0 0 1/\s'.tm 9=.ptr (G.length+6) 0 0 0 2/\s'.tm 38=.bool (decide (w.length/64<=b2)||seen2.contains b2)/\s'.df=[]/\s'.H=zjt p w mo2 vs G bs ns G2) (zAU ?_) ?_
   ·by_cases hge:w.length/64<=b2
    ·have g1:((w.length/64:Nat):Int)<=b2:=by omega
     refine zKF (zr5 h0 h2 h3 q1 g1) ?_;exact⟨zt,h0,h1,h2,h3,h4,h5,h9,by simp[upd,hge],rfl,rfl⟩
    ·have g1:¬((w.length/64:Nat):Int)<=b2:=by omega
     rcases hs2 with⟨rfl,rfl⟩|⟨mm,rfl,hmm⟩
     ·refine zKF (zr5 h0 h2 h3 q1 g1) ?_;exact⟨zt,h0,h1,h2,h3,h4,h5,h9,by simp[upd,hge],rfl,rfl⟩
     ·have hq:=hmm b2
      by_cases hc:seen2.contains b2=true
      ·rw[if_pos hc]at hq;refine zKF (zr6 h0 h2 h3 q1 g1 hq) ?_;exact⟨zt,h0,h1,h2,h3,h4,h5,h9,by rw[hc];simp[upd],rfl,rfl⟩
      ·rw[if_neg hc]at hq;refine zKF (zr6 h0 h2 h3 q1 g1 hq) ?_;have hc:seen2.contains b2=false:=by simpa using hc
       exact⟨zt,h0,h1,h2,h3,h4,h5,h9,by rw[hc];simp[upd,hge],rfl,rfl⟩
   ·clear h0 h1 h2 h3 h4 h5 h9;rintro y ⟨tm,df,H⟩ ⟨rfl,h0,h1,h2,h3,h4,h5,h9,h38,rfl,rfl⟩;dsimp only at h0 h1 h2 h3 h4 h5 h9 h38
    by_cases hbad:(decide (w.length/64<=b2)||seen2.contains b2)=true
    ·refine zfc ?_ ?_ (by simp only[go_sem,h38]<;>rfl)
     ·intro _;refine zO ?_;refine zyW hd ?_ hv;rw[hrd]
      cases m with
      | zero=>rw[zbs,if_neg hb0]
      | succ m=>rw[zbs,if_neg hb0,if_pos hbad]
     ·rw[hbad];intro h;cases h
    have hbad:(decide (w.length/64<=b2)||seen2.contains b2)=false:=by simpa using hbad
    refine zfc ?_ ?_ (by simp only[go_sem,h38]<;>rfl)
    ·rw[hbad];intro h;cases h
    intro _;refine zBl ?_;show W _ _ _ _ _ _;have hbl:b2<w.length/64:=by
     cases h:decide (w.length/64<=b2)with
     | true=>rw[h]at hbad;cases hbad
     | false=>have:=of_decide_eq_false h;omega
    have hbs:¬seen2.contains b2=true:=by intro h;rw[h,zGE9]at hbad;cases hbad
    refine za (zbD (Q:=fun y s'=>y=.norm/\s'.tm 0=uv b2/\s'.tm 1=iv lv/\s'.tm 2=.ptr 0 0 0 0 1/\s'.tm 3=.ptr 3 0 0 0 1/\s'.tm 4=.ptr 1 0 0 0 1/\s'.tm 5=.ptr 4 0 0 0 1/\s'.tm 9=.ptr (G.length+6) 0 0 0 2/\s'.df=[]/\∃mo3,zky mo3 (b2::seen2)/\s'.H=zjt p w mo3 vs G bs ns G2) (zAU ?_) ?_)
    ·unfold zjt;rcases hs2 with⟨rfl,rfl⟩|⟨mm,rfl,hmm⟩
     ·refine zKF (zr2 h0 h3) ?_;refine⟨zt,h0,h1,h2,h3,h4,h5,h9,zt,_,.inr ⟨_,rfl,fun q=>?_⟩,rfl⟩
      by_cases hq:q=b2
      ·subst hq;simp
      ·have:¬(q:Int)=b2:=by omega
       simp[hq,this]
     ·refine zKF (zr2 h0 h3) ?_;refine⟨zt,h0,h1,h2,h3,h4,h5,h9,zt,_,.inr ⟨_,rfl,fun q=>?_⟩,rfl⟩
      by_cases hq:q=b2
      ·subst hq;simp
      ·have:¬(q:Int)=b2:=by omega
       rw[if_neg this,hmm q];simp[hq]
    ·clear h0 h1 h2 h3 h4 h5 h9 h38 hs2;rintro y ⟨tm,df,H⟩ ⟨rfl,h0,h1,h2,h3,h4,h5,h9,rfl,mo3,hs3,rfl⟩;dsimp only at h0 h1 h2 h3 h4 h5 h9;unfold zjt;have hm1:∃m',m=m'+1:=by
      cases m with
      | zero=>exact absurd (ziE _ b2 seen2 (by omega) hbl) hbs
      | succ m=>exact⟨m,rfl⟩
     obtain⟨m',rfl⟩:=hm1;rw[zbs,if_neg hb0,if_neg (by rw[hbad];decide)]at hrd;have hof:=zyp p w b2 (by omega) (by omega);have hOf:=zt3 p (zA w b2) (by unfold zA;simp;omega);(repeat refine za ?_);refine zAU ?_;refine zAW (zr2 h0 h2) ?_;refine zbz (by first|rfl|(simp only[go_sem]<;>rfl)) (by simp only[go_sem]<;>rfl) hof rfl ?_ ?_;(repeat(first|exact trivial|refine And.intro ?_ ?_|exact Id0.int _ _|exact Id0.bool _|exact Id0.list _ _ _|exact Id0.elem _|exact Id0.nilsl|exact Id0.str _|exact zbE _ _ _))
     by_cases hh:headB (zA w b2)=true
     rotate_left
     ·have hh:headB (zA w b2)=false:=by simpa using hh
      have he:zdX (zA w b2)=.ret (.tuple [zW 0 zd3,iv 210]):=by unfold zdX;rw[if_neg (by rw[hh];decide)]
      rw[he]at hOf;rw[hh,zDQ9,if_neg (by decide)]at hrd;refine zfx ?_;refine zca hOf ?_;refine zN ?_;refine zG ?_;refine zfc ?_ ?_
      ·intro _;refine zO ?_;refine zre (G:=_) hd hrd ?_;exact hv.mono.mono
      ·intro h;cases h
     obtain⟨b12,b2048,bw⟩:=zdY hh;rw[zeg _ hh]at hOf;rw[hh,zBY9]at hrd;generalize headN (zA w b2)=nd at hOf hrd b12 b2048 bw;refine zfx ?_;refine zca hOf ?_;refine zN ?_;(repeat refine za ?_);refine zAU ?_;refine zfx ?_ (by simp(disch:=omega)only[go_sem,h1,h9,gm0,gm1,gm2]<;>rfl);refine zcl (zzC 1 0 0 bs ns nd lv (by omega)) ?_ ?_;(repeat(first|exact trivial|refine And.intro ?_ ?_|exact .int _ _|exact .bool _|exact .list _ _ _|exact .elem _|exact .nilsl|exact .nil _ _|exact .str _|refine Frz.aggL ?_|refine Frz.fnL ?_|refine Frz.tupL ?_|refine .iface ?_|exact zbF rfl rfl (by assumption)))
     ·exact Frz.whole (e:=3) (z':=1) (G:=bs.length) (l:=bs.map fun(b:Nat)=>iv (b:Int)) (by simp only[zAY9,hm1]<;>rfl) rfl (by simp) (by simp) (fun v hv=>by obtain⟨x,_,rfl⟩:=zAM9.1 hv;rfl) zfA
     ·refine⟨Frz.whole (e:=124) (z':=6) (G:=ns.length) (l:=ns.map (zW 0)) (by simp only[zAY9,km1]<;>rfl) rfl (by simp) (by simp) (fun v hv=>by obtain⟨x,_,rfl⟩:=zAM9.1 hv;rfl) zfI,trivial⟩
     ·(repeat(first|exact trivial|refine And.intro ?_ ?_|exact .int _ _|exact .bool _|exact .list _ _ _|exact .elem _|exact .nilsl|exact .nil _ _|exact .str _|refine Frz.aggL ?_|refine Frz.fnL ?_|refine Frz.tupL ?_|refine .iface ?_|exact zbF rfl rfl (by assumption)))
     by_cases hg:zbT ns nd lv=true
     rotate_left
     ·have hg:zbT ns nd lv=false:=by simpa using hg
      rw[hg]at hrd⊢;rw[if_neg (by decide)]at hrd;refine zN ?_;refine zfc ?_ ?_
      ·intro _;refine zO ?_;refine zre (G:=_) hd hrd ?_;exact hv.mono.mono
      ·intro h;cases h
     rw[hg]at hrd⊢;rw[if_pos rfl]at hrd;refine zN ?_;refine zcf ?_;refine zBl ?_;show W _ _ _ _ _ _;have hba:(bs.length+1)*9<=140737488355328:=by omega
     have hbb:(ns.length+1)*65<=140737488355328:=by omega
     (repeat refine za ?_);refine zad ?_;refine zda ?_ (by simp(disch:=omega)only[go_sem,h0,h9,gm0,gm1,gm2,hm0,hm1,hm2,km0,km1,km2,gm3,hm3,km3,sm3,tm3,um3,hba,hbb]<;>rfl);refine zda ?_ (by simp(disch:=omega)only[go_sem,h9,zn1,zof,zoy,zoU,zoL,znW,zox,zoJ,znU,znT,zop,zoM,zoe,zoR,znK,zoE,znO,znM,znS,znN,znP,zoh,zoT,zot,zbI,zbL,zbJ,zbK,zoI,zoN,zn8,zom,zoD,zov,zoS,zos,zoO,zoz,gm0,gm1,gm2,hm0,hm1,hm2,km0,km1,km2,gm3,hm3,km3,sm3,tm3,um3,hba,hbb,gl2]<;>rfl) (by first|exact trivial|simp only[go_sem,h9,zn1,zof,zoy,zoU,zoL,znW,zox,zoJ,znU,znT,zop,zoM,zoe,zoR,znK,zoE,znO,znM,znS,znN,znP,zoh,zoT,zot,zbI,zbL,zbJ,zbK,zoI,zoN,zn8,zom,zoD,zov,zoS,zos,zoO,zoz,gm0,gm1,gm2,hm0,hm1,hm2,km0,km1,km2,gm3,hm3,km3,sm3,tm3,um3,hba,hbb,gl2]);refine zda ?_ (by simp(disch:=omega)only[go_sem,h9,zn1,zof,zoy,zoU,zoL,znW,zox,zoJ,znU,znT,zop,zoM,zoe,zoR,znK,zoE,znO,znM,znS,znN,znP,zoh,zoT,zot,zbI,zbL,zbJ,zbK,zoI,zoN,zn8,zom,zoD,zov,zoS,zos,zoO,zoz,gm0,gm1,gm2,hm0,hm1,hm2,km0,km1,km2,gm3,hm3,km3,sm3,tm3,um3,hba,hbb,gl2]<;>rfl) (by first|exact trivial|simp only[go_sem,h9,zn1,zof,zoy,zoU,zoL,znW,zox,zoJ,znU,znT,zop,zoM,zoe,zoR,znK,zoE,znO,znM,znS,znN,znP,zoh,zoT,zot,zbI,zbL,zbJ,zbK,zoI,zoN,zn8,zom,zoD,zov,zoS,zos,zoO,zoz,gm0,gm1,gm2,hm0,hm1,hm2,km0,km1,km2,gm3,hm3,km3,sm3,tm3,um3,hba,hbb,gl2]);refine zda ?_ (by simp(disch:=omega)only[go_sem,h9,zn1,zof,zoy,zoU,zoL,znW,zox,zoJ,znU,znT,zop,zoM,zoe,zoR,znK,zoE,znO,znM,znS,znN,znP,zoh,zoT,zot,zbI,zbL,zbJ,zbK,zoI,zoN,zn8,zom,zoD,zov,zoS,zos,zoO,zoz,gm0,gm1,gm2,hm0,hm1,hm2,km0,km1,km2,gm3,hm3,km3,sm3,tm3,um3,hba,hbb,gl2]<;>rfl) (by first|exact trivial|simp only[go_sem,h9,zn1,zof,zoy,zoU,zoL,znW,zox,zoJ,znU,znT,zop,zoM,zoe,zoR,znK,zoE,znO,znM,znS,znN,znP,zoh,zoT,zot,zbI,zbL,zbJ,zbK,zoI,zoN,zn8,zom,zoD,zov,zoS,zos,zoO,zoz,gm0,gm1,gm2,hm0,hm1,hm2,km0,km1,km2,gm3,hm3,km3,sm3,tm3,um3,hba,hbb,gl2]);refine zQF h9 ?_;have hlb:(bs++[b2]).length=bs.length+1:=by simp
     have hln:(ns++[nd]).length=ns.length+1:=by simp
     have hgl:(List.map (zW 0) ns++[zW 0 nd])[ns.length]?=some (zW 0 nd):=by simp
     have hgs:IntKind.i64.wrap ((ns.length+1:Nat)-1)=ns.length:=by rw[show ((ns.length+1:Nat):Int)-1=(ns.length:Nat) by omega];exact wrap_i64 (by omega) (by omega)
     have hil:ns.length<ns.length+1:=zCE9 _;(repeat refine za ?_);refine zAU ?_;refine zfx ?_ (by simp(disch:=omega)only[go_sem,h9,gm0,gm1,gm2,hm0,hm1,hm2,km0,km1,km2,gm3,hm3,km3,hgl,hgs,hil]<;>rfl);refine zr ?_;refine⟨m',zCE9 _,m',b2::seen2,bs++[b2],ns++[nd],nd.sib,mo3,?G,rfl,?hu,hrd,by rw[hlb,hln,hbn],by rw[hlb];omega,hs3,?h0,zu h1,zu h2,zu h3,zu h4,zu h5,zu h9,zt,?H⟩
     case hu=>have:=zkn _ _ _ hbl hbs;omega
     case h0=>simp[upd]
     case H =>
      (try dsimp only);rw[hlb,hln,zBJ9,zBJ9];simp only[zAG9,zAI9,zAK9];rfl
  ·intro hb0;have hb0:b2=0:=by simpa using hb0
   subst hb0;have hrd2:zbs w lv (w.length/64) seen [] [] b=some (seen2,bs,ns):=by rw[hrd];cases m<;>simp[zbs]
   clear hrd;obtain⟨hF,hfst,_⟩:=ze6 (N:=2048) _ _ _ _ _ _ hrd2 (LvF.nil w) (fun n hn=>by simp at hn) (by simp;omega);dsimp only at hF hfst
   cases ns with
   | nil =>
    (repeat(first|refine za ?_|refine zgo ?_ (by simp(disch:=omega)only[go_sem,h9,gm0,hm0,km0,gm1,hm1,km1]<;>rfl)));refine zfc ?_ ?_
    ·intro _;refine zO ?_;have:zbB w (d+1) seen acc b lv=(acc,false):=by rw[zbB,hrd2]
     rw[this];exact⟨rfl,mo2,vs,_,rfl,hv.mono⟩
    ·intro h;cases h
   | cons nd ns =>
    have g0:¬((ns.length+1:Nat):Int)=0:=by omega
    (repeat(first|refine za ?_|refine zgo ?_ (by simp(disch:=omega)only[go_sem,h9,gm0,hm0,km0,gm1,hm1,km1,g0]<;>rfl)));refine zcf ?_;refine zBl ?_;show W _ _ _ _ _ _;have hvl:=hv.1;have hbv:(vs.length+1)*49<=140737488355328:=by omega
    (repeat refine za ?_);refine zgo ?_ (by simp(disch:=omega)only[go_sem,h4,h9,hbv,gm0,gm1,gm2,gm3]<;>rfl);have hg0:(List.map (zW 0) (nd::ns))[0]?=some (zW 0 nd):=rfl;have hi0:0<ns.length+1:=zCQ9 _;obtain⟨hpp,b12,b2048⟩:=hF.node (zAU9 ..);(repeat refine za ?_);refine zgo ?_ (by simp(disch:=omega)only[go_sem,h9,hg0,hi0,gm0,gm1,gm2,hm0,hm1,hm2,km0,km1,km2,gm3,hm3,km3]<;>rfl);have hX:=fun X=>hv.snoc (.row 100 2 0 0 [.agg [.sl (G.length+7) bs.length 0 bs.length (2*bs.length) 1,.sl (G.length+8) (ns.length+1) 0 (ns.length+1) (2*(ns.length+1)) 6]]) bs (nd::ns) X (ns.length+1) rfl
    by_cases hlv:nd.level=0
    ·have g1:(nd.level:Int)=0:=by omega
     (repeat refine za ?_);refine zgo ?_ (by simp(disch:=omega)only[go_sem,g1,gm0,gm1,gm2]<;>rfl);refine zfc ?_ ?_
     ·intro _;have hnl:(nd::ns).length<=2048:=by rw[<- hF.len];omega
      have hll:=zhM (nd::ns) fun n hn=>(hF.node hn).1;have hra:zbB w (d+1) seen acc b lv=(acc++[(bs,nd::ns)],zbn (levP (nd::ns))):=by rw[zbB,hrd2];simp only;rw[if_pos hlv]
      have hlp:=zlK 1 0 bs (nd::ns) (by omega) (fun n hn=>(hF.node hn).1) (by omega);unfold zf7 at hlp
      by_cases hri:zbn (levP (nd::ns))=true
      ·rw[if_pos hri]at hlp;(repeat refine za ?_);refine zAU ?_;refine zfx ?_ (by simp(disch:=omega)only[go_sem,h9,gm0,gm1,gm2,gm3]<;>rfl);refine zcl hlp ?_ ?_;(repeat(first|exact trivial|refine And.intro ?_ ?_|exact .int _ _|exact .bool _|exact .list _ _ _|exact .elem _|exact .nilsl|exact .nil _ _|exact .str _|refine Frz.aggL ?_|refine Frz.fnL ?_|refine Frz.tupL ?_|refine .iface ?_|exact zbF rfl rfl (by assumption)))
       ·exact Frz.whole (e:=3) (z':=1) (G:=bs.length) (l:=bs.map fun(b:Nat)=>iv (b:Int)) (by simp only[zAY9,hm2]<;>rfl) rfl (by simp) (by simp) (fun v hv=>by obtain⟨x,_,rfl⟩:=zAM9.1 hv;rfl) zfA
       ·exact⟨Frz.whole (e:=124) (z':=6) (G:=ns.length+1) (l:=(nd::ns).map (zW 0)) (by simp only[zAY9,km2]<;>rfl) rfl (by simp) (by simp) (fun v hv=>by obtain⟨x,_,rfl⟩:=zAM9.1 hv;rfl) zfI,trivial⟩
       ·(repeat(first|exact trivial|refine And.intro ?_ ?_|exact .int _ _|exact .bool _|exact .list _ _ _|exact .elem _|exact .nilsl|exact .nil _ _|exact .str _|refine Frz.aggL ?_|refine Frz.fnL ?_|refine Frz.tupL ?_|refine .iface ?_|exact zbF rfl rfl (by assumption)))
       refine zN ?_;refine zO ?_;rw[hra,hri];refine⟨rfl,mo2,_,_,?e1,hX ?X1⟩
       case e1 =>
        unfold rdH;simp only[zAD9,zAE9,zAF9,zAR9,zAG9,zAI9];rfl
      ·rw[if_neg hri]at hlp;have hri:zbn (levP (nd::ns))=false:=by simpa using hri
       (repeat refine za ?_);refine zAU ?_;refine zfx ?_ (by simp(disch:=omega)only[go_sem,h9,gm0,gm1,gm2,gm3]<;>rfl);refine zcl hlp ?_ ?_;(repeat(first|exact trivial|refine And.intro ?_ ?_|exact .int _ _|exact .bool _|exact .list _ _ _|exact .elem _|exact .nilsl|exact .nil _ _|exact .str _|refine Frz.aggL ?_|refine Frz.fnL ?_|refine Frz.tupL ?_|refine .iface ?_|exact zbF rfl rfl (by assumption)))
       ·exact Frz.whole (e:=3) (z':=1) (G:=bs.length) (l:=bs.map fun(b:Nat)=>iv (b:Int)) (by simp only[zAY9,hm2]<;>rfl) rfl (by simp) (by simp) (fun v hv=>by obtain⟨x,_,rfl⟩:=zAM9.1 hv;rfl) zfA
       ·exact⟨Frz.whole (e:=124) (z':=6) (G:=ns.length+1) (l:=(nd::ns).map (zW 0)) (by simp only[zAY9,km2]<;>rfl) rfl (by simp) (by simp) (fun v hv=>by obtain⟨x,_,rfl⟩:=zAM9.1 hv;rfl) zfI,trivial⟩
       ·(repeat(first|exact trivial|refine And.intro ?_ ?_|exact .int _ _|exact .bool _|exact .list _ _ _|exact .elem _|exact .nilsl|exact .nil _ _|exact .str _|refine Frz.aggL ?_|refine Frz.fnL ?_|refine Frz.tupL ?_|refine .iface ?_|exact zbF rfl rfl (by assumption)))
       refine zN ?_;refine zO ?_;rw[hra,hri];refine⟨rfl,mo2,_,_,?e2,hX ?X2⟩
       case e2 =>
        unfold rdH;simp only[zAD9,zAE9,zAF9,zAR9,zAG9,zAI9];rfl
     ·intro h;cases h
    ·have g1:¬(nd.level:Int)=0:=by omega
     (repeat refine za ?_);refine zgo ?_ (by simp(disch:=omega)only[go_sem,g1,gm0,gm1,gm2]<;>rfl);refine zcf ?_;refine zBl ?_;show W _ _ _ _ _ _;have hra:zbB w (d+1) seen acc b lv=zbB w d seen2 (acc++[(bs,nd::ns)]) nd.left ((nd.level:Int)-1):=by rw[zbB,hrd2];simp only;rw[if_neg hlv]
     have hfl:=hfst nd rfl;have ihc:=fun X=>ih seen2 (acc++[(bs,nd::ns)]) nd.left ((nd.level:Int)-1) mo2 _ _ (by omega) hs2 (hX X) (by simp;omega);unfold rdH at ihc;simp only[show ∀v:PV,(vs++[v]).length=vs.length+1 from fun v=>by simp]at ihc;rw[<- hra]at ihc;(repeat refine za ?_);refine zAU ?_;refine zfx ?_ (by simp(disch:=omega)only[go_sem,h5,gm0,gm1,gm2,gm3]<;>rfl);simp only[zAG9,zAI9,zAK9];refine zbN (caps:=?caps) (vs:=?vs) ?g1 ?g2 (ihc ?X3) ?g3 ?g4 ?g5
     case g1=>first|rfl|(simp only[zV,zZ,go_sem]<;>rfl)
     case g2=>simp only[go_sem,h5]<;>rfl
     case g3=>rfl
     case g4=>rfl
     rintro e H' ⟨rfl,mo',vs',G',rfl,hv'⟩;refine zP ?_;exact⟨rfl,mo',vs',G',rfl,hv'⟩
theorem f42:ET.funcs.get 42=some T42:=zH Tryz.func42
@[reducible] def zbQ (T:List Lev):PV:=.list 0 2 (T.map fun L=>zby 0 0 L.1 L.2)
theorem Lb.ivn {z:Nat}(l:List Nat):Lb (.list 0 z (l.map fun(b:Nat)=>iv (b:Int))):=.list fun x hx=>by
 obtain⟨y,hy,hx⟩:=zBB9.1 hx;obtain⟨n,_,rfl⟩:=zAM9.1 hy;simp[PV.cells]at hx;subst hx;exact .int _ _
theorem Lb.nodes {z:Nat}(l:List zC):Lb (.list 0 z (l.map (zW 0))):=.list fun x hx=>by
 obtain⟨y,hy,hx⟩:=zBB9.1 hx;obtain⟨n,_,rfl⟩:=zAM9.1 hy;have:=Lb.node n
 cases this with
 | agg h=>exact h x hx
theorem zlb (T:List Lev):Lb (zbQ T):=.list fun x hx=>by
 obtain⟨y,hy,hx⟩:=zBB9.1 hx;obtain⟨L,_,rfl⟩:=zAM9.1 hy;simp[PV.cells]at hx;rcases hx with rfl|rfl
 ·exact Lb.ivn _
 ·exact Lb.nodes _
theorem zxv {p:Nat}{w:List Nat}{mo:zn}{vs:List PV}{G:List zn}{T:List Lev}(h:zeP G vs T):Frz (rdH p w mo vs G) 0 (.sl 5 vs.length 0 vs.length (2*vs.length) 2) (zbQ T):=by
 have hf:LF (rdH p w mo vs G) 0 (vs.flatMap PV.cells) ((T.map fun L=>zby 0 0 L.1 L.2).flatMap PV.cells):=LF.flat h.1 fun q L hL=>by
  have hq:q<vs.length:=by rw[h.1];exact(zAC9.1 hL).1
  obtain⟨i,j,e1,e2,e3⟩:=h.2 q _ L (zAB9 hq) hL;refine⟨_,(zAB9 hq).trans (congrArg some e1),?_,?_,trivial⟩
  ·exact Frz.whole (e:=3) (z':=1) (G:=L.1.length) (l:=L.1.map fun(b:Nat)=>iv (b:Int)) e2 rfl (by simp) (by simp) (fun v hv=>by obtain⟨x,_,rfl⟩:=zAM9.1 hv;rfl) zfA
  ·exact Frz.whole (e:=124) (z':=6) (G:=L.2.length) (l:=L.2.map (zW 0)) e3 rfl (by simp) (by simp) (fun v hv=>by obtain⟨x,_,rfl⟩:=zAM9.1 hv;rfl) zfI
 have ht:(vs.drop 0).take vs.length=vs:=by rw[zFD9,zBG9]
 have hl:=h.1;refine .sl (e:=100) (M:=0) (G:=vs.length) (l:=vs) rfl (zAS9 _) (zAJ9 _) (by omega) (zAJ9 _) (by simp[hl]) (fun v hv=>by obtain⟨x,_,rfl⟩:=zAM9.1 hv;rfl) ?_ ?_
 ·rw[ht];exact zt0 hf
 ·rw[ht];exact fun i x y hx hy=>hf.get hx hy
theorem ztE (p:Nat)(w:List Nat)(hw:64<=w.length/\w.length<=131072/\w.length%64=0)(a:Nat)(ha:a<w.length):FN ET 91 [wv p w,iv a] (.ret (.tuple [zbQ (zac w a).1,.bool (zac w a).2])):=by
 refine zfn f91 (Lb.two (zlb _) (.bool _)) ?_;have hwa:(w.map uv)[a]?=some (uv (w.getD a 0)):=by rw[zAH9,zAB9 ha,zAL9,zAB9 ha];rfl
 refine zG ?_;refine zfH 100 2 (id:=1) rfl ?_;simp only[lzy,zAE9,zAF9,zCI9,zCK9,zAI9,zAK9];have hc:=zx6 p w hw 14 [] [] (w.getD a 0) (-1) .map0 [] [] (.inr (zAJ9 _)) (.inl ⟨rfl,rfl⟩) ⟨rfl,fun k v l hv _=>by simp at hv⟩ (by decide);change FO ET 137 _ _ _ (zkX p w (zac w a))at hc;generalize zac w a=r at hc;(repeat refine za ?_);refine zad ?_;refine zA5 (zr2 hwa ha) hc ?_;rintro e H' ⟨rfl,mo',vs',G',rfl,hv'⟩;refine⟨_,by simp only[go_sem]<;>rfl,?_⟩;refine zQF hwa ?_;unfold rdH;refine zOF hwa ?_;exact Frz.tupL ⟨zxv hv',.bool _,trivial⟩
def zhp (w:List Nat)(a:Int):FE:=if zbO w.length a=true then if(zac w a.toNat).2=true then .ret (zbQ (zac w a.toNat).1)else .panic (zcd 220)else .panic (zcd 2)
theorem zdR (n:Nat)(a:Int):zbO n a=true↔(64<=n/\n%64=0/\n<=131072/\0<=a/\a<n):=by unfold zbO;simp[and_assoc]
theorem zkR (p:Nat)(w:List Nat)(a:Int)(hs:za7 w.length):FN ET 42 [wv p w,iv a] (zhp w a):=by
 have hr:=zkI p w a hs;unfold zhp
 by_cases h:zbO w.length a=true
 rotate_left
 ·rw[if_neg h]at hr⊢;refine zfn f42 (.iface (.int _ _)) ?_;refine zG ?_;refine zI ?_;refine zcx hr ?_;(try(refine .iface ?_;exact .int _ _))
 rw[if_pos h]at hr⊢;have hb:=(zdR _ _).1 h;obtain⟨n,rfl⟩:∃n:Nat,a=n:=⟨a.toNat,by omega⟩
 have hrd:=ztE p w ⟨hb.1,hb.2.2.1,hb.2.1⟩ n (by omega);rw[zCV9];generalize zac w n=r at hrd;obtain⟨T,b⟩:=r
 cases b with
 | true =>
  rw[if_pos rfl];refine zfn f42 (zlb _) ?_;refine zG ?_;refine zI ?_;refine zca hr ?_;refine zN ?_;refine zI ?_;refine zca hrd ?_;refine zN ?_;refine zI ?_;refine zca (zc6 220) ?_;refine zN ?_;refine zO ?_;exact Frz.list _ _ _
 | false =>
  rw[if_neg (show ¬(T,false).2=true from Bool.false_ne_true)];refine zfn f42 (.iface (.int _ _)) ?_;refine zG ?_;refine zI ?_;refine zca hr ?_;refine zN ?_;refine zI ?_;refine zca hrd ?_;refine zN ?_;refine zI ?_;refine zcx (zcg 220) ?_;(try(refine .iface ?_;exact .int _ _))
theorem f16:ET.funcs.get 16=some T16:=zH Tryz.func16
theorem c35:ET.caught.get 35=some ():=by kernel_rfl
def zgx (T:List Lev):Lev:=T.getLastD ([],[])
theorem zlE {T:List Lev}(h:T ≠ []):T[T.length-1]?=some (zgx T)/\T.getLast?=some (zgx T):=by
 have:T.getLast?=some (zgx T):=by unfold zgx;rw[List.getLastD_eq_getLast?];cases T with
  | nil=>exact absurd rfl h
  | cons a l=>rw[List.getLast?_eq_some_getLast (by simp)];rfl
 exact⟨by rw[<- zCJ9];exact this,this⟩
theorem zgM (w:List Nat):∀(d:Nat) (seen:List Nat) (acc:List Lev) (b:Nat) (lv:Int),(zbB w d seen acc b lv).1.length<=acc.length+d
 | 0,_,acc,_,_=>zAJ9 _
 | d+1,seen,acc,b,lv=>by
  rw[zbB]
  split
  ·simp
  ·simp
  ·split
   ·simp
   ·refine zBQ9 (zgM w d _ _ _ _) ?_;simp;omega
theorem zcN {w:List Nat}(hw:w.length<=131072)(a:Nat){T:List Lev}(h:zac w a=(T,true)):(∀L∈T,zhL w L)/\(∀L∈T.dropLast,zhK L)/\T ≠ []/\zbn (levP (zgx T).2)=true/\T.length<=14:=by
 have hle:=zgM w 14 [] [] (w.getD a 0) (-1);change (zac w a).1.length<=0+14 at hle;have hf:=zfu hw 14 [] [] (w.getD a 0) (-1) (fun L hL=>by simp at hL);change (∀L∈(zac w a).1,zhL w L)/\(∀L∈(zac w a).1.dropLast,zhK L)/\((zac w a).2=true->(zac w a).1 ≠ []/\∀M,(zac w a).1.getLast?=some M->zbn (levP M.2)=true)at hf;rw[h]at hf hle;obtain⟨h1,h2,h3⟩:=hf;obtain⟨h3,h4⟩:=h3 rfl;exact⟨h1,h2,h3,h4 _ (zlE h3).2,by simpa using hle⟩
@[reducible] def cvI (x:Pr):PV:=.agg [uv x.1,.int .i64 (IntKind.i64.wrap (x.2:Int))]
theorem zzU {x:Pr}(h:x.2<9223372036854775808):cvI x=cv x:=by
 unfold cvI cv;rw[wrap_i64 (by omega) (by omega)]
theorem zyb (G:List zn)(r r2:zn)(V0:List PV)(ps:List Pr)(hb:V0.length+ps.length<1000000)(tm:Nat->PV)(G3:List zn)(h8:tm 8=.sl (G.length+1) V0.length 0 V0.length (2*V0.length) 2)(h93:tm 93=psv 0 ps)(h94:tm 94=iv ps.length)(h95:tm 95=iv 0){Q:FX->FSt->Prop}
  (hQ:∀(tm':Nat->PV) (V:List PV) (G4:List zn),V=V0++ps.map cvI->(∀k,k≠8->k≠14->(k<95\/108<k)->tm' k=tm k)->tm' 8=.sl (G.length+1) V.length 0 V.length (2*V.length) 2->Q .norm ⟨tm',[],G++r::.row 138 2 V.length 0 V::r2::G4⟩) :
  W ET ET.caught none c60_4 ⟨tm,[],G++r::.row 138 2 V0.length 0 V0::r2::G3⟩ Q:=by
 unfold c60_4 xC;refine zB (zar (fun m s=>∃(j:Nat) (V:List PV) (G4:List zn),m=ps.length-j/\j<=ps.length/\V=V0++(ps.take j).map cvI/\(∀k,k≠8->k≠14->k≠95->(k<95\/108<k)->s.tm k=tm k)/\s.tm 8=.sl (G.length+1) V.length 0 V.length (2*V.length) 2/\s.tm 95=iv j/\s.df=[]/\s.H=G++r::.row 138 2 V.length 0 V::r2::G4) (n:=ps.length) ?_ ?_)
 ·exact⟨0,V0,G3,rfl,zAS9 _,by simp,fun k _ _ _ _=>rfl,h8,h95,rfl,rfl⟩
 ·rintro m ⟨tn,df,H⟩ ⟨j,V,G4,rfl,hj,hV,hf,h8',h95',rfl,rfl⟩;dsimp only at hf h8' h95';have h93':=(hf 93 (by decide) (by decide) (by decide) (by decide)).trans h93;have h94':=(hf 94 (by decide) (by decide) (by decide) (by decide)).trans h94;have hVl:V.length=V0.length+j:=by rw[hV];simp;omega
  (try refine zBp ?_);refine za (zAV (zr3 h93' h94' h95') ?_);refine zwh ?_ ?_
  ·intro hlt;have hlt:j<ps.length:=by have:=of_decide_eq_true hlt;omega
   obtain⟨q,hq⟩:∃q,ps[j]?=some q:=⟨_,zAB9 hlt⟩
   have hqv:(ps.map pv)[j]?=some (pv q):=by rw[zAH9,hq];rfl
   have hb2:(V.length+1)*17<=140737488355328:=by omega
   have hV2:V++[cvI q]=V0++(ps.take (j+1)).map cvI:=by rw[zBE9,hq,hV];simp
   (repeat refine za ?_);refine zB ?_;(repeat(first|refine za ?_|refine zgo ?_ (by simp(disch:=omega)only[go_sem,h8',h93',h95',hqv,hb2,gm0,gm1,gm2,hm0,hm1,hm2,tm0,tm1,tm2]<;>rfl)));(repeat refine za ?_);refine zrg ?_ (by simp(disch:=omega)only[go_sem,h8',h93',h95',hqv,hb2,gm0,gm1,gm2,hm0,hm1,hm2,tm0,tm1,tm2]<;>rfl);refine zr ?_;refine zJF h95' ?_;refine⟨_,?m,j+1,V++[cvI q],?G4,rfl,hlt,hV2,?f,?h8,zu h95',zt,?H⟩
   case m=>omega
   case f=>intro k k1 k2 k3 k4;simp(disch:=omega)only[zbo];exact hf k k1 k2 k3 k4
   case h8=>simp[upd]
   case H =>
    (try dsimp only);rw[zAD9];simp only[zAG9,zAI9,zAK9];rfl
  ·intro hlt;have hlt:¬j<ps.length:=by have:=of_decide_eq_false hlt;omega
   obtain rfl:j=ps.length:=by omega
   refine hQ _ V G4 (by rw[hV,zBG9]) (fun k k1 k2 k3=>?_) (by simp[upd,h8']);simp(disch:=omega)only[zbo];exact hf k k1 k2 (by omega) k3
section
variable {α:Type}(G l m n o:List α)(x y z u:α)
theorem um0:(G++x::y::z::l).set (G.length+2) u=G++x::y::u::l:=by simp[zCA9]
theorem um1:(G++x::y::z::l++m).set (G.length+2) u=G++x::y::u::l++m:=by simp[zCA9]
theorem um2:(G++x::y::z::l++m++n).set (G.length+2) u=G++x::y::u::l++m++n:=by simp[zCA9]
end
theorem zvJ {M:Lev}{j:Nat}{x:zC}{b:Nat}(hx:M.2[j]?=some x)(hb:M.1[j]?=some b):(zcU M).take (j+1)=(zcU M).take j++[(x.low,b)]:=by
 have:(zcU M)[j]?=some (x.low,b):=by
  unfold zcU;rw[zDI9];exact⟨by rw[zAH9,hx];rfl,hb⟩
 rw[zBE9,this];rfl
theorem zxP (G:List zn)(r r1:zn)(T:List Lev)(M:Lev)(n:Nat)(hn:n<1000000)(hM:T[n+1]?=some M)(hlen:M.1.length=M.2.length)(hfew:M.2.length<=2048)(tm:Nat->PV)(G3:List zn)(h5:tm 5=zbQ T)(h6:tm 6=iv n)(h9:tm 9=.sl (G.length+2) 0 0 0 0 2)(h120:tm 120=.list 0 6 (M.2.map (zW 0)))(h121:tm 121=iv M.2.length)(h122:tm 122=iv 0){Q:FX->FSt->Prop}
  (hQ:∀(tm':Nat->PV) (V:List PV) (G4:List zn),V=(zcU M).map cv->(∀k,k≠9->k≠15->k≠16->(k<122\/142<k)->tm' k=tm k)->tm' 9=.sl (G.length+2) V.length 0 V.length (2*V.length) 2->Q .norm ⟨tm',[],G++r::r1::.row 138 2 V.length 0 V::G4⟩) :
  W ET ET.caught none c60_6 ⟨tm,[],G++r::r1::.row 138 2 0 0 []::G3⟩ Q:=by
 unfold c60_6 xC;have hLT:(T.map fun L=>zby 0 0 L.1 L.2)[n+1]?=some (zby 0 0 M.1 M.2):=by rw[zAH9,hM];rfl
 have hnT:n+1<T.length:=(zAC9.1 hM).1;have e1:((n:Int)+1)=((n+1:Nat):Int):=by omega
 have hll:(zcU M).length=M.2.length:=by unfold zcU;simp[hlen]
 refine zB (zar (fun m s=>∃(j:Nat) (V:List PV) (G4:List zn),m=M.2.length-j/\j<=M.2.length/\V=((zcU M).take j).map cv/\(∀k,k≠9->k≠15->k≠16->k≠122->(k<122\/142<k)->s.tm k=tm k)/\s.tm 9=.sl (G.length+2) V.length 0 V.length (2*V.length) 2/\s.tm 122=iv j/\s.df=[]/\s.H=G++r::r1::.row 138 2 V.length 0 V::G4) (n:=M.2.length) ?_ ?_)
 ·exact⟨0,[],G3,rfl,zAS9 _,by simp,fun k _ _ _ _ _=>rfl,h9,h122,rfl,rfl⟩
 ·rintro m ⟨tn,df,H⟩ ⟨j,V,G4,rfl,hj,hV,hf,h9',h122',rfl,rfl⟩;dsimp only at hf h9' h122';have h5':=(hf 5 (by decide) (by decide) (by decide) (by decide) (by decide)).trans h5;have h6':=(hf 6 (by decide) (by decide) (by decide) (by decide) (by decide)).trans h6;have h120':=(hf 120 (by decide) (by decide) (by decide) (by decide) (by decide)).trans h120;have h121':=(hf 121 (by decide) (by decide) (by decide) (by decide) (by decide)).trans h121;have hVl:V.length=j:=by rw[hV];simp;omega
  (try refine zBp ?_);refine za (zAV (zr3 h120' h121' h122') ?_);refine zwh ?_ ?_
  ·intro hlt;have hlt:j<M.2.length:=by have:=of_decide_eq_true hlt;omega
   have hlt1:j<M.1.length:=by omega
   obtain⟨x,hx⟩:∃x,M.2[j]?=some x:=⟨_,zAB9 hlt⟩
   obtain⟨b,hb⟩:∃b,M.1[j]?=some b:=⟨_,zAB9 hlt1⟩
   have hxv:(M.2.map (zW 0))[j]?=some (zW 0 x):=by rw[zAH9,hx];rfl
   have hbv:(M.1.map fun(b:Nat)=>iv (b:Int))[j]?=some (iv b):=by rw[zAH9,hb];rfl
   have hb2:(V.length+1)*17<=140737488355328:=by omega
   have hV2:V++[cv (x.low,b)]=((zcU M).take (j+1)).map cv:=by rw[zvJ hx hb,hV];simp
   (repeat refine za ?_);refine zB ?_;refine zGF (zr3 h120' h122' hxv) ?_;refine zad ?_;refine zda ?_ (by simp(disch:=omega)only[go_sem,h9',h5',h6',hLT,hnT,e1,hbv,hlt1,hb2,km0,km1,km2,um0,um1,um2]<;>rfl);refine zQF h5' ?_;refine zJF h122' ?_;refine⟨_,?m,j+1,V++[cv (x.low,b)],?G4,rfl,hlt,hV2,?f,?h9,zu h122',zt,?H⟩
   case m=>omega
   case f=>intro k k1 k2 k3 k4 k5;simp(disch:=omega)only[zbo];exact hf k k1 k2 k3 k4 k5
   case h9=>simp[upd]
   case H =>
    (try dsimp only);rw[zAD9];simp only[zAG9,zAI9,zAK9];rfl
  ·intro hlt;have hlt:¬j<M.2.length:=by have:=of_decide_eq_false hlt;omega
   obtain rfl:j=M.2.length:=by omega
   refine hQ _ V G4 (by rw[hV,<- hll,zBG9]) (fun k k1 k2 k3 k4=>?_) (by simp[upd,h9']);simp(disch:=omega)only[zbo];exact hf k k1 k2 k3 (by omega) k4
def zqh (w:List Nat)(L:Lev):List Lev->Bool
 | []=>true
 | M::T=>decide (L.2.flatMap zcC=zcU M)&&zbX w (M::T)
theorem zrt (w:List Nat)(L:Lev)(R:List Lev):zbX w (L::R)=(zck w L.1 L.2&&zqh w L R):=by
 cases R with
 | nil=>rw[zbX,zqh,zFV9]
 | cons M R=>rw[zbX,zqh,Bool.and_assoc]
theorem zjW (w:List Nat)(bs:List Nat)(ns:List zC)(i:Nat)(b:Nat)(n:zC)(hb:bs[i]?=some b)(hn:ns[i]?=some n):zck w (bs.drop i) (ns.drop i)=(decide (zbi (zA w b)=0)&&zdp n ns[i+1]? && zck w (bs.drop (i+1)) (ns.drop (i+1))):=by
 obtain⟨h1,rfl⟩:=zAC9.1 hb;obtain⟨h2,rfl⟩:=zAC9.1 hn;rw[zAW9 h1,zAW9 h2,zck,List.head?_drop]
theorem zwL (ns:List zC)(i:Nat)(n:zC)(hn:ns[i]?=some n):(ns.take (i+1)).flatMap zcC=(ns.take i).flatMap zcC++zcC n:=by
 rw[zBE9,hn,zCN9];simp
theorem zqP {ns:List zC}(h:∀n∈ns,n.pairs.length<=28):(ns.flatMap zcC).length<=29*ns.length:=by
 induction ns with
 | nil=>exact zAS9 _
 | cons n ns ih =>
  have h1:=h n (zAU9 ..);have h2:=ih fun m hm=>h m (zAT9 _ hm);rw[zBS9,zAD9,zAE9];have:(zcC n).length=n.pairs.length+1:=rfl;omega
theorem gp1 {α:Type}(G l q:List α)(a b b' p:α):(G++a::b'::l++[p]++q)[(G++a::b::l).length]?=some p:=by
 have:(G++a::b::l).length=(G++a::b'::l).length:=by simp
 rw[this,zAG9,zAP9 (zAJ9 _),zGH9];rfl
theorem gp2 {α:Type}(G l q:List α)(a b b' p:α):(G++a::b'::(l++p::q))[(G++a::b::l).length]?=some p:=by
 have:=gp1 G l q a b b' p
 rwa [zAG9,zAG9]at this
theorem zxx (p:Nat)(w:List Nat)(hs:za7 w.length)(G:List zn)(r2:zn)(L:Lev)(hLF:zhL w L)(tm:Nat->PV)(G3:List zn)(h0:tm 0=wv p w)(h7:tm 7=.ptr G.length 0 0 0 2)(h8:tm 8=.sl (G.length+1) 0 0 0 0 2)(h37:tm 37=.list 0 6 (L.2.map (zW 0)))(h38:tm 38=iv L.2.length)(h39:tm 39=iv 0){Q:FX->FSt->Prop}
  (hP:zck w L.1 L.2=false->∀tm' H,Q (.panic (zcd 220)) ⟨tm',[],H⟩)
  (hQ:∀(tm':Nat->PV) (V:List PV) (G4:List zn),zck w L.1 L.2=true->V=(L.2.flatMap zcC).map cvI->(∀(j b:Nat),L.1[j]?=some b->zbi (zA w b)=0)->(∀k,k≠8->k≠10->k≠11->k≠12->k≠14->(k<39\/109<k)->tm' k=tm k)->tm' 8=.sl (G.length+1) V.length 0 V.length (2*V.length) 2->Q .norm ⟨tm',[],G++.row 100 2 0 0 [zby 0 0 L.1 L.2]::.row 138 2 V.length 0 V::r2::G4⟩) :
  W ET ET.caught none c60_2 ⟨tm,[],G++.row 100 2 0 0 [zby 0 0 L.1 L.2]::.row 138 2 0 0 []::r2::G3⟩ Q:=by
 unfold c60_2 xC;have hbl:=hLF.lv.len;have hfew:=hLF.few;refine zB (zar (fun m s=>∃(i:Nat) (V:List PV) (G4:List zn),m=L.2.length-i/\i<=L.2.length/\V=((L.2.take i).flatMap zcC).map cvI/\zck w L.1 L.2=zck w (L.1.drop i) (L.2.drop i)/\(∀(j b:Nat),j<i->L.1[j]?=some b->zbi (zA w b)=0)/\(∀k,k≠8->k≠10->k≠11->k≠12->k≠14->(k<39\/109<k)->s.tm k=tm k)/\s.tm 8=.sl (G.length+1) V.length 0 V.length (2*V.length) 2/\s.tm 39=iv i/\s.df=[]/\s.H=G++.row 100 2 0 0 [zby 0 0 L.1 L.2]::.row 138 2 V.length 0 V::r2::G4) (n:=L.2.length) ?_ ?_)
 ·exact⟨0,[],G3,rfl,zAS9 _,rfl,rfl,fun j b h=>absurd h (zFI9 _),fun k _ _ _ _ _ _=>rfl,h8,h39,rfl,rfl⟩
 ·rintro m ⟨tn,df,H⟩ ⟨i,V,G4,rfl,hi,hV,hls,hck,hf,h8',h39',rfl,rfl⟩;dsimp only at hf h8' h39';have h0':=(hf 0 (by decide) (by decide) (by decide) (by decide) (by decide) (by decide)).trans h0;have h7':=(hf 7 (by decide) (by decide) (by decide) (by decide) (by decide) (by decide)).trans h7;have h37':=(hf 37 (by decide) (by decide) (by decide) (by decide) (by decide) (by decide)).trans h37;have h38':=(hf 38 (by decide) (by decide) (by decide) (by decide) (by decide) (by decide)).trans h38;(try refine zBp ?_);refine za (zAV (zr3 h37' h38' h39') ?_);refine zwh ?_ ?_;rotate_left
  ·intro hlti;have hlti:¬i<L.2.length:=by have:=of_decide_eq_false hlti;omega
   obtain rfl:i=L.2.length:=by omega
   refine hQ _ V G4 (by rw[hls,<- hbl,zBM9];rfl) (by rw[hV,zBG9]) (fun j b hb=>hck j b (by have:=(zAC9.1 hb).1;omega) hb) (fun k k1 k2 k3 k4 k5 k6=>?_) (by simp[upd,h8']);simp(disch:=omega)only[zbo];exact hf k k1 k2 k3 k4 k5 k6
  intro hlti;have hlti:i<L.2.length:=by have:=of_decide_eq_true hlti;omega
  obtain⟨x,hx⟩:∃x,L.2[i]?=some x:=⟨_,zAB9 hlti⟩
  obtain⟨b,hb⟩:∃b,L.1[i]?=some b:=⟨_,zAB9 (by omega)⟩
  have hbl':i<L.1.length:=by omega
  have hxv:(L.2.map (zW 0))[i]?=some (zW 0 x):=by rw[zAH9,hx];rfl
  have hbv:(L.1.map fun(b:Nat)=>iv (b:Int))[i]?=some (iv b):=by rw[zAH9,hb];rfl
  have hbw:=(hLF.lv.each b (zAO9 hb)).1;have hof:=zyp p w b hs (by omega);have hch:=zkp p (zA w b) (by unfold zA;simp;omega);rw[zjW w L.1 L.2 i b x hb hx]at hls;have hKl:=zqP (ns:=L.2.take i) fun n hn=>(hLF.lv.node (zBX9 hn)).1;rw[zBA9]at hKl;have hVl:V.length<=29*L.2.length:=by rw[hV,zAA9];omega
  have hKt:=zwL L.2 i x hx;have hxl:=(hLF.lv.node (zAO9 hx)).1;(repeat refine za ?_);refine zB ?_;refine zGF (zr3 h37' h39' hxv) ?_;(repeat refine za ?_);refine zrg ?_ (by simp(disch:=omega)only[go_sem,h0',h7',gm0,gm1,gm2,hbv,hbl']<;>rfl);refine zbz (by first|rfl|(simp only[go_sem]<;>rfl)) (by simp only[go_sem]<;>rfl) hof rfl ?_ ?_;(repeat(first|exact trivial|refine And.intro ?_ ?_|exact Id0.int _ _|exact Id0.bool _|exact Id0.list _ _ _|exact Id0.elem _|exact Id0.nilsl|exact Id0.str _|exact zbE _ _ _));refine zfx ?_;refine zca hch ?_
  by_cases hc0:zbi (zA w b)=0
  rotate_left
  ·have g:¬((zbi (zA w b):Nat):Int)=0:=by omega
   refine zAW g ?_;refine zcx (zcg 220) ?_;exact hP (by rw[hls];simp[hc0]) _ _
  have g:((zbi (zA w b):Nat):Int)=0:=by omega
  refine zAW g ?_;refine zca (zc6 220) ?_;refine zN ?_;(repeat refine za ?_);(repeat refine za ?_);refine zgo ?_;have e1:((i:Int)+1)=((i+1:Nat):Int):=by omega
  generalize hH0:G++zn.row 100 2 0 0 [zby 0 0 L.1 L.2]::.row 138 2 V.length 0 V::r2::G4=H0;refine zbD (Q:=fun y s'=>(y=.norm/\zdp x L.2[i+1]?=true/\(∀k,k≠8->k≠10->k≠11->k≠12->k≠14->(k<39\/109<k)->s'.tm k=tm k)/\s'.tm 8=.sl (G.length+1) V.length 0 V.length (2*V.length) 2/\s'.tm 11=.ptr H0.length 0 0 0 6/\s'.tm 39=iv i/\s'.df=[]/\s'.H=H0++[.row 124 6 0 0 [zW 0 x]])\/(y=.panic (zcd 220)/\zdp x L.2[i+1]?=false/\s'.df=[])) ?_ ?_
  ·have hfr:∀(t:Nat->PV),(∀k,k≠8->k≠10->k≠11->k≠12->k≠14->(k<39\/109<k)->t k=tn k)->∀k,k≠8->k≠10->k≠11->k≠12->k≠14->(k<39\/109<k)->t k=tm k:=fun t ht k k1 k2 k3 k4 k5 k6=>(ht k k1 k2 k3 k4 k5 k6).trans (hf k k1 k2 k3 k4 k5 k6)
   by_cases hp0:x.pairs.length=0
   ·have g0:¬(0:Int)<(x.pairs.length:Nat):=by omega
    (repeat refine za ?_);(repeat refine za ?_);refine zAV g0 ?_;refine zcf ?_;refine zBl (.inl ⟨rfl,?_,hfr _ (fun k k1 k2 k3 k4 k5 k6=>by simp(disch:=omega)only[zbo]),h8',zt,h39',rfl,rfl⟩);unfold zdp;rw[zCO9 hp0];rfl
   have g0:(0:Int)<(x.pairs.length:Nat):=by omega
   subst hH0
   by_cases hi1:i+1<L.2.length
   rotate_left
   ·have g1:¬((i+1:Nat):Int)<(L.2.length:Nat):=by omega
    (repeat refine za ?_);(repeat refine za ?_);refine zgo ?_ (by simp(disch:=omega)only[go_sem,g0,g1,e1,h7',gm0,gm1,gm2]<;>rfl);refine zcf ?_;refine zBl (.inl ⟨rfl,?_,hfr _ (fun k k1 k2 k3 k4 k5 k6=>by simp(disch:=omega)only[zbo]),h8',zt,h39',rfl,rfl⟩);unfold zdp;rw[zBP9 (show L.2.length<=i+1 by omega)];split
    ·rename_i h;cases h
    ·rfl
   have g1:((i+1:Nat):Int)<(L.2.length:Nat):=by omega
   obtain⟨z,hz⟩:∃z,L.2[i+1]?=some z:=⟨_,zAB9 hi1⟩
   have hzv:(L.2.map (zW 0))[i+1]?=some (zW 0 z):=by rw[zAH9,hz];rfl
   obtain⟨y,hy⟩:∃y,x.pairs[x.pairs.length-1]?=some y:=⟨_,zAB9 (by omega)⟩
   have hyv:(x.pairs.map pv)[x.pairs.length-1]?=some (pv y):=by rw[zAH9,hy];rfl
   have hq:IntKind.i64.wrap ((x.pairs.length:Int)-1)=((x.pairs.length-1:Nat):Int):=zwi;have hq1:x.pairs.length-1<x.pairs.length:=by omega
   have hll:zdp x L.2[i+1]?=decide (y.1<z.low):=by unfold zdp;rw[zCJ9,hy,hz]
   (repeat refine za ?_);(repeat refine za ?_);refine zgo ?_ (by simp(disch:=omega)only[go_sem,g0,g1,e1,h7',gm0,gm1,gm2]<;>rfl);refine zct ?_;refine zad ?_
   by_cases hlow:y.1<z.low
   ·have g2:(y.1:Int)<(z.low:Nat):=by omega
    refine zdn (zc6 220) ?_ (by simp(disch:=omega)only[go_sem,h7',gm0,gm1,gm2,hq,hyv,hq1,e1,hzv,hi1,g2]<;>rfl);refine zAY h7' ?_;refine zL ?_;refine .inl ⟨rfl,by rw[hll];simp[hlow],hfr _ (fun k k1 k2 k3 k4 k5 k6=>?_),h8',?_,h39',rfl,rfl⟩
    ·simp(disch:=first|omega|simp)only[zBs,zbo]
    ·simp[zBs,upd]
   ·have g2:¬(y.1:Int)<(z.low:Nat):=by omega
    refine zed (by first|exact trivial|simp only[go_sem,h7',gm0,gm1,gm2,hq,hyv,hq1,e1,hzv,hi1,g2]) (by simp(disch:=omega)only[go_sem,h7',gm0,gm1,gm2,hq,hyv,hq1,e1,hzv,hi1,g2]<;>rfl) rfl rfl (by first|rfl|(simp only[go_sem]<;>rfl)) (by simp only[go_sem,h7',gm0,gm1,gm2,hq,hyv,hq1,e1,hzv,hi1,g2]<;>rfl) (zcg 220) ?_ ?_;(repeat(first|exact trivial|refine And.intro ?_ ?_|exact .int _ _|exact .bool _|exact .list _ _ _|exact .elem _|exact .nilsl|exact .nil _ _|exact .str _|refine Frz.aggL ?_|refine Frz.fnL ?_|refine Frz.tupL ?_|refine .iface ?_|exact zbF rfl rfl (by assumption)));exact .inr ⟨rfl,by rw[hll];simp[hlow],rfl⟩
  rintro y ⟨tq,df,H⟩ (⟨rfl,hlow,hf2,h8'',h11,h39'',rfl,rfl⟩|⟨rfl,hlow,rfl⟩);rotate_left
  ·exact hP (by rw[hls];simp[hlow]) _ _
  dsimp only at hf2 h8'' h11 h39'';subst hH0;have hbK:(V.length+1)*17<=140737488355328:=by omega
  (repeat refine za ?_);refine zgo ?_ (by simp(disch:=omega)only[go_sem,h8'',h11,gm0,gm1,gm2,hm0,hm1,hm2,tm0,tm1,tm2,hbK]<;>rfl);(repeat refine za ?_);(repeat refine za ?_);refine zgo ?_ (by simp(disch:=omega)only[go_sem,h11,gp1,gp2]<;>rfl);simp only[zAG9,zAI9,zAK9];obtain⟨V1,hV1⟩:∃V1,V1=V++[cvI (x.low,x.left)]:=⟨_,rfl⟩
  have hV1l:V.length+1=V1.length:=by rw[hV1];simp
  rw[<- hV1,hV1l];refine zyb G _ r2 V1 x.pairs (by omega) _ _ (by simp[upd]) (by simp[upd]) (by simp[upd]) (by simp[upd]) (fun tm' V2 G5 hV2 hfr h8=>?_);have h39x:tm' 39=iv i:=(hfr 39 (by decide) (by decide) (by decide)).trans (by simp[upd,h39'']);refine zJF h39x ?_;refine⟨_,?m,i+1,V2,?G6,rfl,hlti,?hV,?hls,?hck,?hf,zu h8,by simp[upd,h39x],zt,?H⟩
  case m=>omega
  case hV=>rw[hV2,hV1,hV,hKt];simp[zcC]
  case hls=>rw[hls,hlow];simp[hc0]
  case hck =>
   intro j c hj hc;rcases zCY9 j i with h|h
   ·exact hck j c h hc
   ·obtain rfl:j=i:=by omega
    rw[hb]at hc;injection hc with hc;subst hc;exact hc0
  case hf =>
   intro k k1 k2 k3 k4 k5 k6;simp(disch:=omega)only[zbo];rw[hfr k k1 k5 (by omega)];simp(disch:=omega)only[zbo];exact hf2 k k1 k2 k3 k4 k5 k6
  case H=>rfl
theorem f60:ET.funcs.get 60=some T60:=zH Tryz.func60
theorem zfX {l:List Nat}(h:zbi l=0)(hl:0<(headN l).level):∀x∈zcC (headN l),x.2<2048:=by
 have hh:=zdd h;unfold zbi at h;rw[if_pos hh]at h;have hp:zet l=true:=by
  by_cases hp:zet l=true
  ·exact hp
  ·rw[if_neg hp]at h;cases h
 unfold zet at hp;rw[zAQ9,zCU9,List.any_eq_false]at hp;intro x hx;rcases zAX9.1 hx with rfl|hx
 ·unfold headB at hh;rw[zAQ9,zBL9]at hh;have h3:=hh.2 3 (by decide);have e1:(headN l).level=zf0 (l.getD 0 0):=by unfold headN;rfl
  have e2:(headN l).left=l.getD 3 0:=by unfold headN;rfl
  rw[zcR,<- e1,<- e2]at h3;simp only[zEQ9,zAQ9,decide_eq_true_eq]at h3;rcases h3 with⟨h3,_⟩|⟨_,h3⟩
  ·omega
  ·exact((zel _).1 h3).2
 ·have:=hp.2 x hx;have hm:zb1 (headN l) x=true:=by simpa using this
  unfold zb1 at hm;rw[if_neg (by omega),zAQ9]at hm;exact((zel _).1 hm.1).2
def zin (w:List Nat)(a:Int):FE:=if zbO w.length a=true then if(zac w a.toNat).2=true then if zfe w (zac w a.toNat).1=true then .ret (zbQ (zac w a.toNat).1)else .panic (zcd 220)else .panic (zcd 220)else .panic (zcd 2)
theorem zso (p:Nat)(w:List Nat)(a:Int)(hs:za7 w.length)(hwl:w.length<=131072)(T:List Lev)(hl:FN ET 42 [wv p w,iv a] (.ret (zbQ T)))(f1:∀L∈T,zhL w L)(f2:∀L∈T.dropLast,zhK L)(f3:T ≠ [])(f5:T.length<=14) :
  FN ET 60 [wv p w,iv a] (if zfe w T=true then .ret (zbQ T)else .panic (zcd 220)):=by
 refine zfn f60 ?_ ?_
 ·split
  ·exact zlb _
  ·exact .iface (.int _ _)
 have bad:zfe w T=false->(if zfe w T=true then FE.ret (zbQ T)else .panic (zcd 220))=.panic (zcd 220):=fun h=>by rw[h];rfl
 obtain⟨L0,R,rfl⟩:∃L0 R,T=L0::R:=by
  cases T with
  | nil=>exact absurd rfl f3
  | cons a l=>exact⟨a,l,rfl⟩
 have hT0:(List.map (fun L=>zby 0 0 L.1 L.2) (L0::R))[0]?=some (zby 0 0 L0.1 L0.2):=rfl;obtain⟨n0,hn0⟩:∃n0:zC,(L0.2.map (zW 0))[0]?=some (zW 0 n0)/\zrx (L0::R)=decide (n0.sib=0):=by
  have:=(f1 L0 (zAU9 ..)).ne;obtain⟨bs,ns⟩:=L0
  cases ns with
  | nil=>exact absurd rfl this
  | cons n ns=>exact⟨n,rfl,rfl⟩
 obtain⟨hn0,hsb⟩:=hn0;refine zG ?_;refine zI ?_;refine zca hl ?_;refine zN ?_;have hnl:0<L0.2.length:=zBV9.2 (f1 L0 (zAU9 ..)).ne;have hrl:0<R.length+1:=zCQ9 _
 by_cases hsib:n0.sib=0
 rotate_left
 ·have g:¬(n0.sib:Int)=0:=by omega
  refine zIF (zr5 hT0 hn0 hnl hrl g) ?_;refine zcx (zcg 220) ?_;exact zcP (by rw[bad (by unfold zfe;rw[hsb];simp[hsib])])
 have g:(n0.sib:Int)=0:=by omega
 refine zIF (zr5 hT0 hn0 hnl hrl g) ?_;refine zca (zc6 220) ?_;refine zN ?_;refine zGF hT0 ?_;have hset:zfe w (L0::R)=zbX w (L0::R):=by unfold zfe;rw[hsb,hsib];rfl
 rw[hset]at bad⊢;clear hset hsb hT0 hn0 hnl hrl g hsib f3;have hTl:(L0::R).length=R.length+1:=rfl;generalize L0::R=T at *
 refine zB (zar (fun m s=>∃(n:Nat) (G:List zn),m=T.length-n/\n<=T.length/\zbX w T=zbX w (T.drop n)/\s.tm 0=wv p w/\s.tm 5=zbQ T/\s.tm 29=zbQ T/\s.tm 30=iv T.length/\s.tm 31=iv n/\s.df=[]/\s.H=G) (n:=T.length) ?_ ?_)
 ·exact⟨0,_,rfl,by omega,rfl,zt,zt,zt,by simp[upd];omega,zt,rfl,rfl⟩
 ·rintro m ⟨tm,df,G⟩ ⟨n,G',rfl,hn,hls,h0,h5,h29,h30,h31,rfl,rfl⟩;dsimp only at h0 h5 h29 h30 h31;(try refine zBp ?_);refine za (zAV (zr3 h29 h30 h31) ?_);refine zwh ?_ ?_;rotate_left
  ·intro hlt;have hlt:¬n<T.length:=by have:=of_decide_eq_false hlt;omega
   obtain rfl:n=T.length:=by omega
   refine zOF h5 ?_;rw[zBM9]at hls;rw[hls];exact Frz.list _ _ _
  intro hlt;have hlt:n<T.length:=by have:=of_decide_eq_true hlt;omega
  obtain⟨L,hL⟩:∃L,T[n]?=some L:=⟨_,zAB9 hlt⟩
  have hLT:(T.map fun L=>zby 0 0 L.1 L.2)[n]?=some (zby 0 0 L.1 L.2):=by rw[zAH9,hL];rfl
  have hLF:=f1 L (zAO9 hL);have hdr:T.drop n=L::T.drop (n+1):=by rw[zAW9 hlt];obtain⟨_,e⟩:=zAC9.1 hL;rw[e]
  rw[hdr,zrt]at hls;have hbl:=hLF.lv.len;have hfew:=hLF.few;(repeat refine za ?_);refine zB ?_;refine zGF (zr3 h29 h31 hLT) ?_;refine zb2 138 2 (i:=8) rfl ?_;refine zb2 138 2 (i:=9) rfl ?_;simp only[lzy,zAD9,zAE9,zAF9,zAR9,zAG9,zAI9,zAK9];(repeat(first|refine za ?_|refine zgo ?_ (by simp(disch:=omega)only[go_sem,gm0]<;>rfl)));refine zxx p w hs G _ L hLF _ [] (by simp[upd,h0]) (by simp[upd]) (by simp[upd]) (by simp[upd]) (by simp[upd]) (by simp[upd]) (fun hf tm' H=>?_) (fun tm' V G4 hns hV hck hfr h8=>?_)
  ·exact zcP (by rw[bad (by rw[hls,hf,zDQ9])])
  rw[hns,zBY9]at hls;have h0':tm' 0=wv p w:=(hfr 0 (by decide) (by decide) (by decide) (by decide) (by decide) (by decide)).trans (by simp[upd,h0]);have h5':tm' 5=zbQ T:=(hfr 5 (by decide) (by decide) (by decide) (by decide) (by decide) (by decide)).trans (by simp[upd,h5]);have h6':tm' 6=iv n:=(hfr 6 (by decide) (by decide) (by decide) (by decide) (by decide) (by decide)).trans (by simp[upd]);have h9':tm' 9=.sl (G.length+2) 0 0 0 0 2:=(hfr 9 (by decide) (by decide) (by decide) (by decide) (by decide) (by decide)).trans (by simp[upd]);have h29':tm' 29=zbQ T:=(hfr 29 (by decide) (by decide) (by decide) (by decide) (by decide) (by decide)).trans (by simp[upd,h29]);have h30':tm' 30=iv T.length:=(hfr 30 (by decide) (by decide) (by decide) (by decide) (by decide) (by decide)).trans (by simp[upd,h30]);have h31':tm' 31=iv n:=(hfr 31 (by decide) (by decide) (by decide) (by decide) (by decide) (by decide)).trans (by simp[upd,h31]);have hq:IntKind.i64.wrap ((T.length:Int)-1)=((T.length-1:Nat):Int):=zwi
  by_cases hlast:n+1=T.length
  ·have g:((n:Nat):Int)=(T.length-1:Nat):=by omega
   have hd0:T.drop (n+1)=[]:=zFA9 (by omega);rw[hd0]at hls;(repeat refine za ?_);(repeat refine za ?_);refine zAV (zr4 h5' h6' hq g) ?_;refine zfc ?_ ?_;rotate_left
   ·intro h;simp at h
   intro _;refine zhE ?_;refine zOF h5' ?_;rw[hls];exact Frz.list _ _ _
  have g:¬((n:Nat):Int)=(T.length-1:Nat):=by omega
  obtain⟨M,hM⟩:∃M,T[n+1]?=some M:=⟨_,zAB9 (by omega)⟩
  have hdM:T.drop (n+1)=M::T.drop (n+1+1):=by rw[zAW9 (show n+1<T.length by omega)];obtain⟨_,e⟩:=zAC9.1 hM;rw[e]
  have hMF:=f1 M (zAO9 hM);have hMT:(T.map fun L=>zby 0 0 L.1 L.2)[n+1]?=some (zby 0 0 M.1 M.2):=by rw[zAH9,hM];rfl
  have hMn:n+1<T.length:=by omega
  have e1:((n:Int)+1)=((n+1:Nat):Int):=by omega
  have hLp:zhK L:=f2 L (by
   have:T.dropLast[n]?=some L:=by rw[List.getElem?_dropLast,if_pos (by omega)];exact hL
   exact zAO9 this)
  have hsm:∀x∈L.2.flatMap zcC,x.2<2048:=fun x hx=>by
   obtain⟨y,hy,hx⟩:=zBB9.1 hx;have hy0:=hLp y hy;rw[hLF.lv.is]at hy;obtain⟨b,hb,rfl⟩:=zAM9.1 hy;obtain⟨j,hj⟩:=zDW9.1 hb;exact zfX (hck j b hj) hy0 x hx
  have hVc:V=(L.2.flatMap zcC).map cv:=by
   rw[hV];exact zEK9 fun x hx=>zzU (by have:=hsm x hx;omega)
  rw[hdM,zqh]at hls;(repeat refine za ?_);(repeat refine za ?_);refine zAV (zr4 h5' h6' hq g) ?_;refine zfc ?_ ?_
  ·intro h;simp at h
  intro _;refine zBl ?_;show W _ _ _ _ _ _;(repeat refine za ?_);(repeat refine za ?_);refine zAV (zr5 h5' h6' e1 hMT hMn) ?_;refine zxP G _ _ T M n (by omega) hM hMF.lv.len hMF.few _ _ (by simp[upd,h5']) (by simp[upd,h6']) (by simp[upd,h9']) (by simp[upd]) (by simp[upd]) (by simp[upd]) (fun tm2 V2 G5 hV2 hfr2 h9=>?_);have h8x:tm2 8=.sl (G.length+1) V.length 0 V.length (2*V.length) 2:=(hfr2 8 (by decide) (by decide) (by decide) (by decide)).trans (by simp[upd,h8]);have hk1:=zqP (ns:=L.2) fun n hn=>(hLF.lv.node hn).1;have hfew:=hLF.few;have hMfew:=hMF.few;have hml:(zcU M).length=M.2.length:=by unfold zcU;simp[hMF.lv.len]
  have heq:=zsn 1 1 (L.2.flatMap zcC) (zcU M) (by omega) (by omega);have hflat:∀l:List Pr,∀v∈(l.map cv).flatMap PV.cells,Id0 v:=fun l v hv=>by
   obtain⟨x,hx,hv⟩:=zBB9.1 hv;obtain⟨y,_,rfl⟩:=zAM9.1 hx;simp[PV.cells]at hv;rcases hv with rfl|rfl<;>exact .int _ _
  have fz1:Frz (G++zn.row 100 2 0 0 [zby 0 0 L.1 L.2]::.row 138 2 V.length 0 V::.row 138 2 V2.length 0 V2::G5) 1 (.sl (G.length+1) V.length 0 V.length (2*V.length) 2) (csv 1 (L.2.flatMap zcC)):=by
   rw[hVc];exact Frz.whole (hm0 G _ _ _) rfl (by simp) (by simp) (fun v hv=>by obtain⟨x,_,rfl⟩:=zAM9.1 hv;rfl) (hflat _)
  have fz2:Frz (G++zn.row 100 2 0 0 [zby 0 0 L.1 L.2]::.row 138 2 V.length 0 V::.row 138 2 V2.length 0 V2::G5) 1 (.sl (G.length+2) V2.length 0 V2.length (2*V2.length) 2) (csv 1 (zcU M)):=by
   rw[hV2];exact Frz.whole (km0 G _ _ _ _) rfl (by simp) (by simp) (fun v hv=>by obtain⟨x,_,rfl⟩:=zAM9.1 hv;rfl) (hflat _)
  (repeat refine za ?_);refine zAU ?_;refine zAW (zr2 h8x h9) ?_;refine zdA (caps:=?_) (vs:=?_) ?_ ?_ heq ?_ ?_;rotate_left 2;(first|rfl|(simp only[zV,zZ,go_sem]<;>rfl));(simp only[go_sem]<;>rfl)
  ·exact⟨fz1,fz2,trivial⟩
  by_cases hke:L.2.flatMap zcC=zcU M
  rotate_left
  ·rw[decide_eq_false hke];refine zfx ?_;refine zcx (zcg 220) ?_;exact zcP (by rw[bad (by rw[hls];simp[hke])])
  rw[decide_eq_true hke,zBY9]at hls;rw[decide_eq_true hke];refine zfx ?_;refine zca (zc6 220) ?_;refine zK ?_;have hx5:tm2 5=zbQ T:=(hfr2 5 (by decide) (by decide) (by decide) (by decide)).trans (by simp[upd,h5']);have hx0:tm2 0=wv p w:=(hfr2 0 (by decide) (by decide) (by decide) (by decide)).trans (by simp[upd,h0']);have hx29:tm2 29=zbQ T:=(hfr2 29 (by decide) (by decide) (by decide) (by decide)).trans (by simp[upd,h29']);have hx30:tm2 30=iv T.length:=(hfr2 30 (by decide) (by decide) (by decide) (by decide)).trans (by simp[upd,h30']);have hx31:tm2 31=iv n:=(hfr2 31 (by decide) (by decide) (by decide) (by decide)).trans (by simp[upd,h31']);refine zJF (zr2 hx31 e1) ?_;refine⟨_,?m,n+1,_,rfl,hlt,by rw[hls,hdM],by simp[upd,hx0],by simp[upd,hx5],by simp[upd,hx29],by simp[upd,hx30],zt,rfl,rfl⟩
  case m=>omega
theorem zsA (p:Nat)(w:List Nat)(a:Int)(hs:za7 w.length):FN ET 60 [wv p w,iv a] (zin w a):=by
 have hl:=zkR p w a hs;unfold zhp at hl;unfold zin
 by_cases hr:zbO w.length a=true
 rotate_left
 ·rw[if_neg hr]at hl⊢;refine zfn f60 (.iface (.int _ _)) ?_;refine zG ?_;refine zI ?_;refine zcx hl ?_;(try(refine .iface ?_;exact .int _ _))
 rw[if_pos hr]at hl⊢;have hb:=(zdR _ _).1 hr
 by_cases ht:(zac w a.toNat).2=true
 rotate_left
 ·rw[if_neg ht]at hl⊢;refine zfn f60 (.iface (.int _ _)) ?_;refine zG ?_;refine zI ?_;refine zcx hl ?_;(try(refine .iface ?_;exact .int _ _))
 rw[if_pos ht]at hl⊢;obtain⟨f1,f2,f3,f4,f5⟩:=zcN (w:=w) (T:=(zac w a.toNat).1) (by omega) a.toNat (by rw[<- ht]);exact zso p w a hs (by omega) _ hl f1 f2 f3 f5
def ziQ (w:List Nat)(a:Int):Nat:=if zbO w.length a=true then if(zac w a.toNat).2=true then if zfe w (zac w a.toNat).1=true then 0 else 220 else 220 else 2
theorem zwY (r0 r2 r3 r4 r5:zn)(ws:List Nat)(b:Nat)(hb:b<2048)(hws:ws.length<=64)(tm:Nat->PV)(D:List FD)(V0:List PV)(hV0:V0.length<1000000)(G:List zn)(h5:tm 5=.ptr 1 0 0 0 1)(h19:tm 19=iv b)(h137:tm 137=wv 0 ws)(h138:tm 138=iv ws.length)(h139:tm 139=iv 0){Q:FX->FSt->Prop}
  (hQ:∀(tm':Nat->PV) (V:List PV) (G2:List zn),V=V0++(ze8 b ws).map zBo->(∀k,k≠22->k≠23->(k<139\/153<k)->tm' k=tm k)->Q .norm ⟨tm',D,r0::.row 30 1 0 0 [.sl 6 V.length 0 V.length (2*V.length) 2]::r2::r3::r4::r5::.row 83 2 V.length 0 V::(G++G2)⟩) :
  W ET ET.caught none c26_8 ⟨tm,D,r0::.row 30 1 0 0 [.sl 6 V0.length 0 V0.length (2*V0.length) 2]::r2::r3::r4::r5::.row 83 2 V0.length 0 V0::G⟩ Q:=by
 unfold c26_8 xC;refine zB (zar (fun m s=>∃(j:Nat) (V:List PV) (G2:List zn),m=ws.length-j/\j<=ws.length/\V=V0++((List.range j).map fun k=>(64*b+k,ws.getD k 0)).map zBo/\(∀k,k≠22->k≠23->k≠139->(k<139\/153<k)->s.tm k=tm k)/\s.tm 139=iv j/\s.df=D/\s.H=r0::.row 30 1 0 0 [.sl 6 V.length 0 V.length (2*V.length) 2]::r2::r3::r4::r5::.row 83 2 V.length 0 V::(G++G2)) (n:=ws.length) ?_ ?_)
 ·exact⟨0,V0,[],rfl,zAS9 _,by simp,fun k _ _ _ _=>rfl,h139,rfl,by rw[zDO9]⟩
 ·rintro m ⟨tn,df,H⟩ ⟨j,V,G2,rfl,hj,hV,hf,h139',rfl,rfl⟩;dsimp only at hf h139';have h5':=(hf 5 (by decide) (by decide) (by decide) (by decide)).trans h5;have h19':=(hf 19 (by decide) (by decide) (by decide) (by decide)).trans h19;have h137':=(hf 137 (by decide) (by decide) (by decide) (by decide)).trans h137;have h138':=(hf 138 (by decide) (by decide) (by decide) (by decide)).trans h138;have hVl:V.length=V0.length+j:=by rw[hV];simp
  (try refine zBp ?_);refine za (zAV (zr3 h137' h138' h139') ?_);refine zwh ?_ ?_
  ·intro hlt;have hlt:j<ws.length:=by have:=of_decide_eq_true hlt;omega
   have hqv:(ws.map uv)[j]?=some (uv (ws.getD j 0)):=by rw[zAH9,zAB9 hlt,zAL9,zAB9 hlt];rfl
   have hb2:(V.length+1)*17<=140737488355328:=by omega
   have hV2:V++[zBo (64*b+j,ws.getD j 0)]=V0++((List.range (j+1)).map fun k=>(64*b+k,ws.getD k 0)).map zBo:=by rw[zDG9,hV];simp
   have e1:IntKind.i64.wrap (64*(b:Int))=((64*b:Nat):Int):=zwi;have e2:IntKind.i64.wrap (((64*b:Nat):Int)+(j:Int))=((64*b+j:Nat):Int):=zwi;(repeat refine za ?_);refine zB ?_;refine zGF (zr4 h137' h139' hlt hqv) ?_;(repeat refine za ?_);refine zJF (zr5 h5' h19' e1 e2 hb2) ?_;refine zJF h139' ?_;refine⟨_,?m,j+1,V++[zBo (64*b+j,ws.getD j 0)],?G4,rfl,hlt,hV2,?f,zu h139',zt,?H⟩
   case m=>omega
   case f=>intro k k1 k2 k3 k4;simp(disch:=omega)only[zbo];exact hf k k1 k2 k3 k4
   case H =>
    (try dsimp only);rw[zAD9];simp only[zAG9,zAI9,zAK9];rfl
  ·intro hlt;have hlt:¬j<ws.length:=by have:=of_decide_eq_false hlt;omega
   obtain rfl:j=ws.length:=by omega
   refine hQ _ V G2 hV (fun k k1 k2 k3=>?_);simp(disch:=omega)only[zbo];exact hf k k1 k2 (by omega) k3
theorem e10:((1:Int)=0)=False:=eq_false (by decide)
def zdk:Option Nat->Nat->Bool
 | none,_=>true
 | some k,n=>decide (k<n)
def zce (seen:List Nat)(pk:Option Nat)(x:Pr):Bool:=decide (1<=x.2)&&decide (x.2<=1099511627776) && !seen.contains x.2&&zdk pk x.1
def zgQ:List Nat->Option Nat->List Pr->Bool
 | _,_,[]=>true
 | seen,pk,x::l=>zce seen pk x&&zgQ (x.2::seen) (some x.1) l
theorem zmu:∀(l:List Pr) (seen:List Nat) (pk:Option Nat),zgQ seen pk l=true↔(zcn seen l=true/\(∀p∈l,1<=p.2/\p.2<=1099511627776)/\zbn l=true/\(∀x,l.head?=some x->zdk pk x.1=true))
 | [],_,_=>⟨fun _=>⟨rfl,by simp,rfl,by simp⟩,fun _=>rfl⟩
 | x::l,seen,pk=>by
  rw[zgQ,zAQ9,zmu l,zcn,zAQ9];unfold zce;have hr:zbn (x::l)=true↔zbn l=true/\∀y,l.head?=some y->zdk (some x.1) y.1=true:=by
   cases l with
   | nil=>simp[zbn]
   | cons y l=>rw[zbn,zAQ9];simp[zdk,and_comm]
  rw[hr];simp only[zAQ9,decide_eq_true_eq,List.head?_cons,Option.some.injEq,forall_eq',zAX9,forall_eq_or_imp]
  constructor
  ·rintro ⟨⟨⟨⟨a,b⟩,c⟩,d⟩,e,f,g,h⟩;exact⟨⟨c,e⟩,⟨⟨a,b⟩,f⟩,⟨g,h⟩,d⟩
  ·rintro ⟨⟨c,e⟩,⟨⟨a,b⟩,f⟩,⟨g,h⟩,d⟩;exact⟨⟨⟨⟨a,b⟩,c⟩,d⟩,e,f,g,h⟩
theorem zmI (l:List Pr):zgQ [] none l=okP l:=by
 rw[zDS9,zmu,zog,zeY]
 constructor
 ·rintro ⟨⟨a,_⟩,b,c,_⟩;exact⟨c,a,b⟩
 ·rintro ⟨c,a,b⟩;exact⟨⟨a,by simp⟩,b,c,fun _ _=>rfl⟩
def zA4 (l:List Pr)(i:Nat):Option Nat:=if i=0 then none else some (l.getD (i-1) (0,0)).1
theorem gq1 {α:Type}(r0 r1 r2 r3 r4 r5 r6:α)(G:List α)(x:α):(r0::r1::r2::r3::r4::r5::r6::(G++[x]))[G.length+7]?=some x:=by simp
set_option maxHeartbeats 4000000 in
theorem zyd (r0 r1 r2 r3 m5 r6:zn)(p:Nat)(l:List Pr)(hl:l.length<1000000)(tm:Nat->PV)(D:List FD)(G:List zn)(h0:tm 0=psv p l)(h8:tm 8=.map 4)(h27:tm 27=psv p l)(h28:tm 28=iv l.length)(h29:tm 29=iv 0){Q:FX->FSt->Prop}
  (hP:okP l=false->∀(tm':Nat->PV) (m4':zn) (G':List zn),(∀k,k<=7->tm' k=tm k)->Q (.panic (zcd 2)) ⟨tm',D,r0::r1::r2::r3::m4'::m5::r6::G'⟩)
  (hQ:∀(tm':Nat->PV) (m4':zn) (G':List zn),okP l=true->(∀k,k≠10->k≠11->(k<29\/68<k)->tm' k=tm k)->Q .norm ⟨tm',D,r0::r1::r2::r3::m4'::m5::r6::G'⟩) :
  W ET ET.caught none c26_0 ⟨tm,D,r0::r1::r2::r3::.map0::m5::r6::G⟩ Q:=by
 unfold c26_0 xC;refine zB (zar (fun m s=>∃(i:Nat) (seen:List Nat) (m4:zn) (G2:List zn),m=l.length-i/\i<=l.length/\zky m4 seen/\okP l=zgQ seen (zA4 l i) (l.drop i)/\(∀k,k≠10->k≠11->k≠29->(k<29\/68<k)->s.tm k=tm k)/\s.tm 29=iv i/\s.df=D/\s.H=r0::r1::r2::r3::m4::m5::r6::G2) (n:=l.length) ?_ ?_)
 ·exact⟨0,[],.map0,G,rfl,zAS9 _,.inl ⟨rfl,rfl⟩,(zmI l).symm,fun k _ _ _ _=>rfl,h29,rfl,rfl⟩
 ·rintro m ⟨tn,df,H⟩ ⟨i,seen,m4,G2,rfl,hi,hs,hok,hf,h29',rfl,rfl⟩;dsimp only at hf h29';have h0':=(hf 0 (by decide) (by decide) (by decide) (by decide)).trans h0;have h8':=(hf 8 (by decide) (by decide) (by decide) (by decide)).trans h8;have h27':=(hf 27 (by decide) (by decide) (by decide) (by decide)).trans h27;have h28':=(hf 28 (by decide) (by decide) (by decide) (by decide)).trans h28;(try refine zBp ?_);refine za (zAV (zr3 h27' h28' h29') ?_);refine zwh ?_ ?_;rotate_left
  ·intro hlt;have hlt:¬i<l.length:=by have:=of_decide_eq_false hlt;omega
   obtain rfl:i=l.length:=by omega
   refine hQ _ m4 G2 (by rw[hok,zBM9];rfl) (fun k k1 k2 k3=>?_);simp(disch:=omega)only[zbo];exact hf k k1 k2 (by omega) k3
  intro hlt;have hlt:i<l.length:=by have:=of_decide_eq_true hlt;omega
  obtain⟨x,hx⟩:∃x,l[i]?=some x:=⟨_,zAB9 hlt⟩
  have hxv:(l.map pv)[i]?=some (pv x):=by rw[zAH9,hx];rfl
  have hdx:l.drop i=x::l.drop (i+1):=by rw[zAW9 hlt];obtain⟨_,e⟩:=zAC9.1 hx;rw[e]
  rw[hdx,zgQ]at hok;have hpk:some x.1=zA4 l (i+1):=by unfold zA4;rw[if_neg (by omega),zEP9,zAL9,hx];rfl
  rw[hpk]at hok;(repeat refine za ?_);refine zB ?_;refine zGF (zr3 h27' h29' hxv) ?_;(repeat refine za ?_);refine zbD (Q:=fun y s'=>(y=.norm/\zce seen (zA4 l i) x=true/\(∀k,k≠10->k≠11->k≠29->(k<29\/68<k)->s'.tm k=tn k)/\s'.tm 29=iv i/\s'.tm 11=.ptr (G2.length+7) 0 0 0 2/\s'.df=df/\s'.H=r0::r1::r2::r3::m4::m5::r6::(G2++[.row 66 2 0 0 [pv x]]))\/(y=.panic (zcd 2)/\zce seen (zA4 l i) x=false/\(∀k,k<=7->s'.tm k=tn k)/\s'.df=df/\s'.H=r0::r1::r2::r3::m4::m5::r6::(G2++[.row 66 2 0 0 [pv x]]))) (zad ?_) ?_
  ·have h10':True:=trivial;have h11x:True:=trivial
   by_cases b1:1<=x.2
   rotate_left
   ·have a1:¬(1:Int)<=x.2:=by omega
    have a1b:¬(x.2:Int) ≥ 1:=by omega
    refine zed (by first|exact trivial|simp only[go_sem,h8',h10',h0',h11x,hxv,a1,a1b]) (by simp(disch:=omega)only[go_sem,h8',h10',h0',h11x,hxv,a1,a1b]<;>rfl) rfl rfl (by first|rfl|(simp only[go_sem]<;>rfl)) (by simp only[go_sem,h8',h10',h0',h11x,hxv,a1,a1b]<;>rfl) (zcg 2) ?_ ?_;(repeat(first|exact trivial|refine And.intro ?_ ?_|exact .int _ _|exact .bool _|exact .list _ _ _|exact .elem _|exact .nilsl|exact .nil _ _|exact .str _|refine Frz.aggL ?_|refine Frz.fnL ?_|refine Frz.tupL ?_|refine .iface ?_|exact zbF rfl rfl (by assumption)));exact .inr ⟨rfl,by simp[zce,b1],fun k k1=>by simp(disch:=omega)only[zd7,zbo],rfl,rfl⟩
   have a1:(1:Int)<=x.2:=by omega
   by_cases b2:x.2<=1099511627776
   rotate_left
   ·have a2:¬(x.2:Int)<=1099511627776:=by omega
    refine zed (by first|exact trivial|simp only[go_sem,h8',h10',h0',h11x,hxv,a1,a2]) (by simp(disch:=omega)only[go_sem,h8',h10',h0',h11x,hxv,a1,a2]<;>rfl) rfl rfl (by first|rfl|(simp only[go_sem]<;>rfl)) (by simp only[go_sem,h8',h10',h0',h11x,hxv,a1,a2]<;>rfl) (zcg 2) ?_ ?_;(repeat(first|exact trivial|refine And.intro ?_ ?_|exact .int _ _|exact .bool _|exact .list _ _ _|exact .elem _|exact .nilsl|exact .nil _ _|exact .str _|refine Frz.aggL ?_|refine Frz.fnL ?_|refine Frz.tupL ?_|refine .iface ?_|exact zbF rfl rfl (by assumption)));exact .inr ⟨rfl,by simp[zce,b1,b2],fun k k1=>by simp(disch:=omega)only[zd7,zbo],rfl,rfl⟩
   have a2:(x.2:Int)<=1099511627776:=by omega
   by_cases b3:i=0
   ·subst b3;have hi0:True:=trivial;have hi1:True:=trivial;have hpv:True:=trivial;have hil:True:=trivial;have hkey:True:=trivial;rcases hs with⟨rfl,rfl⟩|⟨mm,rfl,hmm⟩
    ·skip
     refine zAZ (zr7 h8' h10' h0' h11x hxv a1 a2) (zc6 2) ?_;refine zAY h8' ?_;refine zL ?_;refine .inl ⟨rfl,by simp[zce,b1,b2,zA4,zdk],fun k k1 k2 k3 k4=>?_,?_,?_,rfl,rfl⟩
     ·simp(disch:=first|omega|simp)only[zBs,zbo]
     ·simp[zBs,upd,h29']
     ·simp[zBs,upd]
    ·have hq:=hmm x.2
     by_cases hc:seen.contains x.2=true
     ·rw[if_pos hc]at hq;have hc2:x.2∈seen:=by simpa using hc
      refine zed (by first|exact trivial|simp only[go_sem,h8',h10',h0',h11x,hxv,a1,a2,hq,e10]) (by simp(disch:=omega)only[go_sem,h8',h10',h0',h11x,hxv,a1,a2,hq,e10]<;>rfl) rfl rfl (by first|rfl|(simp only[go_sem]<;>rfl)) (by simp only[go_sem,h8',h10',h0',h11x,hxv,a1,a2,hq,e10]<;>rfl) (zcg 2) ?_ ?_;(repeat(first|exact trivial|refine And.intro ?_ ?_|exact .int _ _|exact .bool _|exact .list _ _ _|exact .elem _|exact .nilsl|exact .nil _ _|exact .str _|refine Frz.aggL ?_|refine Frz.fnL ?_|refine Frz.tupL ?_|refine .iface ?_|exact zbF rfl rfl (by assumption)));exact .inr ⟨rfl,by simp[zce,hc2],fun k k1=>by simp(disch:=omega)only[zd7,zbo],rfl,rfl⟩
     ·rw[if_neg hc]at hq;have hc2:¬x.2∈seen:=by simpa using hc
      refine zAZ (zr8 h8' h10' h0' h11x hxv a1 a2 hq) (zc6 2) ?_;refine zAY h8' ?_;refine zL ?_;refine .inl ⟨rfl,by simp[zce,b1,b2,zA4,zdk,hc2],fun k k1 k2 k3 k4=>?_,?_,?_,rfl,rfl⟩
      ·simp(disch:=first|omega|simp)only[zBs,zbo]
      ·simp[zBs,upd,h29']
      ·simp[zBs,upd]
   have hi0:¬(i:Int)=0:=by omega
   have hi1:IntKind.i64.wrap ((i:Int)-1)=((i-1:Nat):Int):=zwi;have hil:i-1<l.length:=by omega
   have hpv:(l.map pv)[i-1]?=some (pv (l.getD (i-1) (0,0))):=by rw[zAH9,get_lt l hil];rfl
   have hpk2:zA4 l i=some (l.getD (i-1) (0,0)).1:=by unfold zA4;rw[if_neg b3]
   generalize l.getD (i-1) (0,0)=pr at hpv hpk2
   by_cases b4:pr.1<x.1
   ·have hkey:((pr.1:Nat):Int)<(x.1:Nat):=by omega
    rcases hs with⟨rfl,rfl⟩|⟨mm,rfl,hmm⟩
    ·skip
     refine zAZ (zBa h8' h10' h0' h11x hxv a1 a2 hi0 hi1 hpv hil hkey) (zc6 2) ?_;refine zAY h8' ?_;refine zL ?_;refine .inl ⟨rfl,by simp[zce,b1,b2,hpk2,zdk,b4],fun k k1 k2 k3 k4=>?_,?_,?_,rfl,rfl⟩
     ·simp(disch:=first|omega|simp)only[zBs,zbo]
     ·simp[zBs,upd,h29']
     ·simp[zBs,upd]
    ·have hq:=hmm x.2
     by_cases hc:seen.contains x.2=true
     ·rw[if_pos hc]at hq;have hc2:x.2∈seen:=by simpa using hc
      refine zed (by first|exact trivial|simp only[go_sem,h8',h10',h0',h11x,hxv,a1,a2,hq,e10]) (by simp(disch:=omega)only[go_sem,h8',h10',h0',h11x,hxv,a1,a2,hq,e10]<;>rfl) rfl rfl (by first|rfl|(simp only[go_sem]<;>rfl)) (by simp only[go_sem,h8',h10',h0',h11x,hxv,a1,a2,hq,e10]<;>rfl) (zcg 2) ?_ ?_;(repeat(first|exact trivial|refine And.intro ?_ ?_|exact .int _ _|exact .bool _|exact .list _ _ _|exact .elem _|exact .nilsl|exact .nil _ _|exact .str _|refine Frz.aggL ?_|refine Frz.fnL ?_|refine Frz.tupL ?_|refine .iface ?_|exact zbF rfl rfl (by assumption)));exact .inr ⟨rfl,by simp[zce,hc2],fun k k1=>by simp(disch:=omega)only[zd7,zbo],rfl,rfl⟩
     ·rw[if_neg hc]at hq;have hc2:¬x.2∈seen:=by simpa using hc
      refine zAZ (zBa h8' h10' h0' h11x hxv a1 a2 hi0 hi1 hpv hil (zr2 hkey hq)) (zc6 2) ?_;refine zAY h8' ?_;refine zL ?_;refine .inl ⟨rfl,by simp[zce,b1,b2,hpk2,zdk,b4,hc2],fun k k1 k2 k3 k4=>?_,?_,?_,rfl,rfl⟩
      ·simp(disch:=first|omega|simp)only[zBs,zbo]
      ·simp[zBs,upd,h29']
      ·simp[zBs,upd]
   ·have hkey:¬((pr.1:Nat):Int)<(x.1:Nat):=by omega
    rcases hs with⟨rfl,rfl⟩|⟨mm,rfl,hmm⟩
    ·skip
     refine zed (by first|exact trivial|simp only[go_sem,h8',h10',h0',h11x,hxv,a1,a2,hi0,hi1,hpv,hil,hkey]) (by simp(disch:=omega)only[go_sem,h8',h10',h0',h11x,hxv,a1,a2,hi0,hi1,hpv,hil,hkey]<;>rfl) rfl rfl (by first|rfl|(simp only[go_sem]<;>rfl)) (by simp only[go_sem,h8',h10',h0',h11x,hxv,a1,a2,hi0,hi1,hpv,hil,hkey]<;>rfl) (zcg 2) ?_ ?_;(repeat(first|exact trivial|refine And.intro ?_ ?_|exact .int _ _|exact .bool _|exact .list _ _ _|exact .elem _|exact .nilsl|exact .nil _ _|exact .str _|refine Frz.aggL ?_|refine Frz.fnL ?_|refine Frz.tupL ?_|refine .iface ?_|exact zbF rfl rfl (by assumption)));exact .inr ⟨rfl,by simp[zce,b1,b2,hpk2,zdk,b4],fun k k1=>by simp(disch:=omega)only[zd7,zbo],rfl,rfl⟩
    ·have hq:=hmm x.2
     by_cases hc:seen.contains x.2=true
     ·rw[if_pos hc]at hq;have hc2:x.2∈seen:=by simpa using hc
      refine zed (by first|exact trivial|simp only[go_sem,h8',h10',h0',h11x,hxv,a1,a2,hq,e10]) (by simp(disch:=omega)only[go_sem,h8',h10',h0',h11x,hxv,a1,a2,hq,e10]<;>rfl) rfl rfl (by first|rfl|(simp only[go_sem]<;>rfl)) (by simp only[go_sem,h8',h10',h0',h11x,hxv,a1,a2,hq,e10]<;>rfl) (zcg 2) ?_ ?_;(repeat(first|exact trivial|refine And.intro ?_ ?_|exact .int _ _|exact .bool _|exact .list _ _ _|exact .elem _|exact .nilsl|exact .nil _ _|exact .str _|refine Frz.aggL ?_|refine Frz.fnL ?_|refine Frz.tupL ?_|refine .iface ?_|exact zbF rfl rfl (by assumption)));exact .inr ⟨rfl,by simp[zce,hc2],fun k k1=>by simp(disch:=omega)only[zd7,zbo],rfl,rfl⟩
     ·rw[if_neg hc]at hq;have hc2:¬x.2∈seen:=by simpa using hc
      refine zed (by first|exact trivial|simp only[go_sem,h8',h10',h0',h11x,hxv,a1,a2,hi0,hi1,hpv,hil,hkey,hq]) (by simp(disch:=omega)only[go_sem,h8',h10',h0',h11x,hxv,a1,a2,hi0,hi1,hpv,hil,hkey,hq]<;>rfl) rfl rfl (by first|rfl|(simp only[go_sem]<;>rfl)) (by simp only[go_sem,h8',h10',h0',h11x,hxv,a1,a2,hi0,hi1,hpv,hil,hkey,hq]<;>rfl) (zcg 2) ?_ ?_;(repeat(first|exact trivial|refine And.intro ?_ ?_|exact .int _ _|exact .bool _|exact .list _ _ _|exact .elem _|exact .nilsl|exact .nil _ _|exact .str _|refine Frz.aggL ?_|refine Frz.fnL ?_|refine Frz.tupL ?_|refine .iface ?_|exact zbF rfl rfl (by assumption)));exact .inr ⟨rfl,by simp[zce,b1,b2,hpk2,zdk,b4,hc2],fun k k1=>by simp(disch:=omega)only[zd7,zbo],rfl,rfl⟩
  rintro y ⟨tq,df2,H⟩ (⟨rfl,hst,hf2,h29x,h11x,rfl,rfl⟩|⟨rfl,hst,hf2,rfl,rfl⟩);rotate_left
  ·refine hP (by rw[hok,hst,zDQ9]) _ _ _ fun k hk=>?_;exact(hf2 k hk).trans (hf k (by omega) (by omega) (by omega) (by omega))
  dsimp only at hf2 h29x h11x;rw[hst,zBY9]at hok;have h8x:=(hf2 8 (by decide) (by decide) (by decide) (by decide)).trans h8';rcases hs with⟨rfl,rfl⟩|⟨mm,rfl,hmm⟩
  ·(repeat refine za ?_);refine zrg ?_ (by simp(disch:=omega)only[go_sem,h8x,h11x,gq1]<;>rfl);refine zr ?_;refine zJF h29x ?_;refine⟨_,?m1,i+1,[x.2],_,_,rfl,hlt,.inr ⟨_,rfl,fun q=>?_⟩,hok,fun k k1 k2 k3 k4=>?_,zt,rfl,rfl⟩
   case m1=>omega
   ·by_cases hq:q=x.2
    ·subst hq;simp
    ·have:¬(q:Int)=x.2:=by omega
     simp[hq,this]
   ·simp(disch:=omega)only[zbo];exact(hf2 k k1 k2 k3 k4).trans (hf k k1 k2 k3 k4)
  ·(repeat refine za ?_);refine zrg ?_ (by simp(disch:=omega)only[go_sem,h8x,h11x,gq1]<;>rfl);refine zr ?_;refine zJF h29x ?_;refine⟨_,?m2,i+1,x.2::seen,_,_,rfl,hlt,.inr ⟨_,rfl,fun q=>?_⟩,hok,fun k k1 k2 k3 k4=>?_,zt,rfl,rfl⟩
   case m2=>omega
   ·by_cases hq:q=x.2
    ·subst hq;simp
    ·have:¬(q:Int)=x.2:=by omega
     rw[if_neg this,hmm q];simp[hq]
   ·simp(disch:=omega)only[zbo];exact(hf2 k k1 k2 k3 k4).trans (hf k k1 k2 k3 k4)
def okI:List Int->List Int->Bool
 | _,[]=>true
 | seen,b::l=>decide (1<=b)&&decide (b<2048) && !seen.contains b&&okI (b::seen) l
theorem ztw:∀(l seen:List Int),okI seen l=true↔(∀b∈l,1<=b/\b<2048)/\l.Nodup/\∀b∈l,¬b∈seen
 | [],seen=>by simp[okI]
 | b::l,seen=>by
  rw[okI,zAQ9,zAQ9,zAQ9,ztw l,decide_eq_true_eq,decide_eq_true_eq,zCU9,zEB9];have:(seen.contains b=false)↔¬b∈seen:=by rw[<- zEN9,zDE9]
  rw[this]
  constructor
  ·rintro ⟨⟨⟨a1,a2⟩,a3⟩,b1,b2,b3⟩;refine⟨fun c hc=>?_,⟨fun h=>b3 b h (zAU9 ..),b2⟩,fun c hc=>?_⟩
   ·rcases zAX9.1 hc with rfl|hc
    ·exact⟨a1,a2⟩
    ·exact b1 c hc
   ·rcases zAX9.1 hc with rfl|hc
    ·exact a3
    ·exact fun h=>b3 c hc (zAT9 _ h)
  ·rintro ⟨h1,⟨h2,h3⟩,h4⟩;refine⟨⟨h1 b (zAU9 ..),h4 b (zAU9 ..)⟩,fun c hc=>h1 c (zAT9 _ hc),h3,fun c hc h=>?_⟩;rcases zAX9.1 h with rfl|h
   ·exact h2 hc
   ·exact h4 c (zAT9 _ hc) h
theorem zjy {l:List Int}(h:okI [] l=true):∃fr:List Nat,l=fr.map (fun(b:Nat)=>(b:Int))/\zoi fr=true:=by
 rw[ztw]at h;obtain⟨h1,h2,_⟩:=h;have he:l=(l.map Int.toNat).map (fun(b:Nat)=>(b:Int)):=by
  rw[zDH9]
  conv=>lhs;rw[<- zFU9 l]
  refine zEK9 fun b hb=>?_;have:=h1 b hb;show b=((b.toNat:Nat):Int)
  omega
 refine⟨l.map Int.toNat,he,?_⟩;rw[zfE];refine⟨fun b hb=>?_,?_⟩
 ·obtain⟨c,hc,rfl⟩:=zAM9.1 hb;have:=h1 c hc;omega
 ·rw[he,List.nodup_iff_pairwise_ne,List.pairwise_map]at h2;exact h2.imp fun h e=>h (by rw[e])
def zfq (mo:zn)(seen:List Int):Prop:=(mo=.map0/\seen=[])\/∃mm:Int->Option PV,mo=.mapI .i64 mm/\∀q:Int,mm q=if seen.contains q=true then some (iv 1)else none
set_option maxHeartbeats 4000000 in
theorem zxN (r0 r1 r2 r3 m4 r6:zn)(p:Nat)(l:List Int)(hl:l.length<1000000)(tm:Nat->PV)(D:List FD)(G:List zn)(h9:tm 9=.map 5)(h69:tm 69=.list p 1 (l.map iv))(h70:tm 70=iv l.length)(h71:tm 71=iv 0){Q:FX->FSt->Prop}
  (hP:okI [] l=false->∀(tm':Nat->PV) (m5:zn) (G':List zn),(∀k,k<=7->tm' k=tm k)->Q (.panic (zcd 2)) ⟨tm',D,r0::r1::r2::r3::m4::m5::r6::G'⟩)
  (hQ:∀(tm':Nat->PV) (m5:zn) (G':List zn),okI [] l=true->(∀k,k≠13->(k<71\/90<k)->tm' k=tm k)->Q .norm ⟨tm',D,r0::r1::r2::r3::m4::m5::r6::G'⟩) :
  W ET ET.caught none c26_2 ⟨tm,D,r0::r1::r2::r3::m4::.map0::r6::G⟩ Q:=by
 unfold c26_2 xC;refine zB (zar (fun m s=>∃(i:Nat) (seen:List Int) (m5:zn),m=l.length-i/\i<=l.length/\zfq m5 seen/\okI [] l=okI seen (l.drop i)/\(∀k,k≠13->k≠71->(k<71\/90<k)->s.tm k=tm k)/\s.tm 71=iv i/\s.df=D/\s.H=r0::r1::r2::r3::m4::m5::r6::G) (n:=l.length) ?_ ?_)
 ·exact⟨0,[],.map0,rfl,zAS9 _,.inl ⟨rfl,rfl⟩,rfl,fun k _ _ _=>rfl,h71,rfl,rfl⟩
 ·rintro m ⟨tn,df,H⟩ ⟨i,seen,m5,rfl,hi,hs,hok,hf,h71',rfl,rfl⟩;dsimp only at hf h71';have h9':=(hf 9 (by decide) (by decide) (by decide)).trans h9;have h69':=(hf 69 (by decide) (by decide) (by decide)).trans h69;have h70':=(hf 70 (by decide) (by decide) (by decide)).trans h70;(try refine zBp ?_);refine za (zAV (zr3 h69' h70' h71') ?_);refine zwh ?_ ?_;rotate_left
  ·intro hlt;have hlt:¬i<l.length:=by have:=of_decide_eq_false hlt;omega
   obtain rfl:i=l.length:=by omega
   refine hQ _ m5 G (by rw[hok,zBM9];rfl) (fun k k1 k2=>?_);simp(disch:=omega)only[zbo];exact hf k k1 (by omega) k2
  intro hlt;have hlt:i<l.length:=by have:=of_decide_eq_true hlt;omega
  obtain⟨x,hx⟩:∃x,l[i]?=some x:=⟨_,zAB9 hlt⟩
  have hxv:(l.map iv)[i]?=some (iv x):=by rw[zAH9,hx];rfl
  have hdx:l.drop i=x::l.drop (i+1):=by rw[zAW9 hlt];obtain⟨_,e⟩:=zAC9.1 hx;rw[e]
  rw[hdx,okI]at hok;have bad:∀(t:Nat->PV),(decide (1<=x)&&decide (x<2048) && !seen.contains x)=false->(∀k,k<=7->t k=tn k)->Q (.panic (zcd 2)) ⟨t,df,r0::r1::r2::r3::m4::m5::r6::G⟩:=fun t hst hk=>hP (by rw[hok,hst,zDQ9]) _ _ _ fun k h=>(hk k h).trans (hf k (by omega) (by omega) (by omega));(repeat refine za ?_);refine zB ?_;(repeat refine za ?_);refine zGF (zr4 h69' h71' hxv hlt) ?_;(repeat refine za ?_);refine zAU ?_
  by_cases b1:1<=x
  rotate_left
  ·refine zAW (zr2 h9' b1) ?_;refine zcx (zcg 2) ?_;exact bad _ (by simp[b1]) fun k hk=>by simp(disch:=omega)only[zcA,zbo]
  by_cases b2:x<2048
  rotate_left
  ·refine zAW (zr3 h9' b1 b2) ?_;refine zcx (zcg 2) ?_;exact bad _ (by simp[b2]) fun k hk=>by simp(disch:=omega)only[zcA,zbo]
  rcases hs with⟨rfl,rfl⟩|⟨mm,rfl,hmm⟩
  ·refine zAW (zr3 h9' b1 b2) ?_;refine zca (zc6 2) ?_;refine zN ?_;refine zJF h9' ?_;refine zJF h71' ?_;refine⟨_,?m1,i+1,[x],_,rfl,hlt,.inr ⟨_,rfl,fun q=>?_⟩,by rw[hok];simp[b1,b2],fun k k1 k2 k3=>?_,zu h71',rfl,rfl⟩
   case m1=>omega
   ·by_cases hq:q=x
    ·subst hq;simp
    ·simp[hq]
   ·simp(disch:=omega)only[zbo];exact hf k k1 k2 k3
  ·have hq:=hmm x
   by_cases hc:seen.contains x=true
   ·rw[if_pos hc]at hq;refine zfx ?_ (by simp(disch:=omega)only[go_sem,h9',b1,b2,hq,e10]<;>rfl);refine zcx (zcg 2) ?_;exact bad _ (by rw[hc];simp) fun k hk=>by simp(disch:=omega)only[zcA,zbo]
   ·rw[if_neg hc]at hq;refine zAW (zr4 h9' b1 b2 hq) ?_;refine zca (zc6 2) ?_;refine zN ?_;refine zJF h9' ?_;refine zJF h71' ?_;have hc:seen.contains x=false:=by simpa using hc
    refine⟨_,?m2,i+1,x::seen,_,rfl,hlt,.inr ⟨_,rfl,fun q=>?_⟩,by rw[hok,hc];simp[b1,b2],fun k k1 k2 k3=>?_,zu h71',rfl,rfl⟩
    case m2=>omega
    ·by_cases hq:q=x
     ·subst hq;simp
     ·rw[if_neg hq,hmm q];simp[hq]
    ·simp(disch:=omega)only[zbo];exact hf k k1 k2 k3
theorem gq2 {α:Type}(r0 r1 r2 r3 r4 r5 r6:α)(G l:List α)(a x:α):(r0::r1::r2::r3::r4::r5::r6::(G++a::l++[x]))[(G++a::l).length+7]?=some x:=by simp
theorem gq3 {α:Type}(r0 r1 r2 r3 r4 r5 r6:α)(G l:List α)(a x y:α):(r0::r1::r2::r3::r4::r5::r6::(G++a::l++[x])).set ((G++a::l).length+7) y=r0::r1::r2::r3::r4::r5::r6::(G++a::l++[y]):=by simp
theorem gq4 {α:Type}(r0 r1 r2 r3 r4 r5 r6:α)(G l m:List α)(a x:α):(r0::r1::r2::r3::r4::r5::r6::(G++a::l++[x]++m))[(G++a::l).length+7]?=some x:=by
 rw[show ∀n,(r0::r1::r2::r3::r4::r5::r6::(G++a::l++[x]++m))[n+7]?=(G++a::l++[x]++m)[n]? from fun n=>rfl,zAG9,zAP9 (zAJ9 _),zGH9];rfl
theorem gm4 {α:Type}(G l m n o:List α)(x:α):(G++x::l++m++n++o)[G.length]?=some x:=gm3 G l m n o x
theorem sm4 {α:Type}(G l m n o:List α)(x z:α):(G++x::l++m++n++o).set G.length z=G++z::l++m++n++o:=sm3 G l m n o x z
@[reducible] def bfl (free:List Nat):List PV:=free.map fun (b:Nat)=>iv (b:Int)
theorem zhQ (xs:List (Nat×zC)):(xs.flatMap fun x=>ze8 x.1 (zbh x.2)).length=64*xs.length:=by
 induction xs with
 | nil=>rfl
 | cons a xs ih=>rw[zBS9,zAD9,ih,zAE9];simp[ze8,zdg];omega
theorem zq1 {bs:List Nat}{L:List zC}{i b:Nat}{x:zC}(hb:bs[i]?=some b)(hx:L[i]?=some x):(bs.zip L).take (i+1)=(bs.zip L).take i++[(b,x)]:=by
 have:(bs.zip L)[i]?=some (b,x):=by rw[zDI9];exact⟨hb,hx⟩
 rw[zBE9,this];rfl
theorem zwU {bs:List Nat}{l:List zC}{i b:Nat}{x:zC}(hb:bs[i]?=some b)(hx:l[i]?=some x):((l.map zC.low).zip bs).take (i+1)=((l.map zC.low).zip bs).take i++[(x.low,b)]:=by
 have:((l.map zC.low).zip bs)[i]?=some (x.low,b):=by rw[zDI9];exact⟨by rw[zAH9,hx];rfl,hb⟩
 rw[zBE9,this];rfl
theorem zxU (r0 r3 r4 r5:zn)(q z:Nat)(free:List Nat)(used:Nat)(l:List zC)(hfl:free.length<1000000)(hul:used+l.length<=free.length)(hfb:∀b∈free,b<2048)(hg:∀n∈l,zcQ n/\n.sib=0)(tm:Nat->PV)(D:List FD)(V0:List PV)(hV0:V0.length+64*l.length<900000)(G:List zn)
  (h1:tm 1=.list q 1 (bfl free)) (h5:tm 5=.ptr 1 0 0 0 1) (h6:tm 6=.ptr 2 0 0 0 1) (h14:tm 14=.list 0 6 (l.map (zW z))) (h16:tm 16=.sl (G.length+7) 0 0 0 0 2) (h103:tm 103=.list 0 6 (l.map (zW z))) (h104:tm 104=iv l.length) (h105:tm 105=iv 0) {Q:FX->FSt->Prop}
  (hQ:∀(tm':Nat->PV) (V N:List PV) (G2:List zn),V=V0++(ze3 ((free.drop used).take l.length) (zbq ((free.drop used).take l.length) l)).map zBo->N=((l.map zC.low).zip ((free.drop used).take l.length)).map cv->(∀k,(k<16\/161<k)->tm' k=tm k)->tm' 16=.sl (G.length+7) N.length 0 N.length (2*N.length) 2->Q .norm ⟨tm',D,r0::.row 30 1 0 0 [.sl 6 V.length 0 V.length (2*V.length) 2]::.row 3 1 0 0 [iv used]::r3::r4::r5::.row 83 2 V.length 0 V::(G++.row 138 2 N.length 0 N::G2)⟩) :
  W ET ET.caught none c26_6 ⟨tm,D,r0::.row 30 1 0 0 [.sl 6 V0.length 0 V0.length (2*V0.length) 2]::.row 3 1 0 0 [iv used]::r3::r4::r5::.row 83 2 V0.length 0 V0::(G++[.row 138 2 0 0 []])⟩ Q:=by
 unfold c26_6 xC;have hbl:((free.drop used).take l.length).length=l.length:=by rw[zBA9,zBT9];omega
 have hbg:∀i,i<l.length->((free.drop used).take l.length)[i]?=some (free.getD (used+i) 0):=fun i hi=>by
  rw[zBH9,if_pos hi,zBU9,zAL9,zAB9 (show used+i<free.length by omega)];rfl
 generalize hbs:(free.drop used).take l.length=bs at *
 have hll:=zcV bs l hbl;have hVl:∀i,(((bs.zip (zbq bs l)).take i).flatMap fun x=>ze8 x.1 (zbh x.2)).length<=64*i:=fun i=>by
  rw[zhQ,zBA9];omega
 refine zB (zar (fun m s=>∃(i:Nat) (V N:List PV) (G2:List zn),m=l.length-i/\i<=l.length/\V=V0++(((bs.zip (zbq bs l)).take i).flatMap fun x=>ze8 x.1 (zbh x.2)).map zBo/\N=(((l.map zC.low).zip bs).take i).map cv/\(∀k,k≠105->(k<16\/(103<=k/\k<106)\/161<k)->s.tm k=tm k)/\s.tm 16=.sl (G.length+7) N.length 0 N.length (2*N.length) 2/\s.tm 105=iv i/\s.df=D/\s.H=r0::.row 30 1 0 0 [.sl 6 V.length 0 V.length (2*V.length) 2]::.row 3 1 0 0 [iv used]::r3::r4::r5::.row 83 2 V.length 0 V::(G++.row 138 2 N.length 0 N::G2)) (n:=l.length) ?_ ?_)
 ·exact⟨0,V0,[],[],rfl,zAS9 _,by simp,rfl,fun k _ _=>rfl,h16,h105,rfl,rfl⟩
 ·rintro m ⟨tn,df,H⟩ ⟨i,V,N,G2,rfl,hi,hV,hN,hf,h16',h105',rfl,rfl⟩;dsimp only at hf h16' h105';have h1':=(hf 1 (by decide) (by decide)).trans h1;have h5':=(hf 5 (by decide) (by decide)).trans h5;have h6':=(hf 6 (by decide) (by decide)).trans h6;have h14':=(hf 14 (by decide) (by decide)).trans h14;have h103':=(hf 103 (by decide) (by decide)).trans h103;have h104':=(hf 104 (by decide) (by decide)).trans h104;have hVli:=hVl i;have hVlen:V.length<=V0.length+64*i:=by rw[hV,zAD9,zAA9];omega
  have hNl:N.length=i:=by rw[hN];simp;omega
  (try refine zBp ?_);refine za (zAV (zr3 h103' h104' h105') ?_);refine zwh ?_ ?_;rotate_left
  ·intro hlt;have hlt:¬i<l.length:=by have:=of_decide_eq_false hlt;omega
   obtain rfl:i=l.length:=by omega
   refine hQ _ V N G2 ?_ ?_ (fun k k1=>?_) (by simp[upd,h16'])
   ·rw[hV,zCS9 (by simp;omega)];rfl
   ·rw[hN,zCS9 (by simp;omega)]
   ·simp(disch:=omega)only[zbo];exact hf k (by omega) (by omega)
  intro hlt;have hlt:i<l.length:=by have:=of_decide_eq_true hlt;omega
  obtain⟨x,hx⟩:∃x,l[i]?=some x:=⟨_,zAB9 hlt⟩
  have hxv:(l.map (zW z))[i]?=some (zW z x):=by rw[zAH9,hx];rfl
  obtain⟨b,hb⟩:∃b,b=free.getD (used+i) 0:=⟨_,rfl⟩
  have hbi:=hbg i hlt;rw[<- hb]at hbi;have hfi:used+i<free.length:=by omega
  have hfv:(bfl free)[used+i]?=some (iv b):=by rw[zAH9,zAB9 hfi,hb,zAL9,zAB9 hfi];rfl
  have hbm:b<2048:=by
   rw[hb,zAL9,zAB9 hfi];exact hfb _ (zBN9 _)
  have hli:=zei bs l i x hbl hx;have hgx:=hg x (zAO9 hx);have e1:((used:Int)+(i:Int))=((used+i:Nat):Int):=by omega
  have e2:((i:Int)+1)=((i+1:Nat):Int):=by omega
  have e3:(((used+i:Nat):Int)+1)=((used+i+1:Nat):Int):=by omega
  generalize hx':({ x with sib:=bs.getD (i+1) 0 }:zC)=x' at hli;have hsib:bs.getD (i+1) 0<2048:=by
   rcases zCY9 (i+1) l.length with h|h
   ·rw[zAL9,hbg _ h];show free.getD _ 0<2048;rw[zAL9,zAB9 (show used+(i+1)<free.length by omega)];exact hfb _ (zBN9 _)
   ·rw[zAL9,zBP9 (by omega)];decide
  have hgx':zcQ x':=by rw[<- hx'];exact hgx.1.setSib hsib
  (repeat refine za ?_);refine zB ?_;(repeat refine za ?_);(repeat refine za ?_);refine zAV (zr4 h103' h105' hxv hlt) ?_;(repeat refine za ?_);(repeat refine za ?_);refine zAV (zr5 h1' h6' e1 hfv hfi) ?_;refine za (zbD (Q:=fun y s'=>y=.norm/\(∀k,k≠105->(k<16\/(103<=k/\k<106)\/161<k)->s'.tm k=tn k)/\s'.tm 16=.sl (G.length+7) N.length 0 N.length (2*N.length) 2/\s'.tm 18=.ptr ((G++zn.row 138 2 N.length 0 N::G2).length+7) 0 0 0 6/\s'.tm 19=iv b/\s'.tm 105=iv i/\s'.df=df/\s'.H=r0::.row 30 1 0 0 [.sl 6 V.length 0 V.length (2*V.length) 2]::.row 3 1 0 0 [iv used]::r3::r4::r5::.row 83 2 V.length 0 V::(G++.row 138 2 N.length 0 N::G2++[.row 124 6 0 0 [zW z x']])) ?_ ?_)
  ·by_cases hi1:i+1<l.length
   ·have g1:((i+1:Nat):Int)<(l.length:Nat):=by omega
    have hfi2:used+i+1<free.length:=by omega
    have hfv2:(bfl free)[used+i+1]?=some (iv (bs.getD (i+1) 0:Nat)):=by
     rw[zAL9,hbg _ hi1,zAH9,zAB9 hfi2];show _=some (iv (free.getD (used+(i+1)) 0:Nat));rw[zAL9,zAB9 (show used+(i+1)<free.length by omega)];rfl
    (repeat refine za ?_);(repeat refine za ?_);refine zAV (zr3 h14' e2 g1) ?_;refine zct ?_;refine zAU ?_;refine zfx ?_ (by simp(disch:=omega)only[go_sem,h1',h6',e1,e3,hfv2,hfi2,gq2,gq3]<;>rfl);refine zr ?_;refine⟨rfl,fun k k1 k2=>?_,zu h16',zt,zt,zu h105',rfl,?_⟩
    ·simp(disch:=omega)only[zbo]
    ·rw[<- hx']
   ·have g1:¬((i+1:Nat):Int)<(l.length:Nat):=by omega
    (repeat refine za ?_);(repeat refine za ?_);refine zAV (zr3 h14' e2 g1) ?_;refine zcf ?_;refine zBl ⟨rfl,fun k k1 k2=>?_,zu h16',zt,zt,zu h105',rfl,?_⟩
    ·simp(disch:=omega)only[zbo]
    ·have:x'=x:=by
      rw[<- hx',zAL9,zBP9 (show bs.length<=i+1 by omega)];have:=hgx.2;obtain⟨a1,a2,a3,a4,a5,a6⟩:=x;dsimp only at this;rw[this];rfl
     rw[this]
  rintro y ⟨tq,df2,H⟩ ⟨rfl,hf2,h16q,h18,h19,h105q,rfl,rfl⟩;dsimp only at hf2 h16q h18 h19 h105q;have hmk:=zyJ z x' (by have:=hgx'.few;omega);rw[hgx'.make]at hmk;unfold zqj at hmk;rw[if_pos rfl]at hmk;(repeat refine za ?_);refine zAU ?_;refine zfx ?_ (by simp(disch:=omega)only[go_sem,h18,gq2]<;>rfl);refine zca hmk ?_;refine zN ?_;(repeat refine za ?_);refine zAU ?_;refine zfx ?_;refine zca (zc6 2) ?_;refine zN ?_;(repeat refine za ?_);refine zI ?_;refine zh ?_;have h5q:tq 5=.ptr 1 0 0 0 1:=(hf2 5 (by decide) (by decide)).trans h5';refine zwY r0 _ r3 r4 r5 (zbh x') b hbm (by rw[zdg];omega) _ df2 V (by omega) _ (by simp[upd,h5q]) (by simp[upd,h19]) (by simp[upd]) (by simp[upd]) (by simp[upd]) (fun tm2 V2 G3 hV2 hfr=>?_);have h16x:tm2 16=.sl (G.length+7) N.length 0 N.length (2*N.length) 2:=(hfr 16 (by decide) (by decide) (by decide)).trans (by simp[upd,h16q]);have h18x:tm2 18=.ptr ((G++zn.row 138 2 N.length 0 N::G2).length+7) 0 0 0 6:=(hfr 18 (by decide) (by decide) (by decide)).trans (by simp[upd,h18]);have h19x:tm2 19=iv b:=(hfr 19 (by decide) (by decide) (by decide)).trans (by simp[upd,h19]);have h105x:tm2 105=iv i:=(hfr 105 (by decide) (by decide) (by decide)).trans (by simp[upd,h105q]);have hbN:(N.length+1)*17<=140737488355328:=by omega
  have hN2:N++[cv (x.low,b)]=(((l.map zC.low).zip bs).take (i+1)).map cv:=by rw[zwU hbi hx,hN];simp
  have hV3:V2=V0++(((bs.zip (zbq bs l)).take (i+1)).flatMap fun x=>ze8 x.1 (zbh x.2)).map zBo:=by rw[hV2,hV,zq1 hbi hli];simp
  have hxl:x'.low=x.low:=by rw[<- hx']
  (repeat refine za ?_);(repeat refine za ?_);refine zrg ?_ (by simp(disch:=omega)only[go_sem,h16x,h18x,h19x,gq4,gm0,gm1,gm2,gm3,gm4,sm0,sm1,sm2,sm3,sm4,hbN,hxl]<;>rfl);refine zr ?_;refine zJF h105x ?_;refine⟨_,?m,i+1,V2,N++[cv (x.low,b)],?G5,rfl,hlt,hV3,hN2,fun k k1 k2=>?_,zt,by simp[upd,h105x],zt,?H⟩
  case m=>omega
  case H =>
   (try dsimp only);rw[zAD9];simp only[zAG9,zAI9,zAK9];rfl
  ·simp(disch:=omega)only[zbo];rw[hfr k (by omega) (by omega) (by omega)];simp(disch:=omega)only[zbo];exact(hf2 k k1 k2).trans (hf k k1 k2)
end Fv
end Go.Proofs.YtfomlmhnmheenaaGreat
