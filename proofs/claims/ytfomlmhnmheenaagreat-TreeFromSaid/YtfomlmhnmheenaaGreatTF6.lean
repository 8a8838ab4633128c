/- part 6 of the proof of tree_from. -/
import Derived.Test.YtfomlmhnmheenaaGreatTF5
import Derived.KernelRfl
set_option linter.unusedSimpArgs false
set_option linter.unusedVariables false
set_option maxRecDepth 1000000
namespace Go.Proofs.YtfomlmhnmheenaaGreat
namespace Fv
open Tw
def zvB (f:Nat):Option (List TV->TH->Option (TE×TH)):=bif Nat.beq f 127 then some (zm0 83)else bif Nat.beq f 9 then some zlZ else none
noncomputable def ET:Env:=⟨zeS.set 9 none,zvB,zf2,zoQ,0⟩
theorem z9 {f:Nat}{F:zC}(h:zeS.get f=some F)(hf:f≠9):ET.funcs.get f=some F:=by
 show (zeS.set 9 none).get f=some F;rw[Tr.get_set,if_neg hf];exact h
end Fv
end Go.Proofs.YtfomlmhnmheenaaGreat
namespace Go.Proofs.YtfomlmhnmheenaaGreat
namespace Fv
abbrev Pr:=Nat×Nat
def zbG (left n:Nat):Bool:=decide (left≠0)&&decide (n%2=0)&&decide (2<=n/2)&&decide (n/2<=28)
def zbz:List Nat->Nat
 | _::p::l=>if p=0 then 0 else zbz l+1
 | _=>0
def zaB:Nat->List Nat->List Pr
 | prev,k::p::l=>if p=0 then[]else if p=prev then zaB p l else(k,p)::zaB p l
 | _,_=>[]
def zbO (left:Nat)(l:List Nat):List Pr:=if zbG left l.length=true then zaB left l else[]
def zbt:List Pr->Bool
 | a::b::l=>decide (a.1<b.1)&&zbt (b::l)
 | _=>true
def zc3:List Nat->List Pr->Bool
 | seen,p::l=>!seen.contains p.2&&zc3 (p.2::seen) l
 | _,[]=>true
def zej:List Nat->Bool
 | _::p::l=>decide (p=0)&&zej l
 | _=>true
def zdm (left:Nat)(l:List Nat):Bool :=
 zbt (zbO left l)&&zc3 [left] (zbO left l)&&decide ((zbO left l).length=zbz l)&&decide ((zbO left l).length<l.length/2)&&zej (l.drop (2*(zbO left l).length))
def zbW (left:Nat)(l:List Nat):Nat:=if zbG left l.length=true then if zdm left l=true then 0 else 190 else 2
def zb0 (left:Nat)(l:List Nat)(j:Nat):Nat:=if j=0 then left else l.getD (2*(j-1)+1) 0
theorem zkf (l:List Nat)(j:Nat)(h:2*j+1<l.length):l.drop (2*j)=l[2*j]::l[2*j+1]::l.drop (2*(j+1)):=by
 rw[zBB9 (i:=2*j) (by omega),zBB9 (i:=2*j+1) h];rfl
theorem zih:∀l:List Nat,2*zbz l<=l.length
 | []=>by simp[zbz]
 | [_]=>by simp[zbz]
 | _::p::l=>by
  have:=zih l;rw[zbz]
  split<;>simp<;>omega
theorem zmj {l:List Nat}(h:l.length<2):zbz l=0:=by
 match l,h with
 | [],_=>rfl
 | [_],_=>rfl
@[reducible] def wv (p:Nat) (l:List Nat):PV:=.list p 1 (l.map uv)
@[reducible] def pv (x:Pr):PV:=.agg [uv x.1,uv x.2]
@[reducible] def psv (p:Nat) (l:List Pr):PV:=.list p 2 (l.map pv)
theorem Lb.uvs {z:Nat}(l:List Nat):Lb (.list 0 z (l.map uv)):=.list fun x hx=>by
 obtain⟨y,hy,hx⟩:=zBI9.1 hx;obtain⟨n,_,rfl⟩:=zAS9.1 hy;simp[PV.cells]at hx;subst hx;exact .int _ _
theorem Lb.ivs {z:Nat}(l:List Int):Lb (.list 0 z (l.map iv)):=.list fun x hx=>by
 obtain⟨y,hy,hx⟩:=zBI9.1 hx;obtain⟨n,_,rfl⟩:=zAS9.1 hy;simp[PV.cells]at hx;subst hx;exact .int _ _
theorem Lb.pvs {z:Nat}(l:List Pr):Lb (.list 0 z (l.map pv)):=.list fun x hx=>by
 obtain⟨y,hy,hx⟩:=zBI9.1 hx;obtain⟨n,_,rfl⟩:=zAS9.1 hy;simp[PV.cells]at hx;rcases hx with rfl|rfl<;>exact .int _ _
end Fv
end Go.Proofs.YtfomlmhnmheenaaGreat
namespace Go.Proofs.YtfomlmhnmheenaaGreat
namespace Fv
open Tw
attribute [local go_sem] zbb zaH zaf zas evs ev okv zbs zX.cls zba zbh zbm zV zU upd zB za2 zaW zaY zaF zaT za3 za4 zaZ zaS zaU zat zaX za5 zaR za1 zaV za0 zao zaK za6 zan zal zbr PV.cells ofC zbg zZ zau okF zah spl zaI zaL bnd zam zaq zar za8 zbl zY zaA zaN zaj zbj zbn zab lenP zf zn zak zbi PV.toT zaG zJ Nat.mul_mod_right Int.reduceOfNat Int.reduceToNat Int.cast_ofNat_Int Int.reduceLE Int.reduceLT Int.reduceAdd Int.reduceSub Int.reduceMul Int.reduceNegSucc Nat.reduceEqDiff if_true if_false ite_true ite_false decide_true decide_false Bool.not_true Bool.not_false and_true true_and and_self false_and and_false or_false false_or or_true true_or or_self List.length_cons List.length_nil List.length_map List.getElem?_cons_zero List.getElem?_cons_succ List.getElem?_map List.getElem?_nil Option.map_some Option.map_none Option.getD_some List.append_nil List.nil_append List.cons_append List.take_succ_cons List.take_zero List.drop_zero List.drop_succ_cons List.set_cons_zero List.set_cons_succ Int.toNat_natCast Int.natCast_nonneg Nat.le_refl Nat.zero_le Nat.reduceAdd Nat.reduceSub Nat.reduceMul Nat.reduceLeDiff Nat.reduceLT Bool.false_eq_true Bool.true_eq_false Nat.add_zero Nat.zero_add List.all_cons List.all_nil Bool.and_true Bool.and_self Bool.true_and Nat.reduceMod Nat.reduceDiv eq_self zaC zaM zac zbf evN za9 dpF zaO zbq zaE zbe zbp zaP List.filter_cons List.filter_nil List.contains_cons List.contains_nil Nat.reduceBEq zT zS zO Option.some.injEq Option.isSome_some wrap_i64 zL zaD Bool.or_self Bool.or_false Bool.false_or daF dnF yD yO yW yM yN yL yP yK yF yE yB yQ yV T6 T8 T12 T16 T18 T19 T22 T27 T28 T29 T33 T40 T42 T43 T45 T46 T47 T48 T49 T50 T51 T52 T53 T54 T57 T58 T61 T62 T65 T71 T72 T73 T74 T80 T81 T90 T91 T92 T93 T94 T95 T96 T97 T98 T99 T103 T104 T107 T119 T120 T121 T122 T123 T124 T135 T137 T138 T139 T140 T141 T142 T143 T144 T156 T157 T158 T161 T162 T163 T164 T170 T173 T181 T184 T185 T188 T195 T198 T199 T200 T201 T202 T203 T204 T205 T206 T207 T208 T209 T210 T211 T212 T213 T214 T215 T223
attribute [local go_sem ↓] reduceIte
set_option maxRecDepth 100000
theorem f65:ET.funcs.get 65=some T65:=z9 (by kernel_rfl) (by decide)
theorem f58:ET.funcs.get 58=some T58:=z9 (by kernel_rfl) (by decide)
theorem zwP:ET.funcs.get 170=some T170:=z9 (by kernel_rfl) (by decide)
theorem zw1:ET.funcs.get 188=some T188:=z9 (by kernel_rfl) (by decide)
theorem zwN:ET.funcs.get 185=some T185:=z9 (by kernel_rfl) (by decide)
theorem zwK:ET.funcs.get 181=some T181:=z9 (by kernel_rfl) (by decide)
theorem zwl:ET.funcs.get 135=some T135:=z9 (by kernel_rfl) (by decide)
theorem zwt:ET.funcs.get 184=some T184:=z9 (by kernel_rfl) (by decide)
@[reducible] def zkV (n:Int):PV:=.iface 31 (.int .i64 n)
theorem zr1 (e:Int):FN ET 65 [.bool true,.int .i64 e] (.ret (.tuple [])):=by
 refine zfn f65 Lb.unit ?_;refine ze (zgo ?_);refine zfc ?_ ?_
 ·intro h;cases h
 ·intro _;refine zQ ?_;exact⟨[],rfl,Frz.tupL trivial⟩
theorem ziq (e:Int):FN ET 65 [.bool false,.int .i64 e] (.panic (zkV e)):=by
 refine zfn f65 (.iface (.int _ _)) ?_;refine ze (zgo ?_);refine zfc ?_ ?_
 ·intro _;refine zb ?_;refine zfx ?_;refine ztL (ty:=31) (v:=.int .i64 e) rfl (by simp[evs,ev,okv,upd,zB]) ?_;exact Frz.iface (.int _ _)
 ·intro h;cases h
theorem zmm (p:Nat)(l:List Int)(n:Int)(hl:l.length<4611686018427387904):FN ET 58 [.list p 1 (l.map iv),.int .i64 n] (.ret (.bool (l.contains n))):=by
 refine zfn f58 (.bool _) ?_;refine ze (zgo ?_);refine ze ?_;refine ze (zgo ?_);refine zK (zbd (fun m s=>∃i:Nat,m=l.length-i/\i<=l.length/\(l.take i).contains n=false/\s.tm 0=.list p 1 (l.map iv)/\s.tm 1=.int .i64 n/\s.tm 5=.int .i64 i/\s.df=[]/\s.H=[]) (n:=l.length) ?_ ?_)
 ·exact⟨0,by simp[upd,zB]⟩
 ·rintro m ⟨tm,df,H⟩ ⟨i,rfl,hi,hc,h0,h1,h5,rfl,rfl⟩;dsimp only at h0 h1 h5;refine zaa ?_;refine ze (zgo ?_ (by simp(disch:=omega)only[go_sem,h0,h1,h5]<;>rfl));refine zae (by simp only[go_sem]<;>rfl) ?_ ?_
  ·intro hlt;have hlt:i<l.length:=by have:=of_decide_eq_true hlt;omega
   refine ze (zK ?_);refine ze (zgo ?_ (by simp(disch:=omega)only[go_sem,h0,h1,h5,zAB9 hlt]<;>rfl));refine zfc ?_ ?_
   ·intro he;have he:=of_decide_eq_true he;refine ze (zgo ?_);refine zF ?_;(try simp only[zg,zj,zh,zi,zk]);refine zq (by simp only[T58,zI,go_sem]<;>rfl) ?_;simp only[zP];have:l.contains n=true:=by
     rw[zCU9];rw[<- he];exact zBU9 hlt
    rw[this];exact Frz.bool _
   ·intro he;have he:=of_decide_eq_false he;refine zQ ?_;simp only[zg,zj,zh,zi,zo,zk,if_true,reduceIte];refine zb ?_;refine zfx ?_ (by simp(disch:=omega)only[go_sem,h0,h1,h5]<;>rfl);refine zG ?_;refine⟨_,?_,i+1,rfl,hlt,?_,?_⟩
    ·omega
    ·rw[List.take_succ_eq_append_getElem hlt];rw[List.contains_append,hc];simp[Ne.symm he]
    ·have:IntKind.i64.wrap ((i:Int)+1)=((i+1:Nat):Int):=by rw[wrap_i64 (by omega) (by omega)];omega
     simp[upd,h0,h1,this]
  ·intro hlt;have hlt:¬i<l.length:=by have:=of_decide_eq_false hlt;omega
   obtain rfl:i=l.length:=by omega
   simp only[zg,zj,zh,zi,zo,zk,if_true,reduceIte];refine ze (zgo ?_);refine zF ?_;(try simp only[zg,zj,zh,zi,zk]);refine zq (by simp only[T58,zI,go_sem]<;>rfl) ?_;simp only[zP];rw[zBM9]at hc;rw[hc];exact Frz.bool _
abbrev zbH (n:Nat):Prop:=n<4611686018427387904
theorem zmO (p:Nat)(w:List Nat)(hw:zbH w.length):FN ET 170 [wv p w] (.ret (.int .i64 (w.length/2:Nat))):=by
 refine zfn zwP (.int _ _) ?_;refine ze (zgo ?_);have e1:IntKind.i64.wrap ((w.length:Int).tdiv 2)=((w.length/2:Nat):Int):=by
  rw[IntWalk.i64_quo _ _ (by omega)];omega
 refine ze (zb ?_);refine zfx ?_ (by simp(disch:=omega)only[go_sem,e1]<;>rfl);refine zd ?_;refine zF ?_;(try simp only[zg,zj,zh,zi,zk]);refine zq (by simp only[T170,zI,go_sem]<;>rfl) ?_;simp only[zP];exact Frz.int _ _
theorem zvO (p:Nat)(w:List Nat)(j:Nat)(hw:zbH w.length)(h:2*j<w.length):FN ET 188 [wv p w,.int .i64 j] (.ret (uv w[2*j])):=by
 refine zfn zw1 (.int _ _) ?_;refine ze (zgo ?_);have e1:IntKind.i64.wrap (2*(j:Int))=2*(j:Int):=wrap_i64 (by omega) (by omega);have e2:(2*(j:Int)).toNat=2*j:=by omega
 have e3:(0:Int)<=2*(j:Int):=by omega
 refine ze (zgo ?_ (by simp(disch:=omega)only[go_sem,e1,e2,e3,zAB9 h]<;>rfl));refine zF ?_;(try simp only[zg,zj,zh,zi,zk]);refine zq (by simp only[T188,zI,go_sem]<;>rfl) ?_;simp only[zP];exact Frz.int _ _
theorem zmc (p:Nat)(w:List Nat)(j:Nat)(hw:zbH w.length)(h:2*j+1<w.length):FN ET 185 [wv p w,.int .i64 j] (.ret (uv w[2*j+1])):=by
 refine zfn zwN (.int _ _) ?_;refine ze (zgo ?_);have e1:IntKind.i64.wrap (2*(j:Int))=2*(j:Int):=wrap_i64 (by omega) (by omega);have e4:IntKind.i64.wrap (2*(j:Int)+1)=2*(j:Int)+1:=wrap_i64 (by omega) (by omega);have e2:(2*(j:Int)+1).toNat=2*j+1:=by omega
 have e3:(0:Int)<=2*(j:Int)+1:=by omega
 refine ze (zgo ?_ (by simp(disch:=omega)only[go_sem,e1,e2,e3,e4,zAB9 h]<;>rfl));refine zF ?_;(try simp only[zg,zj,zh,zi,zk]);refine zq (by simp only[T185,zI,go_sem]<;>rfl) ?_;simp only[zP];exact Frz.int _ _
@[reducible] def zi2 (p:Nat) (w:List Nat) (left:Nat):PV:=.agg [wv p w,uv left]
theorem ztV (p:Nat)(w:List Nat)(left:Nat)(hw:zbH w.length):FN ET 181 [zi2 p w left] (.ret (.bool (zbG left w.length))):=by
 refine zfn zwK (.bool _) ?_;refine ze (zgo ?_);refine ze (zb ?_)
 by_cases h1:left=0
 ·subst h1;refine zfx ?_;refine zd ?_;refine zF ?_;(try simp only[zg,zj,zh,zi,zk]);refine zq (by simp only[T181,zI,go_sem]<;>rfl) ?_;simp only[zP];exact Frz.bool _
 ·have g1:¬(left:Int)=0:=by omega
  by_cases h2:w.length%2=0
  ·have g2:(w.length:Int).tmod 2=0:=by rw[IntWalk.rem_in _ _ (by omega)];omega
   refine zfx ?_ (by simp(disch:=omega)only[go_sem,g1,g2]<;>rfl);refine zca (zmO p w hw) ?_
   by_cases h3:2<=w.length/2
   ·have g3:(2:Int)<=((w.length/2:Nat):Int):=by omega
    refine zfx ?_ (by simp(disch:=omega)only[go_sem,g3]<;>rfl);refine zca (zmO p w hw) ?_;refine zfx ?_;refine zd ?_;refine zF ?_;(try simp only[zg,zj,zh,zi,zk]);refine zq (by simp only[T181,zI,go_sem]<;>rfl) ?_;simp only[zP];have:zbG left w.length=decide (((w.length/2:Nat):Int)<=28):=by simp[zbG,h1,h2,h3];omega
    rw[this];exact Frz.bool _
   ·have g3:¬(2:Int)<=((w.length/2:Nat):Int):=by omega
    refine zfx ?_ (by simp(disch:=omega)only[go_sem,g3]<;>rfl);refine zd ?_;refine zF ?_;(try simp only[zg,zj,zh,zi,zk]);refine zq (by simp only[T181,zI,go_sem]<;>rfl) ?_;simp only[zP];have:zbG left w.length=false:=by simp[zbG,h1,h2,h3]
    rw[this];exact Frz.bool _
  ·have g2:¬(w.length:Int).tmod 2=0:=by rw[IntWalk.rem_in _ _ (by omega)];omega
   refine zfx ?_ (by simp(disch:=omega)only[go_sem,g1,g2]<;>rfl);refine zd ?_;refine zF ?_;(try simp only[zg,zj,zh,zi,zk]);refine zq (by simp only[T181,zI,go_sem]<;>rfl) ?_;simp only[zP];have:zbG left w.length=false:=by simp[zbG,h1,h2]
   rw[this];exact Frz.bool _
theorem zum (p:Nat)(w:List Nat)(left j:Nat)(hw:zbH w.length)(h:2*j<w.length+1):FN ET 135 [zi2 p w left,.int .i64 j] (.ret (uv (zb0 left w j))):=by
 refine zfn zwl (.int _ _) ?_;(repeat(first|refine ze ?_|refine zgo ?_));refine zfc ?_ ?_
 ·intro hj;obtain rfl:j=0:=by have:=of_decide_eq_true hj;omega
  (repeat(first|refine ze ?_|refine zgo ?_));refine zF ?_;(try simp only[zg,zj,zh,zi,zk]);refine zq (by simp only[T135,zI,go_sem]<;>rfl) ?_;simp only[zP];exact Frz.int _ _
 ·intro hj;have hj:¬j=0:=by have:=of_decide_eq_false hj;omega
  refine zQ ?_;show W _ _ _ _ _ _;(repeat refine ze ?_);refine zrg ?_;have e1:(j:Int)-1=((j-1:Nat):Int):=by omega
  rw[e1];refine zca (zmc p w (j-1) hw (by omega)) ?_;refine zfx ?_;refine zd ?_;refine zF ?_;(try simp only[zg,zj,zh,zi,zk]);refine zq (by simp only[T135,zI,go_sem]<;>rfl) ?_;simp only[zP];have:zb0 left w j=w[2*(j-1)+1]'(by omega):=by
   unfold zb0;rw[if_neg hj,zAQ9,zAB9 (by omega)];rfl
  rw[this];exact Frz.int _ _
theorem zvX (p:Nat)(w:List Nat)(left:Nat)(hw:zbH w.length):FN ET 184 [zi2 p w left] (.ret (.int .i64 (zbz w:Nat))):=by
 refine zfn zwt (.int _ _) ?_;(repeat(first|refine ze ?_|refine zgo ?_));refine zK (zbd (fun m s=>∃i:Nat,m=w.length-i/\2*i<=w.length/\zbz w=i+zbz (w.drop (2*i))/\s.tm 1=.ptr 0 0 0 0 2/\s.tm 2=.int .i64 i/\s.df=[]/\s.H=[.row 209 2 0 0 [zi2 p w left]]) (n:=w.length) ?_ ?_)
 ·exact⟨0,by simp[upd,zB]⟩
 ·rintro m ⟨tm,df,H⟩ ⟨i,rfl,hi,hc,h1,h2,rfl,rfl⟩;dsimp only at h1 h2;refine zaa ?_;(repeat refine ze ?_);refine zrg ?_ (by simp(disch:=omega)only[go_sem,h1,h2]<;>rfl);refine zca (zmO p w hw) ?_;have stop:∀tm',zbz (w.drop (2*i))=0->tm' 2=.int .i64 i->zj (fun m s=>∃i:Nat,m=w.length-i/\2*i<=w.length/\zbz w=i+zbz (w.drop (2*i))/\s.tm 1=.ptr 0 0 0 0 2/\s.tm 2=.int .i64 i/\s.df=[]/\s.H=[.row 209 2 0 0 [zi2 p w left]]) (w.length-i)
    (zh 0 (zg (fun s'=>W ET ET.caught none (.seq (.region [⟨some 17,.mov,[.tmp 2],none⟩,⟨some 2,.mov,[.tmp 17],none⟩]) .ret) s' (zdI ET T184 fun e' H=>zbo H 0 e' (.ret (.int .i64 (zbz w:Nat))))) (zdI ET T184 fun e' H=>zbo H 0 e' (.ret (.int .i64 (zbz w:Nat)))))) (.exit 0) ⟨tm',[],[.row 209 2 0 0 [zi2 p w left]]⟩:=fun tm' h0 ht=>by
   simp only[zg,zj,zh,zi,zo,zk,if_true,reduceIte];(repeat(first|refine ze ?_|refine zgo ?_ (by simp(disch:=omega)only[go_sem,ht]<;>rfl)));refine zF ?_;(try simp only[zg,zj,zh,zi,zk]);refine zq (by simp only[T184,zI,go_sem]<;>rfl) ?_;simp only[zP];rw[hc,h0];exact Frz.int _ _
  by_cases hlt:i<w.length/2
  ·have g1:(i:Int)<((w.length/2:Nat):Int):=by omega
   refine zfx ?_ (by simp(disch:=omega)only[go_sem,g1,h1,h2]<;>rfl);refine zca (zmc p w i hw (by omega)) ?_;refine zfx ?_;refine zd ?_;have hd:=zkf w i (by omega);refine zae (by simp only[go_sem]<;>rfl) ?_ ?_
   ·intro hz;have hz:¬w[2*i+1]'(by omega)=0:=by simpa using hz
    refine zK ?_;(repeat refine ze ?_);refine zrg ?_ (by simp(disch:=omega)only[go_sem,h2]<;>rfl);refine zG ?_;simp only[zg,zj,zh,zi,zo,zk,if_true,↓reduceIte];refine⟨_,?_,i+1,rfl,?_,?_,?_⟩
    ·omega
    ·omega
    ·rw[hc,hd,zbz,if_neg hz];omega
    ·simp[upd,h1]
   ·intro hz;have hz:w[2*i+1]'(by omega)=0:=by simpa using hz
    refine stop _ ?_ (by simp[upd,h2]);rw[hd,zbz,if_pos hz]
  ·have g1:¬(i:Int)<((w.length/2:Nat):Int):=by omega
   refine zfx ?_ (by simp(disch:=omega)only[go_sem,g1,h1,h2]<;>rfl);refine zd ?_;refine zae (by simp only[go_sem]<;>rfl) ?_ ?_
   ·intro h;cases h
   ·intro _;refine stop _ ?_ (by simp[upd,h2]);exact zmj (by simp;omega)
def zbD:Nat->Nat->List Nat->List (Nat×Pr)
 | i,prev,k::p::l=>if p=0 then[]else if p=prev then zbD (i+1) p l else(i,(k,p))::zbD (i+1) p l
 | _,_,_=>[]
def zxg (left:Nat)(l:List Nat):List (Nat×Pr):=if zbG left l.length=true then zbD 0 left l else[]
theorem zcj:∀(l:List Nat) (i prev:Nat),(zbD i prev l).map (·.2)=zaB prev l
 | [],_,_=>by simp[zbD,zaB]
 | [_],_,_=>by simp[zbD,zaB]
 | k::p::l,i,prev=>by
  rw[zbD,zaB]
  split
  ·rfl
  ·split
   ·exact zcj l (i+1) p
   ·simp[zcj l (i+1) p]
theorem zfO (left:Nat)(l:List Nat):(zxg left l).map (·.2)=zbO left l:=by
 unfold zxg zbO
 split
 ·exact zcj l 0 left
 ·rfl
theorem zwB:ET.funcs.get 223=some T223:=z9 (by kernel_rfl) (by decide)
theorem zwg:ET.funcs.get 215=some T215:=z9 (by kernel_rfl) (by decide)
theorem zwx:ET.funcs.get 164=some T164:=z9 (by kernel_rfl) (by decide)
theorem zuh (id p:Nat)(w:List Nat)(left:Nat)(hw:zbH w.length)(P:Nat->List zu)(hlen:∀k,(P k).length=(P 0).length)(hnr:∀(k i:Nat) (o:zu),(P k)[i]?=some o->NRO (P 0).length o)
  (hy:∀(k j:Nat) (x:Pr) (G:List zu),(zxg left w)[k]?=some (j,x)->FY ET id [.int .i64 j,pv x] (P k++G) fun r H'=>r=true/\H'=P (k+1)++G) :
  FO ET 223 [.yield id,.elem [wv p w],.elem [uv left]] (P 0) false fun e H'=>e=.ret (.tuple [])/\H'=P (zxg left w).length:=by
 refine FO.gc (zro zwB ?_);have hb:∀k (x:zu),(P k++[x])[(P 0).length]?=some x:=fun k x=>by rw[<- hlen k];exact zf _ _
 have hs:∀k (x y:zu),(P k++[x]).set (P 0).length y=P k++[y]:=fun k x y=>by rw[<- hlen k];exact zn _ _ _
 have fin:∀(tm:Nat->PV) (k:Nat),k=(zxg left w).length->zdI ET T223 (fun e H'=>∃H'' G,zgQ (P 0) H' H'' G/\NRE (P 0).length e/\e=.ret (.tuple [])/\H''=P (zxg left w).length) .ret ⟨tm,[],P k++[.row 209 2 0 0 [zi2 p w left]]⟩:=fun tm k hk=>by
  subst hk;refine zq (vs:=[]) rfl ⟨P (zxg left w).length,_,⟨rfl,hlen _,fun i o ho=>.inr (hnr _ i o ho)⟩,.tuple (fun x h=>by cases h),rfl,rfl⟩
 refine zmy ?_;(repeat refine ze ?_);refine zgo ?_ (by simp(disch:=omega)only[go_sem,hb 0,hs 0]<;>rfl);(repeat refine ze ?_);refine zrg ?_ (by simp(disch:=omega)only[go_sem,hb 0]<;>rfl);refine zca (ztV p w left hw) ?_;refine zfx ?_;refine zd ?_
 by_cases hr:zbG left w.length=true
 ·have hev:w.length%2=0:=by simp[zbG]at hr;omega
  have hit:zxg left w=zbD 0 left w:=by unfold zxg;rw[if_pos hr]
  refine zfc ?_ ?_
  ·rw[hr];intro h;cases h
  ·intro _;refine zQ ?_;show W _ _ _ _ _ _;refine ze (zQ ?_);simp only[zg,zj,zh,zi,zo,zk,if_true,reduceIte];(repeat refine ze ?_);refine zrg ?_ (by simp(disch:=omega)only[go_sem,hb 0]<;>rfl);refine zca (zvX p w left hw) ?_;refine zfx ?_;refine zd ?_;refine zK (zbd (fun m s=>∃j k:Nat,m=w.length-j/\j<=zbz w/\zbz w=j+zbz (w.drop (2*j))/\k<=(zxg left w).length/\(zxg left w).drop k=zbD j (zb0 left w j) (w.drop (2*j))/\s.tm 0=.yield id/\s.tm 4=.ptr (P 0).length 0 0 0 2/\s.tm 13=.int .i64 (zbz w:Nat)/\s.tm 14=.int .i64 j/\s.df=[]/\s.H=P k++[.row 209 2 0 0 [zi2 p w left]]) (n:=w.length) ?_ ?_)
   ·exact⟨0,0,by simp,by omega,by simp,by omega,by simp[hit,zb0],by simp[upd,zB],by simp[upd,zB],by simp[upd,zB],by simp[upd,zB],rfl,rfl⟩
   ·rintro m ⟨tm,df,H⟩ ⟨j,k,rfl,hj,hraw,hk,hdk,h0,h4,h13,h14,rfl,rfl⟩;dsimp only at h0 h4 h13 h14;have hrl:=zih w;(try refine zaa ?_);refine ze (zb ?_);refine zfx ?_ (by simp(disch:=omega)only[go_sem,h0,h4,h13,h14]<;>rfl);refine zd ?_;refine zae (by simp only[go_sem]<;>rfl) ?_ ?_
    ·intro hlt;have hlt:j<zbz w:=by have:=of_decide_eq_true hlt;omega
     have hd:=zkf w j (by omega);have hpz:¬w[2*j+1]'(by omega)=0:=by
      intro e;rw[hd,zbz,if_pos e]at hraw;omega
     rw[hd,zbD,if_neg hpz]at hdk;rw[hd,zbz,if_neg hpz]at hraw;have hah:zb0 left w (j+1)=w[2*j+1]'(by omega):=by
      unfold zb0;rw[if_neg (by omega),zAQ9];simp only[zEZ9];rw[zAB9 (by omega)];rfl
     refine ze (zK ?_);(repeat refine ze ?_);refine zgo ?_ (by simp(disch:=omega)only[go_sem,h14]<;>rfl);refine ze ?_;refine zap ?_;refine zdn (zmc p w j hw (by omega)) ?_ (by simp(disch:=omega)only[go_sem,h0,h4,h14,hb k]<;>rfl);refine zdn (zum p w left j hw (by omega)) ?_ (by simp(disch:=omega)only[go_sem,h0,h4,h14,hb k]<;>rfl)
     by_cases heq:w[2*j+1]'(by omega)=zb0 left w j
     ·have g1:((w[2*j+1]'(by omega):Nat):Int)=((zb0 left w j:Nat):Int):=by rw[heq]
      rw[if_pos heq]at hdk;refine zeX (by first|exact trivial|simp only[go_sem,g1,h0,h4,h14,hb k]) (by simp(disch:=omega)only[go_sem,g1,h0,h4,h14,hb k]<;>rfl) rfl (by simp only[go_sem,g1,h0,h4,h14,hb k]<;>rfl) (by simp only[go_sem]<;>rfl) ?_;refine zeX (by first|exact trivial|simp only[go_sem,g1,h0,h4,h14,hb k]) (by simp(disch:=omega)only[go_sem,g1,h0,h4,h14,hb k]<;>rfl) rfl (by simp only[go_sem,g1,h0,h4,h14,hb k]<;>rfl) (by simp only[go_sem]<;>rfl) ?_;refine zeX (by first|exact trivial|simp only[go_sem,g1,h0,h4,h14,hb k]) (by simp(disch:=omega)only[go_sem,g1,h0,h4,h14,hb k]<;>rfl) rfl (by simp only[go_sem,g1,h0,h4,h14,hb k]<;>rfl) (by simp only[go_sem]<;>rfl) ?_;refine zdl ?_ (by simp(disch:=omega)only[go_sem,g1,h0,h4,h14,hb k]<;>rfl);refine zR ?_;simp only[zo,zW,zg,go_sem];refine zfc ?_ ?_
      ·intro h;cases h
      ·intro _;refine zQ ?_;simp only[zg,zj,zh,zi,zo,zk,if_true,reduceIte];(repeat refine ze ?_);refine zrg ?_ (by simp(disch:=omega)only[go_sem,h14]<;>rfl);refine zG ?_;simp only[zg,zj,zh,zi,zo,zk,if_true,↓reduceIte];refine⟨_,?_,j+1,k,rfl,by omega,by omega,hk,?_,?_⟩
       ·omega
       ·rw[hdk,hah]
       ·simp[upd,h0,h4,h13]
     ·have g1:¬((w[2*j+1]'(by omega):Nat):Int)=((zb0 left w j:Nat):Int):=by omega
      rw[if_neg heq]at hdk;have hk1:(zxg left w)[k]?=some (j,(w[2*j]'(by omega),w[2*j+1]'(by omega))):=by
       have:=congrArg List.head? hdk;rw[List.head?_drop]at this;simpa using this
      have hk2:k<(zxg left w).length:=(zAD9.1 hk1).1;have hdk2:(zxg left w).drop (k+1)=zbD (j+1) (w[2*j+1]'(by omega)) (w.drop (2*(j+1))):=by
       rw[<- zEE9,hdk];rfl
      refine zdn (zvO p w j hw (by omega)) ?_ (by simp(disch:=omega)only[go_sem,g1,h0,h4,h14,hb k]<;>rfl);refine zdn (zmc p w j hw (by omega)) ?_ (by simp(disch:=omega)only[go_sem,g1,h0,h4,h14,hb k]<;>rfl);refine ztR (s1:=?_) (id:=?_) (vs:=?_) ?_ ?_ rfl rfl ?_ ?_ ?_;rotate_left 3;(first|exact trivial|(simp only[go_sem,g1,h0,h4,h14,hb k]));(simp(disch:=omega)only[go_sem,wrap_i64,zL,zaD,g1,h0,h4,h14,hb k]<;>rfl);(first|rfl|(simp only[go_sem,g1,h0,h4,h14,hb k]<;>rfl));(simp only[go_sem,g1,h0,h4,h14,hb k]<;>rfl);refine FY.mono (hy k j _ _ hk1) fun r H' hh=>?_;obtain⟨rfl,rfl⟩:=hh;refine⟨_,by simp only[go_sem]<;>rfl,?_⟩;generalize zaE _ _=K0;refine zdl ?_ (by simp(disch:=omega)only[go_sem,g1]<;>rfl);refine zR ?_;simp only[zo,zW,zg,go_sem];refine zfc ?_ ?_
      ·intro h;cases h
      ·intro _;refine zQ ?_;simp only[zg,zj,zh,zi,zo,zk,if_true,reduceIte];(repeat refine ze ?_);refine zrg ?_ (by simp(disch:=omega)only[go_sem,h14]<;>rfl);refine zG ?_;simp only[zg,zj,zh,zi,zo,zk,if_true,↓reduceIte];refine⟨_,?_,j+1,k+1,rfl,by omega,by omega,hk2,?_,?_⟩
       ·omega
       ·rw[hdk2,hah]
       ·simp[upd,h0,h4,h13]
    ·intro hlt;have hlt:¬j<zbz w:=by have:=of_decide_eq_false hlt;omega
     obtain rfl:j=zbz w:=by omega
     simp only[zg,zj,zh,zi,zo,zk,if_true,reduceIte];have hz:zbD (zbz w) (zb0 left w (zbz w)) (w.drop (2*zbz w))=[]:=by
      have hr0:zbz (w.drop (2*zbz w))=0:=by omega
      revert hr0
      generalize w.drop (2*zbz w)=l
      match l with
      | []=>intro _;simp[zbD]
      | [_]=>intro _;simp[zbD]
      | a::b::l =>
       intro hr0;rw[zbz]at hr0
       split at hr0
       ·rename_i hb;rw[zbD,if_pos hb]
       ·omega
     rw[hz]at hdk;have hk3:k=(zxg left w).length:=by
      have:=congrArg List.length hdk;simp at this;omega
     exact fin _ _ hk3
 ·have hr:zbG left w.length=false:=by simpa using hr
  refine zfc ?_ ?_
  ·intro _;refine zF ?_;simp only[zg,zj,zh,zi,zo,zk,if_true,reduceIte];exact fin _ 0 (by simp[zxg,hr])
  ·rw[hr];intro h;cases h
theorem zuV (p:Nat)(w:List Nat)(left:Nat):FP ET 215 [uv left,wv p w] (.ret (.fn 223 [.elem [wv p w],.elem [uv left]])):=by
 refine zfp zwg ?_;(repeat(first|refine ze ?_|refine zgo ?_));refine zF ?_;(try simp only[zg,zj,zh,zi,zk]);refine zq (by simp only[T215,zI,go_sem]<;>rfl) ?_;simp only[zP];refine Frz.fnL ⟨.ptr (w:=wv p w) rfl (zAK9 _) rfl fun j x y hx hy=>?_,.ptr (w:=uv left) rfl (zAK9 _) rfl fun j x y hx hy=>?_,trivial⟩
 ·cases j with
  | zero=>simp[PV.cells]at hx hy;subst hx;subst hy;exact Frz.list _ _ _
  | succ j=>simp at hy
 ·cases j with
  | zero=>simp[PV.cells]at hx hy;subst hx;subst hy;exact Frz.int _ _
  | succ j=>simp at hy
def zqT:zbu:=.region [⟨some 6,.alloc 66 [.int .u64 (.ofNat 0),.int .u64 (.ofNat 0)],[],none⟩,⟨none,.store 2,[.tmp 6,.tmp 11],none⟩]
def zqZ:zbu:=.block 1 (.region [⟨some 12,.load false 1,[.tmp 4],none⟩,⟨some 13,.load true 2,[.tmp 6],none⟩,⟨some 14,.bslice 66 2 1 [.int .u64 (.ofNat 0),.int .u64 (.ofNat 0)] [(0,2)],[.tmp 13],none⟩,⟨some 15,.append 66 2 16,[.tmp 12,.tmp 14],none⟩,⟨none,.store 1,[.tmp 4,.tmp 15],none⟩])
def zeJ (tm:Nat->PV)(L:List Pr)(k:Nat):List zu:=[.row 41 1 0 0 [.sl 1 k 0 k (2*k) 2],.row 66 2 k 0 ((L.take k).map pv),.dfr false,.loop .ready .norm tm [10,11] zqT zqZ 2]
theorem zd2 {l:List Pr}:∀v∈(l.map pv).flatMap PV.cells,Id0 v:=fun v hv=>by
 obtain⟨x,hx,hv⟩:=zBI9.1 hv;obtain⟨n,_,rfl⟩:=zAS9.1 hx;simp[PV.cells]at hv;rcases hv with rfl|rfl<;>exact .int _ _
theorem zom {tm:Nat->PV}{L:List Pr}(hnr:∀i,tm i=.bad\/NR 4 (tm i))(k i:Nat)(o:zu)(ho:(zeJ tm L k)[i]?=some o):NRO 4 o:=by
 match i with
 | 0=>injection ho with ho;subst ho;intro x hx;simp[PV.cells]at hx;subst hx;exact .sl _ _ _ _ _ (by omega)
 | 1=>injection ho with ho;subst ho;exact zu8 zd2
 | 2=>injection ho with ho;subst ho;trivial
 | 3=>injection ho with ho;subst ho;exact⟨by omega,hnr,trivial⟩
 | i+4=>simp[zeJ]at ho
theorem zrQ {tm:Nat->PV}{L:List Pr}(hnr:∀i,tm i=.bad\/NR 4 (tm i))(k:Nat)(G G':List zu):zgQ (zeJ tm L k++G) (zeJ tm L (k+1)++G++G') (zeJ tm L (k+1)++G) G' :=
 zgQ.front rfl fun id o ho=>zom hnr (k+1) id o ho
theorem zeV (left:Nat)(w:List Nat):(zbO left w).length<=28:=by
 unfold zbO
 split
 ·rename_i h;have h1:∀(prev:Nat) (l:List Nat),2*(zaB prev l).length<=l.length:=by
   intro prev l
   induction prev,l using zaB.induct<;>rw[zaB]<;>simp_all<;>omega
  have h2:=h1 left w;simp[zbG]at h;omega
 ·simp
theorem zsB (tm:Nat->PV)(h4:tm 4=.ptr 0 0 0 0 1)(hnr:∀i,tm i=.bad\/NR 4 (tm i))(L:List Pr)(k j:Nat)(x:Pr)(hx:L[k]?=some x)(hL:L.length<1000000)(G:List zu) :
  FY ET 3 [.int .i64 j,pv x] (zeJ tm L k++G) fun r H'=>r=true/\H'=zeJ tm L (k+1)++G:=by
 have hk:k<L.length:=(zAD9.1 hx).1;have hxk:L[k]=x:=(zAD9.1 hx).2;have hlt:(L.take k).length=k:=by simp;omega
 refine FY.gc (zoP (tm:=tm) (ps:=[10,11]) (aS:=zqT) (bo:=zqZ) rfl rfl ?_);refine zb ?_;refine zfx ?_ (by simp(disch:=omega)only[go_sem,h4,zeJ]<;>rfl);refine zG ?_;refine⟨rfl,_,_,_,_,_,_,rfl,?_⟩;refine zK (zb ?_);have hb:(k+1)*17<=140737488355328:=by omega
 refine zfx ?_ (by simp(disch:=omega)only[go_sem,h4,hlt,hb]<;>rfl);refine zG ?_;simp only[zg,zj,zh,zi,zo,zk,if_true,↓reduceIte];have htk:(L.take k).map pv++[PV.agg [uv x.1,uv x.2]]=(L.take (k+1)).map pv:=by
  rw[zBN9,hx];simp
 rw[htk,zAF9];exact⟨rfl,.busy,.norm,tm,[10,11],zqT,zqZ,2,rfl,zeJ tm L (k+1)++G,[zu.row 66 2 0 0 [pv x]]++[zu.row 66 2 0 0 [PV.agg [uv x.1,uv x.2]]],zrQ hnr k G _,rfl,rfl⟩
theorem zuZ (p:Nat)(w:List Nat)(left:Nat)(hw:zbH w.length):FN ET 164 [uv left,wv p w] (.ret (psv 0 (zbO left w))):=by
 refine zfn zwx (Lb.pvs _) ?_;(repeat(first|refine ze ?_|refine zgo ?_));(repeat refine ze ?_);refine zrg ?_;refine zcb (by first|rfl|(simp only[go_sem]<;>rfl)) (by simp only[go_sem]<;>rfl) (zuV p w left) rfl ?_ ?_;(repeat(first|exact trivial|refine And.intro ?_ ?_|exact Id0.int _ _|exact Id0.bool _|exact Id0.list _ _ _|exact Id0.elem _|exact Id0.nilsl|exact Id0.str _|exact zce _ _ _));refine zfx ?_;refine zd ?_;refine zK ?_;refine zjf 66 2 (id:=0) rfl ?_;simp only[lzy,zAE9,zAG9,zCL9,zAH9,zAI9];refine zpv (g:=223) (cap:=[.elem [wv p w],.elem [uv left]]) (b:=false) (by simp only[go_sem]) ?_;have hL:(zxg left w).length=(zbO left w).length:=by rw[<- zfO];simp
 have h28:=zeV left w;have hnr:∀i,(upd (upd (upd (upd (zB [uv left,wv p w]) 4 (PV.ptr 0 0 0 0 1)) 7 (uv left)) 8 (wv p w)) 9 (PV.fn 223 [PV.elem [wv p w],PV.elem [uv left]])) i=.bad\/NR 4 ((upd (upd (upd (upd (zB [uv left,wv p w]) 4 (PV.ptr 0 0 0 0 1)) 7 (uv left)) 8 (wv p w)) 9 (PV.fn 223 [PV.elem [wv p w],PV.elem [uv left]])) i) :=
  zef (zef (zef (zef (zvc fun v hv=>by simp at hv;rcases hv with rfl|rfl<;>constructor) (.ptr _ _ _ _ (by omega))) (.int _ _)) (.list _ _ _)) (.fn fun x hx=>by simp at hx;rcases hx with rfl|rfl<;>constructor)
 have hP:=zuh 3 p w left hw (zeJ _ (zbO left w)) (fun _=>rfl) (fun k i o ho=>zom hnr k i o ho) fun k j x G hk =>
  zsB _ rfl hnr (zbO left w) k j x (by rw[<- zfO];simp[hk]) (by omega) G
 refine FO.mono (fun e H' he=>?_) hP;obtain⟨rfl,rfl⟩:=he;refine⟨⟨_,rfl⟩,.ready,.norm,_,_,_,_,_,by simp,rfl,?_⟩;simp only[zg,zj,zh,zi,zo,zk,if_true,reduceIte];rw[hL];refine ze (zb ?_);refine zfx ?_ (by simp(disch:=omega)only[go_sem,zeJ]<;>rfl);refine zd ?_;refine zF ?_;refine ztD (vs:=[.sl 1 (zbO left w).length 0 (zbO left w).length (2*(zbO left w).length) 2]) rfl rfl ?_;refine Frz.whole (e:=66) (z':=2) (G:=(zbO left w).length) (l:=(zbO left w).map pv) ?_ rfl (by simp) (by simp) (fun v hv=>?_) zd2
 ·simp[zeJ]
 ·obtain⟨x,_,rfl⟩:=zAS9.1 hv;rfl
theorem zig {H:List zu}{e:FE}{n:Int}(h:e=.panic (zkV n)):zbo H 0 (.panic (zkV n)) e:=by subst h;exact Frz.iface (.int _ _)
theorem zrh (w:List Nat)(i:Nat)(h:2*i+1<w.length):zej (w.drop (2*i))=(decide (w[2*i+1]=0)&&zej (w.drop (2*(i+1)))):=by
 rw[zkf w i h];rfl
theorem zr5 (w:List Nat)(i:Nat)(h:w.length<=2*i+1):zej (w.drop (2*i))=true:=by
 match h2:w.drop (2*i)with
 | []=>rfl
 | [_]=>rfl
 | a::b::l=>have:=congrArg List.length h2;simp at this;omega
theorem zbo.int {H:List zu}{k:IntKind}{n:Int}{e:FE}(h:e=.ret (.int k n)):zbo H 0 (.ret (.int k n)) e:=by subst h;exact Frz.int _ _
end Fv
end Go.Proofs.YtfomlmhnmheenaaGreat
namespace Go.Proofs.YtfomlmhnmheenaaGreat
namespace Fv
structure zE where
 level:Nat
 sib:Nat
 low:Nat
 left:Nat
 way:Nat
 pairs:List Pr
deriving DecidableEq
def zcK (p:Nat):Bool:=decide (1<=p)&&decide (p<2048)
def zcC:Nat->Nat->Nat->Bool
 | 0,_,w=>decide (7522529147838689024<=w)&&decide (w<=7522529147838689024+12)
 | 1,_,w=>decide (w<2048)
 | 2,_,_=>true
 | 3,lv,w=>(decide (lv=0)&&decide (w=9223372036854775808))||(decide (0<lv)&&zcK w)
 | _,_,w=>decide (w<=2)
@[irreducible] def zgq (x:Nat):Nat:=x - 7522529147838689024
theorem zmF (x:Nat):zgq x=x-7522529147838689024:=by unfold zgq;rfl
def zbP (l:List Nat):Bool:=decide (l.length=64)&&((l.take 8).drop 5).all (fun x=>decide (x=0))&&(List.range 5).all fun i=>zcC i (zgq (l.getD 0 0)) (l.getD i 0)
def zai (l:List Nat):zE:=⟨zgq (l.getD 0 0),l.getD 1 0,l.getD 2 0,l.getD 3 0,l.getD 4 0,zbO (l.getD 3 0) (l.drop 8)⟩
def zi8:zE:=⟨0,0,0,0,0,[]⟩
def zrA:Nat->zE->Nat
 | 0,n=>7522529147838689024+n.level
 | 1,n=>n.sib
 | 2,n=>n.low
 | 3,n=>n.left
 | _,n=>n.way
def zcv (n:zE)(p:Pr):Bool:=if n.level=0 then decide (1<=p.2)&&decide (p.2<=1099511627776)&&decide (n.low<=p.1)else zcK p.2&&decide (n.low<p.1)
def zhb (l:List Nat):Bool:=decide (zbW (zai l).left (l.drop 8)=0) && !((zai l).pairs.any fun q=>!zcv (zai l) q)
def zbJ (l:List Nat):Nat:=if zbP l=true then if zhb l=true then 0 else 190 else 210
def zlx (n:zE):List Nat:=[7522529147838689024+n.level,n.sib,n.low,n.left,n.way,0,0,0]
def zcL (l:List Pr):List Nat:=l.flatMap fun x=>[x.1,x.2]
@[reducible] def za7 (p:Nat) (n:zE):PV:=.agg [iv n.level,iv n.sib,uv n.low,uv n.left,iv n.way,psv p n.pairs]
def zvQ:Nat->Nat
 | 0=>198|1=>201|2=>204|3=>207|_=>211
def zvH:Nat->Nat
 | 0=>199|1=>202|2=>205|3=>209|_=>212
def zwS:Nat->Nat
 | 0=>200|1=>203|2=>206|3=>210|_=>213
@[reducible] def zuE (i:Nat):PV:=.agg [.fn (zvQ i) [],.fn (zvH i) [],.fn (zwS i) []]
def zhj:List PV:=(List.range 5).map zuE
end Fv
end Go.Proofs.YtfomlmhnmheenaaGreat
namespace Go.Proofs.YtfomlmhnmheenaaGreat
namespace Fv
open Tw
attribute [local go_sem] zbb zaH zaf zas evs ev okv zbs zX.cls zba zbh zbm zV zU upd zB za2 zaW zaY zaF zaT za3 za4 zaZ zaS zaU zat zaX za5 zaR za1 zaV za0 zao zaK za6 zan zal zbr PV.cells ofC zbg zZ zau okF zah spl zaI zaL bnd zam zaq zar za8 zbl zY zaA zaN zaj zbj zbn zab lenP zf zn zak zbi PV.toT zaG zJ Nat.mul_mod_right Int.reduceOfNat Int.reduceToNat Int.cast_ofNat_Int Int.reduceLE Int.reduceLT Int.reduceAdd Int.reduceSub Int.reduceMul Int.reduceNegSucc Nat.reduceEqDiff if_true if_false ite_true ite_false decide_true decide_false Bool.not_true Bool.not_false and_true true_and and_self false_and and_false or_false false_or or_true true_or or_self List.length_cons List.length_nil List.length_map List.getElem?_cons_zero List.getElem?_cons_succ List.getElem?_map List.getElem?_nil Option.map_some Option.map_none Option.getD_some List.append_nil List.nil_append List.cons_append List.take_succ_cons List.take_zero List.drop_zero List.drop_succ_cons List.set_cons_zero List.set_cons_succ Int.toNat_natCast Int.natCast_nonneg Nat.le_refl Nat.zero_le Nat.reduceAdd Nat.reduceSub Nat.reduceMul Nat.reduceLeDiff Nat.reduceLT Bool.false_eq_true Bool.true_eq_false Nat.add_zero Nat.zero_add List.all_cons List.all_nil Bool.and_true Bool.and_self Bool.true_and Nat.reduceMod Nat.reduceDiv eq_self zaC zaM zac zbf evN za9 dpF zaO zbq zaE zbe zbp zaP List.filter_cons List.filter_nil List.contains_cons List.contains_nil Nat.reduceBEq zT zS zO Option.some.injEq Option.isSome_some wrap_i64 zL zaD Bool.or_self Bool.or_false Bool.false_or daF dnF yD yO yW yM yN yL yP yK yF yE yB yQ yV T6 T8 T12 T16 T18 T19 T22 T27 T28 T29 T33 T40 T42 T43 T45 T46 T47 T48 T49 T50 T51 T52 T53 T54 T57 T58 T61 T62 T65 T71 T72 T73 T74 T80 T81 T90 T91 T92 T93 T94 T95 T96 T97 T98 T99 T103 T104 T107 T119 T120 T121 T122 T123 T124 T135 T137 T138 T139 T140 T141 T142 T143 T144 T156 T157 T158 T161 T162 T163 T164 T170 T173 T181 T184 T185 T188 T195 T198 T199 T200 T201 T202 T203 T204 T205 T206 T207 T208 T209 T210 T211 T212 T213 T214 T215 T223
attribute [local go_sem ↓] reduceIte
set_option maxRecDepth 100000
theorem zwT:ET.funcs.get 208=some T208:=z9 (by kernel_rfl) (by decide)
theorem zwD:ET.funcs.get 198=some T198:=z9 (by kernel_rfl) (by decide)
theorem zxc:ET.funcs.get 199=some T199:=z9 (by kernel_rfl) (by decide)
theorem zwo:ET.funcs.get 201=some T201:=z9 (by kernel_rfl) (by decide)
theorem zwO:ET.funcs.get 202=some T202:=z9 (by kernel_rfl) (by decide)
theorem zwu:ET.funcs.get 204=some T204:=z9 (by kernel_rfl) (by decide)
theorem zwJ:ET.funcs.get 205=some T205:=z9 (by kernel_rfl) (by decide)
theorem zwC:ET.funcs.get 207=some T207:=z9 (by kernel_rfl) (by decide)
theorem zwL:ET.funcs.get 209=some T209:=z9 (by kernel_rfl) (by decide)
theorem zwH:ET.funcs.get 211=some T211:=z9 (by kernel_rfl) (by decide)
theorem zwV:ET.funcs.get 212=some T212:=z9 (by kernel_rfl) (by decide)
theorem zwk:ET.funcs.get 161=some T161:=z9 (by kernel_rfl) (by decide)
theorem zbo.bool {H:List zu}{b b':Bool}(h:b=b'):zbo H 0 (.ret (.bool b)) (.ret (.bool b')):=by subst h;exact Frz.bool _
theorem zbo.uv {H:List zu}{k:IntKind}{b b':Int}(h:b=b'):zbo H 0 (.ret (.int k b)) (.ret (.int k b')):=by subst h;exact Frz.int _ _
theorem ztE (x:Nat):FN ET 208 [uv x] (.ret (.bool (zcK x))):=by
 refine zfn zwT (.bool _) ?_;(repeat(first|refine ze ?_|refine zgo ?_));refine zb ?_
 by_cases h:1<=x
 ·have g:(1:Int)<=x:=by omega
  refine zfx ?_ (by simp(disch:=omega)only[go_sem,g]<;>rfl);refine zd ?_;refine zF ?_;(try simp only[zg,zj,zh,zi,zk]);refine zq (by simp only[T208,zI,go_sem]<;>rfl) ?_;simp only[zP];exact zbo.bool (by simp[zcK,h];omega)
 ·have g:¬(1:Int)<=x:=by omega
  refine zfx ?_ (by simp(disch:=omega)only[go_sem,g]<;>rfl);refine zd ?_;refine zF ?_;(try simp only[zg,zj,zh,zi,zk]);refine zq (by simp only[T208,zI,go_sem]<;>rfl) ?_;simp only[zP];exact zbo.bool (by simp[zcK,h])
@[reducible] def zc5 (a b c d e:Nat):List PV:=[iv a,iv b,uv c,uv d,iv e,.nilsl]
theorem zwA (cs:List PV)(x:Nat):FN ET 198 [.elem cs,uv x] (.ret (.bool (decide (7522529147838689024<=x)&&decide (x<=7522529147838689024+12)))):=by
 refine zfn zwD (.bool _) ?_;(repeat(first|refine ze ?_|refine zgo ?_));refine zb ?_
 by_cases h:7522529147838689024<=x
 ·have g:(7522529147838689024:Int)<=x:=by omega
  refine zfx ?_ (by simp(disch:=omega)only[go_sem,g]<;>rfl);refine zd ?_;refine zF ?_;(try simp only[zg,zj,zh,zi,zk]);refine zq (by simp only[T198,zI,go_sem]<;>rfl) ?_;simp only[zP];exact zbo.bool (by simp[h];omega)
 ·have g:¬(7522529147838689024:Int)<=x:=by omega
  refine zfx ?_ (by simp(disch:=omega)only[go_sem,g]<;>rfl);refine zd ?_;refine zF ?_;(try simp only[zg,zj,zh,zi,zk]);refine zq (by simp only[T198,zI,go_sem]<;>rfl) ?_;simp only[zP];exact zbo.bool (by simp[h])
theorem zw5 (cs:List PV)(x:Nat):FN ET 201 [.elem cs,uv x] (.ret (.bool (decide (x<2048)))):=by
 refine zfn zwo (.bool _) ?_;(repeat(first|refine ze ?_|refine zgo ?_));refine zF ?_;(try simp only[zg,zj,zh,zi,zk]);refine zq (by simp only[T201,zI,go_sem]<;>rfl) ?_;simp only[zP];exact zbo.bool (by simp;omega)
theorem zwU (cs:List PV)(x:Nat):FN ET 204 [.elem cs,uv x] (.ret (.bool true)):=by
 refine zfn zwu (.bool _) ?_;(repeat(first|refine ze ?_|refine zgo ?_));refine zF ?_;(try simp only[zg,zj,zh,zi,zk]);refine zq (by simp only[T204,zI,go_sem]<;>rfl) ?_;simp only[zP];exact zbo.bool rfl
theorem zwz (cs:List PV)(x:Nat):FN ET 211 [.elem cs,uv x] (.ret (.bool (decide (x<=2)))):=by
 refine zfn zwH (.bool _) ?_;(repeat(first|refine ze ?_|refine zgo ?_));refine zF ?_;(try simp only[zg,zj,zh,zi,zk]);refine zq (by simp only[T211,zI,go_sem]<;>rfl) ?_;simp only[zP];exact zbo.bool (by simp;omega)
theorem zw9 (a b c d e x:Nat):FN ET 207 [.elem (zc5 a b c d e),uv x] (.ret (.bool (zcC 3 a x))):=by
 refine zfn zwC (.bool _) ?_;(repeat(first|refine ze ?_|refine zgo ?_));refine zb ?_
 by_cases h:a=0
 ·have g0:(a:Int)=0:=by omega
  by_cases h2:x=9223372036854775808
  ·have g:(x:Int)=9223372036854775808:=by omega
   refine zfx ?_ (by simp(disch:=omega)only[go_sem,g0,g]<;>rfl);refine zd ?_;refine zF ?_;(try simp only[zg,zj,zh,zi,zk]);refine zq (by simp only[T207,zI,go_sem]<;>rfl) ?_;simp only[zP];exact zbo.bool (by simp[zcC,h,h2])
  ·have g:¬(x:Int)=9223372036854775808:=by omega
   refine zfx ?_ (by simp(disch:=omega)only[go_sem,g0,g]<;>rfl);refine zd ?_;refine zF ?_;(try simp only[zg,zj,zh,zi,zk]);refine zq (by simp only[T207,zI,go_sem]<;>rfl) ?_;simp only[zP];exact zbo.bool (by simp[zcC,h,h2])
 ·have g:¬(a:Int)=0:=by omega
  have g2:(0:Int)<a:=by omega
  have h2:0<a:=by omega
  refine zfx ?_ (by simp(disch:=omega)only[go_sem,g,g2]<;>rfl);refine zca (ztE x) ?_;refine zfx ?_;refine zd ?_;refine zF ?_;(try simp only[zg,zj,zh,zi,zk]);refine zq (by simp only[T207,zI,go_sem]<;>rfl) ?_;simp only[zP];exact zbo.bool (by simp[zcC,h,h2])
theorem zuc:FN ET 161 [] (.ret (.list 0 3 zhj)):=by
 refine zfn zwk ?_ ?_
 ·refine .list fun x hx=>?_;simp[zhj,List.range,List.range.loop,PV.cells]at hx;rcases hx with h|h|h|h|h|h|h|h|h|h|h|h|h|h|h<;>subst h<;>exact .fn fun _ h=>by cases h
 (repeat(first|refine ze ?_|refine zgo ?_));refine zF ?_;(try simp only[zg,zj,zh,zi,zk]);refine zq (by simp only[T161,zI,go_sem]<;>rfl) ?_;simp only[zP];refine Frz.whole rfl rfl rfl (by decide) ?_ ?_
 ·intro v hv;simp[zhj,List.range,List.range.loop]at hv;rcases hv with h|h|h|h|h<;>subst h<;>rfl
 ·intro v hv;simp[zhj,List.range,List.range.loop,PV.cells]at hv;rcases hv with h|h|h|h|h|h|h|h|h|h|h|h|h|h|h<;>subst h<;>exact .fn fun _ h=>by cases h
@[reducible] def zdM (cs:List PV):zu:=.row 124 6 0 0 [.agg cs]
theorem zfK {F:zC}{R:FE->List zu->Prop}{tm:Nat->PV}{H:List zu}(h:F.res=[])(k:R (.ret (.tuple [])) H):zdI ET F R .norm ⟨tm,[],H⟩:=zub (vs:=[]) (by rw[h];rfl) k
section
variable (a b c d e x:Nat)(G:List zu)
theorem zv5 (k:Nat)(h2:k<=12)(e1:IntKind.u64.wrap ((x:Int)-7522529147838689024)=(k:Int)):FO ET 199 [.ptr 0 0 0 0 6,uv x] (zdM (zc5 a b c d e)::G) false fun e' H'=>e'=.ret (.tuple [])/\H'=zdM (zc5 k b c d e)::G:=by
 refine zro zxc ?_;refine zb ?_;refine zfx ?_ (by simp(disch:=omega)only[go_sem,e1]<;>rfl);refine zf7 (zfK rfl ⟨rfl,rfl⟩)
theorem zuz (h1:7522529147838689024<=x)(h2:x<=7522529147838689024+12)(k:Nat)(hk:k=x-7522529147838689024):k<=12/\IntKind.u64.wrap ((x:Int)-7522529147838689024)=(k:Int):=by rw[zL (by omega) (by omega)];omega
theorem set0 (h1:7522529147838689024<=x)(h2:x<=7522529147838689024+12)(k:Nat)(hk:k=x-7522529147838689024):FO ET 199 [.ptr 0 0 0 0 6,uv x] (zdM (zc5 a b c d e)::G) false fun e' H'=>e'=.ret (.tuple [])/\H'=zdM (zc5 k b c d e)::G :=
 zv5 a b c d e x G k (zuz x h1 h2 k hk).1 (zuz x h1 h2 k hk).2
theorem zwq (h1:x<2048):FO ET 202 [.ptr 0 0 0 0 6,uv x] (zdM (zc5 a b c d e)::G) false fun e' H'=>e'=.ret (.tuple [])/\H'=zdM (zc5 a x c d e)::G:=by
 refine zro zwO ?_;refine zb ?_;refine zfx ?_;refine zf7 (zfK rfl ⟨rfl,rfl⟩)
theorem zwF:FO ET 205 [.ptr 0 0 0 0 6,uv x] (zdM (zc5 a b c d e)::G) false fun e' H'=>e'=.ret (.tuple [])/\H'=zdM (zc5 a b x d e)::G:=by
 refine zro zwJ ?_;refine zb ?_;refine zfx ?_;refine zf7 (zfK rfl ⟨rfl,rfl⟩)
theorem zwE:FO ET 209 [.ptr 0 0 0 0 6,uv x] (zdM (zc5 a b c d e)::G) false fun e' H'=>e'=.ret (.tuple [])/\H'=zdM (zc5 a b c x e)::G:=by
 refine zro zwL ?_;refine zb ?_;refine zfx ?_;refine zf7 (zfK rfl ⟨rfl,rfl⟩)
theorem zwI (h1:x<=2):FO ET 212 [.ptr 0 0 0 0 6,uv x] (zdM (zc5 a b c d e)::G) false fun e' H'=>e'=.ret (.tuple [])/\H'=zdM (zc5 a b c d x)::G:=by
 refine zro zwV ?_;refine zb ?_;refine zfx ?_;refine zf7 (zfK rfl ⟨rfl,rfl⟩)
end
section
variable (p:Nat)(n:zE)
end
def hAt (lv:Nat)(w:List Nat)(i:Nat):List PV :=
 zc5 (if 0<i then lv else 0) (if 1<i then w.getD 1 0 else 0) (if 2<i then w.getD 2 0 else 0) (if 3<i then w.getD 3 0 else 0) (if 4<i then w.getD 4 0 else 0)
theorem zv1 (lv:Nat)(w:List Nat)(i x:Nat)(hi:i<5):FN ET (zvQ i) [.elem (hAt lv w i),uv x] (.ret (.bool (zcC i lv x))):=by
 match i,hi with
 | 0,_=>exact zwA _ x
 | 1,_=>exact zw5 _ x
 | 2,_=>exact zwU _ x
 | 3,_=>exact zw9 _ _ _ _ _ x
 | 4,_=>exact zwz _ x
theorem zv3 (lv:Nat)(w:List Nat)(hlv:lv=w.getD 0 0-7522529147838689024)(i:Nat)(hi:i<5)(hm:zcC i lv (w.getD i 0)=true)(G:List zu):FO ET (zvH i) [.ptr 0 0 0 0 6,uv (w.getD i 0)] (zdM (hAt lv w i)::G) false fun e H'=>e=.ret (.tuple [])/\H'=zdM (hAt lv w (i+1))::G:=by
 match i,hi with
 | 0,_=>rw[zcC,zAR9,decide_eq_true_eq,decide_eq_true_eq]at hm;exact set0 _ _ _ _ _ _ _ hm.1 hm.2 lv hlv
 | 1,_=>rw[zcC,decide_eq_true_eq]at hm;exact zwq _ _ _ _ _ _ _ hm
 | 2,_=>exact zwF _ _ _ _ _ _ _
 | 3,_=>exact zwE _ _ _ _ _ _ _
 | 4,_=>rw[zcC,decide_eq_true_eq]at hm<;>first|exact zwI _ _ _ _ _ _ _ hm|simp
theorem zs8 (i:Nat)(hi:i<5):zhj[i]?=some (zuE i):=by
 match i,hi with
 | 0,_=>rfl
 | 1,_=>rfl
 | 2,_=>rfl
 | 3,_=>rfl
 | 4,_=>rfl
theorem zsJ:zhj.length=5:=rfl
def zpa {α:Type}(pr:α->Bool)(l:List α):Int:=match l.findIdx? pr with|some i=>(i:Int)|none=>-1
theorem zqa {α:Type}(pr:α->Bool)(l:List α):decide (0<=zpa pr l)=l.any pr:=by
 unfold zpa
 cases h:l.findIdx? pr with
 | none =>
  have:l.any pr=false:=by rw[List.findIdx?_eq_none_iff]at h;simpa using h
  rw[this];rfl
 | some i =>
  have:l.any pr=true:=by
   have:=List.findIdx?_isSome (xs:=l) (p:=pr);rw[h]at this;exact this.symm
  rw[this];simp
theorem zuN {H:List zu}{lab:Nat}:∀l:List PV,(∀v∈l,Id0 v)->LF H lab l l
 | [],_=>trivial
 | x::l,h=>⟨(h x zAV9).frz,zuN l fun v hv=>h v (zAW9 _ hv)⟩
theorem zw4:ET.funcs.get 214=some T214:=z9 (by kernel_rfl) (by decide)
theorem zwQ:ET.funcs.get 162=some T162:=z9 (by kernel_rfl) (by decide)
theorem zpT (p:Nat)(l:List Nat)(hl:zbH l.length)(g:Nat)(caps:List PV)(hc:∀v∈caps,Id0 v)(pr:Nat->Bool)(hg:∀x∈l,FN ET g (uv x::caps) (.ret (.bool (pr x)))):FN ET 214 [wv p l,.fn g caps] (.ret (iv (zpa pr l))):=by
 refine zfn zw4 (.int _ _) ?_;(repeat(first|refine ze ?_|refine zgo ?_));refine zK (zbd (fun m s=>∃i:Nat,m=l.length-i/\i<=l.length/\l.findIdx? pr=((l.drop i).findIdx? pr).map (· + i)/\s.tm 0=wv p l/\s.tm 1=.fn g caps/\s.tm 7=iv l.length/\s.tm 8=iv i/\s.df=[]/\s.H=[]) (n:=l.length) ?_ ?_)
 ·exact⟨0,by simp[upd,zB]⟩
 ·rintro m ⟨tm,df,H⟩ ⟨i,rfl,hi,hf,h0,h1,h7,h8,rfl,rfl⟩;dsimp only at h0 h1 h7 h8;(try refine zaa ?_);refine ze (zb ?_);refine zfx ?_ (by simp(disch:=omega)only[go_sem,h0,h1,h7,h8]<;>rfl);refine zd ?_;refine zae (by simp only[go_sem]<;>rfl) ?_ ?_
  ·intro hlt;have hlt:i<l.length:=by have:=of_decide_eq_true hlt;omega
   refine ze (zK ?_);(repeat(first|refine ze ?_|refine zgo ?_ (by simp(disch:=omega)only[go_sem,h8]<;>rfl)));(repeat refine ze ?_);refine zrg ?_ (by simp(disch:=omega)only[go_sem,h0,h1,zAB9 hlt]<;>rfl);refine zH (caps:=caps) (vs:=[uv l[i]]) rfl ?_ (hg _ (zBU9 hlt)) (zuN _ (fun v hv=>?_)) ?_
   ·simp only[go_sem,h1]
   ·rcases zAY9.1 hv with rfl|hv
    ·exact .int _ _
    ·exact hc v hv
   refine zfx ?_;refine zd ?_;rw[zBB9 hlt,zFW9]at hf;refine zfc ?_ ?_
   ·intro hb;have hb:pr l[i]=true:=hb;(repeat(first|refine ze ?_|refine zgo ?_));refine zF ?_;(try simp only[zg,zj,zh,zi,zk]);refine zq (by simp only[T214,zI,go_sem]<;>rfl) ?_;simp only[zP];rw[if_pos hb]at hf;exact zbo.uv (by simp[zpa,hf])
   ·intro hb;have hb:pr l[i]=false:=hb;refine zQ ?_;simp only[zg,zj,zh,zi,zo,zk,if_true,reduceIte];(repeat refine ze ?_);refine zrg ?_ (by simp(disch:=omega)only[go_sem,h8]<;>rfl);refine zG ?_;simp only[zg,zj,zh,zi,zo,zk,if_true,↓reduceIte];refine⟨_,?_,i+1,rfl,hlt,?_,by simp[upd,h0],by simp[upd,h1],by simp[upd,h7],by simp[upd],trivial,trivial⟩
    ·omega
    ·rw[hf,hb]
     cases (l.drop (i+1)).findIdx? pr with
     | none=>rfl
     | some j=>simp;omega
  ·intro hlt;have hlt:¬i<l.length:=by have:=of_decide_eq_false hlt;omega
   obtain rfl:i=l.length:=by omega
   simp only[zg,zj,zh,zi,zo,zk,if_true,reduceIte];(repeat(first|refine ze ?_|refine zgo ?_));refine zF ?_;(try simp only[zg,zj,zh,zi,zk]);refine zq (by simp only[T214,zI,go_sem]<;>rfl) ?_;simp only[zP];rw[zCW9]at hf;exact zbo.uv (by simp[zpa,hf])
theorem zmw (p:Nat)(l:List Nat)(hl:zbH l.length)(g:Nat)(caps:List PV)(hc:∀v∈caps,Id0 v)(pr:Nat->Bool)(hg:∀x∈l,FN ET g (uv x::caps) (.ret (.bool (pr x)))):FN ET 162 [wv p l,.fn g caps] (.ret (.bool (l.any pr))):=by
 refine zfn zwQ (.bool _) ?_;(repeat(first|refine ze ?_|refine zgo ?_));(repeat refine ze ?_);refine zrg ?_;refine zH (caps:=[]) (vs:=[wv p l,.fn g caps]) rfl ?_ (zpT p l hl g caps hc pr hg) ?_ ?_
 ·simp only[go_sem]
 ·refine⟨.list _ _ _,⟨Id0.frz (.fn hc),trivial⟩⟩
 refine zfx ?_;refine zd ?_;refine zF ?_;(try simp only[zg,zj,zh,zi,zk]);refine zq (by simp only[T162,zI,go_sem]<;>rfl) ?_;simp only[zP];exact zbo.bool (zqa _ _)
theorem zww:ET.funcs.get 107=some T107:=z9 (by kernel_rfl) (by decide)
theorem zwW:ET.funcs.get 163=some T163:=z9 (by kernel_rfl) (by decide)
theorem zvM (x:Nat):FN ET 163 [uv x] (.ret (.bool (decide (x≠0)))):=by
 refine zfn zwW (.bool _) ?_;(repeat(first|refine ze ?_|refine zgo ?_));refine zF ?_;(try simp only[zg,zj,zh,zi,zk]);refine zq (by simp only[T163,zI,go_sem]<;>rfl) ?_;simp only[zP];exact zbo.bool (by by_cases h:x=0<;>simp[h];try omega)
theorem Lb.node (n:zE):Lb (za7 0 n):=.agg fun v hv=>by
 simp at hv;rcases hv with h|h|h|h|h|h<;>subst h
 ·exact .int _ _
 ·exact .int _ _
 ·exact .int _ _
 ·exact .int _ _
 ·exact .int _ _
 ·exact Lb.pvs _
theorem Lb.two {a b:PV}(ha:Lb a)(hb:Lb b):Lb (.tuple [a,b]):=.tuple fun v hv=>by
 simp at hv;rcases hv with h|h<;>subst h<;>assumption
def zdG (w:List Nat):FE:=if zbP w=true then .ret (.tuple [za7 0 (zai w),iv 0])else .ret (.tuple [za7 0 zi8,iv 210])
theorem zvI (lv:Nat)(w:List Nat)(i:Nat):∀v∈hAt lv w i,Id0 v:=fun v hv=>by
 simp[hAt]at hv;rcases hv with h|h|h|h|h|h<;>subst h<;>constructor
@[reducible] def zfi:PV:=.agg [iv 0,iv 0,uv 0,uv 0,iv 0,.nilsl]
theorem zmB {H:List zu}:Frz H 0 (.tuple [zfi,iv 210]) (.tuple [za7 0 zi8,iv 210]):=by
 refine Frz.tupL ⟨Frz.aggL ⟨.int _ _,.int _ _,.int _ _,.int _ _,.int _ _,.nil _ _,trivial⟩,.int _ _,trivial⟩
theorem zo2 {H:List zu}{w:List Nat}(h:zbP w=false):zbo H 0 (.ret (zP [zfi,iv 210])) (zdG w):=by
 unfold zdG;rw[if_neg (by rw[h];decide)];exact zmB
theorem zpL (w:List Nat)(hl:w.length=64)(lv:Nat)(hlv:lv=zgq (w.getD 0 0)):zbP w=(!(((w.take 8).drop 5).any fun x=>decide (x≠0))&&(List.range 5).all fun i=>zcC i lv (w.getD i 0)):=by
 subst hlv;unfold zbP;rw[decide_eq_true hl,zBW9,List.all_eq_not_any_not]
 congr 2
 simp
theorem zpr (w:List Nat)(lv:Nat)(hlv:lv=zgq (w.getD 0 0)):zai w=⟨lv,w.getD 1 0,w.getD 2 0,w.getD 3 0,w.getD 4 0,zbO (w.getD 3 0) (w.drop 8)⟩:=by
 subst hlv;unfold zai;rfl
theorem zq6 (w:List Nat):∃lv,lv=zgq (w.getD 0 0):=⟨_,rfl⟩
theorem zv7 (p:Nat)(w:List Nat)(hw:zbH w.length):FN ET 107 [wv p w] (zdG w):=by
 refine zfn zww ?_ ?_
 ·unfold zdG;split
  ·exact Lb.two (Lb.node _) (.int _ _)
  ·exact Lb.two (Lb.node _) (.int _ _)
 refine ze (zb ?_);refine zfx ?_;refine zd ?_;refine zmy ?_;(repeat refine ze ?_);refine zb ?_;have h2:(1:Nat)=1:=rfl
 by_cases hl:w.length=64
 rotate_left
 ·have g:¬(w.length:Int)=64:=by omega
  refine zfx ?_ (by simp(disch:=omega)only[go_sem,g]<;>rfl);refine zd ?_;refine zfc ?_ ?_
  ·intro _;refine zo9 ⟨rfl,?_⟩;refine ze (zQ ?_);simp only[zg,zj,zh,zi,zo,zk,if_true,reduceIte];(repeat refine ze ?_);refine zrg ?_ (by simp(disch:=omega)only[go_sem,h2]<;>rfl);refine zd ?_;refine zF ⟨(fun l h=>FX.noConfusion h),?_⟩;refine zq (vs:=[zfi,iv 210]) ?_ ?_
   ·simp only[T107,zI,go_sem];rfl
   ·exact zo2 (by simp[zbP,hl])
  ·intro h;cases h
 have g:(w.length:Int)=64:=by omega
 have hm1:List.drop 5 (List.take 8 (List.map uv w))=((w.take 8).drop 5).map uv:=by simp[zCO9,zDH9]
 refine zfx ?_ (by simp(disch:=omega)only[go_sem,g,hl,hm1]<;>rfl);refine zca (zmw p ((w.take 8).drop 5) (by simp;omega) 163 [] (fun _ h=>by cases h) (fun x=>decide (x≠0)) fun x _=>zvM x) ?_;refine zfx ?_;refine zd ?_;obtain⟨lv,hlv⟩:=zq6 w;have hsp:=zpL w hl lv hlv;refine zfc ?_ ?_
 ·intro hb;have hb:(((w.take 8).drop 5).any fun x=>decide (x≠0))=true:=hb;refine zo9 ⟨rfl,?_⟩;refine ze (zQ ?_);simp only[zg,zj,zh,zi,zo,zk,if_true,reduceIte];(repeat refine ze ?_);refine zrg ?_ (by simp(disch:=omega)only[go_sem,h2]<;>rfl);refine zd ?_;refine zF ⟨(fun l h=>FX.noConfusion h),?_⟩;refine zq (vs:=[zfi,iv 210]) ?_ ?_
  ·simp only[T107,zI,go_sem];rfl
  ·exact zo2 (by rw[hsp,hb];rfl)
 intro hb;have hb:(((w.take 8).drop 5).any fun x=>decide (x≠0))=false:=hb;rw[hb]at hsp;refine zQ ?_;show W _ _ _ _ _ _;(repeat refine ze ?_);refine zrg ?_;refine zca zuc ?_;refine zfx ?_ (by simp(disch:=omega)only[go_sem,zsJ]<;>rfl);refine zd ?_;have hsp:zbP w=(List.range 5).all fun i=>zcC i lv (w.getD i 0):=by simpa using hsp
 clear hm1 h2;refine zK (zbd (fun m s=>∃(i:Nat) (G:List zu),m=5-i/\i<=5/\(∀j,j<i->zcC j lv (w.getD j 0)=true)/\s.tm 0=wv p w/\s.tm 2=.ptr 0 0 0 0 6/\s.tm 14=.list 0 3 zhj/\s.tm 15=iv 5/\s.tm 16=iv i/\s.df=[]/\s.H=zdM (hAt lv w i)::G) (n:=5) ?_ ?_)
 ·exact⟨0,[],rfl,by omega,(fun j hj=>by omega),by simp[upd,zB],by simp[upd],by simp[upd],by simp[upd],by simp[upd],rfl,rfl⟩
 ·rintro m ⟨tm,df,H⟩ ⟨i,G,rfl,hi,hmay,h0,h2,h14,h15,h16,rfl,rfl⟩;dsimp only at h0 h2 h14 h15 h16;(try refine zaa ?_);refine ze (zb ?_);refine zfx ?_ (by simp(disch:=omega)only[go_sem,h0,h2,h14,h15,h16]<;>rfl);refine zd ?_;refine zae (by simp only[go_sem]<;>rfl) ?_ ?_
  ·intro hlt;have hlt:i<5:=by have:=of_decide_eq_true hlt;omega
   have hwi:w[i]?=some (w.getD i 0):=by rw[zAQ9,zAB9 (by omega)];rfl
   have hid:=zvI lv w i;(repeat refine ze ?_);refine zK ?_;(repeat(first|refine ze ?_|refine zgo ?_ (by simp(disch:=omega)only[go_sem,h0,h2,h14,h16,zs8 i hlt]<;>rfl)));(repeat refine ze ?_);refine zap ?_;refine zdn (zv1 lv w i (w.getD i 0) hlt) ?_ (by simp(disch:=omega)only[go_sem,h0,h2,hwi]<;>rfl);refine zdl ?_ (by simp(disch:=omega)only[go_sem,h0]<;>rfl);refine zR ?_;simp only[zo,zW,zg,go_sem]
   by_cases hm:zcC i lv (w.getD i 0)=true
   rotate_left
   ·have hm:zcC i lv (w.getD i 0)=false:=by simpa using hm
    refine zfc ?_ ?_
    ·intro _;refine zo9 ⟨rfl,?_⟩;refine ze (zQ ?_);simp only[zg,zj,zh,zi,zo,zk,if_true,reduceIte];(repeat refine ze ?_);refine zrg ?_ (by simp(disch:=omega)only[go_sem,h2]<;>rfl);refine zd ?_;refine zF ⟨(fun l h=>FX.noConfusion h),?_⟩;refine zq (vs:=[zfi,iv 210]) ?_ ?_
     ·simp only[T107,zI,go_sem,h2];rfl
     ·exact zo2 (by rw[hsp,List.all_eq_false];exact⟨i,zCZ9.2 hlt,by rw[hm];decide⟩)
    ·rw[hm];intro h;cases h
   refine zfc ?_ ?_
   ·rw[hm];intro h;cases h
   intro _;refine zQ ?_;show W _ _ _ _ _ _;refine zap ?_;refine znG (s1:=?_) (caps:=?_) (vs:=?_) ?_ ?_ rfl rfl ?_ ?_ (zv3 lv w (by rw[hlv,zmF]) i hlt hm ?_) ?_ ?_ ?_;rotate_left 3;(first|exact trivial|(simp only[go_sem,h0,h2,hwi]));(simp(disch:=omega)only[go_sem,wrap_i64,zL,zaD,h0,h2,hwi]<;>rfl);(first|rfl|(simp only[go_sem,h0,h2,hwi]<;>rfl));(simp only[go_sem,h0,h2,hwi]<;>rfl);rotate_left 1;rfl;rfl;rintro e H' he;obtain⟨rfl,rfl⟩:=he;refine⟨_,by simp only[go_sem]<;>rfl,?_⟩;refine zdl ?_ (by simp(disch:=omega)only[go_sem,h0]<;>rfl);refine zR ?_;simp only[zo,zW,zg,go_sem];simp only[zg,zj,zh,zi,zo,zk,if_true,reduceIte];(repeat refine ze ?_);refine zrg ?_ (by simp(disch:=omega)only[go_sem,h16]<;>rfl);refine zG ?_;simp only[zg,zj,zh,zi,zo,zk,if_true,↓reduceIte];refine⟨_,?_,i+1,_,rfl,hlt,?_,by simp[upd,h0],by simp[upd,h2],by simp[upd,h14],by simp[upd,h15],by simp[upd,h16],trivial,rfl⟩
   ·omega
   ·intro j hj
    by_cases hj2:j=i
    ·rw[hj2];exact hm
    ·exact hmay j (by omega)
  ·intro hlt;have hlt:¬i<5:=by have:=of_decide_eq_false hlt;omega
   obtain rfl:i=5:=by omega
   simp only[zg,zj,zh,zi,zo,zk,if_true,reduceIte];have hok:zbP w=true:=by rw[hsp,zBE9];intro j hj;exact hmay j (zCZ9.1 hj)
   have h5:hAt lv w 5=zc5 lv (w.getD 1 0) (w.getD 2 0) (w.getD 3 0) (w.getD 4 0):=rfl;have hm2:List.drop 8 (List.map uv w)=(w.drop 8).map uv:=by simp[zCO9]
   rw[h5];refine ze (zap ?_);refine zdn (zuZ p (w.drop 8) (w.getD 3 0) (by simp;omega)) ?_ (by simp(disch:=omega)only[go_sem,h0,h2,hl,hm2]<;>rfl);refine zda ?_ (by simp(disch:=omega)only[go_sem,h0,h2]<;>rfl);refine zdl ?_ (by simp(disch:=omega)only[go_sem,h0]<;>rfl);refine zR ?_;simp only[zo,zW,zg,go_sem];(repeat(first|refine ze ?_|refine zgo ?_ (by simp(disch:=omega)only[go_sem,h2]<;>rfl)));refine zF ?_;(try simp only[zg,zj,zh,zi,zk]);refine zq (by simp only[T107,zI,go_sem,h2]<;>rfl) ?_;simp only[zP];unfold zdG;rw[if_pos hok];rw[zpr w lv hlv];exact Frz.tupL ⟨Frz.aggL ⟨.int _ _,.int _ _,.int _ _,.int _ _,.int _ _,.list _ _ _,trivial⟩,.int _ _,trivial⟩
@[reducible] def zwc (p:Nat) (n:zE):List PV:=[iv n.level,iv n.sib,uv n.low,uv n.left,iv n.way,psv p n.pairs]
theorem ztB (p:Nat)(n:zE):∀v∈zwc p n,Id0 v:=fun v hv=>by
 simp at hv;rcases hv with h|h|h|h|h|h<;>subst h<;>constructor
theorem zeP (w:List Nat)(hh:zbP w=true):zdG w=.ret (.tuple [za7 0 (zai w),iv 0]):=by unfold zdG;rw[if_pos hh]
def zb4 (n:zE):Nat->List Nat
 | 0=>List.replicate 64 0
 | i+1=>(zb4 n i).set i (zrA i n)
theorem zjJ (n:zE):∀i,(zb4 n i).length=64
 | 0=>by simp[zb4]
 | i+1=>by simp[zb4,zjJ n i]
def zcV (n:zE):Nat->List Nat
 | 0=>zb4 n 5
 | j+1=>((zcV n j).set (8+2*j) (n.pairs.getD j (0,0)).1).set (8+2*j+1) (n.pairs.getD j (0,0)).2
theorem zeU (n:zE):∀j,(zcV n j).length=64
 | 0=>zjJ n 5
 | j+1=>by simp[zcV,zeU n j]
theorem zuv (k k':IntKind)(x y x' y':Int):ze2 [1,1] [.int k x,.int k' y] [.int k x',.int k' y']=some (decide (x=x')&&decide (y=y')):=by
 by_cases h:x=x'<;>by_cases h2:y=y'<;>simp[ze2,zl2,zd3,zcu,h,h2]
def zbB (n:zE):List Nat:=zcV n n.pairs.length
theorem zdk {w:List Nat}(h:zbJ w=0):zbP w=true:=by
 unfold zbJ at h
 by_cases hh:zbP w=true
 ·exact hh
 ·rw[if_neg hh]at h;cases h
def zid (k:Nat)(l:List Pr):List (List Pr):=(List.range ((l.length+(k-1))/k)).map fun i=>(l.drop (k*i)).take k
theorem zfm (k:Nat)(l:List Pr):(zid k l).length=(l.length+(k-1))/k:=by simp[zid]
theorem zce (f:Nat)(a b:List PV):Id0 (.fn f [.elem a,.elem b]):=.fn fun x hx=>by simp at hx;rcases hx with rfl|rfl<;>exact .elem _


def zxw (l:List Pr)(i:Nat):zE:=⟨0,0,if 0<i then(l.getD (18*i) (0,0)).1 else 0,9223372036854775808,0,(l.drop (18*i)).take 18⟩
def zb2 (l:List Pr):List zE:=if l=[]then[⟨0,0,0,9223372036854775808,0,[]⟩]else(List.range (zid 18 l).length).map (zxw l)
theorem zgd {p:Nat}{L:List zE}:∀v∈(L.map (za7 p)).flatMap PV.cells,Id0 v:=fun v hv=>by
 obtain⟨x,hx,hv⟩:=zBI9.1 hv;obtain⟨n,_,rfl⟩:=zAS9.1 hx;exact ztB p n v hv
theorem f40:ET.funcs.get 40=some T40:=z9 (by kernel_rfl) (by decide)
theorem f90:ET.funcs.get 90=some T90:=z9 (by kernel_rfl) (by decide)
theorem zwm:ET.funcs.get 138=some T138:=z9 (by kernel_rfl) (by decide)
def zD (w:List Nat)(b:Nat):List Nat:=(w.take (64*b+64)).drop (64*b)
theorem zv8 (p:Nat)(w:List Nat)(b:Nat)(hw:zbH w.length)(hb:64*b+64<=w.length):FP ET 40 [wv p w,iv b] (.ret (wv p (zD w b))):=by
 refine zfp f40 ?_;(repeat(first|refine ze ?_|refine zgo ?_));have e1:(64:Int)*(b:Int)=((64*b:Nat):Int):=by omega
 have e2:((64*b:Nat):Int)+64=((64*b+64:Nat):Int):=by omega
 have e3:64*b<=64*b+64:=by omega
 have e4:0<w.length:=by omega
 have e5:List.drop (64*b) (List.take (64*b+64) (List.map uv w))=(zD w b).map uv:=by simp[zD,zCO9,zDH9]
 (repeat(first|refine ze ?_|refine zgo ?_ (by simp(disch:=omega)only[go_sem,e1,e2,e3,e4,hb,e5]<;>rfl)));refine zF ?_;(try simp only[zg,zj,zh,zi,zk]);refine zq (by simp only[T40,zI,go_sem]<;>rfl) ?_;simp only[zP];exact Frz.list _ _ _
def zbU (n:Nat)(a:Int):Bool:=decide (64<=n)&&decide (n%64=0)&&decide (n<=131072)&&decide (0<=a)&&decide (a<n)
theorem zoW (p:Nat)(w:List Nat)(a:Int)(hw:zbH w.length):FN ET 90 [wv p w,iv a] (if zbU w.length a=true then .ret (.tuple [])else .panic (zkV 2)):=by
 refine zfn f90 ?_ ?_
 ·split
  ·exact Lb.unit
  ·exact .iface (.int _ _)
 refine zb ?_
 by_cases h1:64<=w.length
 rotate_left
 ·have g1:¬(64:Int)<=w.length:=by omega
  refine zfx ?_ (by simp(disch:=omega)only[go_sem,g1]<;>rfl);refine zcx (ziq 2) ?_;exact zig (by simp[zbU,h1])
 have g1:(64:Int)<=w.length:=by omega
 by_cases h2:w.length%64=0
 rotate_left
 ·have g2:¬(w.length:Int).tmod 64=0:=by rw[IntWalk.rem_in _ _ (by omega)];omega
  refine zfx ?_ (by simp(disch:=omega)only[go_sem,g1,g2]<;>rfl);refine zcx (ziq 2) ?_;exact zig (by simp[zbU,h1,h2])
 have g2:(w.length:Int).tmod 64=0:=by rw[IntWalk.rem_in _ _ (by omega)];omega
 by_cases h3:w.length<=131072
 rotate_left
 ·have g3:¬(w.length:Int)<=131072:=by omega
  refine zfx ?_ (by simp(disch:=omega)only[go_sem,g1,g2,g3]<;>rfl);refine zcx (ziq 2) ?_;exact zig (by simp[zbU,h1,h2,h3])
 have g3:(w.length:Int)<=131072:=by omega
 by_cases h4:(0:Int)<=a
 rotate_left
 ·refine zfx ?_ (by simp(disch:=omega)only[go_sem,g1,g2,g3,h4]<;>rfl);refine zcx (ziq 2) ?_;exact zig (by simp[zbU,h1,h2,h3,h4])
 by_cases h5:a<(w.length:Int)
 rotate_left
 ·refine zfx ?_ (by simp(disch:=omega)only[go_sem,g1,g2,g3,h4,h5]<;>rfl);refine zcx (ziq 2) ?_;exact zig (by simp[zbU,h1,h2,h3,h4,h5])
 refine zfx ?_ (by simp(disch:=omega)only[go_sem,g1,g2,g3,h4,h5]<;>rfl);refine zca (zr1 2) ?_;refine zfx ?_;have:zbU w.length a=true:=by simp[zbU,h1,h2,h3,h4,h5]
 rw[if_pos this];exact zf7 (zfK rfl (Frz.tupL trivial))
section
variable {α:Type}(G l m n:List α)(x y z:α)
theorem gm0:(G++x::l)[G.length]?=some x:=by simp
theorem gm1:(G++x::l++m)[G.length]?=some x:=by simp
theorem gm2:(G++x::l++m++n)[G.length]?=some x:=by simp
theorem hm0:(G++x::y::l)[G.length+1]?=some y:=by simp[zAN9]
theorem hm1:(G++x::y::l++m)[G.length+1]?=some y:=by rw[zAF9];exact hm0 G _ x y
theorem hm2:(G++x::y::l++m++n)[G.length+1]?=some y:=by rw[zAF9,zAF9];exact hm0 G _ x y
theorem sm0:(G++x::l).set G.length z=G++z::l:=by rw[zBS9 _ _ (zAK9 _)];simp
theorem tm0:(G++x::y::l).set (G.length+1) z=G++x::z::l:=by rw[zBS9 _ _ (by omega)];simp
theorem tm1:(G++x::y::l++m).set (G.length+1) z=G++x::z::l++m:=by rw[zAF9,zAF9];exact tm0 G _ x y z
theorem tm2:(G++x::y::l++m++n).set (G.length+1) z=G++x::z::l++m++n:=by rw[zAF9,zAF9,zAF9,zAF9];exact tm0 G _ x y z
end
def zc9 (lv:Nat)(ks:List Pr)(i:Nat):zE:=⟨lv,0,(ks.getD (19*i) (0,0)).1,(ks.getD (19*i) (0,0)).2,0,((ks.drop (19*i)).take 19).drop 1⟩
def zco (lv:Nat)(ks:List Pr):List zE:=(List.range (zid 19 ks).length).map (zc9 lv ks)
theorem LF.append {H:List zu}{lab:Nat}:∀{a b c d:List PV},LF H lab a b->LF H lab c d->LF H lab (a++c) (b++d)
 | [],[],_,_,_,h=>h
 | _::_,_::_,_,_,h,k=>⟨h.1,LF.append h.2 k⟩
theorem LF.get {H:List zu}{lab:Nat}:∀{a b:List PV} {i:Nat} {x y:PV},LF H lab a b->a[i]?=some x->b[i]?=some y->Frz H lab x y
 | [],_,_,_,_,_,hx,_=>by simp at hx
 | _::_,[],_,_,_,h,_,_=>h.elim
 | _::_,_::_,0,_,_,h,hx,hy=>by injection hx with hx;injection hy with hy;subst hx hy;exact h.1
 | _::_,_::_,i+1,_,_,h,hx,hy=>LF.get h.2 hx hy
theorem zuA {H:List zu}{lab:Nat}:∀{a b:List PV},LF H lab a b->a.length=b.length
 | [],[],_=>rfl
 | _::_,_::_,h=>by simp[zuA h.2]
theorem LF.flat {H:List zu}{lab:Nat}{α:Type}{f:α->PV}:∀{vs:List PV} {L:List α},vs.length=L.length->(∀(q:Nat) (n:α),L[q]?=some n->∃v,vs[q]?=some v/\LF H lab v.cells (f n).cells)->LF H lab (vs.flatMap PV.cells) ((L.map f).flatMap PV.cells)
 | [],[],_,_=>trivial
 | v::vs,n::L,hl,h=>by
  have h0:=h 0 n rfl;obtain⟨v',e1,e2⟩:=h0;injection e1 with e1;subst e1;exact LF.append e2 (LF.flat (by simpa using hl) fun q m hm=>h (q+1) m hm)
 | [],_::_,hl,_=>by simp at hl
 | _::_,[],hl,_=>by simp at hl
def zbL (L:List zE)(n:zE)(lv:Int):Bool:=match L.getLast? with
 | none=>decide (n.low=0)&&(decide (lv<0)||decide ((n.level:Int)=lv))
 | some z=>decide (z.low<n.low)&&decide (n.level=z.level)
@[reducible] def zbX (p q:Nat) (bs:List Nat) (L:List zE):PV:=.agg [.list p 1 (bs.map fun (b:Nat)=>iv (b:Int)),.list p 6 (L.map (za7 q))]
theorem zvg (p q q':Nat)(bs:List Nat)(L:List zE)(n:zE)(lv:Int)(hl:zbH L.length):FN ET 138 [zbX p q bs L,za7 q' n,iv lv] (.ret (.bool (zbL L n lv))):=by
 obtain⟨nl,ns,nlo,nle,nw,np⟩:=n;refine zfn zwm (.bool _) ?_;refine ze (zb ?_);refine zfx ?_;refine zd ?_;(repeat(first|refine ze ?_|refine zgo ?_))
 by_cases h0:L.length=0
 ·have g0:(L.length:Int)=0:=by omega
  obtain rfl:L=[]:=zCP9 h0;refine zfc ?_ ?_
  ·intro _;refine ze (zb ?_)
   by_cases h1:nlo=0
   ·have g1:(nlo:Int)=0:=by omega
    by_cases h2:lv<0
    ·refine zfx ?_ (by simp(disch:=omega)only[go_sem,g1,h2]<;>rfl);refine zd ?_;refine zF ?_;(try simp only[zg,zj,zh,zi,zk]);refine zq (by simp only[T138,zI,go_sem]<;>rfl) ?_;simp only[zP];exact zbo.bool (by simp[zbL,h1,h2])
    ·refine zfx ?_ (by simp(disch:=omega)only[go_sem,g1,h2]<;>rfl);refine zd ?_;refine zF ?_;(try simp only[zg,zj,zh,zi,zk]);refine zq (by simp only[T138,zI,go_sem]<;>rfl) ?_;simp only[zP];exact zbo.bool (by simp[zbL,h1,h2])
   ·have g1:¬(nlo:Int)=0:=by omega
    refine zfx ?_ (by simp(disch:=omega)only[go_sem,g1]<;>rfl);refine zd ?_;refine zF ?_;(try simp only[zg,zj,zh,zi,zk]);refine zq (by simp only[T138,zI,go_sem]<;>rfl) ?_;simp only[zP];exact zbo.bool (by simp[zbL,h1])
  ·intro h;cases h
 ·have g0:¬(L.length:Int)=0:=by omega
  refine zfc ?_ ?_
  ·intro h;exact absurd (of_decide_eq_true h) g0
  ·intro _;refine zQ ?_;show W _ _ _ _ _ _;obtain⟨z,hz⟩:∃z,L.getLast?=some z:=by
    cases hh:L.getLast? with
    | none=>rw[zCQ9]at hh;subst hh;simp at h0
    | some z=>exact⟨z,rfl⟩
   have hz2:L[L.length-1]?=some z:=by rw[<- zCE9];exact hz
   have e1:(L.length:Int)-1=((L.length-1:Nat):Int):=by omega
   have hg:zbL L ⟨nl,ns,nlo,nle,nw,np⟩ lv=(decide (z.low<nlo)&&decide (nl=z.level)):=by unfold zbL;rw[hz]
   rw[hg];obtain⟨zl,zs,zlo,zle,zw,zp⟩:=z;(repeat(first|refine ze ?_|refine zgo ?_ (by simp(disch:=omega)only[go_sem,e1,hz2]<;>rfl)));refine zb ?_
   by_cases h1:zlo<nlo
   ·have g1:(zlo:Int)<nlo:=by omega
    refine zfx ?_ (by simp(disch:=omega)only[go_sem,g1]<;>rfl);refine zd ?_;refine zF ?_;(try simp only[zg,zj,zh,zi,zk]);refine zq (by simp only[T138,zI,go_sem]<;>rfl) ?_;simp only[zP];exact zbo.bool (by simp[h1];try omega)
   ·have g1:¬(zlo:Int)<nlo:=by omega
    refine zfx ?_ (by simp(disch:=omega)only[go_sem,g1]<;>rfl);refine zd ?_;refine zF ?_;(try simp only[zg,zj,zh,zi,zk]);refine zq (by simp only[T138,zI,go_sem]<;>rfl) ?_;simp only[zP];exact zbo.bool (by simp[h1])
theorem f43:ET.funcs.get 43=some T43:=z9 (by kernel_rfl) (by decide)
def zdo (z:Option zE)(x:Pr):Bool:=match z with
 | some z=>!decide (z.low<=x.1)
 | none=>true
def zbS:List zE->List Pr
 | []=>[]
 | n::M=>n.pairs.filter (zdo M.head?)++zbS M
theorem znh (L:List zE)(i:Nat)(h:i<L.length):zbS (L.drop i)=L[i].pairs.filter (zdo L[i+1]?)++zbS (L.drop (i+1)):=by
 rw[zBB9 h,zbS,List.head?_drop]
theorem ziD:∀(a:List Pr) (x:Pr),zbt (a++[x])=(zbt a&&(match a.getLast? with|some y=>decide (y.1<x.1)|none=>true))
 | [],_=>rfl
 | [a],x=>by simp[zbt]
 | a::b::l,x=>by
  have:=ziD (b::l) x;rw[zAH9,zAH9,zbt,<- zAH9,this,zbt,zDQ9,Bool.and_assoc]
theorem ziK:∀(a b:List Pr),zbt (a++b)=true->zbt a=true
 | [],_,_=>rfl
 | [_],_,_=>rfl
 | a::c::l,b,h=>by
  rw[zAH9,zAH9,zbt,<- zAH9,zAR9]at h;rw[zbt,h.1,zBW9];exact ziK (c::l) b h.2
def ze7 (L:List zE):FE:=if zbt (zbS L)=true then .ret (.tuple [psv 0 (zbS L),.bool true])else .ret (.tuple [psv 0 [],.bool false])
theorem zux {H:List zu}{L:List zE}{acc:List Pr}{x:Pr}{r:List Pr}(hall:zbS L=acc++x::r)(hx:∃y,acc.getLast?=some y/\¬y.1<x.1):zbo H 0 (.ret (.tuple [.nilsl,.bool false])) (ze7 L):=by
 have:zbt (zbS L)=false:=by
  cases h:zbt (zbS L)with
  | false=>rfl
  | true =>
   rw[hall,<- List.singleton_append,<- zAF9]at h;have h2:=ziK _ _ h;obtain⟨y,e1,e2⟩:=hx;rw[ziD,e1]at h2;simp[e2]at h2
 unfold ze7;rw[this];exact Frz.tupL ⟨.nil _ _,.bool _,trivial⟩
def zxh (acc:List Pr)(x:Pr):Bool:=match acc.getLast? with
 | some y=>decide (x.1<=y.1)
 | none=>false
theorem zmt {acc:List Pr}{x:Pr}(h:zxh acc x=true):∃y,acc.getLast?=some y/\¬y.1<x.1:=by
 unfold zxh at h
 cases hh:acc.getLast? with
 | none=>rw[hh]at h;cases h
 | some y=>rw[hh]at h;exact⟨y,rfl,by have:=of_decide_eq_true h;omega⟩
theorem zpj {acc:List Pr}{x:Pr}(h:zbt acc=true)(hb:zxh acc x=false):zbt (acc++[x])=true:=by
 rw[ziD,h,zBW9];unfold zxh at hb
 cases hh:acc.getLast? with
 | none=>rfl
 | some y=>rw[hh]at hb;have:=of_decide_eq_false hb;simp;omega
theorem zkF (p q:Nat)(bs:List Nat)(L:List zE)(hl:L.length<1000000)(hp:∀n∈L,n.pairs.length<=28)(hall:(zbS L).length<1000000):FN ET 43 [zbX p q bs L] (ze7 L):=by
 refine zfn f43 ?_ ?_
 ·unfold ze7;split
  ·exact Lb.two (Lb.pvs _) (.bool _)
  ·exact Lb.two (Lb.pvs _) (.bool _)
 refine ze (zb ?_);refine zfx ?_;refine zd ?_;(repeat(first|refine ze ?_|refine zgo ?_));refine zcn 66 2 (i:=2) rfl ?_;simp only[lzy,zAE9,zAG9,zAH9,zAI9];refine zK (zbd (fun m s=>∃(i:Nat) (acc:List Pr) (G:List zu),m=L.length-i/\i<=L.length/\zbS L=acc++zbS (L.drop i)/\zbt acc=true/\s.tm 1=.ptr 0 0 0 0 2/\s.tm 2=.sl 1 acc.length 0 acc.length (2*acc.length) 2/\s.tm 10=.list p 6 (L.map (za7 q))/\s.tm 11=iv L.length/\s.tm 12=iv i/\s.df=[]/\s.H=.row 100 2 0 0 [zbX p q bs L]::.row 66 2 acc.length 0 (acc.map pv)::G) (n:=L.length) ?_ ?_)
 ·exact⟨0,[],[],rfl,by omega,rfl,rfl,by simp[upd,zB],by simp[upd],by simp[upd],by simp[upd],by simp[upd],rfl,rfl⟩
 ·rintro m ⟨tm,df,H⟩ ⟨i,acc,G,rfl,hi,hac,hri,h1,h2,h10,h11,h12,rfl,rfl⟩;dsimp only at h1 h2 h10 h11 h12;(try refine zaa ?_);refine ze (zb ?_);refine zfx ?_ (by simp(disch:=omega)only[go_sem,h1,h2,h10,h11,h12]<;>rfl);refine zd ?_;refine zae (by simp only[go_sem]<;>rfl) ?_ ?_
  ·intro hlt;have hlt:i<L.length:=by have:=of_decide_eq_true hlt;omega
   have hLi:=zAB9 hlt;rw[znh L i hlt]at hac;have hn28:=hp _ (zBU9 hlt);generalize L[i]=n at *
   (repeat refine ze ?_);refine zK ?_;(repeat(first|refine ze ?_|refine zgo ?_ (by simp(disch:=omega)only[go_sem,h10,h12,hLi,zf,zn]<;>rfl)));generalize hR:zbS (List.drop (i+1) L)=R at hac;refine zK (zbd (fun m s=>∃(j:Nat) (acc:List Pr) (G:List zu),m=n.pairs.length-j/\j<=n.pairs.length/\zbS L=acc++((n.pairs.drop j).filter (zdo L[i+1]?)++R)/\zbt acc=true/\s.tm 1=.ptr 0 0 0 0 2/\s.tm 2=.sl 1 acc.length 0 acc.length (2*acc.length) 2/\s.tm 4=iv i/\s.tm 10=.list p 6 (L.map (za7 q))/\s.tm 11=iv L.length/\s.tm 12=iv i/\s.tm 18=psv q n.pairs/\s.tm 19=iv n.pairs.length/\s.tm 20=iv j/\s.df=[]/\s.H=.row 100 2 0 0 [zbX p q bs L]::.row 66 2 acc.length 0 (acc.map pv)::G) (n:=n.pairs.length) ?_ ?_)
   ·exact⟨0,acc,_,rfl,by omega,hac,hri,by simp[upd,h1],by simp[upd,h2],by simp[upd],by simp[upd,h10],by simp[upd,h11],by simp[upd,h12],by simp[upd],by simp[upd],by simp[upd],rfl,rfl⟩
   ·clear h1 h2 h10 h11 h12 hac hri;rintro m ⟨tm,df,H⟩ ⟨j,acc,G,rfl,hj,hac,hri,h1,h2,h4,h10,h11,h12,h18,h19,h20,rfl,rfl⟩;dsimp only at h1 h2 h4 h10 h11 h12 h18 h19 h20;(try refine zaa ?_);refine ze (zb ?_);refine zfx ?_ (by simp(disch:=omega)only[go_sem,h18,h19,h20]<;>rfl);refine zd ?_;refine zae (by simp only[go_sem]<;>rfl) ?_ ?_
    ·intro hltj;have hltj:j<n.pairs.length:=by have:=of_decide_eq_true hltj;omega
     have hxj:=zAB9 hltj;rw[zBB9 hltj,zBX9]at hac;generalize n.pairs[j]=x at *
     (repeat refine ze ?_);refine zK ?_;(repeat(first|refine ze ?_|refine zgo ?_ (by simp(disch:=omega)only[go_sem,h18,h20,hxj,zf,zn]<;>rfl)));(repeat refine ze ?_);refine zbN (Q:=fun y s'=>y=.norm/\s'.tm 1=.ptr 0 0 0 0 2/\s'.tm 2=.sl 1 acc.length 0 acc.length (2*acc.length) 2/\s'.tm 4=iv i/\s'.tm 10=.list p 6 (L.map (za7 q))/\s'.tm 11=iv L.length/\s'.tm 12=iv i/\s'.tm 18=psv q n.pairs/\s'.tm 19=iv n.pairs.length/\s'.tm 20=iv j/\s'.tm 41=.bool (!zdo L[i+1]? x)/\s'.tm 7=.ptr (G.length+1+1) 0 0 0 2/\s'.df=[]/\s'.H=.row 100 2 0 0 [zbX p q bs L]::.row 66 2 acc.length 0 (acc.map pv)::(G++[.row 66 2 0 0 [pv x]])) (zap ?_) ?_
     ·have e1:((i:Int)+1)=((i+1:Nat):Int):=by omega
      by_cases hi1:i+1<L.length
      ·have g1:((i+1:Nat):Int)<(L.length:Nat):=by omega
       have hz:=zAB9 hi1;rw[hz];generalize L[i+1]=z at *
       refine zdl ?_ (by simp(disch:=omega)only[go_sem,h1,h4,e1,g1,hz,zf]<;>rfl);refine zR ?_;simp only[zo,zW,zg,go_sem];exact⟨h1,h2,h4,h10,h11,h12,h18,h19,h20,by simp[zdo]⟩
      ·have g1:¬((i+1:Nat):Int)<(L.length:Nat):=by omega
       have hz:L[i+1]?=none:=zCC9 (by omega);rw[hz];refine zdl ?_ (by simp(disch:=omega)only[go_sem,h1,h4,e1,g1,hz,zf]<;>rfl);refine zR ?_;simp only[zo,zW,zg,go_sem];exact⟨h1,h2,h4,h10,h11,h12,h18,h19,h20,by simp[zdo]⟩
     ·clear h1 h2 h4 h10 h11 h12 h18 h19 h20;rintro y ⟨tm,df,H⟩ ⟨rfl,h1,h2,h4,h10,h11,h12,h18,h19,h20,h41,h7,rfl,rfl⟩;dsimp only at h1 h2 h4 h10 h11 h12 h18 h19 h20 h41 h7;simp only[zg,zj,zh,zi,zo,zk,if_true,reduceIte]
      by_cases hk:zdo L[i+1]? x=true
      rotate_left
      ·rw[if_neg hk]at hac;have hk:zdo L[i+1]? x=false:=by simpa using hk
       refine zfc ?_ ?_ (by simp only[go_sem,h41]<;>rfl)
       ·intro _;refine zgc ?_;simp only[zg,zj,zh,zi,zo,zk,if_true,reduceIte];(repeat refine ze ?_);refine zrg ?_ (by simp(disch:=omega)only[go_sem,h20]<;>rfl);refine zG ?_;simp only[zg,zj,zh,zi,zo,zk,if_true,↓reduceIte];refine⟨_,?m1,j+1,acc,_,rfl,hltj,hac,hri,by simp[upd,h1],by simp[upd,h2],by simp[upd,h4],by simp[upd,h10],by simp[upd,h11],by simp[upd,h12],by simp[upd,h18],by simp[upd,h19],by simp[upd,h20],trivial,rfl⟩
        case m1=>omega
       ·rw[hk];intro h;cases h
      rw[if_pos hk]at hac;refine zfc ?_ ?_ (by simp only[go_sem,h41]<;>rfl)
      ·rw[hk];intro h;cases h
      intro _;refine zQ ?_;show W _ _ _ _ _ _;(repeat(first|refine ze ?_|refine zgo ?_ (by simp(disch:=omega)only[go_sem,h2]<;>rfl)));have hal:acc.length<1000000:=by have:=congrArg List.length hac;simp only[zAC9]at this;omega
      have hH:∀G2:List zu,True:=fun _=>trivial;refine zbN (Q:=fun y s'=>y=.norm/\s'.tm 1=.ptr 0 0 0 0 2/\s'.tm 2=.sl 1 acc.length 0 acc.length (2*acc.length) 2/\s'.tm 4=iv i/\s'.tm 10=.list p 6 (L.map (za7 q))/\s'.tm 11=iv L.length/\s'.tm 12=iv i/\s'.tm 18=psv q n.pairs/\s'.tm 19=iv n.pairs.length/\s'.tm 20=iv j/\s'.tm 56=.bool (zxh acc x)/\s'.tm 7=.ptr (G.length+1+1) 0 0 0 2/\s'.df=[]/\s'.H=.row 100 2 0 0 [zbX p q bs L]::.row 66 2 acc.length 0 (acc.map pv)::(G++[.row 66 2 0 0 [pv x]])) (zap ?_) ?_
      ·by_cases ha0:acc.length=0
       ·have g1:¬(0:Int)<(acc.length:Nat):=by omega
        refine zdl ?_ (by simp(disch:=omega)only[go_sem,h2,g1]<;>rfl);refine zR ?_;simp only[zo,zW,zg,go_sem];obtain rfl:acc=[]:=zCP9 ha0;exact⟨h1,h2,h4,h10,h11,h12,h18,h19,h20,rfl,h7⟩
       ·have g1:(0:Int)<(acc.length:Nat):=by omega
        have e1:(acc.length:Int)-1=((acc.length-1:Nat):Int):=by omega
        have e2:acc.length-1<acc.length:=by omega
        obtain⟨y,hy⟩:∃y,acc.getLast?=some y:=by
         cases hh:acc.getLast? with
         | none=>rw[zCQ9]at hh;subst hh;simp at ha0
         | some y=>exact⟨y,rfl⟩
        have hy2:acc[acc.length-1]?=some y:=by rw[<- zCE9];exact hy
        refine zdl ?_ (by simp(disch:=omega)only[go_sem,h2,h7,g1,e1,e2,hy2,zf]<;>rfl);refine zR ?_;simp only[zo,zW,zg,go_sem];exact⟨h1,h2,h4,h10,h11,h12,h18,h19,h20,by simp[zxh,hy],h7⟩
      ·clear h1 h2 h4 h10 h11 h12 h18 h19 h20 h41 h7;rintro y ⟨tm,df,H⟩ ⟨rfl,h1,h2,h4,h10,h11,h12,h18,h19,h20,h56,h7,rfl,rfl⟩;dsimp only at h1 h2 h4 h10 h11 h12 h18 h19 h20 h56 h7;simp only[zg,zj,zh,zi,zo,zk,if_true,reduceIte]
       by_cases hk2:zxh acc x=true
       ·refine zfc ?_ ?_ (by simp only[go_sem,h56]<;>rfl)
        ·intro _;(repeat(first|refine ze ?_|refine zgo ?_));refine zF ?_;(try simp only[zg,zj,zh,zi,zk]);refine zq (by simp only[T43,zI,go_sem]<;>rfl) ?_;simp only[zP];exact zux hac (zmt hk2)
        ·rw[hk2];intro h;cases h
       have hk2:zxh acc x=false:=by simpa using hk2
       refine zfc ?_ ?_ (by simp only[go_sem,h56]<;>rfl)
       ·rw[hk2];intro h;cases h
       intro _;refine zQ ?_;simp only[zg,zj,zh,zi,zo,zk,if_true,reduceIte];have hbb:(acc.length+1)*17<=140737488355328:=by omega
       (repeat refine ze ?_);refine zrg ?_ (by simp(disch:=omega)only[go_sem,h2,h7,hbb,zf]<;>rfl);refine zG ?_;simp only[zg,zj,zh,zi,zo,zk,if_true,↓reduceIte];(repeat refine ze ?_);refine zrg ?_ (by simp(disch:=omega)only[go_sem,h20]<;>rfl);refine zG ?_;simp only[zg,zj,zh,zi,zo,zk,if_true,↓reduceIte];refine⟨_,?m3,j+1,acc++[x],?G3,rfl,hltj,by rw[hac];simp,zpj hri hk2,by simp[upd,h1],by simp[upd],by simp[upd,h4],by simp[upd,h10],by simp[upd,h11],by simp[upd,h12],by simp[upd,h18],by simp[upd,h19],by simp[upd,h20],trivial,?H3⟩
       case m3=>omega
       case H3=>rw[zBY9,zAC9];rfl
    ·intro hltj;have hltj:¬j<n.pairs.length:=by have:=of_decide_eq_false hltj;omega
     obtain rfl:j=n.pairs.length:=by omega
     simp only[zg,zj,zh,zi,zo,zk,if_true,reduceIte];(repeat refine ze ?_);refine zrg ?_ (by simp(disch:=omega)only[go_sem,h12]<;>rfl);refine zG ?_;simp only[zg,zj,zh,zi,zo,zk,if_true,↓reduceIte];rw[zCW9,zCF9,zAI9,<- hR]at hac;refine⟨_,?m9,i+1,acc,G,rfl,hlt,hac,hri,by simp[upd,h1],by simp[upd,h2],by simp[upd,h10],by simp[upd,h11],by simp[upd,h12],trivial,rfl⟩
     case m9=>omega
  ·intro hlt;have hlt:¬i<L.length:=by have:=of_decide_eq_false hlt;omega
   obtain rfl:i=L.length:=by omega
   simp only[zg,zj,zh,zi,zo,zk,if_true,reduceIte];(repeat(first|refine ze ?_|refine zgo ?_ (by simp(disch:=omega)only[go_sem,h2]<;>rfl)));refine zF ?_;(try simp only[zg,zj,zh,zi,zk]);refine zq (by simp only[T43,zI,go_sem]<;>rfl) ?_;simp only[zP];rw[zCW9,zbS,zDV9]at hac;unfold ze7;rw[hac,if_pos hri];refine Frz.tupL ⟨?_,.bool _,trivial⟩;exact Frz.whole (l:=acc.map pv) rfl rfl (by simp) (by simp) (fun v hv=>by obtain⟨x,_,rfl⟩:=zAS9.1 hv;rfl) zd2
end Fv
end Go.Proofs.YtfomlmhnmheenaaGreat
namespace Go.Proofs.YtfomlmhnmheenaaGreat
namespace Fv
def zc1:Nat->List Nat->Nat
 | 0,_=>0
 | n+1,s=>zc1 n s+if s.contains n=true then 0 else 1
theorem znl:∀(n b:Nat) (s:List Nat),zc1 n (b::s)<=zc1 n s
 | 0,_,_=>zAK9 _
 | n+1,b,s=>by
  have:=znl n b s;rw[zc1,zc1]
  by_cases h:s.contains n=true
  ·have h2:(b::s).contains n=true:=by rw[zBV9,h,Bool.or_true]
   rw[if_pos h,if_pos h2];omega
  ·rw[if_neg h];split<;>omega
theorem zjO:∀(n b:Nat) (s:List Nat),b<n->¬s.contains b=true->zc1 n (b::s)<zc1 n s
 | 0,_,_,h,_=>by omega
 | n+1,b,s,h,hs=>by
  rw[zc1,zc1]
  by_cases hb:b=n
  ·subst hb;have:=znl b b s;have h2:(b::s).contains b=true:=by simp
   rw[if_neg hs,if_pos h2];omega
  ·have:=zjO n b s (by omega) hs
   by_cases h3:s.contains n=true
   ·have h2:(b::s).contains n=true:=by rw[zBV9,h3,Bool.or_true]
    rw[if_pos h3,if_pos h2];omega
   ·rw[if_neg h3];split<;>omega
theorem zh3:∀(n b:Nat) (s:List Nat),zc1 n s=0->b<n->s.contains b=true
 | 0,_,_,_,h=>by omega
 | n+1,b,s,h,hb=>by
  rw[zc1]at h
  by_cases h3:s.contains n=true
  ·by_cases hbn:b=n
   ·subst hbn;exact h3
   ·exact zh3 n b s (by omega) (by omega)
  ·rw[if_neg h3]at h;omega
theorem zi0:∀(n:Nat) (s:List Nat),zc1 n s<=n
 | 0,_=>zAK9 _
 | n+1,s=>by have:=zi0 n s;rw[zc1];split<;>omega
abbrev Lev:=List Nat×List zE
def zbC (w:List Nat)(lv:Int):Nat->List Nat->List Nat->List zE->Nat->Option (List Nat×List Nat×List zE)
 | 0,seen,bs,ns,b=>if b=0 then some (seen,bs,ns)else none
 | k+1,seen,bs,ns,b=>if b=0 then some (seen,bs,ns)else
  if decide (w.length/64<=b)||seen.contains b then none else
  if zbP (zD w b)&&zbL ns (zai (zD w b)) lv then zbC w lv k (b::seen) (bs++[b]) (ns++[zai (zD w b)]) (zai (zD w b)).sib else none
def zbI (w:List Nat):Nat->List Nat->List Lev->Nat->Int->List Lev×Bool
 | 0,_,acc,_,_=>(acc,false)
 | d+1,seen,acc,b,lv=>match zbC w lv (w.length/64) seen [] [] b with
  | none=>(acc,false)
  | some (_,_,[])=>(acc,false)
  | some (seen',bs,n::ns)=>if n.level=0 then(acc++[(bs,n::ns)],zbt (zbS (n::ns)))else zbI w d seen' (acc++[(bs,n::ns)]) n.left ((n.level:Int)-1)
def zaQ (w:List Nat)(a:Nat):List Lev×Bool:=zbI w 14 [] [] (w.getD a 0) (-1)
end Fv
end Go.Proofs.YtfomlmhnmheenaaGreat
namespace Go.Proofs.YtfomlmhnmheenaaGreat
namespace Fv
open Tw
structure zdc (n:zE):Prop where
 level:n.level<=12
 sib:n.sib<2048
 way:n.way<=2
 few:n.pairs.length<=27
 rise:zbt n.pairs=true
 ptrs:zc3 [n.left] n.pairs=true
 may:∀p∈n.pairs,zcv n p=true
 left:(n.level=0/\n.left=9223372036854775808)\/(0<n.level/\zcK n.left=true)
theorem zdE (p:Nat):zcK p=true↔(1<=p/\p<2048):=by unfold zcK;simp
theorem zop {n:zE}{p:Pr}(h:zcv n p=true):p.2≠0:=by
 unfold zcv at h
 split at h
 ·simp only[zAR9,decide_eq_true_eq]at h;omega
 ·rw[zAR9,zdE]at h;omega
theorem zhA:∀l:List Pr,(zcL l).length=2*l.length
 | []=>rfl
 | a::l=>by have:=zhA l;simp only[zcL,zCJ9,zAC9,zAE9,zAG9]at this⊢;omega
theorem zl0 (a:Pr)(l:List Pr):zcL (a::l)=a.1::a.2::zcL l:=by simp[zcL]
theorem zrx (a:Pr)(l:List Pr):zcL (l++[a])=zcL l++[a.1,a.2]:=by simp[zcL]
theorem zp6:∀(m prev:Nat),zaB prev (List.replicate m 0)=[]
 | 0,_=>rfl
 | 1,_=>rfl
 | m+2,prev=>by rw[zCX9,zCX9,zaB,if_pos rfl]
theorem zkT (m:Nat):∀(ps:List Pr) (seen:List Nat) (prev:Nat),zc3 seen ps=true->prev∈seen->(∀p∈ps,p.2≠0)->zaB prev (zcL ps++List.replicate m 0)=ps
 | [],_,prev,_,_,_=>by rw[show zcL []=[]from rfl,zAI9];exact zp6 m prev
 | a::ps,seen,prev,h,hm,hz=>by
  rw[zc3,zAR9,zDY9]at h;have h1:¬a.2=prev:=by
   intro e;subst e;have:seen.contains a.2=true:=by simpa using hm
   rw[this]at h;cases h.1
  rw[zl0,zAH9,zAH9,zaB,if_neg (hz a (zAV9 ..)),if_neg h1];rw[zkT m ps (a.2::seen) a.2 h.2 (zAV9 ..) fun p hp=>hz p (zAW9 _ hp)]
theorem zxq (m:Nat):∀ps:List Pr,(∀p∈ps,p.2≠0)->zbz (zcL ps++List.replicate m 0)=ps.length
 | [],_=>by
  rw[show zcL []=[]from rfl,zAI9]
  match m with
  | 0=>rfl
  | 1=>rfl
  | m+2=>rw[zCX9,zCX9,zbz,if_pos rfl];rfl
 | a::ps,hz=>by
  rw[zl0,zAH9,zAH9,zbz,if_neg (hz a (zAV9 ..)),zxq m ps fun p hp=>hz p (zAW9 _ hp)];rfl
theorem znc:∀m,zej (List.replicate m 0)=true
 | 0=>rfl
 | 1=>rfl
 | m+2=>by rw[zCX9,zCX9,zej,znc m];rfl
theorem zvo (A B:List Nat)(k x y a b:Nat)(hk:k=A.length):((A++x::y::B).set k a).set (k+1) b=A++a::b::B:=by
 subst hk;rw[zBS9 _ _ (zAK9 _),zBS9 _ _ (by omega)];simp
theorem ztj (n:zE):zb4 n 5=zlx n++List.replicate 56 0:=rfl
theorem zog (n:zE)(h:n.pairs.length<=28):∀j,j<=n.pairs.length->zcV n j=zlx n++zcL (n.pairs.take j)++List.replicate (56-2*j) 0
 | 0,_=>by rw[zcV,ztj];rfl
 | j+1,hj=>by
  have hr:List.replicate (56-2*j) 0=0::0::List.replicate (56-2*(j+1)) 0:=by
   rw[show 56-2*j=(56-2*(j+1))+1+1 by omega,zCX9,zCX9]
  have hl:(zlx n++zcL (n.pairs.take j)).length=8+2*j:=by
   rw[zAC9,zhA,zBA9];simp[zlx];omega
  rw[zcV,zog n h j (by omega),hr,zvo _ _ _ _ _ _ _ hl.symm];have ht:n.pairs.take (j+1)=n.pairs.take j++[n.pairs.getD j (0,0)]:=by
   rw[zBN9,zAQ9,zAB9 (by omega)];rfl
  rw[ht,zrx];simp[zAF9]
theorem zt3 (n:zE)(h:n.pairs.length<=28):zbB n=zlx n++(zcL n.pairs++List.replicate (56-2*n.pairs.length) 0):=by
 unfold zbB;rw[zog n h _ (zAK9 _),zBM9,zAF9]
theorem zdw (n:zE):(zbB n).length=64:=zeU n _
section
variable {n:zE}(h:zdc n)
include h
theorem zdc.rowL:(zcL n.pairs++List.replicate (56-2*n.pairs.length) 0).length=56:=by
 have:=h.few;rw[zAC9,zhA,List.length_replicate];omega
theorem zdc.left0:n.left≠0:=by
 rcases h.left with⟨_,e⟩|⟨_,e⟩
 ·rw[e];decide
 ·rw[zdE]at e;omega
theorem zdc.row:zbG n.left (zcL n.pairs++List.replicate (56-2*n.pairs.length) 0).length=true:=by
 rw[h.rowL];unfold zbG;simp[h.left0]
theorem zdc.read:zbO n.left (zcL n.pairs++List.replicate (56-2*n.pairs.length) 0)=n.pairs:=by
 unfold zbO;rw[if_pos h.row];exact zkT _ _ [n.left] _ h.ptrs (zAV9 ..) fun p hp=>zop (h.may p hp)
theorem zdc.drop8:(zbB n).drop 8=zcL n.pairs++List.replicate (56-2*n.pairs.length) 0:=by
 rw[zt3 n (by have:=h.few;omega)];rfl
theorem zdc.slots:zbW n.left ((zbB n).drop 8)=0:=by
 have hne:∀p∈n.pairs,p.2≠0:=fun p hp=>zop (h.may p hp);unfold zbW;rw[h.drop8,if_pos h.row,if_pos];unfold zdm;rw[h.read,h.rise,h.ptrs,zxq _ _ hne,h.rowL];have hd:(zcL n.pairs++List.replicate (56-2*n.pairs.length) 0).drop (2*n.pairs.length)=List.replicate (56-2*n.pairs.length) 0:=by
  rw[<- zhA,List.drop_left]
 rw[hd,znc];have:=h.few;simp;omega
end
structure ztS (lv:Nat)(ns:List zE):Prop where
 ne:ns ≠ []
 each:∀n∈ns,zdc n/\n.level=lv/\n.sib=0
 low0:∀n,ns[0]?=some n->n.low=0
 rise:∀i n m,ns[i]?=some n->ns[i+1]?=some m->n.low<m.low
 below:∀i n m,ns[i]?=some n->ns[i+1]?=some m->∀p∈n.pairs,p.1<m.low
def zbE:List Nat->List zE->List zE
 | _::bs,n::ns=>{ n with sib:=bs.headD 0 }::zbE bs ns
 | _,_=>[]
theorem zcS:∀(bs:List Nat) (ns:List zE),bs.length=ns.length->(zbE bs ns).length=ns.length
 | [],[],_=>rfl
 | _::bs,n::ns,h=>by rw[zbE,zAE9,zAE9,zcS bs ns (by simpa using h)]
 | [],_::_,h=>by simp at h
 | _::_,[],h=>by simp at h
theorem zem:∀(bs:List Nat) (ns:List zE) (i:Nat) (n:zE),bs.length=ns.length->ns[i]?=some n->(zbE bs ns)[i]?=some { n with sib:=bs.getD (i+1) 0 }
 | [],[],i,n,_,h=>by simp at h
 | [],_::_,_,_,h,_=>by simp at h
 | _::_,[],_,_,h,_=>by simp at h
 | b::bs,n::ns,i,m,hl,h=>by
  rw[zbE]
  match i with
  | 0 =>
   rw[zEI9]at h⊢;injection h with h;subst h
   cases bs<;>rfl
  | i+1 =>
   rw[zAT9]at h⊢;rw[zem bs ns i m (by simpa using hl) h];rfl
theorem zsg {bs:List Nat}{ns:List zE}(hl:bs.length=ns.length)(h:ns ≠ []):zbE bs ns ≠ []:=by
 intro e;have:=zcS bs ns hl;rw[e]at this;exact h (zCP9 this.symm)
def after:Option Nat->Nat->Prop
 | none,n=>n=0
 | some l,n=>l<n
def zj3 (lv:Nat):Option Nat->List Nat->List zE->Prop
 | _,[],[]=>True
 | pl,b::bs,n::ns=>1<=b/\b<2048/\zdc n/\n.level=lv/\n.sib=bs.headD 0/\after pl n.low/\(∀m,ns.head?=some m->∀p∈n.pairs,p.1<m.low)/\zj3 lv (some n.low) bs ns
 | _,[],_::_=>False
 | _,_::_,[]=>False
theorem zdc.setSib {n:zE}(h:zdc n){s:Nat}(hs:s<2048):zdc { n with sib:=s }:=⟨h.level,hs,h.way,h.few,h.rise,h.ptrs,h.may,h.left⟩
theorem zo3 (lv:Nat):∀(bs:List Nat) (ns:List zE) (pl:Option Nat),bs.length=ns.length->(∀b∈bs,1<=b/\b<2048)->(∀n∈ns,zdc n/\n.level=lv)->(∀n,ns[0]?=some n->after pl n.low)->(∀i n m,ns[i]?=some n->ns[i+1]?=some m->n.low<m.low)->(∀i n m,ns[i]?=some n->ns[i+1]?=some m->∀p∈n.pairs,p.1<m.low)->zj3 lv pl bs (zbE bs ns)
 | [],[],_,_,_,_,_,_,_=>trivial
 | [],_::_,_,h,_,_,_,_,_=>by simp at h
 | _::_,[],_,h,_,_,_,_,_=>by simp at h
 | b::bs,n::ns,pl,hl,hb,hn,h0,hr,hw=>by
  have hs:bs.headD 0<2048:=by
   cases bs with
   | nil=>decide
   | cons c bs=>exact(hb c (by simp)).2
  have hl':bs.length=ns.length:=by simpa using hl
  have hg:=hn n (zAV9 ..);refine⟨(hb b (zAV9 ..)).1,(hb b (zAV9 ..)).2,hg.1.setSib hs,hg.2,rfl,h0 n rfl,?_,?_⟩
  ·intro m hm p hp
   cases ns with
   | nil=>cases bs<;>simp[zbE]at hm
   | cons c ns =>
    cases bs with
    | nil=>simp at hl'
    | cons d bs =>
     simp[zbE]at hm;subst hm;exact hw 0 n c rfl rfl p hp
  ·refine zo3 lv bs ns (some n.low) hl' (fun c hc=>hb c (zAW9 _ hc)) (fun c hc=>hn c (zAW9 _ hc)) ?_ (fun i a c ha hc=>hr (i+1) a c ha hc) (fun i a c ha hc=>hw (i+1) a c ha hc);intro m hm;exact hr 0 n m rfl hm
def zc4 (w:List Nat)(bs:List Nat)(ns:List zE):Prop:=∀(i b:Nat) (n:zE),bs[i]?=some b->ns[i]?=some n->b<w.length/64/\zD w b=zbB n
theorem zc4.tail {w:List Nat}{b:Nat}{bs:List Nat}{n:zE}{ns:List zE}(h:zc4 w (b::bs) (n::ns)):zc4 w bs ns:=fun i c m hc hm=>h (i+1) c m hc hm
def zdz (n:zE):List Pr:=(n.low,n.left)::n.pairs
def ze8 (L:Lev):List Pr:=(L.2.map zE.low).zip L.1
def znY:List Lev->Prop
 | []=>False
 | [L]=>zj3 0 none L.1 L.2/\L.2 ≠ []
 | L::M::T=>zj3 (T.length+1) none L.1 L.2/\L.2 ≠ []/\L.2.flatMap zdz=ze8 M/\znY (M::T)
def ziR (b:Nat)(ws:List Nat):List Pr:=(List.range ws.length).map fun k=>(64*b+k,ws.getD k 0)
def zby (w:List Nat)(l:List Pr):List Nat:=l.foldl (fun w x=>w.set x.1 x.2) w
theorem znS (w:List Nat)(a b:List Pr):zby w (a++b)=zby (zby w a) b:=List.foldl_append
theorem zep:∀(l:List Pr) (w:List Nat),(zby w l).length=w.length
 | [],_=>rfl
 | x::l,w=>by show (zby (w.set x.1 x.2) l).length=_;rw[zep l,zCN9]
def zim (bs:List Nat)(ns:List zE):List Pr:=(bs.zip ns).flatMap fun x=>ziR x.1 (zbB x.2)
def zd8 (T:List Lev):List Pr:=T.flatMap fun L=>zim L.1 L.2
theorem zdx:∀l:List Pr,zbt l=true↔∀(i:Nat) (x y:Pr),l[i]?=some x->l[i+1]?=some y->x.1<y.1
 | []=>⟨fun _ i x y h=>by simp at h,fun _=>rfl⟩
 | [a]=>⟨fun _ i x y _ h=>by simp at h,fun _=>rfl⟩
 | a::b::l=>by
  rw[zbt,zAR9,decide_eq_true_eq,zdx (b::l)];refine⟨fun h i x y hx hy=>?_,fun h=>⟨h 0 a b rfl rfl,fun i x y hx hy=>h (i+1) x y hx hy⟩⟩
  match i with
  | 0=>injection hx with hx;injection hy with hy;subst hx hy;exact h.1
  | i+1=>exact h.2 i x y hx hy
theorem zeO {l:List Pr}(h:zbt l=true):∀(k i:Nat) (x y:Pr),l[i]?=some x->l[i+k+1]?=some y->x.1<y.1
 | 0,i,x,y,hx,hy=>(zdx l).1 h i x y hx hy
 | k+1,i,x,y,hx,hy=>by
  have hlen:=(zAD9.1 hy).1;have hz:l[i+k+1]?=some l[i+k+1]:=zAB9 (by omega);exact Nat.lt_trans (zeO h k i x _ hx hz) ((zdx l).1 h _ _ _ hz hy)
theorem ziz {l:List Pr}(h:zbt l=true)(k:Nat):zbt (l.drop k)=true:=by
 rw[zdx]at h⊢;intro i x y hx hy;rw[zBT9]at hx hy;exact h (k+i) x y hx (by rw[<- hy];rfl)
theorem zlM {l:List Pr}(h:zbt l=true)(k:Nat):zbt (l.take k)=true:=by
 have:zbt (l.take k++l.drop k)=true:=by rw[zEQ9];exact h
 exact ziK _ _ this
theorem zeq:∀(l:List Pr) (seen:List Nat),zc3 seen l=true↔(l.map Prod.snd).Nodup/\∀p∈l,¬p.2∈seen
 | [],seen=>by simp[zc3]
 | a::l,seen=>by
  rw[zc3,zAR9,zDY9,zeq l (a.2::seen),zCI9,zDW9];have:(seen.contains a.2=false)↔¬a.2∈seen:=by rw[<- zEF9,zCU9]
  rw[this]
  constructor
  ·rintro ⟨h1,h2,h3⟩;refine⟨⟨fun hm=>?_,h2⟩,fun p hp=>?_⟩
   ·obtain⟨p,hp,e⟩:=zAS9.1 hm;exact h3 p hp (by rw[e];exact zAV9 ..)
   ·rcases zAY9.1 hp with rfl|hp
    ·exact h1
    ·exact fun h=>h3 p hp (zAW9 _ h)
  ·rintro ⟨⟨h1,h2⟩,h3⟩;refine⟨h3 a (zAV9 ..),h2,fun p hp h=>?_⟩;rcases zAY9.1 h with e|h
   ·exact h1 (zAS9.2 ⟨p,hp,e⟩)
   ·exact h3 p (zAW9 _ hp) h
theorem zhW (k:Nat)(l:List Pr):∀m,((List.range m).map fun i=>(l.drop (k*i)).take k).flatten=l.take (k*m)
 | 0=>by simp
 | m+1=>by
  rw[zDX9,zBY9,List.flatten_append,zhW k l m,Nat.mul_succ,List.take_add];simp
theorem zhJ:∀L:List zE,(∀(i:Nat) (n m:zE),L[i]?=some n->L[i+1]?=some m->∀p∈n.pairs,p.1<m.low)->zbS L=L.flatMap zE.pairs
 | [],_=>rfl
 | n::L,h=>by
  rw[zbS,zCJ9,zhJ L fun i a b ha hb=>h (i+1) a b ha hb]
  congr 1
  rw[List.filter_eq_self];intro p hp;unfold zdo
  cases hh:L.head? with
  | none=>rfl
  | some m =>
   have:=h 0 n m rfl (by rw[List.head?_eq_getElem?]at hh;exact hh) p hp;simp;omega
theorem zd7:∀(bs:List Nat) (ns:List zE),bs.length=ns.length->(zbE bs ns).flatMap zE.pairs=ns.flatMap zE.pairs/\(zbE bs ns).map zE.low=ns.map zE.low/\(zbE bs ns).flatMap zdz=ns.flatMap zdz
 | [],[],_=>⟨rfl,rfl,rfl⟩
 | [],_::_,h=>by simp at h
 | _::_,[],h=>by simp at h
 | b::bs,n::ns,h=>by
  obtain⟨h1,h2,h3⟩:=zd7 bs ns (by simpa using h);simp[zbE,h1,h2,h3,zdz]
def okP (l:List Pr):Bool:=zbt l&&zc3 [] l&&l.all fun p=>decide (1<=p.2)&&decide (p.2<=1099511627776)
theorem zmK (l:List Pr):okP l=true↔zbt l=true/\(l.map Prod.snd).Nodup/\∀p∈l,1<=p.2/\p.2<=1099511627776:=by
 unfold okP;rw[zAR9,zAR9,zeq,zBE9];simp[and_assoc]
theorem zj1 {l:List Pr}{a k:Nat}{p:Pr}(h:p∈(l.drop a).take k):∃j,j<k/\l[a+j]?=some p:=by
 obtain⟨j,hj,e⟩:=zBJ9.1 h;have:=zAB9 hj;rw[e,zBF9]at this;have hjk:j<k:=by have:=hj;simp at this;omega
 rw[if_pos hjk,zBT9]at this;exact⟨j,hjk,this⟩
theorem zkH {l:List Pr}(h:(l.map Prod.snd).Nodup)(a k:Nat):(((l.drop a).take k).map Prod.snd).Nodup :=
 h.sublist (((List.take_sublist k _).trans (List.drop_sublist a l)).map _)
theorem getD_some {l:List Pr}{i:Nat}{x:Pr}(h:l[i]?=some x):l.getD i (0,0)=x:=by rw[zAQ9,h];rfl
theorem get_lt (l:List Pr){i:Nat}(h:i<l.length):l[i]?=some (l.getD i (0,0)):=by rw[zAQ9,zAB9 h];rfl
theorem zsU {l:List Pr}(h:okP l=true)(i:Nat)(hi:18*i<l.length\/i=0):zdc (zxw l i):=by
 rw[zmK]at h;obtain⟨h1,h2,h3⟩:=h;have hm:∀p∈(zxw l i).pairs,∃j,j<18/\l[18*i+j]?=some p:=fun p hp=>zj1 hp;refine⟨zAU9 _,show 0<2048 by decide,zAU9 _,?_,?_,?_,fun p hp=>?_,.inl ⟨rfl,rfl⟩⟩
 ·show ((l.drop (18*i)).take 18).length<=27;rw[zBA9];omega
 ·exact zlM (ziz h1 _) _
 ·rw[zeq];refine⟨zkH h2 _ _,fun p hp hq=>?_⟩;obtain⟨j,_,hj⟩:=hm p hp;have:=h3 p (zAO9 hj);have hq:p.2=9223372036854775808:=zBH9.1 hq;omega
 ·obtain⟨j,hjk,hj⟩:=hm p hp;have:=h3 p (zAO9 hj);have hl:(zxw l i).low<=p.1:=by
   show (if 0<i then(l.getD (18*i) (0,0)).1 else 0)<=p.1
   split
   ·have hlen:=(zAD9.1 hj).1
    match j with
    | 0=>rw[zDF9]at hj;rw[getD_some hj];exact zAK9 _
    | j+1=>exact Nat.le_of_lt (zeO h1 j _ _ _ (get_lt l (by omega)) hj)
   ·exact zAU9 _
  unfold zcv;rw[if_pos (show (zxw l i).level=0 from rfl)];simp[this.1,this.2,hl]
theorem zgT (l:List Pr):zb2 l=(List.range (max 1 ((l.length+17)/18))).map (zxw l):=by
 unfold zb2
 split
 ·rename_i h;subst h;rfl
 ·rename_i h;have:0<l.length:=zBZ9.2 h;rw[zfm,Nat.max_eq_right (by omega)]
theorem zdW (l:List Pr):(zb2 l).length=max 1 ((l.length+17)/18):=by rw[zgT];simp
theorem zd1 {n:Nat}{f:Nat->zE}{i:Nat}{x:zE}(h:((List.range n).map f)[i]?=some x):i<n/\x=f i:=by
 have hi:i<n:=by have:=(zAD9.1 h).1;simpa using this
 rw[zAL9,zEG9 hi]at h;injection h with h;exact⟨hi,h.symm⟩
theorem zxt {l:List Pr}(h:okP l=true):ztS 0 (zb2 l)/\zbS (zb2 l)=l:=by
 have h':=(zmK l).1 h;obtain⟨h1,h2,h3⟩:=h';rw[zgT];have hsm:∀i,i<max 1 ((l.length+17)/18)->18*i<l.length\/i=0:=fun i hi=>by omega
 have hbelow:∀(i:Nat) (n m:zE),((List.range (max 1 ((l.length+17)/18))).map (zxw l))[i]?=some n->((List.range (max 1 ((l.length+17)/18))).map (zxw l))[i+1]?=some m->∀p∈n.pairs,p.1<m.low:=by
  intro i n m hn hm p hp;obtain⟨hi,rfl⟩:=zd1 hn;obtain⟨hj,rfl⟩:=zd1 hm;obtain⟨j,hjk,hj⟩:=zj1 hp;show p.1<(if 0<i+1 then(l.getD (18*(i+1)) (0,0)).1 else 0);rw[if_pos (zER9 _)];exact zeO h1 (17-j) _ _ _ hj (by rw[show 18*i+j+(17-j)+1=18*(i+1) by omega];exact get_lt l (by omega))
 refine⟨⟨?_,?_,?_,?_,hbelow⟩,?_⟩
 ·intro e;have:=congrArg List.length e;simp at this
 ·intro n hn;obtain⟨i,hi,rfl⟩:=zAS9.1 hn;exact⟨zsU h i (hsm i (zCZ9.1 hi)),rfl,rfl⟩
 ·intro n hn;obtain⟨_,rfl⟩:=zd1 hn;rfl
 ·intro i n m hn hm;obtain⟨hi,rfl⟩:=zd1 hn;obtain⟨hj,rfl⟩:=zd1 hm;show (if 0<i then(l.getD (18*i) (0,0)).1 else 0)<(if 0<i+1 then(l.getD (18*(i+1)) (0,0)).1 else 0);rw[if_pos (zER9 _)];have hlt:18*(i+1)<l.length:=by omega
  split
  ·exact zeO h1 17 _ _ _ (get_lt l (by omega)) (get_lt l hlt)
  ·exact Nat.lt_of_le_of_lt (zAU9 _) ((zdx l).1 h1 (18*(i+1)-1) _ _ (get_lt l (by omega)) (by rw[show 18*(i+1)-1+1=18*(i+1) by omega];exact get_lt l hlt))
 ·rw[zhJ _ hbelow,List.flatMap_map];have:=zhW 18 l (max 1 ((l.length+17)/18));rw[zDC9 (by omega)]at this;refine Eq.trans ?_ this;rw[List.flatMap_def];rfl
theorem zkz (ks:List Pr)(i:Nat)(hi:19*i<ks.length):(ks.drop (19*i)).take 19=ks.getD (19*i) (0,0)::((ks.drop (19*i)).take 19).drop 1:=by
 have hd:ks.drop (19*i)=ks[19*i]::ks.drop (19*i+1):=zBB9 hi;have hg:ks.getD (19*i) (0,0)=ks[19*i]:=by rw[zAQ9,zAB9 hi];rfl
 rw[hg,hd];rfl
theorem zrI {lv:Nat}{ks:List Pr}{i:Nat}(hi:19*i<ks.length):zdz (zc9 lv ks i)=(ks.drop (19*i)).take 19:=by
 rw[zkz ks i hi];rfl
theorem zrs {lv:Nat}{ks:List Pr}(h1:1<=lv/\lv<=12)(hr:zbt ks=true)(hn:(ks.map Prod.snd).Nodup)(hb:∀x∈ks,1<=x.2/\x.2<2048)(i:Nat)(hi:19*i<ks.length):zdc (zc9 lv ks i):=by
 have hc:=zkz ks i hi;have hrc:zbt ((ks.drop (19*i)).take 19)=true:=zlM (ziz hr _) _;have hnc:=zkH hn (19*i) 19;rw[hc]at hnc;rw[zCI9,zDW9]at hnc;have hm:∀p∈(zc9 lv ks i).pairs,p∈(ks.drop (19*i)).take 19:=fun p hp=>zDA9 hp;have hbk:∀p∈(ks.drop (19*i)).take 19,1<=p.2/\p.2<2048:=fun p hp=>hb p (zDA9 (zDB9 hp));refine⟨h1.2,show 0<2048 by decide,zAU9 _,?_,?_,?_,fun p hp=>?_,.inr ⟨h1.1,?_⟩⟩
 ·show (((ks.drop (19*i)).take 19).drop 1).length<=27;rw[zCA9,zBA9];omega
 ·exact ziz hrc 1
 ·rw[zeq];refine⟨hnc.2,fun p hp hq=>?_⟩;have hq:p.2=(ks.getD (19*i) (0,0)).2:=zBH9.1 hq;exact hnc.1 (zAS9.2 ⟨p,hp,hq⟩)
 ·unfold zcv;rw[if_neg (show ¬(zc9 lv ks i).level=0 from by show ¬lv=0;omega),zAR9,zdE,decide_eq_true_eq];refine⟨hbk p (hm p hp),?_⟩;obtain⟨j,hj⟩:=zDU9.1 hp;have hj:(((ks.drop (19*i)).take 19).drop 1)[j]?=some p:=hj;rw[zBT9]at hj;exact zeO hrc j 0 _ p (by rw[hc];rfl) (by rw[<- hj,show 0+j+1=1+j by omega])
 ·rw[zdE];exact hb _ (zAO9 (get_lt ks hi))
theorem zdD (lv:Nat)(ks:List Pr):(zco lv ks).length=(ks.length+18)/19:=by unfold zco;rw[zAA9,List.length_range,zfm]
theorem zm7 {lv:Nat}{ks:List Pr}(h1:1<=lv/\lv<=12)(hne:ks ≠ [])(hr:zbt ks=true)(h0:(ks.getD 0 (0,0)).1=0)(hn:(ks.map Prod.snd).Nodup)(hb:∀x∈ks,1<=x.2/\x.2<2048):ztS lv (zco lv ks)/\(zco lv ks).flatMap zdz=ks:=by
 have hpos:0<ks.length:=zBZ9.2 hne;unfold zco;rw[zfm];have hlt:∀i,i<(ks.length+(19-1))/19->19*i<ks.length:=fun i hi=>by omega
 refine⟨⟨?_,?_,?_,?_,?_⟩,?_⟩
 ·intro e;have:=congrArg List.length e;simp at this;omega
 ·intro n hn';obtain⟨i,hi,rfl⟩:=zAS9.1 hn';exact⟨zrs h1 hr hn hb i (hlt i (zCZ9.1 hi)),rfl,rfl⟩
 ·intro n hn';obtain⟨_,rfl⟩:=zd1 hn';exact h0
 ·intro i n m hn' hm;obtain⟨hi,rfl⟩:=zd1 hn';obtain⟨hj,rfl⟩:=zd1 hm;exact zeO hr 18 _ _ _ (get_lt ks (hlt i hi)) (get_lt ks (hlt _ hj))
 ·intro i n m hn' hm p hp;obtain⟨hi,rfl⟩:=zd1 hn';obtain⟨hj,rfl⟩:=zd1 hm;obtain⟨j,hjk,hpj⟩:=zj1 (zDA9 (i:=1) hp);show p.1<(ks.getD (19*(i+1)) (0,0)).1;exact zeO hr (18-j) _ _ _ hpj (by rw[show 19*i+j+(18-j)+1=19*(i+1) by omega];exact get_lt ks (hlt _ hj))
 ·have:=zhW 19 ks ((ks.length+(19-1))/19);rw[zDC9 (by omega)]at this;rw[List.flatMap_map,List.flatMap_def];rw[<- this]
  congr 1
  ·rw[this];refine zEH9 fun i hi=>?_;exact zrI (hlt i (zCZ9.1 hi))
def zjH (free:List Nat):Nat->List zE->Nat->List Lev->Option (List Lev)
 | 0,_,_,_=>none
 | k+1,l,used,T=>if free.length<used+l.length then none else
  if l.length=1 then some (((free.drop used).take l.length,zbE ((free.drop used).take l.length) l)::T)else
  zjH free k (zco (T.length+1) ((l.map zE.low).zip ((free.drop used).take l.length))) (used+l.length) (((free.drop used).take l.length,zbE ((free.drop used).take l.length) l)::T)
def bndL:Nat->Nat
 | 0=>28
 | 1=>2
 | _=>1
def zmQ (free:List Nat):Bool:=free.all (fun b=>decide (1<=b)&&decide (b<2048))&&decide free.Nodup
theorem zi1 (free:List Nat):zmQ free=true↔(∀b∈free,1<=b/\b<2048)/\free.Nodup:=by
 unfold zmQ;rw[zAR9,zBE9,decide_eq_true_eq];simp
structure zjG (p:List Pr)(free:List Nat)(l:List zE)(used:Nat)(T:List Lev):Prop where
 ok:ztS T.length l
 st:match T with | []=>zbS l=p|M::T'=>l.flatMap zdz=ze8 M/\znY (M::T')
 last:∀M,T.getLast?=some M->zbS M.2=p
 len:∀M∈T,M.1.length=M.2.length
 blocks:T.reverse.flatMap Prod.fst=free.take used
 used:used<=free.length
 bndL:l.length<=bndL T.length
 lvl:T.length<=2
structure zuw (p:List Pr)(free:List Nat)(T:List Lev):Prop where
 st:znY T
 one:∃b n T',T=([b],[n])::T'/\n.sib=0
 last:∀M,T.getLast?=some M->zbS M.2=p
 len:∀M∈T,M.1.length=M.2.length
 blocks:∃used,used<=free.length/\T.reverse.flatMap Prod.fst=free.take used
 few:T.length<=3
section
variable {p:List Pr}{free:List Nat}(hf:zmQ free=true)
include hf
theorem zjG.level {l:List zE}{used:Nat}{T:List Lev}(h:zjG p free l used T)(hu:¬free.length<used+l.length) :
  ((free.drop used).take l.length).length=l.length/\zj3 T.length none ((free.drop used).take l.length) (zbE ((free.drop used).take l.length) l)/\zbE ((free.drop used).take l.length) l ≠ []/\(∀b∈(free.drop used).take l.length,1<=b/\b<2048)/\((free.drop used).take l.length).Nodup /\
  (((free.drop used).take l.length,zbE ((free.drop used).take l.length) l)::T).reverse.flatMap Prod.fst=free.take (used+l.length)/\znY (((free.drop used).take l.length,zbE ((free.drop used).take l.length) l)::T) /\
  (∀M,(((free.drop used).take l.length,zbE ((free.drop used).take l.length) l)::T).getLast?=some M->zbS M.2=p):=by
 rw[zi1]at hf;have hbl:((free.drop used).take l.length).length=l.length:=by rw[zBA9,zCA9];omega
 have hbb:∀b∈(free.drop used).take l.length,1<=b/\b<2048:=fun b hb=>hf.1 b (zDA9 (zDB9 hb));have hnd:((free.drop used).take l.length).Nodup:=hf.2.sublist ((List.take_sublist _ _).trans (List.drop_sublist _ _));have hch:zj3 T.length none ((free.drop used).take l.length) (zbE ((free.drop used).take l.length) l) :=
  zo3 _ _ _ _ hbl hbb (fun n hn=>⟨(h.ok.each n hn).1,(h.ok.each n hn).2.1⟩) (fun n hn=>h.ok.low0 n hn) h.ok.rise h.ok.below
 have hne:=zsg hbl h.ok.ne;obtain⟨k1,k2,k3⟩:=zd7 _ _ hbl;refine⟨hbl,hch,hne,hbb,hnd,?_,?_,?_⟩
 ·rw[zEP9,zDR9,h.blocks,List.take_add];simp
 ·have hst:=h.st
  cases T with
  | nil=>exact⟨hch,hne⟩
  | cons M T=>exact⟨hch,hne,by rw[k3];exact hst.1,hst.2⟩
 ·intro M hM;have hst:=h.st
  cases hT:T with
  | nil =>
   subst hT;injection hM with hM;subst hM;have hr:∀(i:Nat) (n m:zE),(zbE ((free.drop used).take l.length) l)[i]?=some n->(zbE ((free.drop used).take l.length) l)[i+1]?=some m->∀q∈n.pairs,q.1<m.low:=by
    intro i n m hn hm;have hi:i+1<l.length:=by have:=(zAD9.1 hm).1;rw[zcS _ _ hbl]at this;exact this
    have e1:=zem _ _ i _ hbl (zAB9 (show i<l.length by omega));have e2:=zem _ _ (i+1) _ hbl (zAB9 hi);rw[hn]at e1;rw[hm]at e2;injection e1 with e1;injection e2 with e2;subst e1 e2;exact h.ok.below i (l[i]'(by omega)) (l[i+1]'hi) (zAB9 (show i<l.length by omega)) (zAB9 hi)
   have e1:=zhJ _ hr;have e2:=zhJ _ h.ok.below;show zbS (zbE _ l)=p;rw[e1,k1,<- e2];exact hst
  | cons K T' =>
   refine h.last M ?_;rw[hT]at hM⊢;rw[zDQ9]at hM;exact hM
theorem zl1:∀(k:Nat) (l:List zE) (used:Nat) (T T':List Lev),zjG p free l used T->zjH free k l used T=some T'->zuw p free T'
 | 0,l,used,T,T',_,h=>by cases h
 | k+1,l,used,T,T',hi,h=>by
  rw[zjH]at h
  by_cases hu:free.length<used+l.length
  ·rw[if_pos hu]at h;cases h
  rw[if_neg hu]at h;obtain⟨h1,h2,h3,h4,h5,h6,h7,h8⟩:=hi.level hf hu;have hbd:=hi.bndL;have hlvl:=hi.lvl
  by_cases ho:l.length=1
  ·rw[if_pos ho]at h;injection h with h;subst h;refine⟨h7,?_,h8,?_,⟨used+l.length,by omega,h6⟩,?_⟩
   ·obtain⟨n,hn⟩:=zEM9.1 ho;obtain⟨b,hb⟩:=zEM9.1 (h1.trans ho);rw[hb,hn];exact⟨b,{ n with sib:=0 },T,rfl,rfl⟩
   ·intro M hM;rcases zAY9.1 hM with rfl|hM
    ·exact h1.trans (zcS _ _ h1).symm
    ·exact hi.len M hM
   ·simp;omega
  ·rw[if_neg ho]at h;refine zl1 k _ _ _ _ ?_ h;have hne0:0<l.length:=zBZ9.2 hi.ok.ne;have hT1:T.length<=1:=by
    rcases zCM9 T.length 2 with h|h
    ·omega
    ·have e:T.length=2:=by omega
     rw[e]at hbd;simp[bndL]at hbd;omega
   obtain⟨k1,k2,k3⟩:=zd7 _ _ h1;generalize hbs:(free.drop used).take l.length=bs at *
   have hzl:((l.map zE.low).zip bs).length=l.length:=by simp[h1]
   have hms:((l.map zE.low).zip bs).map Prod.snd=bs:=List.map_snd_zip (by simp[h1]);have hg:∀(i:Nat) (x:Pr),((l.map zE.low).zip bs)[i]?=some x->∃n,l[i]?=some n/\x.1=n.low:=by
    intro i x hx;rw[zDJ9]at hx;have h1:=hx.1;rw[zAL9]at h1
    cases hn:l[i]? with
    | none=>rw[hn]at h1;cases h1
    | some n=>rw[hn]at h1;injection h1 with h1;exact⟨n,rfl,h1.symm⟩
   have hz0:(((l.map zE.low).zip bs).getD 0 (0,0)).1=0:=by
    obtain⟨n,hn,e⟩:=hg 0 _ (get_lt _ (by omega));rw[e];exact hi.ok.low0 n hn
   have hrz:zbt ((l.map zE.low).zip bs)=true:=by
    rw[zdx];intro i x y hx hy;obtain⟨n,hn,e⟩:=hg i x hx;obtain⟨m,hm,e2⟩:=hg _ y hy;rw[e,e2];exact hi.ok.rise i n m hn hm
   have hab:=zm7 (lv:=T.length+1) (ks:=(l.map zE.low).zip bs) ⟨by omega,by omega⟩ (by intro e;rw[e]at hzl;simp at hzl;omega) hrz hz0 (by rw[hms];exact h5) (fun x hx=>h4 x.2 (List.of_mem_zip hx).2);refine⟨hab.1,⟨?_,h7⟩,h8,?_,h6,by omega,?_,by simp;omega⟩
   ·rw[hab.2];unfold ze8;rw[k2]
   ·intro M hM;rcases zAY9.1 hM with rfl|hM
    ·exact h1.trans (zcS _ _ h1).symm
    ·exact hi.len M hM
   ·rw[zdD,hzl];show _<=bndL (T.length+1)
    match hT:T.length,hT1 with
    | 0,_=>rw[hT]at hbd;simp[bndL]at hbd⊢;omega
    | 1,_=>rw[hT]at hbd;simp[bndL]at hbd⊢;omega
end
theorem zlU {p:List Pr}(free:List Nat)(hp:okP p=true)(hl:p.length<=500):zjG p free (zb2 p) 0 []:=by
 have h:=zxt hp;refine⟨h.1,h.2,fun M hM=>by simp at hM,fun M hM=>by simp at hM,rfl,zAU9 _,?_,zAU9 _⟩;rw[zdW];simp[bndL];omega
def zee:Nat->Nat->Nat
 | 0,n=>n
 | k+1,n=>n+if n=1 then 0 else zee k ((n+18)/19)
def zd9 (n:Nat):Nat:=zee 4 (max 1 ((n+17)/18))
theorem znd (free:List Nat):∀(k:Nat) (l:List zE) (used:Nat) (T:List Lev),3<=k+T.length->1<=k->1<=l.length->l.length<=bndL T.length->(zjH free k l used T=none↔free.length<used+zee k l.length)
 | 0,_,_,_,_,h,_,_=>by omega
 | k+1,l,used,T,h1,_,h3,h4=>by
  rw[zjH,zee]
  by_cases hu:free.length<used+l.length
  ·rw[if_pos hu];exact⟨fun _=>by omega,fun _=>rfl⟩
  rw[if_neg hu]
  by_cases ho:l.length=1
  ·rw[if_pos ho,if_pos ho];exact⟨fun h=>(by cases h),fun h=>by omega⟩
  rw[if_neg ho,if_neg ho];have hT1:T.length<=1:=by
   rcases zCM9 T.length 2 with h|h
   ·omega
   ·obtain⟨m,e⟩:∃m,T.length=m+2:=⟨T.length-2,by omega⟩
    rw[e]at h4;simp[bndL]at h4;omega
  have hzl:((l.map zE.low).zip ((free.drop used).take l.length)).length=l.length:=by simp;omega
  rw[znd free k _ _ _ (by simp;omega) (by omega) (by rw[zdD,hzl];omega) ?_,zdD,hzl]
  ·omega
  ·rw[zdD,hzl];show _<=bndL (T.length+1)
   match hT:T.length,hT1 with
   | 0,_=>rw[hT]at h4;simp[bndL]at h4⊢;omega
   | 1,_=>rw[hT]at h4;simp[bndL]at h4⊢;omega
def zf5 (p:List Pr)(free:List Nat):Option (List Lev):=zjH free 4 (zb2 p) 0 []
theorem zkP {p:List Pr}{free:List Nat}(hl:p.length<=500):zf5 p free=none↔free.length<zd9 p.length:=by
 unfold zf5 zd9;rw[znd free 4 _ _ _ (by decide) (by decide) (by rw[zdW];omega) (by rw[zdW];simp[bndL];omega),zdW,zAM9]
theorem zrY {p:List Pr}{free:List Nat}{T:List Lev}(hp:okP p=true)(hf:zmQ free=true)(hl:p.length<=500)(h:zf5 p free=some T):zuw p free T:=zl1 hf 4 _ _ _ _ (zlU free hp hl) h
def ze1 (n:zE)(z:Option zE):Bool:=match n.pairs.getLast?,z with
 | some p,some m=>decide (p.1<m.low)
 | _,_=>true
def zcA (w:List Nat):List Nat->List zE->Bool
 | b::bs,n::ns=>decide (zbJ (zD w b)=0)&&ze1 n ns.head? && zcA w bs ns
 | _,_=>true
def zcg (w:List Nat):List Lev->Bool
 | []=>true
 | [L]=>zcA w L.1 L.2
 | L::M::T=>zcA w L.1 L.2&&decide (L.2.flatMap zdz=ze8 M)&&zcg w (M::T)
def zs3:List Lev->Bool
 | (_,n::_)::_=>decide (n.sib=0)
 | _=>false
def zjT (w:List Nat)(T:List Lev):Bool:=zs3 T&&zcg w T
def zmr (T:List Lev):Nat:=match T with
 | L::_=>L.1.headD 0
 | []=>0
theorem zeB {l:List Nat}(h:zbP l=true):(zai l).level<=12/\(zai l).sib<2048/\(zai l).way<=2:=by
 unfold zbP at h;rw[zAR9,zBE9]at h;have h0:=h.2 0 (by decide);have h1:=h.2 1 (by decide);have h4:=h.2 4 (by decide);rw[zcC,zAR9,decide_eq_true_eq,decide_eq_true_eq]at h0;rw[zcC,decide_eq_true_eq]at h1;have h4:decide (l.getD 4 0<=2)=true:=h4;rw[decide_eq_true_eq]at h4;refine⟨?_,h1,h4⟩;have:(zai l).level=zgq (l.getD 0 0):=by unfold zai;rfl
 rw[this,zmF];omega
theorem zoO {ns ms:List zE}(h:ns ≠ []):(ns++ms).head?=ns.head?:=by
 cases ns with
 | nil=>exact absurd rfl h
 | cons a l=>rfl
theorem zxf (l:List Nat):(zai l).pairs.length<=28:=by unfold zai;exact zeV _ _
structure LvF (w:List Nat)(bs:List Nat)(ns:List zE):Prop where
 is:ns=bs.map fun b=>zai (zD w b)
 each:∀b∈bs,b<w.length/64/\zbP (zD w b)=true
 same:∀n∈ns,∀z,ns.head?=some z->n.level=z.level
theorem LvF.len {w:List Nat}{bs:List Nat}{ns:List zE}(h:LvF w bs ns):bs.length=ns.length:=by rw[h.is,zAA9]
theorem LvF.node {w:List Nat}{bs:List Nat}{ns:List zE}(h:LvF w bs ns){n:zE}(hn:n∈ns):n.pairs.length<=28/\n.level<=12/\n.sib<2048:=by
 rw[h.is]at hn;obtain⟨b,hb,rfl⟩:=zAS9.1 hn;have:=zeB (h.each b hb).2;exact⟨zxf _,this.1,this.2.1⟩
theorem LvF.nil (w:List Nat):LvF w [] []:=⟨rfl,fun b hb=>by simp at hb,fun n hn=>by simp at hn⟩
theorem zen {w:List Nat}{lv:Int}{N:Nat}:∀(k:Nat) (seen bs:List Nat) (ns:List zE) (b:Nat) (r:List Nat×List Nat×List zE),zbC w lv k seen bs ns b=some r->LvF w bs ns->(∀n,ns.head?=some n->lv<0\/(n.level:Int)=lv)->bs.length+k<=N->LvF w r.2.1 r.2.2/\(∀n,r.2.2.head?=some n->lv<0\/(n.level:Int)=lv)/\r.2.1.length<=N
 | 0,seen,bs,ns,b,r,h,hF,hh,hN=>by
  rw[zbC]at h
  split at h
  ·injection h with h;subst h;exact⟨hF,hh,by simpa using hN⟩
  ·cases h
 | k+1,seen,bs,ns,b,r,h,hF,hh,hN=>by
  rw[zbC]at h
  split at h
  ·injection h with h;subst h;exact⟨hF,hh,by simp;omega⟩
  ·split at h
   ·cases h
   ·rename_i hb
    split at h
    ·rename_i hg;rw[zAR9]at hg;have hbl:b<w.length/64:=by
      cases hd:decide (w.length/64<=b)with
      | true=>rw[hd]at hb;exact absurd rfl hb
      | false=>have:=of_decide_eq_false hd;omega
     refine zen k _ _ _ _ r h ⟨by rw[hF.is];simp,fun c hc=>?_,fun n hn z hz=>?_⟩ (fun n hn=>?_) (by simp;omega)
     ·rcases zBK9.1 hc with hc|hc
      ·exact hF.each c hc
      ·simp at hc;subst hc;exact⟨hbl,hg.1⟩
     ·have hgo:=hg.2;unfold zbL at hgo
      cases hl:ns.getLast? with
      | none =>
       rw[zCQ9]at hl;subst hl;simp at hn hz;rw[hn,<- hz]
      | some y =>
       rw[hl]at hgo;simp only[zAR9,decide_eq_true_eq]at hgo;have hne:ns ≠ []:=by intro e;rw[e]at hl;simp at hl
       rw[zoO hne]at hz;rcases zBK9.1 hn with hn|hn
       ·exact hF.same n hn z hz
       ·simp at hn;rw[hn,hgo.2];exact hF.same y (zFO9 hl) z hz
     ·have hgo:=hg.2;unfold zbL at hgo
      cases hl:ns.getLast? with
      | none =>
       rw[hl]at hgo;rw[zCQ9]at hl;subst hl;simp only[zAR9,zEK9,decide_eq_true_eq]at hgo;simp at hn;rw[<- hn];exact hgo.2
      | some y =>
       have hne:ns ≠ []:=by intro e;rw[e]at hl;simp at hl
       rw[zoO hne]at hn;exact hh n hn
    ·cases h
structure zjP (w:List Nat)(L:Lev):Prop where
 lv:LvF w L.1 L.2
 ne:L.2 ≠ []
 few:L.2.length<=2048
def zjY (L:Lev):Prop:=∀n∈L.2,0<n.level
theorem zgp {w:List Nat}(hw:w.length<=131072):∀(d:Nat) (seen:List Nat) (acc:List Lev) (b:Nat) (lv:Int),(∀L∈acc,zjP w L/\zjY L) ->
  (∀L∈(zbI w d seen acc b lv).1,zjP w L)/\(∀L∈(zbI w d seen acc b lv).1.dropLast,zjY L)/\((zbI w d seen acc b lv).2=true->(zbI w d seen acc b lv).1 ≠ []/\∀M,(zbI w d seen acc b lv).1.getLast?=some M->zbt (zbS M.2)=true)
 | 0,seen,acc,b,lv,h=>⟨fun L hL=>(h L hL).1,fun L hL=>(h L (zFP9 _ hL)).2,fun e=>by cases e⟩
 | d+1,seen,acc,b,lv,h=>by
  rw[zbI]
  cases hr:zbC w lv (w.length/64) seen [] [] b with
  | none=>exact⟨fun L hL=>(h L hL).1,fun L hL=>(h L (zFP9 _ hL)).2,fun e=>by cases e⟩
  | some r =>
   obtain⟨s',bs,ns⟩:=r;obtain⟨k1,k2,k3⟩:=zen (N:=2048) _ _ _ _ _ _ hr (LvF.nil w) (fun n hn=>by simp at hn) (by simp;omega)
   cases ns with
   | nil=>exact⟨fun L hL=>(h L hL).1,fun L hL=>(h L (zFP9 _ hL)).2,fun e=>by cases e⟩
   | cons n ns =>
    have hF:zjP w (bs,n::ns):=⟨k1,by simp,by rw[<- k1.len];exact k3⟩
    simp only
    split
    ·refine⟨fun L hL=>?_,fun L hL=>?_,fun e=>⟨by simp,fun M hM=>?_⟩⟩
     ·rcases zBK9.1 hL with hL|hL
      ·exact(h L hL).1
      ·simp at hL;subst hL;exact hF
     ·rw[zDM9]at hL;exact(h L hL).2
     ·simp at hM;subst hM;exact e
    ·rename_i hlv;refine zgp hw d _ _ _ _ fun L hL=>?_;rcases zBK9.1 hL with hL|hL
     ·exact h L hL
     ·simp at hL;subst hL;exact⟨hF,fun m hm=>by have:=k1.same m hm n rfl;omega⟩
theorem zeR:∀(L:List zE),(∀n∈L,n.pairs.length<=28)->(zbS L).length<=28*L.length
 | [],_=>zAU9 _
 | n::L,h=>by
  have h1:=zeR L fun m hm=>h m (zAW9 _ hm);have h2:=h n (zAV9 ..);have h3:=zFL9 (zdo L.head?) n.pairs;rw[zbS,zAC9,zAE9];omega
end Fv
end Go.Proofs.YtfomlmhnmheenaaGreat
namespace Go.Proofs.YtfomlmhnmheenaaGreat
namespace Fv
open Tw
attribute [local go_sem] zbb zaH zaf zas evs ev okv zbs zX.cls zba zbh zbm zV zU upd zB za2 zaW zaY zaF zaT za3 za4 zaZ zaS zaU zat zaX za5 zaR za1 zaV za0 zao zaK za6 zan zal zbr PV.cells ofC zbg zZ zau okF zah spl zaI zaL bnd zam zaq zar za8 zbl zY zaA zaN zaj zbj zbn zab lenP zf zn zak zbi PV.toT zaG zJ Nat.mul_mod_right Int.reduceOfNat Int.reduceToNat Int.cast_ofNat_Int Int.reduceLE Int.reduceLT Int.reduceAdd Int.reduceSub Int.reduceMul Int.reduceNegSucc Nat.reduceEqDiff if_true if_false ite_true ite_false decide_true decide_false Bool.not_true Bool.not_false and_true true_and and_self false_and and_false or_false false_or or_true true_or or_self List.length_cons List.length_nil List.length_map List.getElem?_cons_zero List.getElem?_cons_succ List.getElem?_map List.getElem?_nil Option.map_some Option.map_none Option.getD_some List.append_nil List.nil_append List.cons_append List.take_succ_cons List.take_zero List.drop_zero List.drop_succ_cons List.set_cons_zero List.set_cons_succ Int.toNat_natCast Int.natCast_nonneg Nat.le_refl Nat.zero_le Nat.reduceAdd Nat.reduceSub Nat.reduceMul Nat.reduceLeDiff Nat.reduceLT Bool.false_eq_true Bool.true_eq_false Nat.add_zero Nat.zero_add List.all_cons List.all_nil Bool.and_true Bool.and_self Bool.true_and Nat.reduceMod Nat.reduceDiv eq_self zaC zaM zac zbf evN za9 dpF zaO zbq zaE zbe zbp zaP List.filter_cons List.filter_nil List.contains_cons List.contains_nil Nat.reduceBEq zT zS zO Option.some.injEq Option.isSome_some wrap_i64 zL zaD Bool.or_self Bool.or_false Bool.false_or daF dnF yD yO yW yM yN yL yP yK yF yE yB yQ yV T6 T8 T12 T16 T18 T19 T22 T27 T28 T29 T33 T40 T42 T43 T45 T46 T47 T48 T49 T50 T51 T52 T53 T54 T57 T58 T61 T62 T65 T71 T72 T73 T74 T80 T81 T90 T91 T92 T93 T94 T95 T96 T97 T98 T99 T103 T104 T107 T119 T120 T121 T122 T123 T124 T135 T137 T138 T139 T140 T141 T142 T143 T144 T156 T157 T158 T161 T162 T163 T164 T170 T173 T181 T184 T185 T188 T195 T198 T199 T200 T201 T202 T203 T204 T205 T206 T207 T208 T209 T210 T211 T212 T213 T214 T215 T223
attribute [local go_sem ↓] reduceIte
set_option maxRecDepth 100000
theorem zwY:ET.funcs.get 137=some T137:=z9 (by kernel_rfl) (by decide)
theorem f91:ET.funcs.get 91=some T91:=z9 (by kernel_rfl) (by decide)
def rdH (p:Nat)(w:List Nat)(mo:zu)(vs:List PV)(G:List zu):List zu :=
 .row 26 1 0 0 [wv p w]::.row 96 1 0 0 [.sl 5 vs.length 0 vs.length (2*vs.length) 2]::mo::.row 131 1 0 0 [.map 2]::.row 216 1 0 0 [.fn 137 [.ptr 0 0 0 0 1,.ptr 3 0 0 0 1,.ptr 1 0 0 0 1,.ptr 4 0 0 0 1]]::.row 100 2 vs.length 0 vs::G
def zlu (mo:zu)(seen:List Nat):Prop:=(mo=.map0/\seen=[])\/∃mm:Int->Option PV,mo=.mapI .u64 mm/\∀q:Nat,mm q=if seen.contains q=true then some (iv 1)else none
theorem zwb {α:Type}(G l:List α)(x y z:α):(G++x::y::z::l)[G.length+2]?=some z:=by simp[zAN9]
def zn8 (H:List zu)(v:PV)(l:Lev):Prop:=∃i j:Nat,v=.agg [.sl (i+6) l.1.length 0 l.1.length (2*l.1.length) 1,.sl (j+6) l.2.length 0 l.2.length (2*l.2.length) 6] /\
 H[i]?=some (.row 3 1 l.1.length 0 (l.1.map fun(b:Nat)=>iv (b:Int)))/\H[j]?=some (.row 124 6 l.2.length 0 (l.2.map (za7 0)))
def zeb (H:List zu)(vs:List PV)(ls:List Lev):Prop:=vs.length=ls.length/\∀(k:Nat) (v:PV) (l:Lev),vs[k]?=some v->ls[k]?=some l->zn8 H v l
def zsu (b:Nat)(lv:Int):List PV:=[uv b,iv lv,.ptr 0 0 0 0 1,.ptr 3 0 0 0 1,.ptr 1 0 0 0 1,.ptr 4 0 0 0 1]
def ziS (p:Nat)(w:List Nat)(mo2:zu)(vs:List PV)(G:List zu)(bs:List Nat)(ns:List zE)(G2:List zu):List zu :=
 .row 26 1 0 0 [wv p w]::.row 96 1 0 0 [.sl 5 vs.length 0 vs.length (2*vs.length) 2]::mo2::.row 131 1 0 0 [.map 2]::.row 216 1 0 0 [.fn 137 [.ptr 0 0 0 0 1,.ptr 3 0 0 0 1,.ptr 1 0 0 0 1,.ptr 4 0 0 0 1]]::.row 100 2 vs.length 0 vs ::
   (G++.row 100 2 0 0 [.agg [.sl (G.length+7) bs.length 0 bs.length (2*bs.length) 1,.sl (G.length+8) ns.length 0 ns.length (2*ns.length) 6]]::.row 3 1 bs.length 0 (bs.map fun(b:Nat)=>iv (b:Int))::.row 124 6 ns.length 0 (ns.map (za7 0))::G2)
theorem zn8.mono {G G':List zu}{v:PV}{l:Lev}(h:zn8 G v l):zn8 (G++G') v l:=by
 obtain⟨i,j,h1,h2,h3⟩:=h;exact⟨i,j,h1,by rw[zAP9 (zAD9.1 h2).1];exact h2,by rw[zAP9 (zAD9.1 h3).1];exact h3⟩
theorem zeb.mono {G G':List zu}{vs:List PV}{ls:List Lev}(h:zeb G vs ls):zeb (G++G') vs ls:=⟨h.1,fun k v l hv hl=>(h.2 k v l hv hl).mono⟩
theorem zeb.snoc {G:List zu}{vs:List PV}{ls:List Lev}(h:zeb G vs ls)(r:zu)(bs:List Nat)(ns:List zE)(X:List zu)(k:Nat)(hk:k=ns.length):zeb (G++r::.row 3 1 bs.length 0 (bs.map fun(b:Nat)=>iv (b:Int))::.row 124 6 k 0 (ns.map (za7 0))::X) (vs++[.agg [.sl (G.length+7) bs.length 0 bs.length (2*bs.length) 1,.sl (G.length+8) k 0 k (2*k) 6]]) (ls++[(bs,ns)]):=by
 subst hk;refine⟨by simp[h.1],fun q v l hv hl=>?_⟩;rcases zCM9 q vs.length with hq|hq
 ·rw[zAP9 hq]at hv;rw[zAP9 (by rw[<- h.1];exact hq)]at hl;exact(h.2 q v l hv hl).mono
 ·rw[zAN9 hq]at hv;rw[zAN9 (by rw[<- h.1];exact hq)]at hl;obtain rfl:=zBH9.1 (zAO9 hv);obtain rfl:=zBH9.1 (zAO9 hl);exact⟨G.length+1,G.length+2,rfl,hm0 G _ _ _,zwb G _ _ _ _⟩
def zj8 (p:Nat)(w:List Nat)(r:List Lev×Bool)(e:FE)(H':List zu):Prop:=e=.ret (.bool r.2)/\∃mo' vs' G',H'=rdH p w mo' vs' G'/\zeb G' vs' r.1
theorem zjk {w:List Nat}{d:Nat}{seen:List Nat}{acc:List Lev}{b:Nat}{lv:Int}(hd:(0<=lv/\lv+1<=d)\/14<=d)(h:zbC w lv (w.length/64) seen [] [] b=none):zbI w d seen acc b lv=(acc,false):=by
 match d,hd with
 | 0,hd=>omega
 | d+1,_=>rw[zbI,h]
theorem zvs {p:Nat}{w:List Nat}{d:Nat}{seen:List Nat}{acc:List Lev}{b:Nat}{lv:Int}{mo2:zu}{vs:List PV}{G:List zu}{bs:List Nat}{ns:List zE}{G2:List zu}(hd:(0<=lv/\lv+1<=d)\/14<=d)(h:zbC w lv (w.length/64) seen [] [] b=none)(hv:zeb G vs acc):zj8 p w (zbI w d seen acc b lv) (.ret (.bool false)) (ziS p w mo2 vs G bs ns G2):=by
 rw[zjk hd h];exact⟨rfl,mo2,vs,_,rfl,hv.mono⟩
theorem zoV {p:Nat}{w:List Nat}{d:Nat}{seen:List Nat}{acc:List Lev}{b:Nat}{lv:Int}{mo2:zu}{vs:List PV}{G:List zu}(hd:(0<=lv/\lv+1<=d)\/14<=d)(h:zbC w lv (w.length/64) seen [] [] b=none)(hv:zeb G vs acc):zj8 p w (zbI w d seen acc b lv) (.ret (.bool false)) (rdH p w mo2 vs G):=by
 rw[zjk hd h];exact⟨rfl,mo2,vs,_,rfl,hv⟩
theorem zax (n:Nat):(n==n+1)=false:=by simp
theorem zaw (n:Nat):(n+1==n)=false:=by simp
theorem zay (n:Nat):(n==n+1+1)=false:=by rw[beq_eq_false_iff_ne];omega
theorem zaz (n:Nat):(n+1+1==n)=false:=by rw[beq_eq_false_iff_ne];omega
theorem zgz (n:Nat):(n+6==n+7)=false:=by simp
theorem zgy (n:Nat):(n+7==n+6)=false:=by simp
theorem zgC (n:Nat):(n+6==n+8)=false:=by simp
theorem zgO (n:Nat):(n+8==n+6)=false:=by simp
theorem zgj (n:Nat):(n+7==n+8)=false:=by simp
theorem zgB (n:Nat):(n+8==n+7)=false:=by simp
theorem zgI {α:Type}(G G2:List α)(a b c:α):((G++a::b::c::G2).length==G.length)=false:=by rw[beq_eq_false_iff_ne];simp only[zAC9,zAE9,zAG9];omega
theorem zgt {α:Type}(G G2:List α)(a b c:α):(G.length==(G++a::b::c::G2).length)=false:=by rw[beq_eq_false_iff_ne];simp only[zAC9,zAE9,zAG9];omega
theorem zgm {α:Type}(G G2:List α)(a b c x0:α):((G++a::b::c::G2++[x0]).length==G.length)=false:=by rw[beq_eq_false_iff_ne];simp only[zAC9,zAE9,zAG9];omega
theorem zgD {α:Type}(G G2:List α)(a b c x0:α):(G.length==(G++a::b::c::G2++[x0]).length)=false:=by rw[beq_eq_false_iff_ne];simp only[zAC9,zAE9,zAG9];omega
theorem zgS {α:Type}(G G2:List α)(a b c x0 x1:α):((G++a::b::c::G2++[x0]++[x1]).length==G.length)=false:=by rw[beq_eq_false_iff_ne];simp only[zAC9,zAE9,zAG9];omega
theorem zgK {α:Type}(G G2:List α)(a b c x0 x1:α):(G.length==(G++a::b::c::G2++[x0]++[x1]).length)=false:=by rw[beq_eq_false_iff_ne];simp only[zAC9,zAE9,zAG9];omega
theorem zgx {α:Type}(G G2:List α)(a b c x0 x1 x2:α):((G++a::b::c::G2++[x0]++[x1]++[x2]).length==G.length)=false:=by rw[beq_eq_false_iff_ne];simp only[zAC9,zAE9,zAG9];omega
theorem zgA {α:Type}(G G2:List α)(a b c x0 x1 x2:α):(G.length==(G++a::b::c::G2++[x0]++[x1]++[x2]).length)=false:=by rw[beq_eq_false_iff_ne];simp only[zAC9,zAE9,zAG9];omega
theorem zgl {α:Type}(G G2:List α)(a b c:α):((G++a::b::c::G2).length==G.length+1)=false:=by rw[beq_eq_false_iff_ne];simp only[zAC9,zAE9,zAG9];omega
theorem zgF {α:Type}(G G2:List α)(a b c:α):(G.length+1==(G++a::b::c::G2).length)=false:=by rw[beq_eq_false_iff_ne];simp only[zAC9,zAE9,zAG9];omega
theorem zgv {α:Type}(G G2:List α)(a b c x0:α):((G++a::b::c::G2++[x0]).length==G.length+1)=false:=by rw[beq_eq_false_iff_ne];simp only[zAC9,zAE9,zAG9];omega
theorem zgh {α:Type}(G G2:List α)(a b c x0:α):(G.length+1==(G++a::b::c::G2++[x0]).length)=false:=by rw[beq_eq_false_iff_ne];simp only[zAC9,zAE9,zAG9];omega
theorem zgN {α:Type}(G G2:List α)(a b c x0 x1:α):((G++a::b::c::G2++[x0]++[x1]).length==G.length+1)=false:=by rw[beq_eq_false_iff_ne];simp only[zAC9,zAE9,zAG9];omega
theorem zgR {α:Type}(G G2:List α)(a b c x0 x1:α):(G.length+1==(G++a::b::c::G2++[x0]++[x1]).length)=false:=by rw[beq_eq_false_iff_ne];simp only[zAC9,zAE9,zAG9];omega
theorem zgs {α:Type}(G G2:List α)(a b c x0 x1 x2:α):((G++a::b::c::G2++[x0]++[x1]++[x2]).length==G.length+1)=false:=by rw[beq_eq_false_iff_ne];simp only[zAC9,zAE9,zAG9];omega
theorem zgr {α:Type}(G G2:List α)(a b c x0 x1 x2:α):(G.length+1==(G++a::b::c::G2++[x0]++[x1]++[x2]).length)=false:=by rw[beq_eq_false_iff_ne];simp only[zAC9,zAE9,zAG9];omega
theorem zgw {α:Type}(G G2:List α)(a b c:α):((G++a::b::c::G2).length==G.length+2)=false:=by rw[beq_eq_false_iff_ne];simp only[zAC9,zAE9,zAG9];omega
theorem zgf {α:Type}(G G2:List α)(a b c:α):(G.length+2==(G++a::b::c::G2).length)=false:=by rw[beq_eq_false_iff_ne];simp only[zAC9,zAE9,zAG9];omega
theorem zxp {α:Type}(G G2:List α)(a b c x0:α):((G++a::b::c::G2++[x0]).length==G.length+2)=false:=by rw[beq_eq_false_iff_ne];simp only[zAC9,zAE9,zAG9];omega
theorem zgn {α:Type}(G G2:List α)(a b c x0:α):(G.length+2==(G++a::b::c::G2++[x0]).length)=false:=by rw[beq_eq_false_iff_ne];simp only[zAC9,zAE9,zAG9];omega
theorem zgM {α:Type}(G G2:List α)(a b c x0 x1:α):((G++a::b::c::G2++[x0]++[x1]).length==G.length+2)=false:=by rw[beq_eq_false_iff_ne];simp only[zAC9,zAE9,zAG9];omega
theorem zgL {α:Type}(G G2:List α)(a b c x0 x1:α):(G.length+2==(G++a::b::c::G2++[x0]++[x1]).length)=false:=by rw[beq_eq_false_iff_ne];simp only[zAC9,zAE9,zAG9];omega
theorem zge {α:Type}(G G2:List α)(a b c x0 x1 x2:α):((G++a::b::c::G2++[x0]++[x1]++[x2]).length==G.length+2)=false:=by rw[beq_eq_false_iff_ne];simp only[zAC9,zAE9,zAG9];omega
theorem zgJ {α:Type}(G G2:List α)(a b c x0 x1 x2:α):(G.length+2==(G++a::b::c::G2++[x0]++[x1]++[x2]).length)=false:=by rw[beq_eq_false_iff_ne];simp only[zAC9,zAE9,zAG9];omega
theorem gl2 {α:Type}(G G2:List α)(a b b' c p q z:α):(G++a::b'::c::G2++[p]++[q]++[z])[(G++a::b::c::G2++[p]++[q]).length]?=some z:=by
 have:(G++a::b::c::G2++[p]++[q]).length=(G++a::b'::c::G2++[p]++[q]).length:=by simp
 rw[this];simp
theorem zgg (n:Nat):(n+1==n+2)=false:=by simp
theorem zgG (n:Nat):(n+2==n+1)=false:=by simp
theorem zgP (n:Nat):(n==n+2)=false:=by simp
theorem zgH (n:Nat):(n+2==n)=false:=by simp
section
variable {α:Type}(G l m n o:List α)(x y z u:α)
theorem gm3:(G++x::l++m++n++o)[G.length]?=some x:=by rw[zAF9,zAF9,zAF9];exact gm0 G _ x
theorem hm3:(G++x::y::l++m++n++o)[G.length+1]?=some y:=by rw[zAF9,zAF9,zAF9];exact hm0 G _ x y
theorem zxd:(G++x::y::z::l)[G.length+2]?=some z:=by simp[zAN9]
theorem km3:(G++x::y::z::l++m++n++o)[G.length+2]?=some z:=by rw[zAF9,zAF9,zAF9];exact zxd G _ x y z
theorem sm3:(G++x::l++m++n++o).set G.length u=G++u::l++m++n++o:=by simp[zBS9]
theorem tm3:(G++x::y::l++m++n++o).set (G.length+1) u=G++x::u::l++m++n++o:=by simp[zBS9]
theorem um3:(G++x::y::z::l++m++n++o).set (G.length+2) u=G++x::y::u::l++m++n++o:=by simp[zBS9]
theorem km0:(G++x::y::z::l)[G.length+2]?=some z:=by simp[zAN9]
theorem km1:(G++x::y::z::l++m)[G.length+2]?=some z:=by rw[zAF9];exact km0 G _ x y z
theorem km2:(G++x::y::z::l++m++n)[G.length+2]?=some z:=by rw[zAF9,zAF9];exact km0 G _ x y z
end
theorem zeK {l:List Nat}:∀v∈(l.map fun(b:Nat)=>iv (b:Int)).flatMap PV.cells,Id0 v:=fun v hv=>by
 obtain⟨x,hx,hv⟩:=zBI9.1 hv;obtain⟨n,_,rfl⟩:=zAS9.1 hx;simp[PV.cells]at hv;subst hv;exact .int _ _
theorem zti (p:Nat)(w:List Nat)(hw:64<=w.length/\w.length<=131072/\w.length%64=0):∀(d:Nat) (seen:List Nat) (acc:List Lev) (b:Nat) (lv:Int) (mo:zu) (vs:List PV) (G:List zu) (hd:(0<=lv/\lv+1<=d)\/14<=d) (hs:zlu mo seen) (hv:zeb G vs acc) (hva:acc.length+d<=100),
  FO ET 137 (zsu b lv) (rdH p w mo vs G) false (zj8 p w (zbI w d seen acc b lv)):=by
 intro d
 induction d with
 | zero=>intro seen acc b lv mo vs G hd;omega
 | succ d ih =>
 intro seen acc b lv mo vs G hd hs hv hva;refine zro zwY ?_;unfold zsu rdH;(repeat(first|refine ze ?_|refine zgo ?_));refine zf4 3 1 (id:=G.length+6) (v:=.agg [.nilsl,.nilsl]) (v':=.agg [.sl (G.length+7) 0 0 0 0 1,.nilsl]) (e0:=100) (z0:=2) (G:=0) (M:=0) (by simp only[zAT9,zf]<;>rfl) rfl (fun k x y hx hy=>?_) ?_
 ·match k with
  | 0=>injection hx with hx;injection hy with hy;subst hx hy;exact .inr ⟨rfl,by simp[lzy]⟩
  | 1=>injection hx with hx;injection hy with hy;subst hx hy;exact .inl rfl
  | k+2=>simp[PV.cells]at hx
 simp only[zBL9,zn,zAH9,zAF9,zAI9];refine zf4 124 6 (id:=G.length+6) (v:=.agg [.sl (G.length+7) 0 0 0 0 1,.nilsl]) (v':=.agg [.sl (G.length+7) 0 0 0 0 1,.sl (G.length+8) 0 0 0 0 6]) (e0:=100) (z0:=2) (G:=0) (M:=0) (by simp only[zAT9,gm0]<;>rfl) rfl (fun k x y hx hy=>?_) ?_
 ·match k with
  | 0=>injection hx with hx;injection hy with hy;subst hx hy;exact .inl rfl
  | 1=>injection hx with hx;injection hy with hy;subst hx hy;exact .inr ⟨rfl,by simp[lzy]⟩
  | k+2=>simp[PV.cells]at hx
 simp only[zBL9,sm0,zAH9,zAF9,zAI9];have hnb:w.length/64<=2048:=by omega
 refine zK (zbd (fun m s=>∃(k:Nat) (seen2:List Nat) (bs:List Nat) (ns:List zE) (b2:Nat) (mo2:zu) (G2:List zu),m=k/\zc1 (w.length/64) seen2<=k/\zbC w lv (w.length/64) seen [] [] b=zbC w lv k seen2 bs ns b2/\bs.length=ns.length/\bs.length+k<=2048/\zlu mo2 seen2/\s.tm 0=uv b2/\s.tm 1=iv lv/\s.tm 2=.ptr 0 0 0 0 1/\s.tm 3=.ptr 3 0 0 0 1/\s.tm 4=.ptr 1 0 0 0 1/\s.tm 5=.ptr 4 0 0 0 1/\s.tm 9=.ptr (G.length+6) 0 0 0 2/\s.df=[] /\
  s.H=ziS p w mo2 vs G bs ns G2) (n:=w.length/64) ?_ ?_)
 ·exact⟨_,seen,[],[],b,mo,[],rfl,zi0 _ _,rfl,rfl,by simpa using hnb,hs,by simp[upd,zB],by simp[upd,zB],by simp[upd,zB],by simp[upd,zB],by simp[upd,zB],by simp[upd,zB],by simp[upd],rfl,rfl⟩
 ·rintro m ⟨tm,df,H⟩ ⟨k,seen2,bs,ns,b2,mo2,G2,rfl,hun,hrd,hbn,hbk,hs2,h0,h1,h2,h3,h4,h5,h9,rfl,rfl⟩;dsimp only at h0 h1 h2 h3 h4 h5 h9;unfold ziS;(try refine zaa ?_);refine ze (zb ?_);refine zfx ?_ (by simp(disch:=omega)only[go_sem,h0]<;>rfl);refine zd ?_;refine zae (by simp only[go_sem]<;>rfl) ?_ ?_
  ·intro hb0;have hb0:¬b2=0:=by simpa using hb0
   have q1:IntKind.i64.wrap ((w.length:Int).tdiv 64)=((w.length/64:Nat):Int):=by rw[IntWalk.i64_quo _ _ (by omega)];omega
   (repeat refine ze ?_);refine zK ?_;(repeat refine ze ?_);refine zbN (Q:=fun y s'=>y=.norm/\s'.tm 0=uv b2/\s'.tm 1=iv lv/\s'.tm 2=.ptr 0 0 0 0 1/\s'.tm 3=.ptr 3 0 0 0 1/\s'.tm 4=.ptr 1 0 0 0 1/\s'.tm 5=.ptr 4 0 0 0 1/\s'.tm 9=.ptr (G.length+6) 0 0 0 2/\s'.tm 38=.bool (decide (w.length/64<=b2)||seen2.contains b2)/\s'.df=[]/\s'.H=ziS p w mo2 vs G bs ns G2) (zb ?_) ?_
   ·by_cases hge:w.length/64<=b2
    ·have g1:((w.length/64:Nat):Int)<=b2:=by omega
     refine zfx ?_ (by simp(disch:=omega)only[go_sem,h0,h2,h3,q1,g1]<;>rfl);refine zG ?_;simp only[zg,zj,zh,zi,zo,zk,if_true,↓reduceIte];exact⟨trivial,h0,h1,h2,h3,h4,h5,h9,by simp[upd,hge],trivial,rfl⟩
    ·have g1:¬((w.length/64:Nat):Int)<=b2:=by omega
     rcases hs2 with⟨rfl,rfl⟩|⟨mm,rfl,hmm⟩
     ·refine zfx ?_ (by simp(disch:=omega)only[go_sem,h0,h2,h3,q1,g1]<;>rfl);refine zG ?_;simp only[zg,zj,zh,zi,zo,zk,if_true,↓reduceIte];exact⟨trivial,h0,h1,h2,h3,h4,h5,h9,by simp[upd,hge],trivial,rfl⟩
     ·have hq:=hmm b2
      by_cases hc:seen2.contains b2=true
      ·rw[if_pos hc]at hq;refine zfx ?_ (by simp(disch:=omega)only[go_sem,h0,h2,h3,q1,g1,hq]<;>rfl);refine zG ?_;simp only[zg,zj,zh,zi,zo,zk,if_true,↓reduceIte];exact⟨trivial,h0,h1,h2,h3,h4,h5,h9,by rw[hc];simp[upd],trivial,rfl⟩
      ·rw[if_neg hc]at hq;refine zfx ?_ (by simp(disch:=omega)only[go_sem,h0,h2,h3,q1,g1,hq]<;>rfl);refine zG ?_;simp only[zg,zj,zh,zi,zo,zk,if_true,↓reduceIte];have hc:seen2.contains b2=false:=by simpa using hc
       exact⟨trivial,h0,h1,h2,h3,h4,h5,h9,by rw[hc];simp[upd,hge],trivial,rfl⟩
   ·clear h0 h1 h2 h3 h4 h5 h9;rintro y ⟨tm,df,H⟩ ⟨rfl,h0,h1,h2,h3,h4,h5,h9,h38,rfl,rfl⟩;dsimp only at h0 h1 h2 h3 h4 h5 h9 h38;simp only[zg,zj,zh,zi,zo,zk,if_true,reduceIte]
    by_cases hbad:(decide (w.length/64<=b2)||seen2.contains b2)=true
    ·refine zfc ?_ ?_ (by simp only[go_sem,h38]<;>rfl)
     ·intro _;(repeat(first|refine ze ?_|refine zgo ?_));refine zF ?_;(try simp only[zg,zj,zh,zi,zk]);refine zq (by simp only[T137,zI,go_sem]<;>rfl) ?_;simp only[zP];refine zvs hd ?_ hv;rw[hrd]
      cases m with
      | zero=>rw[zbC,if_neg hb0]
      | succ m=>rw[zbC,if_neg hb0,if_pos hbad]
     ·rw[hbad];intro h;cases h
    have hbad:(decide (w.length/64<=b2)||seen2.contains b2)=false:=by simpa using hbad
    refine zfc ?_ ?_ (by simp only[go_sem,h38]<;>rfl)
    ·rw[hbad];intro h;cases h
    intro _;refine zQ ?_;show W _ _ _ _ _ _;have hbl:b2<w.length/64:=by
     cases h:decide (w.length/64<=b2)with
     | true=>rw[h]at hbad;cases hbad
     | false=>have:=of_decide_eq_false h;omega
    have hbs:¬seen2.contains b2=true:=by intro h;rw[h,Bool.or_true]at hbad;cases hbad
    refine ze (zbN (Q:=fun y s'=>y=.norm/\s'.tm 0=uv b2/\s'.tm 1=iv lv/\s'.tm 2=.ptr 0 0 0 0 1/\s'.tm 3=.ptr 3 0 0 0 1/\s'.tm 4=.ptr 1 0 0 0 1/\s'.tm 5=.ptr 4 0 0 0 1/\s'.tm 9=.ptr (G.length+6) 0 0 0 2/\s'.df=[]/\∃mo3,zlu mo3 (b2::seen2)/\s'.H=ziS p w mo3 vs G bs ns G2) (zb ?_) ?_)
    ·unfold ziS;rcases hs2 with⟨rfl,rfl⟩|⟨mm,rfl,hmm⟩
     ·refine zfx ?_ (by simp(disch:=omega)only[go_sem,h0,h3]<;>rfl);refine zG ?_;simp only[zg,zj,zh,zi,zo,zk,if_true,↓reduceIte];refine⟨trivial,h0,h1,h2,h3,h4,h5,h9,trivial,_,.inr ⟨_,rfl,fun q=>?_⟩,rfl⟩
      by_cases hq:q=b2
      ·subst hq;simp
      ·have:¬(q:Int)=b2:=by omega
       simp[hq,this]
     ·refine zfx ?_ (by simp(disch:=omega)only[go_sem,h0,h3]<;>rfl);refine zG ?_;simp only[zg,zj,zh,zi,zo,zk,if_true,↓reduceIte];refine⟨trivial,h0,h1,h2,h3,h4,h5,h9,trivial,_,.inr ⟨_,rfl,fun q=>?_⟩,rfl⟩
      by_cases hq:q=b2
      ·subst hq;simp
      ·have:¬(q:Int)=b2:=by omega
       rw[if_neg this,hmm q];simp[hq]
    ·clear h0 h1 h2 h3 h4 h5 h9 h38 hs2;rintro y ⟨tm,df,H⟩ ⟨rfl,h0,h1,h2,h3,h4,h5,h9,rfl,mo3,hs3,rfl⟩;dsimp only at h0 h1 h2 h3 h4 h5 h9;simp only[zg,zj,zh,zi,zo,zk,if_true,reduceIte];unfold ziS;have hm1:∃m',m=m'+1:=by
      cases m with
      | zero=>exact absurd (zh3 _ b2 seen2 (by omega) hbl) hbs
      | succ m=>exact⟨m,rfl⟩
     obtain⟨m',rfl⟩:=hm1;rw[zbC,if_neg hb0,if_neg (by rw[hbad];decide)]at hrd;have hof:=zv8 p w b2 (by omega) (by omega);have hOf:=zv7 p (zD w b2) (by unfold zD;simp;omega);(repeat refine ze ?_);refine zb ?_;refine zfx ?_ (by simp(disch:=omega)only[go_sem,h0,h2]<;>rfl);refine zcb (by first|rfl|(simp only[go_sem]<;>rfl)) (by simp only[go_sem]<;>rfl) hof rfl ?_ ?_;(repeat(first|exact trivial|refine And.intro ?_ ?_|exact Id0.int _ _|exact Id0.bool _|exact Id0.list _ _ _|exact Id0.elem _|exact Id0.nilsl|exact Id0.str _|exact zce _ _ _))
     by_cases hh:zbP (zD w b2)=true
     rotate_left
     ·have hh:zbP (zD w b2)=false:=by simpa using hh
      have he:zdG (zD w b2)=.ret (.tuple [za7 0 zi8,iv 210]):=by unfold zdG;rw[if_neg (by rw[hh];decide)]
      rw[he]at hOf;rw[hh,zFC9,if_neg (by decide)]at hrd;refine zfx ?_;refine zca hOf ?_;refine zfx ?_;refine zd ?_;(repeat(first|refine ze ?_|refine zgo ?_));refine zfc ?_ ?_
      ·intro _;(repeat(first|refine ze ?_|refine zgo ?_));refine zF ?_;(try simp only[zg,zj,zh,zi,zk]);refine zq (by simp only[T137,zI,go_sem]<;>rfl) ?_;simp only[zP];refine zoV (G:=_) hd hrd ?_;exact hv.mono.mono
      ·intro h;cases h
     obtain⟨b12,b2048,bw⟩:=zeB hh;rw[zeP _ hh]at hOf;rw[hh,zBW9]at hrd;generalize zai (zD w b2)=nd at hOf hrd b12 b2048 bw;refine zfx ?_;refine zca hOf ?_;refine zfx ?_;refine zd ?_;(repeat refine ze ?_);refine zb ?_;refine zfx ?_ (by simp(disch:=omega)only[go_sem,h1,h9,gm0,gm1,gm2,zf]<;>rfl);refine zcl (zvg 1 0 0 bs ns nd lv (by omega)) ?_ ?_;(repeat(first|exact trivial|refine And.intro ?_ ?_|exact .int _ _|exact .bool _|exact .list _ _ _|exact .elem _|exact .nilsl|exact .nil _ _|exact .str _|refine Frz.aggL ?_|refine Frz.fnL ?_|refine Frz.tupL ?_|refine .iface ?_|exact zy rfl rfl (by assumption)))
     ·exact Frz.whole (e:=3) (z':=1) (G:=bs.length) (l:=bs.map fun(b:Nat)=>iv (b:Int)) (by simp only[zAT9,hm1]<;>rfl) rfl (by simp) (by simp) (fun v hv=>by obtain⟨x,_,rfl⟩:=zAS9.1 hv;rfl) zeK
     ·refine⟨Frz.whole (e:=124) (z':=6) (G:=ns.length) (l:=ns.map (za7 0)) (by simp only[zAT9,km1]<;>rfl) rfl (by simp) (by simp) (fun v hv=>by obtain⟨x,_,rfl⟩:=zAS9.1 hv;rfl) zgd,trivial⟩
     ·(repeat(first|exact trivial|refine And.intro ?_ ?_|exact .int _ _|exact .bool _|exact .list _ _ _|exact .elem _|exact .nilsl|exact .nil _ _|exact .str _|refine Frz.aggL ?_|refine Frz.fnL ?_|refine Frz.tupL ?_|refine .iface ?_|exact zy rfl rfl (by assumption)))
     by_cases hg:zbL ns nd lv=true
     rotate_left
     ·have hg:zbL ns nd lv=false:=by simpa using hg
      rw[hg]at hrd⊢;rw[if_neg (by decide)]at hrd;refine zfx ?_;refine zd ?_;refine zfc ?_ ?_
      ·intro _;(repeat(first|refine ze ?_|refine zgo ?_));refine zF ?_;(try simp only[zg,zj,zh,zi,zk]);refine zq (by simp only[T137,zI,go_sem]<;>rfl) ?_;simp only[zP];refine zoV (G:=_) hd hrd ?_;exact hv.mono.mono
      ·intro h;cases h
     rw[hg]at hrd⊢;rw[if_pos rfl]at hrd;refine zfx ?_;refine zd ?_;refine zfc ?_ ?_
     ·intro h;cases h
     intro _;refine zQ ?_;show W _ _ _ _ _ _;have hba:(bs.length+1)*9<=140737488355328:=by omega
     have hbb:(ns.length+1)*65<=140737488355328:=by omega
     (repeat refine ze ?_);refine zap ?_;refine zda ?_ (by simp(disch:=omega)only[go_sem,h0,h9,gm0,gm1,gm2,hm0,hm1,hm2,km0,km1,km2,gm3,hm3,km3,sm3,tm3,um3,hba,hbb,zf]<;>rfl);refine zda ?_ (by simp(disch:=omega)only[go_sem,h9,zgI,zgt,zgm,zgD,zgS,zgK,zgx,zgA,zgl,zgF,zgv,zgh,zgN,zgR,zgs,zgr,zgw,zgf,zxp,zgn,zgM,zgL,zge,zgJ,zax,zaw,zay,zaz,zgg,zgG,zgP,zgH,zgz,zgy,zgC,zgO,zgj,zgB,gm0,gm1,gm2,hm0,hm1,hm2,km0,km1,km2,gm3,hm3,km3,sm3,tm3,um3,hba,hbb,zf,gl2]<;>rfl) (by first|exact trivial|simp only[go_sem,h9,zgI,zgt,zgm,zgD,zgS,zgK,zgx,zgA,zgl,zgF,zgv,zgh,zgN,zgR,zgs,zgr,zgw,zgf,zxp,zgn,zgM,zgL,zge,zgJ,zax,zaw,zay,zaz,zgg,zgG,zgP,zgH,zgz,zgy,zgC,zgO,zgj,zgB,gm0,gm1,gm2,hm0,hm1,hm2,km0,km1,km2,gm3,hm3,km3,sm3,tm3,um3,hba,hbb,zf,gl2]);refine zda ?_ (by simp(disch:=omega)only[go_sem,h9,zgI,zgt,zgm,zgD,zgS,zgK,zgx,zgA,zgl,zgF,zgv,zgh,zgN,zgR,zgs,zgr,zgw,zgf,zxp,zgn,zgM,zgL,zge,zgJ,zax,zaw,zay,zaz,zgg,zgG,zgP,zgH,zgz,zgy,zgC,zgO,zgj,zgB,gm0,gm1,gm2,hm0,hm1,hm2,km0,km1,km2,gm3,hm3,km3,sm3,tm3,um3,hba,hbb,zf,gl2]<;>rfl) (by first|exact trivial|simp only[go_sem,h9,zgI,zgt,zgm,zgD,zgS,zgK,zgx,zgA,zgl,zgF,zgv,zgh,zgN,zgR,zgs,zgr,zgw,zgf,zxp,zgn,zgM,zgL,zge,zgJ,zax,zaw,zay,zaz,zgg,zgG,zgP,zgH,zgz,zgy,zgC,zgO,zgj,zgB,gm0,gm1,gm2,hm0,hm1,hm2,km0,km1,km2,gm3,hm3,km3,sm3,tm3,um3,hba,hbb,zf,gl2]);refine zda ?_ (by simp(disch:=omega)only[go_sem,h9,zgI,zgt,zgm,zgD,zgS,zgK,zgx,zgA,zgl,zgF,zgv,zgh,zgN,zgR,zgs,zgr,zgw,zgf,zxp,zgn,zgM,zgL,zge,zgJ,zax,zaw,zay,zaz,zgg,zgG,zgP,zgH,zgz,zgy,zgC,zgO,zgj,zgB,gm0,gm1,gm2,hm0,hm1,hm2,km0,km1,km2,gm3,hm3,km3,sm3,tm3,um3,hba,hbb,zf,gl2]<;>rfl) (by first|exact trivial|simp only[go_sem,h9,zgI,zgt,zgm,zgD,zgS,zgK,zgx,zgA,zgl,zgF,zgv,zgh,zgN,zgR,zgs,zgr,zgw,zgf,zxp,zgn,zgM,zgL,zge,zgJ,zax,zaw,zay,zaz,zgg,zgG,zgP,zgH,zgz,zgy,zgC,zgO,zgj,zgB,gm0,gm1,gm2,hm0,hm1,hm2,km0,km1,km2,gm3,hm3,km3,sm3,tm3,um3,hba,hbb,zf,gl2]);refine zdl ?_ (by simp(disch:=omega)only[go_sem,h9]<;>rfl);refine zR ?_;simp only[zo,zW,zg,go_sem];have hlb:(bs++[b2]).length=bs.length+1:=by simp
     have hln:(ns++[nd]).length=ns.length+1:=by simp
     have hgl:(List.map (za7 0) ns++[za7 0 nd])[ns.length]?=some (za7 0 nd):=by simp
     have hgs:IntKind.i64.wrap ((ns.length+1:Nat)-1)=ns.length:=by rw[show ((ns.length+1:Nat):Int)-1=(ns.length:Nat) by omega];exact wrap_i64 (by omega) (by omega)
     have hil:ns.length<ns.length+1:=zBR9 _;(repeat refine ze ?_);refine zb ?_;refine zfx ?_ (by simp(disch:=omega)only[go_sem,h9,gm0,gm1,gm2,hm0,hm1,hm2,km0,km1,km2,gm3,hm3,km3,zf,hgl,hgs,hil]<;>rfl);refine zG ?_;simp only[zg,zj,zh,zi,zo,zk,if_true,↓reduceIte];refine⟨m',zBR9 _,m',b2::seen2,bs++[b2],ns++[nd],nd.sib,mo3,?G,rfl,?hu,hrd,by rw[hlb,hln,hbn],by rw[hlb];omega,hs3,?h0,by simp[upd,h1],by simp[upd,h2],by simp[upd,h3],by simp[upd,h4],by simp[upd,h5],by simp[upd,h9],trivial,?H⟩
     case hu=>have:=zjO _ _ _ hbl hbs;omega
     case h0=>simp[upd]
     case H =>
      rw[hlb,hln,zBY9,zBY9];simp only[zAF9,zAH9,zAI9];rfl
  ·intro hb0;have hb0:b2=0:=by simpa using hb0
   subst hb0;have hrd2:zbC w lv (w.length/64) seen [] [] b=some (seen2,bs,ns):=by rw[hrd];cases m<;>simp[zbC]
   clear hrd;obtain⟨hF,hfst,_⟩:=zen (N:=2048) _ _ _ _ _ _ hrd2 (LvF.nil w) (fun n hn=>by simp at hn) (by simp;omega);dsimp only at hF hfst;simp only[zg,zj,zh,zi,zo,zk,if_true,reduceIte]
   cases ns with
   | nil =>
    (repeat(first|refine ze ?_|refine zgo ?_ (by simp(disch:=omega)only[go_sem,h9,gm0,hm0,km0,gm1,hm1,km1]<;>rfl)));refine zfc ?_ ?_
    ·intro _;(repeat(first|refine ze ?_|refine zgo ?_));refine zF ?_;(try simp only[zg,zj,zh,zi,zk]);refine zq (by simp only[T137,zI,go_sem]<;>rfl) ?_;simp only[zP];have:zbI w (d+1) seen acc b lv=(acc,false):=by rw[zbI,hrd2]
     rw[this];exact⟨rfl,mo2,vs,_,rfl,hv.mono⟩
    ·intro h;cases h
   | cons nd ns =>
    have g0:¬((ns.length+1:Nat):Int)=0:=by omega
    (repeat(first|refine ze ?_|refine zgo ?_ (by simp(disch:=omega)only[go_sem,h9,gm0,hm0,km0,gm1,hm1,km1,g0]<;>rfl)));refine zfc ?_ ?_
    ·intro h;cases h
    intro _;refine zQ ?_;show W _ _ _ _ _ _;have hvl:=hv.1;have hbv:(vs.length+1)*49<=140737488355328:=by omega
    (repeat refine ze ?_);refine zgo ?_ (by simp(disch:=omega)only[go_sem,h4,h9,hbv,gm0,gm1,gm2,zf,gm3]<;>rfl);have hg0:(List.map (za7 0) (nd::ns))[0]?=some (za7 0 nd):=rfl;have hi0:0<ns.length+1:=zER9 _;obtain⟨hpp,b12,b2048⟩:=hF.node (zAV9 ..);(repeat refine ze ?_);refine zgo ?_ (by simp(disch:=omega)only[go_sem,h9,hg0,hi0,gm0,gm1,gm2,hm0,hm1,hm2,km0,km1,km2,zf,gm3,hm3,km3]<;>rfl);have hX:=fun X=>hv.snoc (.row 100 2 0 0 [.agg [.sl (G.length+7) bs.length 0 bs.length (2*bs.length) 1,.sl (G.length+8) (ns.length+1) 0 (ns.length+1) (2*(ns.length+1)) 6]]) bs (nd::ns) X (ns.length+1) rfl
    by_cases hlv:nd.level=0
    ·have g1:(nd.level:Int)=0:=by omega
     (repeat refine ze ?_);refine zgo ?_ (by simp(disch:=omega)only[go_sem,g1,zf,gm0,gm1,gm2]<;>rfl);refine zfc ?_ ?_
     ·intro _;have hnl:(nd::ns).length<=2048:=by rw[<- hF.len];omega
      have hll:=zeR (nd::ns) fun n hn=>(hF.node hn).1;have hra:zbI w (d+1) seen acc b lv=(acc++[(bs,nd::ns)],zbt (zbS (nd::ns))):=by rw[zbI,hrd2];simp only;rw[if_pos hlv]
      have hlp:=zkF 1 0 bs (nd::ns) (by omega) (fun n hn=>(hF.node hn).1) (by omega);unfold ze7 at hlp
      by_cases hri:zbt (zbS (nd::ns))=true
      ·rw[if_pos hri]at hlp;(repeat refine ze ?_);refine zb ?_;refine zfx ?_ (by simp(disch:=omega)only[go_sem,h9,gm0,gm1,gm2,gm3,zf]<;>rfl);refine zcl hlp ?_ ?_;(repeat(first|exact trivial|refine And.intro ?_ ?_|exact .int _ _|exact .bool _|exact .list _ _ _|exact .elem _|exact .nilsl|exact .nil _ _|exact .str _|refine Frz.aggL ?_|refine Frz.fnL ?_|refine Frz.tupL ?_|refine .iface ?_|exact zy rfl rfl (by assumption)))
       ·exact Frz.whole (e:=3) (z':=1) (G:=bs.length) (l:=bs.map fun(b:Nat)=>iv (b:Int)) (by simp only[zAT9,hm2]<;>rfl) rfl (by simp) (by simp) (fun v hv=>by obtain⟨x,_,rfl⟩:=zAS9.1 hv;rfl) zeK
       ·exact⟨Frz.whole (e:=124) (z':=6) (G:=ns.length+1) (l:=(nd::ns).map (za7 0)) (by simp only[zAT9,km2]<;>rfl) rfl (by simp) (by simp) (fun v hv=>by obtain⟨x,_,rfl⟩:=zAS9.1 hv;rfl) zgd,trivial⟩
       ·(repeat(first|exact trivial|refine And.intro ?_ ?_|exact .int _ _|exact .bool _|exact .list _ _ _|exact .elem _|exact .nilsl|exact .nil _ _|exact .str _|refine Frz.aggL ?_|refine Frz.fnL ?_|refine Frz.tupL ?_|refine .iface ?_|exact zy rfl rfl (by assumption)))
       refine zfx ?_;refine zd ?_;(repeat(first|refine ze ?_|refine zgo ?_));refine zF ?_;(try simp only[zg,zj,zh,zi,zk]);refine zq (by simp only[T137,zI,go_sem]<;>rfl) ?_;simp only[zP];rw[hra,hri];refine⟨rfl,mo2,_,_,?e1,hX ?X1⟩
       case e1 =>
        unfold rdH;simp only[zAC9,zAE9,zAG9,zAM9,zAF9,zAH9];rfl
      ·rw[if_neg hri]at hlp;have hri:zbt (zbS (nd::ns))=false:=by simpa using hri
       (repeat refine ze ?_);refine zb ?_;refine zfx ?_ (by simp(disch:=omega)only[go_sem,h9,gm0,gm1,gm2,gm3,zf]<;>rfl);refine zcl hlp ?_ ?_;(repeat(first|exact trivial|refine And.intro ?_ ?_|exact .int _ _|exact .bool _|exact .list _ _ _|exact .elem _|exact .nilsl|exact .nil _ _|exact .str _|refine Frz.aggL ?_|refine Frz.fnL ?_|refine Frz.tupL ?_|refine .iface ?_|exact zy rfl rfl (by assumption)))
       ·exact Frz.whole (e:=3) (z':=1) (G:=bs.length) (l:=bs.map fun(b:Nat)=>iv (b:Int)) (by simp only[zAT9,hm2]<;>rfl) rfl (by simp) (by simp) (fun v hv=>by obtain⟨x,_,rfl⟩:=zAS9.1 hv;rfl) zeK
       ·exact⟨Frz.whole (e:=124) (z':=6) (G:=ns.length+1) (l:=(nd::ns).map (za7 0)) (by simp only[zAT9,km2]<;>rfl) rfl (by simp) (by simp) (fun v hv=>by obtain⟨x,_,rfl⟩:=zAS9.1 hv;rfl) zgd,trivial⟩
       ·(repeat(first|exact trivial|refine And.intro ?_ ?_|exact .int _ _|exact .bool _|exact .list _ _ _|exact .elem _|exact .nilsl|exact .nil _ _|exact .str _|refine Frz.aggL ?_|refine Frz.fnL ?_|refine Frz.tupL ?_|refine .iface ?_|exact zy rfl rfl (by assumption)))
       refine zfx ?_;refine zd ?_;(repeat(first|refine ze ?_|refine zgo ?_));refine zF ?_;(try simp only[zg,zj,zh,zi,zk]);refine zq (by simp only[T137,zI,go_sem]<;>rfl) ?_;simp only[zP];rw[hra,hri];refine⟨rfl,mo2,_,_,?e2,hX ?X2⟩
       case e2 =>
        unfold rdH;simp only[zAC9,zAE9,zAG9,zAM9,zAF9,zAH9];rfl
     ·intro h;cases h
    ·have g1:¬(nd.level:Int)=0:=by omega
     (repeat refine ze ?_);refine zgo ?_ (by simp(disch:=omega)only[go_sem,g1,zf,gm0,gm1,gm2]<;>rfl);refine zfc ?_ ?_
     ·intro h;cases h
     intro _;refine zQ ?_;show W _ _ _ _ _ _;have hra:zbI w (d+1) seen acc b lv=zbI w d seen2 (acc++[(bs,nd::ns)]) nd.left ((nd.level:Int)-1):=by rw[zbI,hrd2];simp only;rw[if_neg hlv]
     have hfl:=hfst nd rfl;have ihc:=fun X=>ih seen2 (acc++[(bs,nd::ns)]) nd.left ((nd.level:Int)-1) mo2 _ _ (by omega) hs2 (hX X) (by simp;omega);unfold rdH at ihc;simp only[show ∀v:PV,(vs++[v]).length=vs.length+1 from fun v=>by simp]at ihc;rw[<- hra]at ihc;(repeat refine ze ?_);refine zb ?_;refine zfx ?_ (by simp(disch:=omega)only[go_sem,h5,gm0,gm1,gm2,gm3,zf]<;>rfl);simp only[zAF9,zAH9,zAI9];refine zeY (caps:=?caps) (vs:=?vs) ?g1 ?g2 (ihc ?X3) ?g3 ?g4 ?g5
     case g1=>first|rfl|(simp only[zaf,zas,go_sem]<;>rfl)
     case g2=>simp only[go_sem,h5]<;>rfl
     case g3=>rfl
     case g4=>rfl
     rintro e H' ⟨rfl,mo',vs',G',rfl,hv'⟩;refine zfx ?_;refine zd ?_;refine zF ?_;(try simp only[zg,zj,zh,zi,zk]);refine zq (by simp only[T137,zI,go_sem]<;>rfl) ?_;simp only[zP];exact⟨rfl,mo',vs',G',rfl,hv'⟩
theorem f42:ET.funcs.get 42=some T42:=z9 (by kernel_rfl) (by decide)
@[reducible] def zde (T:List Lev):PV:=.list 0 2 (T.map fun L=>zbX 0 0 L.1 L.2)
theorem Lb.ivn {z:Nat}(l:List Nat):Lb (.list 0 z (l.map fun(b:Nat)=>iv (b:Int))):=.list fun x hx=>by
 obtain⟨y,hy,hx⟩:=zBI9.1 hx;obtain⟨n,_,rfl⟩:=zAS9.1 hy;simp[PV.cells]at hx;subst hx;exact .int _ _
theorem Lb.nodes {z:Nat}(l:List zE):Lb (.list 0 z (l.map (za7 0))):=.list fun x hx=>by
 obtain⟨y,hy,hx⟩:=zBI9.1 hx;obtain⟨n,_,rfl⟩:=zAS9.1 hy;have:=Lb.node n
 cases this with
 | agg h=>exact h x hx
theorem zm2 (T:List Lev):Lb (zde T):=.list fun x hx=>by
 obtain⟨y,hy,hx⟩:=zBI9.1 hx;obtain⟨L,_,rfl⟩:=zAS9.1 hy;simp[PV.cells]at hx;rcases hx with rfl|rfl
 ·exact Lb.ivn _
 ·exact Lb.nodes _
theorem zun {p:Nat}{w:List Nat}{mo:zu}{vs:List PV}{G:List zu}{T:List Lev}(h:zeb G vs T):Frz (rdH p w mo vs G) 0 (.sl 5 vs.length 0 vs.length (2*vs.length) 2) (zde T):=by
 have hf:LF (rdH p w mo vs G) 0 (vs.flatMap PV.cells) ((T.map fun L=>zbX 0 0 L.1 L.2).flatMap PV.cells):=LF.flat h.1 fun q L hL=>by
  have hq:q<vs.length:=by rw[h.1];exact(zAD9.1 hL).1
  obtain⟨i,j,e1,e2,e3⟩:=h.2 q _ L (zAB9 hq) hL;refine⟨_,(zAB9 hq).trans (congrArg some e1),?_,?_,trivial⟩
  ·exact Frz.whole (e:=3) (z':=1) (G:=L.1.length) (l:=L.1.map fun(b:Nat)=>iv (b:Int)) e2 rfl (by simp) (by simp) (fun v hv=>by obtain⟨x,_,rfl⟩:=zAS9.1 hv;rfl) zeK
  ·exact Frz.whole (e:=124) (z':=6) (G:=L.2.length) (l:=L.2.map (za7 0)) e3 rfl (by simp) (by simp) (fun v hv=>by obtain⟨x,_,rfl⟩:=zAS9.1 hv;rfl) zgd
 have ht:(vs.drop 0).take vs.length=vs:=by rw[zFU9,zBM9]
 have hl:=h.1;refine .sl (e:=100) (M:=0) (G:=vs.length) (l:=vs) rfl (zAU9 _) (zAK9 _) (by omega) (zAK9 _) (by simp[hl]) (fun v hv=>by obtain⟨x,_,rfl⟩:=zAS9.1 hv;rfl) ?_ ?_
 ·rw[ht];exact zuA hf
 ·rw[ht];exact fun i x y hx hy=>hf.get hx hy
theorem zvk (p:Nat)(w:List Nat)(hw:64<=w.length/\w.length<=131072/\w.length%64=0)(a:Nat)(ha:a<w.length):FN ET 91 [wv p w,iv a] (.ret (.tuple [zde (zaQ w a).1,.bool (zaQ w a).2])):=by
 refine zfn f91 (Lb.two (zm2 _) (.bool _)) ?_;have hwa:(w.map uv)[a]?=some (uv (w.getD a 0)):=by rw[zAL9,zAB9 ha,zAQ9,zAB9 ha];rfl
 (repeat(first|refine ze ?_|refine zgo ?_));refine zjf 100 2 (id:=1) rfl ?_;simp only[lzy,zAE9,zAG9,zBL9,zCL9,zAH9,zAI9];have hc:=zti p w hw 14 [] [] (w.getD a 0) (-1) .map0 [] [] (.inr (zAK9 _)) (.inl ⟨rfl,rfl⟩) ⟨rfl,fun k v l hv _=>by simp at hv⟩ (by decide);change FO ET 137 _ _ _ (zj8 p w (zaQ w a))at hc;generalize zaQ w a=r at hc;(repeat refine ze ?_);refine zap ?_;refine znG (s1:=?_) (caps:=?_) (vs:=?_) ?_ ?_ rfl rfl ?_ ?_ hc ?_ ?_ ?_;rotate_left 3;(first|exact trivial|(simp only[go_sem,hwa,ha]));(simp(disch:=omega)only[go_sem,wrap_i64,zL,zaD,hwa,ha]<;>rfl);(first|rfl|(simp only[go_sem,hwa,ha]<;>rfl));(simp only[go_sem,hwa,ha]<;>rfl);rfl;rfl;rintro e H' ⟨rfl,mo',vs',G',rfl,hv'⟩;refine⟨_,by simp only[go_sem]<;>rfl,?_⟩;refine zdl ?_ (by simp(disch:=omega)only[go_sem,hwa]<;>rfl);refine zR ?_;simp only[zo,zW,zg,go_sem];unfold rdH;(repeat(first|refine ze ?_|refine zgo ?_ (by simp(disch:=omega)only[go_sem,hwa]<;>rfl)));refine zF ?_;(try simp only[zg,zj,zh,zi,zk]);refine zq (by simp only[T91,zI,go_sem]<;>rfl) ?_;simp only[zP];exact Frz.tupL ⟨zun hv',.bool _,trivial⟩
def zmU (w:List Nat)(a:Int):FE:=if zbU w.length a=true then if(zaQ w a.toNat).2=true then .ret (zde (zaQ w a.toNat).1)else .panic (zkV 220)else .panic (zkV 2)
theorem zey (n:Nat)(a:Int):zbU n a=true↔(64<=n/\n%64=0/\n<=131072/\0<=a/\a<n):=by unfold zbU;simp[and_assoc]
theorem zr2 (p:Nat)(w:List Nat)(a:Int)(hs:zbH w.length):FN ET 42 [wv p w,iv a] (zmU w a):=by
 have hr:=zoW p w a hs;unfold zmU
 by_cases h:zbU w.length a=true
 rotate_left
 ·rw[if_neg h]at hr⊢;refine zfn f42 (.iface (.int _ _)) ?_;(repeat(first|refine ze ?_|refine zgo ?_));(repeat refine ze ?_);refine zrg ?_;refine zcx hr ?_;(try(refine .iface ?_;exact .int _ _))
 rw[if_pos h]at hr⊢;have hb:=(zey _ _).1 h;obtain⟨n,rfl⟩:∃n:Nat,a=n:=⟨a.toNat,by omega⟩
 have hrd:=zvk p w ⟨hb.1,hb.2.2.1,hb.2.1⟩ n (by omega);rw[zDD9];generalize zaQ w n=r at hrd;obtain⟨T,b⟩:=r
 cases b with
 | true =>
  rw[if_pos rfl];refine zfn f42 (zm2 _) ?_;(repeat(first|refine ze ?_|refine zgo ?_));(repeat refine ze ?_);refine zrg ?_;refine zca hr ?_;refine zfx ?_;refine zd ?_;(repeat refine ze ?_);refine zrg ?_;refine zca hrd ?_;refine zfx ?_;refine zd ?_;(repeat refine ze ?_);refine zrg ?_;refine zca (zr1 220) ?_;refine zfx ?_;refine zd ?_;(repeat(first|refine ze ?_|refine zgo ?_));refine zF ?_;(try simp only[zg,zj,zh,zi,zk]);refine zq (by simp only[T42,zI,go_sem]<;>rfl) ?_;simp only[zP];exact Frz.list _ _ _
 | false =>
  rw[if_neg (show ¬(T,false).2=true from Bool.false_ne_true)];refine zfn f42 (.iface (.int _ _)) ?_;(repeat(first|refine ze ?_|refine zgo ?_));(repeat refine ze ?_);refine zrg ?_;refine zca hr ?_;refine zfx ?_;refine zd ?_;(repeat refine ze ?_);refine zrg ?_;refine zca hrd ?_;refine zfx ?_;refine zd ?_;(repeat refine ze ?_);refine zrg ?_;refine zcx (ziq 220) ?_;(try(refine .iface ?_;exact .int _ _))
theorem f16:ET.funcs.get 16=some T16:=z9 (by kernel_rfl) (by decide)
theorem f54:ET.funcs.get 54=some T54:=z9 (by kernel_rfl) (by decide)
theorem c35:ET.caught.get 35=some ():=by kernel_rfl
def zb7 (T:List Lev):Lev:=T.getLastD ([],[])
theorem zfR {T:List Lev}(h:T ≠ []):T[T.length-1]?=some (zb7 T)/\T.getLast?=some (zb7 T):=by
 have:T.getLast?=some (zb7 T):=by unfold zb7;rw[List.getLastD_eq_getLast?];cases T with
  | nil=>exact absurd rfl h
  | cons a l=>rw[List.getLast?_eq_some_getLast (by simp)];rfl
 exact⟨by rw[<- zCE9];exact this,this⟩
theorem zh6 (w:List Nat):∀(d:Nat) (seen:List Nat) (acc:List Lev) (b:Nat) (lv:Int),(zbI w d seen acc b lv).1.length<=acc.length+d
 | 0,_,acc,_,_=>zAK9 _
 | d+1,seen,acc,b,lv=>by
  rw[zbI]
  split
  ·simp
  ·simp
  ·split
   ·simp
   ·refine zBG9 (zh6 w d _ _ _ _) ?_;simp;omega
theorem zcZ {w:List Nat}(hw:w.length<=131072)(a:Nat){T:List Lev}(h:zaQ w a=(T,true)):(∀L∈T,zjP w L)/\(∀L∈T.dropLast,zjY L)/\T ≠ []/\zbt (zbS (zb7 T).2)=true/\T.length<=14:=by
 have hle:=zh6 w 14 [] [] (w.getD a 0) (-1);change (zaQ w a).1.length<=0+14 at hle;have hf:=zgp hw 14 [] [] (w.getD a 0) (-1) (fun L hL=>by simp at hL);change (∀L∈(zaQ w a).1,zjP w L)/\(∀L∈(zaQ w a).1.dropLast,zjY L)/\((zaQ w a).2=true->(zaQ w a).1 ≠ []/\∀M,(zaQ w a).1.getLast?=some M->zbt (zbS M.2)=true)at hf;rw[h]at hf hle;obtain⟨h1,h2,h3⟩:=hf;obtain⟨h3,h4⟩:=h3 rfl;exact⟨h1,h2,h3,h4 _ (zfR h3).2,by simpa using hle⟩
def ze9 (w:List Nat)(a:Int):FE:=if zbU w.length a=true then if(zaQ w a.toNat).2=true then .ret (.tuple [psv 0 (zbS (zb7 (zaQ w a.toNat).1).2),iv 0])else .ret (.tuple [psv 0 [],iv 220])else .ret (.tuple [psv 0 [],iv 2])
theorem zvf:FO ET 54 [.ptr 0 0 0 0 1] [.row 41 1 0 0 [.nilsl],.row 31 1 0 0 [iv 0]] false fun e H'=>e=.ret (.tuple [])/\H'=[.row 41 1 0 0 [.nilsl],.row 31 1 0 0 [iv 0]]:=by
 refine zro f54 ?_;(repeat refine ze ?_);refine zrg ?_;refine zG ?_;exact⟨[],rfl,rfl,rfl⟩
theorem zvF (p:Nat)(w:List Nat)(a:Int)(hs:zbH w.length):FN ET 16 [wv p w,iv a] (ze9 w a):=by
 have hl:=zr2 p w a hs;have hlb:LbE (ze9 w a):=by
  unfold ze9
  split
  ·split
   ·exact Lb.two (Lb.pvs _) (.int _ _)
   ·exact Lb.two (Lb.pvs _) (.int _ _)
  ·exact Lb.two (Lb.pvs _) (.int _ _)
 refine zfn f16 hlb ?_;(repeat(first|refine ze ?_|refine zgo ?_));(repeat refine ze ?_);refine zrg ?_;refine zt2 (f:=35) (p:=.ptr 1 0 0 0 1) (cl:=.fn 54 [.ptr 0 0 0 0 1]) ?_ ?_ c35 ?_
 ·rfl
 ·simp only[go_sem]<;>rfl
 refine zfx ?_;refine zd ?_;(repeat refine ze ?_);refine zrg ?_;have bad:∀(tm:Nat->PV) (n:Nat),ze9 w a=.ret (.tuple [psv 0 [],iv n])->tm 4=.ptr 0 0 0 0 1->tm 5=.ptr 1 0 0 0 1->zdI ET T16 (fun e' H=>zbo H 0 e' (ze9 w a)) (.panic (zkV n)) ⟨tm,[.caught (.ptr 1 0 0 0 1) (.fn 54 [.ptr 0 0 0 0 1])],[.row 41 1 0 0 [.nilsl],.row 31 1 0 0 [iv 0]]⟩:=fun tm n hn h4 h5=>by
  refine⟨n,54,[.ptr 0 0 0 0 1],false,1,0,1,rfl,rfl,rfl,zvf.mono fun e H he=>?_⟩;obtain⟨rfl,rfl⟩:=he;refine⟨rfl,_,rfl,[.nilsl,iv n],?_,?_⟩
  ·simp[T16,zI,okv,h4,h5,zao,zaK,za6,zau];rfl
  ·rw[hn];exact Frz.tupL ⟨.nil _ _,.int _ _,trivial⟩
 unfold zmU at hl
 by_cases hr:zbU w.length a=true
 rotate_left
 ·rw[if_neg hr]at hl;refine zcx hl ?_;exact bad _ 2 (by unfold ze9;rw[if_neg hr];rfl) rfl rfl
 rw[if_pos hr]at hl;have hb:=(zey _ _).1 hr
 by_cases ht:(zaQ w a.toNat).2=true
 rotate_left
 ·rw[if_neg ht]at hl;refine zcx hl ?_;exact bad _ 220 (by unfold ze9;rw[if_pos hr,if_neg ht];rfl) rfl rfl
 rw[if_pos ht]at hl;have hall:ze9 w a=.ret (.tuple [psv 0 (zbS (zb7 (zaQ w a.toNat).1).2),iv 0]):=by unfold ze9;rw[if_pos hr,if_pos ht]
 obtain⟨f1,f2,f3,f4,f5⟩:=zcZ (w:=w) (T:=(zaQ w a.toNat).1) (by omega) a.toNat (by rw[<- ht]);rw[hall];clear bad;generalize (zaQ w a.toNat).1=T at hl f1 f2 f3 f4 f5;obtain⟨g1,g2⟩:=zfR f3;have hlen:T.length≠0:=fun h=>f3 (zCP9 h);have hLF:=f1 _ (zAO9 g1);have hget:(T.map fun L=>zbX 0 0 L.1 L.2)[T.length-1]?=some (zbX 0 0 (zb7 T).1 (zb7 T).2):=by rw[zAL9,g1];rfl
 have hll:=zeR (zb7 T).2 fun n hn=>(hLF.lv.node hn).1;have hfew:=hLF.few;have hlp:=zkF 0 0 (zb7 T).1 (zb7 T).2 (by omega) (fun n hn=>(hLF.lv.node hn).1) (by omega);unfold ze7 at hlp;rw[if_pos f4]at hlp;refine zca hl ?_;refine zfx ?_;refine zd ?_;have hq:IntKind.i64.wrap ((T.length:Int)-1)=((T.length-1:Nat):Int):=by rw[wrap_i64 (by omega) (by omega)];omega
 have hi:T.length-1<T.length:=by omega
 (repeat refine ze ?_);refine zrg ?_ (by simp(disch:=omega)only[go_sem,hq,hget,hi]<;>rfl);refine zca hlp ?_;refine zfx ?_;refine zd ?_;(repeat(first|refine ze ?_|refine zgo ?_));refine zF ?_;exact⟨[psv 0 (zbS (zb7 T).2),iv 0],rfl,Frz.tupL ⟨.list _ _ _,.int _ _,trivial⟩⟩
section
variable {α:Type}(G l m n o:List α)(x y z u:α)
end
theorem znQ (w:List Nat)(bs:List Nat)(ns:List zE)(i:Nat)(b:Nat)(n:zE)(hb:bs[i]?=some b)(hn:ns[i]?=some n):zcA w (bs.drop i) (ns.drop i)=(decide (zbJ (zD w b)=0)&&ze1 n ns[i+1]? && zcA w (bs.drop (i+1)) (ns.drop (i+1))):=by
 obtain⟨h1,rfl⟩:=zAD9.1 hb;obtain⟨h2,rfl⟩:=zAD9.1 hn;rw[zBB9 h1,zBB9 h2,zcA,List.head?_drop]
theorem zlz {l:List Nat}(h:zbJ l=0)(hl:0<(zai l).level):∀x∈zdz (zai l),x.2<2048:=by
 have hh:=zdk h;unfold zbJ at h;rw[if_pos hh]at h;have hp:zhb l=true:=by
  by_cases hp:zhb l=true
  ·exact hp
  ·rw[if_neg hp]at h;cases h
 unfold zhb at hp;rw[zAR9,zDY9,List.any_eq_false]at hp;intro x hx;rcases zAY9.1 hx with rfl|hx
 ·unfold zbP at hh;rw[zAR9,zBE9]at hh;have h3:=hh.2 3 (by decide);have e1:(zai l).level=zgq (l.getD 0 0):=by unfold zai;rfl
  have e2:(zai l).left=l.getD 3 0:=by unfold zai;rfl
  rw[zcC,<- e1,<- e2]at h3;simp only[zEK9,zAR9,decide_eq_true_eq]at h3;rcases h3 with⟨h3,_⟩|⟨_,h3⟩
  ·omega
  ·exact((zdE _).1 h3).2
 ·have:=hp.2 x hx;have hm:zcv (zai l) x=true:=by simpa using this
  unfold zcv at hm;rw[if_neg (by omega),zAR9]at hm;exact((zdE _).1 hm.1).2
def zkr (w:List Nat)(a:Int):Nat:=if zbU w.length a=true then if(zaQ w a.toNat).2=true then if zjT w (zaQ w a.toNat).1=true then 0 else 220 else 220 else 2
@[reducible] def zag (x:Pr):PV:=.agg [iv x.1,uv x.2]
def zed:Option Nat->Nat->Bool
 | none,_=>true
 | some k,n=>decide (k<n)
def zdv (seen:List Nat)(pk:Option Nat)(x:Pr):Bool:=decide (1<=x.2)&&decide (x.2<=1099511627776) && !seen.contains x.2&&zed pk x.1
def zic:List Nat->Option Nat->List Pr->Bool
 | _,_,[]=>true
 | seen,pk,x::l=>zdv seen pk x&&zic (x.2::seen) (some x.1) l
theorem zma:∀(l:List Pr) (seen:List Nat) (pk:Option Nat),zic seen pk l=true↔(zc3 seen l=true/\(∀p∈l,1<=p.2/\p.2<=1099511627776)/\zbt l=true/\(∀x,l.head?=some x->zed pk x.1=true))
 | [],_,_=>⟨fun _=>⟨rfl,by simp,rfl,by simp⟩,fun _=>rfl⟩
 | x::l,seen,pk=>by
  rw[zic,zAR9,zma l,zc3,zAR9];unfold zdv;have hr:zbt (x::l)=true↔zbt l=true/\∀y,l.head?=some y->zed (some x.1) y.1=true:=by
   cases l with
   | nil=>simp[zbt]
   | cons y l=>rw[zbt,zAR9];simp[zed,and_comm]
  rw[hr];simp only[zAR9,decide_eq_true_eq,List.head?_cons,Option.some.injEq,forall_eq',zAY9,forall_eq_or_imp]
  constructor
  ·rintro ⟨⟨⟨⟨a,b⟩,c⟩,d⟩,e,f,g,h⟩;exact⟨⟨c,e⟩,⟨⟨a,b⟩,f⟩,⟨g,h⟩,d⟩
  ·rintro ⟨⟨c,e⟩,⟨⟨a,b⟩,f⟩,⟨g,h⟩,d⟩;exact⟨⟨⟨⟨a,b⟩,c⟩,d⟩,e,f,g,h⟩
theorem zre (l:List Pr):zic [] none l=okP l:=by
 rw[zDN9,zma,zmK,zeq]
 constructor
 ·rintro ⟨⟨a,_⟩,b,c,_⟩;exact⟨c,a,b⟩
 ·rintro ⟨c,a,b⟩;exact⟨⟨a,by simp⟩,b,c,fun _ _=>rfl⟩
def zfv (l:List Pr)(i:Nat):Option Nat:=if i=0 then none else some (l.getD (i-1) (0,0)).1
def okI:List Int->List Int->Bool
 | _,[]=>true
 | seen,b::l=>decide (1<=b)&&decide (b<2048) && !seen.contains b&&okI (b::seen) l
theorem zqk:∀(l seen:List Int),okI seen l=true↔(∀b∈l,1<=b/\b<2048)/\l.Nodup/\∀b∈l,¬b∈seen
 | [],seen=>by simp[okI]
 | b::l,seen=>by
  rw[okI,zAR9,zAR9,zAR9,zqk l,decide_eq_true_eq,decide_eq_true_eq,zDY9,zDW9];have:(seen.contains b=false)↔¬b∈seen:=by rw[<- zEF9,zCU9]
  rw[this]
  constructor
  ·rintro ⟨⟨⟨a1,a2⟩,a3⟩,b1,b2,b3⟩;refine⟨fun c hc=>?_,⟨fun h=>b3 b h (zAV9 ..),b2⟩,fun c hc=>?_⟩
   ·rcases zAY9.1 hc with rfl|hc
    ·exact⟨a1,a2⟩
    ·exact b1 c hc
   ·rcases zAY9.1 hc with rfl|hc
    ·exact a3
    ·exact fun h=>b3 c hc (zAW9 _ h)
  ·rintro ⟨h1,⟨h2,h3⟩,h4⟩;refine⟨⟨h1 b (zAV9 ..),h4 b (zAV9 ..)⟩,fun c hc=>h1 c (zAW9 _ hc),h3,fun c hc h=>?_⟩;rcases zAY9.1 h with rfl|h
   ·exact h2 hc
   ·exact h4 c (zAW9 _ hc) h
theorem zpi {l:List Int}(h:okI [] l=true):∃fr:List Nat,l=fr.map (fun(b:Nat)=>(b:Int))/\zmQ fr=true:=by
 rw[zqk]at h;obtain⟨h1,h2,_⟩:=h;have he:l=(l.map Int.toNat).map (fun(b:Nat)=>(b:Int)):=by
  rw[zDO9]
  conv=>lhs;rw[<- List.map_id l]
  refine zEH9 fun b hb=>?_;have:=h1 b hb;show b=((b.toNat:Nat):Int)
  omega
 refine⟨l.map Int.toNat,he,?_⟩;rw[zi1];refine⟨fun b hb=>?_,?_⟩
 ·obtain⟨c,hc,rfl⟩:=zAS9.1 hb;have:=h1 c hc;omega
 ·rw[he,List.nodup_iff_pairwise_ne,List.pairwise_map]at h2;exact h2.imp fun h e=>h (by rw[e])
@[reducible] def bfl (free:List Nat):List PV:=free.map fun (b:Nat)=>iv (b:Int)
theorem zk9 (xs:List (Nat×zE)):(xs.flatMap fun x=>ziR x.1 (zbB x.2)).length=64*xs.length:=by
 induction xs with
 | nil=>rfl
 | cons a xs ih=>rw[zCJ9,zAC9,ih,zAE9];simp[ziR,zdw];omega
theorem zuf {bs:List Nat}{L:List zE}{i b:Nat}{x:zE}(hb:bs[i]?=some b)(hx:L[i]?=some x):(bs.zip L).take (i+1)=(bs.zip L).take i++[(b,x)]:=by
 have:(bs.zip L)[i]?=some (b,x):=by rw[zDJ9];exact⟨hb,hx⟩
 rw[zBN9,this];rfl
end Fv
end Go.Proofs.YtfomlmhnmheenaaGreat
namespace Go.Proofs.YtfomlmhnmheenaaGreat
namespace Fv
open Tw
theorem zjG.next {p:List Pr}{free:List Nat}(hf:zmQ free=true){l:List zE}{used:Nat}{T:List Lev}(hi:zjG p free l used T)(hu:¬free.length<used+l.length)(ho:¬l.length=1) :
  zjG p free (zco (T.length+1) ((l.map zE.low).zip ((free.drop used).take l.length))) (used+l.length) (((free.drop used).take l.length,zbE ((free.drop used).take l.length) l)::T):=by
 obtain⟨h1,h2,h3,h4,h5,h6,h7,h8⟩:=hi.level hf hu;have hbd:=hi.bndL;have hlvl:=hi.lvl;have hne0:0<l.length:=zBZ9.2 hi.ok.ne;have hT1:T.length<=1:=by
  rcases zCM9 T.length 2 with h|h
  ·omega
  ·have e:T.length=2:=by omega
   rw[e]at hbd;simp[Fv.bndL]at hbd;omega
 obtain⟨k1,k2,k3⟩:=zd7 _ _ h1;generalize hbs:(free.drop used).take l.length=bs at *
 have hzl:((l.map zE.low).zip bs).length=l.length:=by simp[h1]
 have hms:((l.map zE.low).zip bs).map Prod.snd=bs:=List.map_snd_zip (by simp[h1]);have hg:∀(i:Nat) (x:Pr),((l.map zE.low).zip bs)[i]?=some x->∃n,l[i]?=some n/\x.1=n.low:=by
  intro i x hx;rw[zDJ9]at hx;have h1:=hx.1;rw[zAL9]at h1
  cases hn:l[i]? with
  | none=>rw[hn]at h1;cases h1
  | some n=>rw[hn]at h1;injection h1 with h1;exact⟨n,rfl,h1.symm⟩
 have hz0:(((l.map zE.low).zip bs).getD 0 (0,0)).1=0:=by
  obtain⟨n,hn,e⟩:=hg 0 _ (get_lt _ (by omega));rw[e];exact hi.ok.low0 n hn
 have hrz:zbt ((l.map zE.low).zip bs)=true:=by
  rw[zdx];intro i x y hx hy;obtain⟨n,hn,e⟩:=hg i x hx;obtain⟨m,hm,e2⟩:=hg _ y hy;rw[e,e2];exact hi.ok.rise i n m hn hm
 have hab:=zm7 (lv:=T.length+1) (ks:=(l.map zE.low).zip bs) ⟨by omega,by omega⟩ (by intro e;rw[e]at hzl;simp at hzl;omega) hrz hz0 (by rw[hms];exact h5) (fun x hx=>h4 x.2 (List.of_mem_zip hx).2);refine⟨hab.1,⟨?_,h7⟩,h8,?_,h6,by omega,?_,by simp;omega⟩
 ·rw[hab.2];unfold ze8;rw[k2]
 ·intro M hM;rcases zAY9.1 hM with rfl|hM
  ·exact h1.trans (zcS _ _ h1).symm
  ·exact hi.len M hM
 ·rw[zdD,hzl];show _<=Fv.bndL (T.length+1)
  match hT:T.length,hT1 with
  | 0,_=>rw[hT]at hbd;simp[Fv.bndL]at hbd⊢;omega
  | 1,_=>rw[hT]at hbd;simp[Fv.bndL]at hbd⊢;omega
end Fv
end Go.Proofs.YtfomlmhnmheenaaGreat
namespace Go.Proofs.YtfomlmhnmheenaaGreat
namespace Fv
open Tw
attribute [local go_sem] zbb zaH zaf zas evs ev okv zbs zX.cls zba zbh zbm zV zU upd zB za2 zaW zaY zaF zaT za3 za4 zaZ zaS zaU zat zaX za5 zaR za1 zaV za0 zao zaK za6 zan zal zbr PV.cells ofC zbg zZ zau okF zah spl zaI zaL bnd zam zaq zar za8 zbl zY zaA zaN zaj zbj zbn zab lenP zf zn zak zbi PV.toT zaG zJ Nat.mul_mod_right Int.reduceOfNat Int.reduceToNat Int.cast_ofNat_Int Int.reduceLE Int.reduceLT Int.reduceAdd Int.reduceSub Int.reduceMul Int.reduceNegSucc Nat.reduceEqDiff if_true if_false ite_true ite_false decide_true decide_false Bool.not_true Bool.not_false and_true true_and and_self false_and and_false or_false false_or or_true true_or or_self List.length_cons List.length_nil List.length_map List.getElem?_cons_zero List.getElem?_cons_succ List.getElem?_map List.getElem?_nil Option.map_some Option.map_none Option.getD_some List.append_nil List.nil_append List.cons_append List.take_succ_cons List.take_zero List.drop_zero List.drop_succ_cons List.set_cons_zero List.set_cons_succ Int.toNat_natCast Int.natCast_nonneg Nat.le_refl Nat.zero_le Nat.reduceAdd Nat.reduceSub Nat.reduceMul Nat.reduceLeDiff Nat.reduceLT Bool.false_eq_true Bool.true_eq_false Nat.add_zero Nat.zero_add List.all_cons List.all_nil Bool.and_true Bool.and_self Bool.true_and Nat.reduceMod Nat.reduceDiv eq_self zaC zaM zac zbf evN za9 dpF zaO zbq zaE zbe zbp zaP List.filter_cons List.filter_nil List.contains_cons List.contains_nil Nat.reduceBEq zT zS zO Option.some.injEq Option.isSome_some wrap_i64 zL zaD Bool.or_self Bool.or_false Bool.false_or daF dnF yD yO yW yM yN yL yP yK yF yE yB yQ yV T6 T8 T12 T16 T18 T19 T22 T27 T28 T29 T33 T40 T42 T43 T45 T46 T47 T48 T49 T50 T51 T52 T53 T54 T57 T58 T61 T62 T65 T71 T72 T73 T74 T80 T81 T90 T91 T92 T93 T94 T95 T96 T97 T98 T99 T103 T104 T107 T119 T120 T121 T122 T123 T124 T135 T137 T138 T139 T140 T141 T142 T143 T144 T156 T157 T158 T161 T162 T163 T164 T170 T173 T181 T184 T185 T188 T195 T198 T199 T200 T201 T202 T203 T204 T205 T206 T207 T208 T209 T210 T211 T212 T213 T214 T215 T223
attribute [local go_sem ↓] reduceIte
set_option maxRecDepth 100000
@[reducible] def zpg (n:Nat):FE:=.ret (.tuple [iv 0,.list 0 2 (([]:List Pr).map zag),iv 0,iv n])
@[reducible] def bOk (T:List Lev):FE:=.ret (.tuple [iv (zmr T),.list 0 2 ((zd8 T.reverse).map zag),iv (T.reverse.flatMap Prod.fst).length,iv 0])
def zeg (l:List Pr)(fr:List Int):FE:=if okP l&&okI [] fr then match zf5 l (fr.map Int.toNat)with
 | none=>zpg 221
 | some T=>bOk T else zpg 2
theorem zcY (l:List Pr):Lb (.list 0 2 (l.map zag)):=.list fun x hx=>by
 obtain⟨y,hy,hx⟩:=zBI9.1 hx;obtain⟨n,_,rfl⟩:=zAS9.1 hy;simp[PV.cells]at hx;rcases hx with rfl|rfl<;>exact .int _ _
theorem Lb.four {a b c d:PV}(ha:Lb a)(hb:Lb b)(hc:Lb c)(hd:Lb d):Lb (.tuple [a,b,c,d]):=.tuple fun v hv=>by
 simp at hv;rcases hv with h|h|h|h<;>subst h<;>assumption
theorem zug (l:List Pr)(fr:List Int):LbE (zeg l fr):=by
 unfold zeg
 split
 ·split
  ·exact Lb.four (.int _ _) (zcY _) (.int _ _) (.int _ _)
  ·exact Lb.four (.int _ _) (zcY _) (.int _ _) (.int _ _)
 ·exact Lb.four (.int _ _) (zcY _) (.int _ _) (.int _ _)
theorem f99:ET.funcs.get 99=some T99:=z9 (by kernel_rfl) (by decide)
theorem zcU (x:Nat):FN ET 99 [iv 0,uv x] (.ret (.bool (decide (1<=x)&&decide (x<=1099511627776)))):=by
 refine zfn f99 (.bool _) ?_;(repeat(first|refine ze ?_|refine zgo ?_));(repeat refine ze ?_);refine zfc ?_ ?_;rotate_left
 ·intro h;cases h
 intro _
 by_cases b1:1<=x
 ·have a1:(1:Int)<=x:=by omega
  by_cases b2:x<=1099511627776
  ·have a2:(x:Int)<=1099511627776:=by omega
   (repeat(first|refine ze ?_|refine zgo ?_ (by simp(disch:=omega)only[go_sem,a1,a2]<;>rfl)));refine zF ?_;(try simp only[zg,zj,zh,zi,zk]);refine zq (by simp only[T99,zI,go_sem]<;>rfl) ?_;simp only[zP];exact zbo.bool (by simp[b1,b2])
  ·have a2:¬(x:Int)<=1099511627776:=by omega
   (repeat(first|refine ze ?_|refine zgo ?_ (by simp(disch:=omega)only[go_sem,a1,a2]<;>rfl)));refine zF ?_;(try simp only[zg,zj,zh,zi,zk]);refine zq (by simp only[T99,zI,go_sem]<;>rfl) ?_;simp only[zP];exact zbo.bool (by simp[b1,b2])
 ·have a1:¬(1:Int)<=x:=by omega
  (repeat(first|refine ze ?_|refine zgo ?_ (by simp(disch:=omega)only[go_sem,a1]<;>rfl)));refine zF ?_;(try simp only[zg,zj,zh,zi,zk]);refine zq (by simp only[T99,zI,go_sem]<;>rfl) ?_;simp only[zP];exact zbo.bool (by simp[b1])
theorem f52:ET.funcs.get 52=some T52:=z9 (by kernel_rfl) (by decide)
theorem zoJ (n:Nat)(hn:n<=500):FN ET 52 [iv n] (.ret (iv (zd9 n:Nat))):=by
 refine zfn f52 (.int _ _) ?_;have q1:IntKind.i64.wrap (((n:Int)+17).tdiv 18)=(((n+17)/18:Nat):Int):=by rw[show (n:Int)+17=((n+17:Nat):Int) by omega,IntWalk.i64_quo _ _ (by omega)];omega
 have hm:max (1:Int) (((n+17)/18:Nat):Int)=((max 1 ((n+17)/18):Nat):Int):=by omega
 (repeat(first|refine ze ?_|refine zgo ?_ (by simp(disch:=omega)only[go_sem,q1,hm]<;>rfl)));refine zK (zbd (fun m s=>∃(t m' c:Nat),m=m'/\t<=2/\1<=m'/\m'<=bndL t/\c<=10000*(t+1)/\zd9 n+m'=c+zee (4-t) m'/\s.tm 3=iv m'/\s.tm 4=iv c/\s.df=[]/\s.H=[]) (n:=max 1 ((n+17)/18)) ?_ ?_)
 ·exact⟨0,_,_,rfl,by decide,by omega,by simp[bndL];omega,by omega,zDG9 _ _,by simp[upd],by simp[upd],rfl,rfl⟩
 ·rintro m ⟨tm,df,H⟩ ⟨t,m',c,rfl,ht,h1,hb,hc,hn,h3,h4,rfl,rfl⟩;dsimp only at h3 h4;(try refine zaa ?_);refine ze (zb ?_);refine zfx ?_ (by simp(disch:=omega)only[go_sem,h3,h4]<;>rfl);refine zd ?_;refine zae (by simp only[go_sem]<;>rfl) ?_ ?_
  ·intro hlt;have hlt:1<m:=by have:=of_decide_eq_true hlt;omega
   have q2:IntKind.i64.wrap (((m:Int)+18).tdiv 19)=(((m+18)/19:Nat):Int):=by
    have:m<=28:=zBG9 hb (by match t with|0=>decide|1=>decide|t+2=>exact(show 1<=28 by decide));rw[show (m:Int)+18=((m+18:Nat):Int) by omega,IntWalk.i64_quo _ _ (by omega)];omega
   have hm28:m<=28:=zBG9 hb (by match t with|0=>decide|1=>decide|t+2=>exact(show 1<=28 by decide));have q3:IntKind.i64.wrap ((c:Int)+(((m+18)/19:Nat):Int))=((c+(m+18)/19:Nat):Int):=by rw[wrap_i64 (by omega) (by omega)];omega
   (repeat refine ze ?_);refine zK ?_;(repeat refine ze ?_);(repeat refine ze ?_);refine zgo ?_ (by simp(disch:=omega)only[go_sem,h3,q2]<;>rfl);(repeat refine ze ?_);refine zrg ?_ (by simp(disch:=omega)only[go_sem,h3,h4,q3]<;>rfl);refine zG ?_;simp only[zg,zj,zh,zi,zo,zk,if_true,↓reduceIte];refine⟨(m+18)/19,by omega,t+1,(m+18)/19,c+(m+18)/19,rfl,?_,by omega,?_,by omega,?_,by simp[upd],by simp[upd],trivial,trivial⟩
   ·match t,ht,hb with
    | 0,_,_=>decide
    | 1,_,_=>decide
    | 2,_,hb=>simp[bndL]at hb;omega
   ·match t,ht,hb with
    | 0,_,hb=>simp[bndL]at hb⊢;omega
    | 1,_,hb=>simp[bndL]at hb⊢;omega
    | 2,_,hb=>simp[bndL]at hb;omega
   ·have e:4-t=(4-(t+1))+1:=by omega
    rw[e,zee,if_neg (by omega)]at hn;omega
  ·intro hlt;have hlt:¬1<m:=by have:=of_decide_eq_false hlt;omega
   obtain rfl:m=1:=by omega
   simp only[zg,zj,zh,zi,zo,zk,if_true,reduceIte];(repeat(first|refine ze ?_|refine zgo ?_ (by simp(disch:=omega)only[go_sem,h4]<;>rfl)));refine zF ?_;(try simp only[zg,zj,zh,zi,zk]);refine zq (by simp only[T52,zI,go_sem]<;>rfl) ?_;simp only[zP];have e:4-t=(3-t)+1:=by omega
   rw[e,zee,if_pos rfl]at hn;have:zd9 n=c:=by omega
   rw[this];exact Frz.int _ _
theorem f71:ET.funcs.get 71=some T71:=z9 (by kernel_rfl) (by decide)
theorem zno:∀(l s t:List Int),(∀b,b∈s↔b∈t)->okI s l=okI t l
 | [],_,_,_=>rfl
 | b::l,s,t,h=>by
  rw[okI,okI,zno l (b::s) (b::t) fun c=>by simp[h c]]
  congr 3
  rw[zDN9,zCU9,zCU9];exact h b
theorem zpZ (p:Nat)(l:List Int)(hl:l.length<1000000):FN ET 71 [.list p 1 (l.map iv)] (.ret (.bool (okI [] l))):=by
 refine zfn f71 (.bool _) ?_;(repeat(first|refine ze ?_|refine zgo ?_));refine zK (zbd (fun m s=>∃i:Nat,m=l.length-i/\i<=l.length/\okI [] l=okI (l.take i) (l.drop i)/\s.tm 0=.list p 1 (l.map iv)/\s.tm 3=iv i/\s.df=[]/\s.H=[]) (n:=l.length) ?_ ?_)
 ·exact⟨0,by simp[upd,zB]⟩
 ·rintro m ⟨tm,df,H⟩ ⟨i,rfl,hi,hd,h0,h3,rfl,rfl⟩;dsimp only at h0 h3;(try refine zaa ?_);refine ze (zb ?_);refine zfx ?_ (by simp(disch:=omega)only[go_sem,h0,h3,zAA9]<;>rfl);refine zd ?_;refine zae (by simp only[go_sem]<;>rfl) ?_ ?_;rotate_left
  ·intro hlt;have hlt:¬i<l.length:=by have:=of_decide_eq_false hlt;omega
   obtain rfl:i=l.length:=by omega
   simp only[zg,zj,zh,zi,zo,zk,if_true,reduceIte];(repeat(first|refine ze ?_|refine zgo ?_));refine zF ?_;(try simp only[zg,zj,zh,zi,zk]);refine zq (by simp only[T71,zI,go_sem]<;>rfl) ?_;simp only[zP];refine zbo.bool ?_;rw[hd,zCW9];rfl
  intro hlt;have hlt:i<l.length:=by have:=of_decide_eq_true hlt;omega
  obtain⟨x,hx⟩:∃x,l[i]?=some x:=⟨_,zAB9 hlt⟩
  have hxv:(l.map iv)[i]?=some (iv x):=by rw[zAL9,hx];rfl
  have hdx:l.drop i=x::l.drop (i+1):=by rw[zBB9 hlt];obtain⟨_,e⟩:=zAD9.1 hx;rw[e]
  rw[hdx,okI]at hd;have hle:i<=l.length:=hi;have htk:(l.map iv).take i=(l.take i).map iv:=by rw[zDH9]
  have hhas:=zmm p (l.take i) x (by rw[zBA9];omega);(repeat refine ze ?_);refine zK ?_;(repeat refine ze ?_);refine zap ?_
  by_cases b1:x<1
  ·refine zeX (by first|exact trivial|simp only[go_sem,h0,h3,hxv,hlt,b1,zAA9]) (by simp(disch:=omega)only[go_sem,h0,h3,hxv,hlt,b1,zAA9]<;>rfl) rfl (by simp only[go_sem,h0,h3,hxv,hlt,b1,zAA9]<;>rfl) (by simp only[go_sem]<;>rfl) ?_;refine zdl ?_ (by simp(disch:=omega)only[go_sem,h0]<;>rfl);refine zR ?_;simp only[zo,zW,zg,go_sem];refine zfc ?_ ?_
   ·intro _;(repeat(first|refine ze ?_|refine zgo ?_));refine zF ?_;(try simp only[zg,zj,zh,zi,zk]);refine zq (by simp only[T71,zI,go_sem]<;>rfl) ?_;simp only[zP];refine zbo.bool ?_;rw[hd];simp;omega
   ·intro h;cases h
  by_cases b2:2047<x
  ·refine zeX (by first|exact trivial|simp only[go_sem,h0,h3,hxv,hlt,b1,b2,zAA9]) (by simp(disch:=omega)only[go_sem,h0,h3,hxv,hlt,b1,b2,zAA9]<;>rfl) rfl (by simp only[go_sem,h0,h3,hxv,hlt,b1,b2,zAA9]<;>rfl) (by simp only[go_sem]<;>rfl) ?_;refine zdl ?_ (by simp(disch:=omega)only[go_sem,h0]<;>rfl);refine zR ?_;simp only[zo,zW,zg,go_sem];refine zfc ?_ ?_
   ·intro _;(repeat(first|refine ze ?_|refine zgo ?_));refine zF ?_;(try simp only[zg,zj,zh,zi,zk]);refine zq (by simp only[T71,zI,go_sem]<;>rfl) ?_;simp only[zP];refine zbo.bool ?_;rw[hd];simp;omega
   ·intro h;cases h
  refine zdn hhas ?_ (by simp(disch:=omega)only[go_sem,h0,h3,hxv,hlt,hle,b1,b2,htk,zAA9]<;>rfl);refine zdl ?_ (by simp(disch:=omega)only[go_sem,h0]<;>rfl);refine zR ?_;simp only[zo,zW,zg,go_sem]
  by_cases hc:(l.take i).contains x=true
  ·refine zfc ?_ ?_ (by simp only[go_sem,hc]<;>rfl)
   ·intro _;(repeat(first|refine ze ?_|refine zgo ?_));refine zF ?_;(try simp only[zg,zj,zh,zi,zk]);refine zq (by simp only[T71,zI,go_sem]<;>rfl) ?_;simp only[zP];refine zbo.bool ?_;rw[hd,hc];simp
   ·intro h;cases h
  have hc:(l.take i).contains x=false:=by simpa using hc
  refine zfc ?_ ?_ (by simp only[go_sem,hc]<;>rfl)
  ·intro h;cases h
  intro _;refine zQ ?_;simp only[zg,zj,zh,zi,zo,zk,if_true,reduceIte];(repeat refine ze ?_);refine zrg ?_ (by simp(disch:=omega)only[go_sem,h3]<;>rfl);refine zG ?_;simp only[zg,zj,zh,zi,zo,zk,if_true,↓reduceIte];refine⟨_,?m,i+1,rfl,hlt,?_,by simp[upd,h0],by simp[upd,h3],trivial,trivial⟩
  case m=>omega
  rw[hd,hc];have:l.take (i+1)=l.take i++[x]:=by rw[zBN9,hx];rfl
  rw[this,zno _ (x::l.take i) (l.take i++[x]) fun b=>by simp[or_comm]];have e1:decide (1<=x)=true:=by simp;omega
  have e2:decide (x<2048)=true:=by simp;omega
  rw[e1,e2];simp
theorem f53:ET.funcs.get 53=some T53:=z9 (by kernel_rfl) (by decide)
set_option maxHeartbeats 4000000 in
theorem zqd (p:Nat)(l:List Pr)(hl:l.length<1000000):FN ET 53 [psv p l] (.ret (.bool (okP l))):=by
 refine zfn f53 (.bool _) ?_;(repeat(first|refine ze ?_|refine zgo ?_));refine zK (zbd (fun m s=>∃(i:Nat) (seen:List Nat) (mo:zu),m=l.length-i/\i<=l.length/\zlu mo seen/\okP l=zic seen (zfv l i) (l.drop i)/\s.tm 0=psv p l/\s.tm 3=.map 0/\s.tm 4=iv i/\s.df=[]/\s.H=[mo]) (n:=l.length) ?_ ?_)
 ·exact⟨0,[],.map0,rfl,zAU9 _,.inl ⟨rfl,rfl⟩,(zre l).symm,by simp[upd,zB],by simp[upd],by simp[upd],rfl,rfl⟩
 ·rintro m ⟨tm,df,H⟩ ⟨i,seen,mo,rfl,hi,hs,hd,h0,h3,h4,rfl,rfl⟩;dsimp only at h0 h3 h4;(try refine zaa ?_);refine ze (zb ?_);refine zfx ?_ (by simp(disch:=omega)only[go_sem,h0,h4,zAA9]<;>rfl);refine zd ?_;refine zae (by simp only[go_sem]<;>rfl) ?_ ?_;rotate_left
  ·intro hlt;have hlt:¬i<l.length:=by have:=of_decide_eq_false hlt;omega
   obtain rfl:i=l.length:=by omega
   simp only[zg,zj,zh,zi,zo,zk,if_true,reduceIte];(repeat(first|refine ze ?_|refine zgo ?_));refine zF ?_;(try simp only[zg,zj,zh,zi,zk]);refine zq (by simp only[T53,zI,go_sem]<;>rfl) ?_;simp only[zP];refine zbo.bool ?_;rw[hd,zCW9];rfl
  intro hlt;have hlt:i<l.length:=by have:=of_decide_eq_true hlt;omega
  obtain⟨x,hx⟩:∃x,l[i]?=some x:=⟨_,zAB9 hlt⟩
  have hxv:(l.map pv)[i]?=some (pv x):=by rw[zAL9,hx];rfl
  have hdx:l.drop i=x::l.drop (i+1):=by rw[zBB9 hlt];obtain⟨_,e⟩:=zAD9.1 hx;rw[e]
  rw[hdx,zic]at hd;have hpk:some x.1=zfv l (i+1):=by unfold zfv;rw[if_neg (by omega),zEZ9,zAQ9,hx];rfl
  rw[hpk]at hd;(repeat refine ze ?_);refine zK ?_;(repeat refine ze ?_);refine zbN (Q:=fun y s'=>y=.norm/\s'.tm 46=.bool (!zdv seen (zfv l i) x)/\s'.tm 0=psv p l/\s'.tm 3=.map 0/\s'.tm 4=iv i/\s'.df=[]/\s'.H=[mo]) (zap ?_) ?_
  ·by_cases b0:(decide (1<=x.2)&&decide (x.2<=1099511627776))=true
   rotate_left
   ·have b0:(decide (1<=x.2)&&decide (x.2<=1099511627776))=false:=by simpa using b0
    refine zdn (zcU x.2) ?_ (by simp(disch:=omega)only[go_sem,h0,h3,h4,hxv,hlt,zAA9,b0]<;>rfl);refine zdl ?_ (by simp(disch:=omega)only[go_sem,h0,h3,h4,hxv,hlt,zAA9,b0]<;>rfl);refine zR ?_;simp only[zo,zW,zg,go_sem];exact⟨by simp[zdv,b0],h0,h3,h4⟩
   have b1:1<=x.2:=by simp at b0;exact b0.1
   have b2:x.2<=1099511627776:=by simp at b0;exact b0.2
   by_cases b3:i=0
   ·subst b3;rcases hs with⟨rfl,rfl⟩|⟨mm,rfl,hmm⟩
    ·skip
     refine zdn (zcU x.2) ?_ (by simp(disch:=omega)only[go_sem,h0,h3,h4,hxv,hlt,zAA9,b0]<;>rfl);refine zdl ?_ (by simp(disch:=omega)only[go_sem,h0,h3,h4,hxv,hlt,zAA9,b0]<;>rfl);refine zR ?_;simp only[zo,zW,zg,go_sem];exact⟨by simp[zdv,b1,b2,zfv,zed],h0,h3,h4⟩
    ·have hq:=hmm x.2
     by_cases hc:seen.contains x.2=true
     ·rw[if_pos hc]at hq;have hc2:x.2∈seen:=by simpa using hc
      refine zdn (zcU x.2) ?_ (by simp(disch:=omega)only[go_sem,h0,h3,h4,hxv,hlt,zAA9,b0,hq]<;>rfl);refine zdl ?_ (by simp(disch:=omega)only[go_sem,h0,h3,h4,hxv,hlt,zAA9,b0,hq]<;>rfl);refine zR ?_;simp only[zo,zW,zg,go_sem];exact⟨by simp[zdv,b1,b2,zfv,zed,hc2],h0,h3,h4⟩
     ·rw[if_neg hc]at hq;have hc2:¬x.2∈seen:=by simpa using hc
      refine zdn (zcU x.2) ?_ (by simp(disch:=omega)only[go_sem,h0,h3,h4,hxv,hlt,zAA9,b0,hq]<;>rfl);refine zdl ?_ (by simp(disch:=omega)only[go_sem,h0,h3,h4,hxv,hlt,zAA9,b0,hq]<;>rfl);refine zR ?_;simp only[zo,zW,zg,go_sem];exact⟨by simp[zdv,b1,b2,zfv,zed,hc2],h0,h3,h4⟩
   have hi0:(0:Int)<(i:Int):=by omega
   have hi1:IntKind.i64.wrap ((i:Int)-1)=((i-1:Nat):Int):=by rw[wrap_i64 (by omega) (by omega)];omega
   have hil:i-1<l.length:=by omega
   have hpv:(l.map pv)[i-1]?=some (pv (l.getD (i-1) (0,0))):=by rw[zAL9,get_lt l hil];rfl
   have hpk2:zfv l i=some (l.getD (i-1) (0,0)).1:=by unfold zfv;rw[if_neg b3]
   generalize l.getD (i-1) (0,0)=pr at hpv hpk2
   by_cases b4:pr.1<x.1
   ·have hkey:¬((x.1:Nat):Int)<=(pr.1:Nat):=by omega
    rcases hs with⟨rfl,rfl⟩|⟨mm,rfl,hmm⟩
    ·skip
     refine zdn (zcU x.2) ?_ (by simp(disch:=omega)only[go_sem,h0,h3,h4,hxv,hlt,zAA9,b0,hi0,hi1,hil,hpv,hkey]<;>rfl);refine zdl ?_ (by simp(disch:=omega)only[go_sem,h0,h3,h4,hxv,hlt,zAA9,b0,hi0,hi1,hil,hpv,hkey]<;>rfl);refine zR ?_;simp only[zo,zW,zg,go_sem];exact⟨by simp[zdv,b1,b2,hpk2,zed,b4],h0,h3,h4⟩
    ·have hq:=hmm x.2
     by_cases hc:seen.contains x.2=true
     ·rw[if_pos hc]at hq;have hc2:x.2∈seen:=by simpa using hc
      refine zdn (zcU x.2) ?_ (by simp(disch:=omega)only[go_sem,h0,h3,h4,hxv,hlt,zAA9,b0,hi0,hi1,hil,hpv,hkey,hq]<;>rfl);refine zdl ?_ (by simp(disch:=omega)only[go_sem,h0,h3,h4,hxv,hlt,zAA9,b0,hi0,hi1,hil,hpv,hkey,hq]<;>rfl);refine zR ?_;simp only[zo,zW,zg,go_sem];exact⟨by simp[zdv,b1,b2,hpk2,zed,b4,hc2],h0,h3,h4⟩
     ·rw[if_neg hc]at hq;have hc2:¬x.2∈seen:=by simpa using hc
      refine zdn (zcU x.2) ?_ (by simp(disch:=omega)only[go_sem,h0,h3,h4,hxv,hlt,zAA9,b0,hi0,hi1,hil,hpv,hkey,hq]<;>rfl);refine zdl ?_ (by simp(disch:=omega)only[go_sem,h0,h3,h4,hxv,hlt,zAA9,b0,hi0,hi1,hil,hpv,hkey,hq]<;>rfl);refine zR ?_;simp only[zo,zW,zg,go_sem];exact⟨by simp[zdv,b1,b2,hpk2,zed,b4,hc2],h0,h3,h4⟩
   ·have hkey:((x.1:Nat):Int)<=(pr.1:Nat):=by omega
    refine zdn (zcU x.2) ?_ (by simp(disch:=omega)only[go_sem,h0,h3,h4,hxv,hlt,zAA9,b0,hi0,hi1,hil,hpv,hkey]<;>rfl);refine zdl ?_ (by simp(disch:=omega)only[go_sem,h0,h3,h4,hxv,hlt,zAA9,b0,hi0,hi1,hil,hpv,hkey]<;>rfl);refine zR ?_;simp only[zo,zW,zg,go_sem];exact⟨by simp[zdv,b1,b2,hpk2,zed,b4],h0,h3,h4⟩
  clear h0 h3 h4;rintro y ⟨tm,df,H⟩ ⟨rfl,h46,h0,h3,h4,rfl,rfl⟩;dsimp only at h46 h0 h3 h4;simp only[zg,zj,zh,zi,zo,zk,if_true,reduceIte]
  by_cases hst:zdv seen (zfv l i) x=true
  rotate_left
  ·have hst:zdv seen (zfv l i) x=false:=by simpa using hst
   refine zfc ?_ ?_ (by simp only[go_sem,h46]<;>rfl)
   ·intro _;(repeat(first|refine ze ?_|refine zgo ?_));refine zF ?_;(try simp only[zg,zj,zh,zi,zk]);refine zq (by simp only[T53,zI,go_sem]<;>rfl) ?_;simp only[zP];refine zbo.bool ?_;rw[hd,hst];rfl
   ·rw[hst];intro h;cases h
  rw[hst,zBW9]at hd;refine zfc ?_ ?_ (by simp only[go_sem,h46]<;>rfl)
  ·rw[hst];intro h;cases h
  intro _;refine zQ ?_;show W _ _ _ _ _ _;rcases hs with⟨rfl,rfl⟩|⟨mm,rfl,hmm⟩
  ·(repeat refine ze ?_);refine zrg ?_ (by simp(disch:=omega)only[go_sem,h0,h3,h4,hxv,hlt,zAA9]<;>rfl);refine zG ?_;simp only[zg,zj,zh,zi,zo,zk,if_true,↓reduceIte];(repeat refine ze ?_);refine zrg ?_ (by simp(disch:=omega)only[go_sem,h4]<;>rfl);refine zG ?_;simp only[zg,zj,zh,zi,zo,zk,if_true,↓reduceIte];refine⟨_,?m1,i+1,[x.2],_,rfl,hlt,.inr ⟨_,rfl,fun q=>?_⟩,hd,by simp[upd,h0],by simp[upd,h3],by simp[upd,h4],trivial,rfl⟩
   case m1=>omega
   by_cases hq:q=x.2
   ·subst hq;simp
   ·have:¬(q:Int)=x.2:=by omega
    simp[hq,this]
  ·(repeat refine ze ?_);refine zrg ?_ (by simp(disch:=omega)only[go_sem,h0,h3,h4,hxv,hlt,zAA9]<;>rfl);refine zG ?_;simp only[zg,zj,zh,zi,zo,zk,if_true,↓reduceIte];(repeat refine ze ?_);refine zrg ?_ (by simp(disch:=omega)only[go_sem,h4]<;>rfl);refine zG ?_;simp only[zg,zj,zh,zi,zo,zk,if_true,↓reduceIte];refine⟨_,?m2,i+1,x.2::seen,_,rfl,hlt,.inr ⟨_,rfl,fun q=>?_⟩,hd,by simp[upd,h0],by simp[upd,h3],by simp[upd,h4],trivial,rfl⟩
   case m2=>omega
   by_cases hq:q=x.2
   ·subst hq;simp
   ·have:¬(q:Int)=x.2:=by omega
    rw[if_neg this,hmm q];simp[hq]
theorem f72:ET.funcs.get 72=some T72:=z9 (by kernel_rfl) (by decide)
theorem ziA (p:Nat)(n:zE)(h1:n.level<=12)(h2:n.sib<2048)(h3:n.way<=2)(hp:n.pairs.length<=27):FN ET 72 [za7 p n] (.ret (wv 0 (zbB n))):=by
 refine zfn f72 (Lb.uvs _) ?_;have e0:(7522529147838689024:Int)+(n.level:Int)=((7522529147838689024+n.level:Nat):Int):=by omega
 have g:∀k,k<64->∃v,((zb4 n k).map uv)[k]?=some v:=fun k hk=>⟨_,zAB9 (by rw[zAA9,zjJ];exact hk)⟩
 have s:∀k,(zb4 n (k+1)).map uv=((zb4 n k).map uv).set k (uv (zrA k n)):=fun k=>by rw[show zb4 n (k+1)=(zb4 n k).set k (zrA k n)from rfl,zES9]
 obtain⟨v0,g0⟩:=g 0 (by decide);obtain⟨v1,g1⟩:=g 1 (by decide);obtain⟨v2,g2⟩:=g 2 (by decide);obtain⟨v3,g3⟩:=g 3 (by decide);obtain⟨v4,g4⟩:=g 4 (by decide);have s0:((zb4 n 0).map uv).set 0 (.int .u64 ((7522529147838689024+n.level:Nat):Int))=(zb4 n 1).map uv:=(s 0).symm;have s1:((zb4 n 1).map uv).set 1 (.int .u64 (n.sib:Int))=(zb4 n 2).map uv:=(s 1).symm;have s2:((zb4 n 2).map uv).set 2 (.int .u64 (n.low:Int))=(zb4 n 3).map uv:=(s 2).symm;have s3:((zb4 n 3).map uv).set 3 (.int .u64 (n.left:Int))=(zb4 n 4).map uv:=(s 3).symm;have s4:((zb4 n 4).map uv).set 4 (.int .u64 (n.way:Int))=(zb4 n 5).map uv:=(s 4).symm;(repeat refine ze ?_);(repeat refine ze ?_);refine zrg ?_;refine zd ?_;(repeat refine ze ?_);(repeat refine ze ?_);refine zrg ?_;refine zd ?_;have h00:List.replicate 64 (PV.int .u64 0)=(zb4 n 0).map uv:=by rw[show zb4 n 0=List.replicate 64 0 from rfl,List.map_replicate];rfl
 rw[h00];generalize hL0:(zb4 n 0).map uv=L0 at *
 generalize hL1:(zb4 n 1).map uv=L1 at *
 generalize hL2:(zb4 n 2).map uv=L2 at *
 generalize hL3:(zb4 n 3).map uv=L3 at *
 generalize hL4:(zb4 n 4).map uv=L4 at *
 generalize hL5:(zb4 n 5).map uv=L5 at *
 (repeat refine ze ?_);refine zap ?_;refine zda ?_ (by simp(disch:=omega)only[go_sem,e0,g0,s0]<;>rfl);refine zda ?_ (by simp(disch:=omega)only[go_sem,g1,s1]<;>rfl);refine zda ?_ (by simp(disch:=omega)only[go_sem,g2,s2]<;>rfl);refine zda ?_ (by simp(disch:=omega)only[go_sem,g3,s3]<;>rfl);refine zda ?_ (by simp(disch:=omega)only[go_sem,g4,s4]<;>rfl);refine zdl ?_ (by simp(disch:=omega)only[go_sem,e0]<;>rfl);refine zR ?_;simp only[zo,zW,zg,go_sem];(repeat(first|refine ze ?_|refine zgo ?_));subst hL5;refine zK (zbd (fun m s=>∃(j:Nat) (G:List zu),m=n.pairs.length-j/\j<=n.pairs.length/\s.tm 1=.ptr 0 0 0 0 6/\s.tm 3=.sl 1 0 0 64 128 1/\s.tm 4=iv j/\s.df=[]/\s.H=.row 124 6 0 0 [za7 p n]::.row 24 1 0 0 ((zcV n j).map uv)::G) (n:=n.pairs.length) ?_ ?_)
 ·exact⟨0,_,rfl,zAU9 _,by simp[upd],by simp[upd],by simp[upd],rfl,rfl⟩
 ·rintro m ⟨tm,df,H⟩ ⟨j,G,rfl,hj,t1,t3,t4,rfl,rfl⟩;dsimp only at t1 t3 t4;(try refine zaa ?_);refine ze (zb ?_);refine zfx ?_ (by simp(disch:=omega)only[go_sem,t1,t3,t4,zAA9]<;>rfl);refine zd ?_;refine zae (by simp only[go_sem]<;>rfl) ?_ ?_
  ·intro hlt;have hlt:j<n.pairs.length:=by have:=of_decide_eq_true hlt;omega
   have hpj:(n.pairs.map pv)[j]?=some (pv (n.pairs.getD j (0,0))):=by rw[zAL9,get_lt _ hlt];rfl
   obtain⟨o1,ho1⟩:∃old,(zcV n j)[8+2*j]?=some old:=⟨_,zAB9 (by rw[zeU];omega)⟩
   obtain⟨o2,ho2⟩:∃old,((zcV n j).set (8+2*j) (n.pairs.getD j (0,0)).1)[8+2*j+1]?=some old:=⟨_,zAB9 (by rw[zCN9,zeU];omega)⟩
   have w1:IntKind.i64.wrap (2*(j:Int))=((2*j:Nat):Int):=by rw[wrap_i64 (by omega) (by omega)];omega
   have w2:IntKind.i64.wrap (8+((2*j:Nat):Int))=((8+2*j:Nat):Int):=by rw[wrap_i64 (by omega) (by omega)];omega
   have w3:IntKind.i64.wrap (9+((2*j:Nat):Int))=((8+2*j+1:Nat):Int):=by rw[wrap_i64 (by omega) (by omega)];omega
   have c1:8+2*j<64:=by omega
   have c2:8+2*j+1<64:=by omega
   have z1:((zcV n j).map uv)[8+2*j]?=some (uv o1):=by rw[zAL9,ho1];rfl
   have z2:(((zcV n j).set (8+2*j) (n.pairs.getD j (0,0)).1).map uv)[8+2*j+1]?=some (uv o2):=by rw[zAL9,ho2];rfl
   have y1:((zcV n j).map uv).set (8+2*j) (.int .u64 ((n.pairs.getD j (0,0)).1:Int))=((zcV n j).set (8+2*j) (n.pairs.getD j (0,0)).1).map uv:=zES9.symm;have y2:(((zcV n j).set (8+2*j) (n.pairs.getD j (0,0)).1).map uv).set (8+2*j+1) (.int .u64 ((n.pairs.getD j (0,0)).2:Int))=(zcV n (j+1)).map uv:=zES9.symm;generalize n.pairs.getD j (0,0)=q at *
   generalize (zcV n j).map uv=K0 at *
   generalize ((zcV n j).set (8+2*j) q.1).map uv=K1 at *
   (repeat refine ze ?_);refine zK ?_;(repeat refine ze ?_);refine zap ?_;refine zda ?_ (by simp(disch:=omega)only[go_sem,t1,t3,t4,hpj,hlt,w1,w2,w3,c1,c2,z1,y1]<;>rfl);refine zda ?_ (by simp(disch:=omega)only[go_sem,t1,t3,t4,hpj,hlt,w1,w2,w3,c1,c2,z2,y2]<;>rfl);refine zdl ?_ (by simp(disch:=omega)only[go_sem,t3]<;>rfl);refine zR ?_;simp only[zo,zW,zg,go_sem];(repeat refine ze ?_);refine zrg ?_ (by simp(disch:=omega)only[go_sem,t4]<;>rfl);refine zG ?_;simp only[zg,zj,zh,zi,zo,zk,if_true,↓reduceIte];refine⟨_,?m2,j+1,G,rfl,hlt,by simp[upd,t1],by simp[upd,t3],by simp[upd,t4],trivial,rfl⟩
   case m2=>omega
  ·intro hlt;have hlt:¬j<n.pairs.length:=by have:=of_decide_eq_false hlt;omega
   obtain rfl:j=n.pairs.length:=by omega
   simp only[zg,zj,zh,zi,zo,zk,if_true,reduceIte];(repeat(first|refine ze ?_|refine zgo ?_ (by simp(disch:=omega)only[go_sem,t3]<;>rfl)));refine zF ?_;(try simp only[zg,zj,zh,zi,zk]);refine zq (by simp only[T72,zI,go_sem]<;>rfl) ?_;simp only[zP];refine Frz.whole (l:=(zcV n n.pairs.length).map uv) rfl rfl (by simp[zeU]) (by simp[zeU]) (fun v hv=>?_) zki;obtain⟨x,_,rfl⟩:=zAS9.1 hv;rfl
theorem f28:ET.funcs.get 28=some T28:=z9 (by kernel_rfl) (by decide)
theorem Frz.wholeM {H:List zu}{lab id e z z' G M o n q:Nat}{l:List PV}(hH:H[id]?=some (.row e z' G M l))(hM:M<=G)(ho:o=0)(hl:n=l.length)(hq:2*l.length<=q)(hz:∀v∈l,v.cells.length=z)(hs:∀v∈l.flatMap PV.cells,Id0 v) :
  Frz H lab (.sl id G o n q z) (.list lab z l):=by
 subst ho hl;refine .sl hH hM (zAK9 _) (by omega) hq rfl hz (by simp) fun i x y hx hy=>?_;have:x=y:=by
  simp at hx;rw[hx]at hy;injection hy
 subst this;exact(hs _ (zAO9 hy)).frz
@[reducible] def zb5 (n:zE) (pvl:PV):PV:=.agg [iv n.level,iv n.sib,uv n.low,uv n.left,iv n.way,pvl]
def zfC (H:List zu)(pvl:PV)(ps:List Pr):Prop:=(pvl=.nilsl/\ps=[])\/∃id g,pvl=.sl id g 0 ps.length (2*ps.length) 2/\H[id]?=some (.row 66 2 g 0 (ps.map pv))
def zdC:PV->Option Nat
 | .sl id _ _ _ _ _=>some id
 | _=>none
structure Lvl (H:List zu)(vs:List PV)(ps:List PV)(nodes:List zE):Prop where
 lenV:vs.length=nodes.length
 lenP:ps.length=nodes.length
 val:∀(q:Nat) (n:zE) (p:PV),nodes[q]?=some n->ps[q]?=some p->vs[q]?=some (zb5 n p)/\zfC H p n.pairs
 dist:∀(q r:Nat) (x y:PV) (a:Nat),ps[q]?=some x->ps[r]?=some y->zdC x=some a->zdC y=some a->q=r
def isP:zu->Prop
 | .row e _ _ _ _=>e=66
 | _=>False
theorem zfC.keep {H H':List zu}{p:PV}{ps:List Pr}(h:zfC H p ps)(k:∀(id:Nat) (o:zu),zdC p=some id->isP o->H[id]?=some o->H'[id]?=some o):zfC H' p ps:=by
 rcases h with h|⟨id,g,rfl,h2⟩
 ·exact .inl h
 ·exact .inr ⟨id,g,rfl,k id _ rfl rfl h2⟩
theorem Lvl.keep {H H':List zu}{vs ps:List PV}{nodes:List zE}(h:Lvl H vs ps nodes)(k:∀(id:Nat) (o:zu),isP o->H[id]?=some o->H'[id]?=some o):Lvl H' vs ps nodes :=
 ⟨h.lenV,h.lenP,fun q n p hn hp=>⟨(h.val q n p hn hp).1,(h.val q n p hn hp).2.keep fun id o _ ho hi=>k id o ho hi⟩,h.dist⟩
theorem Lvl.nil (H:List zu):Lvl H [] [] []:=⟨rfl,rfl,fun q n p h=>by simp at h,fun q r x y a h=>by simp at h⟩
theorem Lvl.snoc {H:List zu}{vs ps:List PV}{nodes:List zE}(h:Lvl H vs ps nodes)(n:zE)(hn:n.pairs=[]):Lvl H (vs++[zb5 n .nilsl]) (ps++[.nilsl]) (nodes++[n]):=by
 refine⟨by simp[h.lenV],by simp[h.lenP],fun q m p hm hp=>?_,fun q r x y a hx hy ha hb=>?_⟩
 ·rcases zCM9 q nodes.length with hq|hq
  ·rw[zAP9 hq]at hm;rw[zAP9 (by rw[h.lenP];exact hq)]at hp;rw[zAP9 (by rw[h.lenV];exact hq)];exact h.val q m p hm hp
  ·rw[zAN9 hq]at hm;rw[zAN9 (by rw[h.lenP];exact hq)]at hp;rw[zAN9 (by rw[h.lenV];exact hq)];rw[h.lenP]at hp;rw[h.lenV];obtain rfl:=zBH9.1 (zAO9 hm);obtain rfl:=zBH9.1 (zAO9 hp);have h0:q-nodes.length=0:=by have:=(zAD9.1 hm).1;simp at this;omega
   rw[h0];exact⟨rfl,.inl ⟨rfl,hn⟩⟩
 ·have hl:∀(s:Nat) (z:PV),(ps++[PV.nilsl])[s]?=some z->zdC z=some a->ps[s]?=some z:=fun s z hz he=>by
   rcases zCM9 s ps.length with hs|hs
   ·rwa [zAP9 hs]at hz
   ·rw[zAN9 hs]at hz;obtain rfl:=zBH9.1 (zAO9 hz);simp[zdC]at he
  exact h.dist q r x y a (hl q x hx ha) (hl r y hy hb) ha hb
theorem Lvl.last {H H':List zu}{vf pf:List PV}{front:List zE}{v p p':PV}{nd nd':zE}(h:Lvl H (vf++[v]) (pf++[p]) (front++[nd]))(hlv:vf.length=front.length)(hlp:pf.length=front.length)
  (hp':zfC H' p' nd'.pairs) (hd:∀a,zdC p'=some a->zdC p=some a\/H.length<=a) (k:∀(id:Nat) (o:zu),isP o->H[id]?=some o->H'[id]?=some o\/zdC p=some id):Lvl H' (vf++[zb5 nd' p']) (pf++[p']) (front++[nd']):=by
 have hlast:(pf++[p])[front.length]?=some p:=by rw[<- hlp];simp
 have hpq:∀(q:Nat) (x:PV),q<front.length->pf[q]?=some x->(pf++[p])[q]?=some x:=fun q x hq hx=>by rw[zAP9 (by omega)];exact hx
 have hbound:∀(q:Nat) (x:PV) (a:Nat),q<front.length->pf[q]?=some x->zdC x=some a->a<H.length:=fun q x a hq hx ha=>by
  obtain⟨n,hn⟩:∃n,front[q]?=some n:=⟨_,zAB9 hq⟩
  have:=(h.val q n x (by rw[zAP9 hq];exact hn) (hpq q x hq hx)).2;rcases this with⟨rfl,_⟩|⟨id,g,rfl,h2⟩
  ·simp[zdC]at ha
  ·simp[zdC]at ha;subst ha;exact(zAD9.1 h2).1
 refine⟨by simp[hlv],by simp[hlp],fun q m x hm hx=>?_,fun q r x y a hx hy ha hb=>?_⟩
 ·rcases zCM9 q front.length with hq|hq
  ·rw[zAP9 hq]at hm;rw[zAP9 (by omega)]at hx;rw[zAP9 (by omega)];have hv:=h.val q m x (by rw[zAP9 hq];exact hm) (hpq q x hq hx);rw[zAP9 (by omega)]at hv;refine⟨hv.1,hv.2.keep fun id o he ho hi=>?_⟩;rcases k id o ho hi with h1|h1
   ·exact h1
   ·exact absurd (h.dist q front.length x p id (hpq q x hq hx) hlast he h1) (by omega)
  ·rw[zAN9 hq]at hm;rw[zAN9 (by omega)]at hx;rw[zAN9 (by omega)];have h0:q-front.length=0:=by have:=(zAD9.1 hm).1;simp at this;omega
   rw[h0]at hm;rw[hlp,h0]at hx;rw[hlv,h0];injection hm with hm;injection hx with hx;subst hm hx;exact⟨rfl,hp'⟩
 ·have hcase:∀(s:Nat) (z:PV),(pf++[p'])[s]?=some z->(s<front.length/\pf[s]?=some z)\/(s=front.length/\z=p'):=fun s z hz=>by
   rcases zCM9 s front.length with hs|hs
   ·rw[zAP9 (by omega)]at hz;exact .inl ⟨hs,hz⟩
   ·rw[zAN9 (by omega)]at hz;have h0:s-pf.length=0:=by have:=(zAD9.1 hz).1;simp at this;omega
    rw[h0]at hz;injection hz with hz;exact .inr ⟨by omega,hz.symm⟩
  have key:∀(s:Nat) (z:PV),s<front.length->pf[s]?=some z->zdC z=some a->zdC p'=some a->False:=fun s z hs hz he hp=>by
   rcases hd a hp with h1|h1
   ·exact absurd (h.dist s front.length z p a (hpq s z hs hz) hlast he h1) (by omega)
   ·have:=hbound s z a hs hz he;omega
  rcases hcase q x hx with⟨h1,h2⟩|⟨h1,h2⟩
  ·rcases hcase r y hy with⟨h3,h4⟩|⟨h3,h4⟩
   ·exact h.dist q r x y a (hpq q x h1 h2) (hpq r y h3 h4) ha hb
   ·rw[h4]at hb;exact(key q x h1 h2 ha hb).elim
  ·rcases hcase r y hy with⟨h3,h4⟩|⟨h3,h4⟩
   ·rw[h2]at ha;exact(key r y h3 h4 hb ha).elim
   ·omega
theorem zhL (ks:List Pr)(m j:Nat)(h:j<m)(hm:m<=ks.length):(ks.take m).getD j (0,0)=ks.getD j (0,0):=by
 rw[zAQ9,zAQ9,zBF9,if_pos h]
theorem zlp (k:Nat)(ks:List Pr)(m j:Nat)(h:k*j+k<=m):((ks.take m).drop (k*j)).take k=(ks.drop (k*j)).take k:=by
 rw[zFA9,zFB9,zDE9 (by omega)]
theorem zl9 (k:Nat)(ks:List Pr)(m j:Nat)(h:m<=k*j+k):((ks.take m).drop (k*j)).take k=(ks.drop (k*j)).take (m-k*j):=by
 rw[zFA9,zFB9,Nat.min_eq_right (by omega)]
def zcG (n:zE)(l:List Pr):zE:={ n with pairs:=l }
def zmq (lv i:Nat)(x:Pr)(L:List zE):List zE:=if i%19=0 then L++[⟨lv,0,x.1,x.2,0,[]⟩]else
 match L.getLast? with
 | some n=>L.dropLast++[zcG n (n.pairs++[x])]
 | none=>L
theorem zni (lv:Nat)(ks:List Pr)(m c:Nat)(hm:m<=ks.length)(hc:19*c<=m):(List.range c).map (zc9 lv (ks.take m))=(List.range c).map (zc9 lv ks):=by
 refine zEH9 fun j hj=>?_;have hj:j<c:=zCZ9.1 hj;unfold zc9;rw[zhL ks m _ (by omega) hm,zlp 19 ks m j (by omega)]
theorem zsF (lv:Nat)(ks:List Pr)(m c:Nat)(hm:m<=ks.length)(h1:19*c<m)(h2:m<=19*c+19):zc9 lv (ks.take m) c=⟨lv,0,(ks.getD (19*c) (0,0)).1,(ks.getD (19*c) (0,0)).2,0,((ks.drop (19*c)).take (m-19*c)).drop 1⟩:=by
 unfold zc9;rw[zhL ks m _ h1 hm,zl9 19 ks m c h2]
theorem zh1 (lv:Nat)(ks:List Pr)(m c:Nat)(hm:m<=ks.length)(h1:19*c<m)(h2:m<=19*c+19):zco lv (ks.take m)=(List.range c).map (zc9 lv ks)++[⟨lv,0,(ks.getD (19*c) (0,0)).1,(ks.getD (19*c) (0,0)).2,0,((ks.drop (19*c)).take (m-19*c)).drop 1⟩]:=by
 unfold zco;have:(zid 19 (ks.take m)).length=c+1:=by rw[zfm,zBA9,zDE9 hm];omega
 rw[this,zDX9,zBY9,zni lv ks m c hm (by omega)];simp only[zCI9,zBQ9];rw[zsF lv ks m c hm h1 h2]
theorem zrF (lv:Nat)(ks:List Pr)(i:Nat)(hi:i<ks.length):zco lv (ks.take (i+1))=zmq lv i (ks.getD i (0,0)) (zco lv (ks.take i)):=by
 unfold zmq
 by_cases h:i%19=0
 ·rw[if_pos h];obtain⟨c,rfl⟩:∃c,i=19*c:=⟨i/19,by omega⟩
  rw[zh1 lv ks (19*c+1) c (by omega) (by omega) (by omega)];have e:zco lv (ks.take (19*c))=(List.range c).map (zc9 lv ks):=by
   unfold zco;have:(zid 19 (ks.take (19*c))).length=c:=by rw[zfm,zBA9,zDE9 (by omega)];omega
   rw[this,zni lv ks (19*c) c (by omega) (by omega)]
  rw[e];have:((ks.drop (19*c)).take (19*c+1-19*c)).drop 1=[]:=by
   apply zFG9;rw[zBA9];omega
  rw[this]
 ·rw[if_neg h];have hc1:19*(i/19)<i:=by omega
  rw[zh1 lv ks i (i/19) (by omega) hc1 (by omega),zh1 lv ks (i+1) (i/19) (by omega) (by omega) (by omega)];simp only[zEC9,zDM9,zcG]
  congr 3
  have e:i+1-19*(i/19)=(i-19*(i/19))+1:=by omega
  rw[e,zBN9,zFQ9 (by rw[zBA9,zCA9];omega)]
  congr 1
  rw[zBT9,show 19*(i/19)+(i-19*(i/19))=i by omega,get_lt ks hi];rfl
def zff (i:Nat)(x:Pr)(L:List zE):List zE:=if 0<i/\i%18=0 then L++[⟨0,0,x.1,9223372036854775808,0,[]⟩]else L
def znZ (x:Pr)(L:List zE):List zE:=match L.getLast? with
 | some n=>L.dropLast++[zcG n (n.pairs++[x])]
 | none=>L
theorem ztO (ks:List Pr)(m c:Nat)(hm:m<=ks.length)(hc:18*c<=m):(List.range c).map (zxw (ks.take m))=(List.range c).map (zxw ks):=by
 refine zEH9 fun j hj=>?_;have hj:j<c:=zCZ9.1 hj;unfold zxw;rw[zhL ks m _ (by omega) hm,zlp 18 ks m j (by omega)]
theorem zg0 (ks:List Pr)(m c:Nat)(hm:m<=ks.length)(h1:18*c<m\/(m=0/\c=0))(h2:m<=18*c+18):zb2 (ks.take m)=(List.range c).map (zxw ks)++[⟨0,0,if 0<c then(ks.getD (18*c) (0,0)).1 else 0,9223372036854775808,0,(ks.drop (18*c)).take (m-18*c)⟩]:=by
 rw[zgT,zBA9,zDE9 hm];have:max 1 ((m+17)/18)=c+1:=by omega
 rw[this,zDX9,zBY9,ztO ks m c hm (by omega)];simp only[zCI9,zBQ9]
 congr 2
 unfold zxw;rw[zl9 18 ks m c h2]
 by_cases hc:0<c
 ·rw[if_pos hc,if_pos hc,zhL ks m _ (by omega) hm]
 ·rw[if_neg hc,if_neg hc]
theorem zsK (ks:List Pr)(i:Nat)(hi:i<ks.length):zb2 (ks.take (i+1))=znZ (ks.getD i (0,0)) (zff i (ks.getD i (0,0)) (zb2 (ks.take i))):=by
 unfold zff
 by_cases h:0<i/\i%18=0
 ·rw[if_pos h];obtain⟨c,rfl⟩:∃c,i=18*(c+1):=⟨i/18-1,by omega⟩
  rw[zg0 ks (18*(c+1)+1) (c+1) (by omega) (by omega) (by omega),zg0 ks (18*(c+1)) c (by omega) (by omega) (by omega)];unfold znZ;simp only[zEC9,zDM9,zcG];rw[zDX9,zBY9];simp only[zCI9,zBQ9,zAI9]
  congr 2
  ·congr 2
   unfold zxw
   congr 1
   rw[show 18*(c+1)-18*c=18 by omega]
  ·rw[if_pos (zER9 _)]
   congr 1
   rw[show 18*(c+1)+1-18*(c+1)=1 by omega];rw[zBB9 hi,zFS9,zFV9,zAQ9,zAB9 hi];rfl
 ·rw[if_neg h];have hc1:18*(i/18)<i\/(i=0/\i/18=0):=by omega
  rw[zg0 ks i (i/18) (by omega) hc1 (by omega),zg0 ks (i+1) (i/18) (by omega) (by omega) (by omega)];unfold znZ;simp only[zEC9,zDM9,zcG]
  congr 3
  have e:i+1-18*(i/18)=(i-18*(i/18))+1:=by omega
  rw[e,zBN9]
  congr 1
  rw[zBT9,show 18*(i/18)+(i-18*(i/18))=i by omega,get_lt ks hi];rfl
theorem f73:ET.funcs.get 73=some T73:=z9 (by kernel_rfl) (by decide)
def zet (H H':List zu):Prop:=∀(id:Nat) (o:zu),H[id]?=some o->H'[id]?=some o
theorem zet.refl (H:List zu):zet H H:=fun _ _ h=>h
theorem zet.app {H Hc:List zu}(h:zet H Hc)(X:List zu):zet H (Hc++X):=fun id o ho=>by
 have:=h id o ho;rw[zAP9 (zAD9.1 this).1];exact this
theorem zet.set {H Hc:List zu}(h:zet H Hc){a:Nat}(ha:H.length<=a)(o':zu):zet H (Hc.set a o'):=fun id o ho=>by
 have hlt:=(zAD9.1 ho).1;rw[zAX9 (by omega)];exact h id o ho
theorem zbM {α:Type}{l X:List α}{i:Nat}{x:α}(h:l[i]?=some x):(l++X)[i]?=some x:=by
 rw[zAP9 (zAD9.1 h).1];exact h
theorem Lvl.other {H:List zu}{vs ps:List PV}{nodes:List zE}(h:Lvl H vs ps nodes){a:Nat}{o o':zu}(ha:H[a]?=some o)(ho:¬isP o)(X:List zu):Lvl ((H++X).set a o') vs ps nodes :=
 h.keep fun id q hq hi=>by
  have hne:a≠id:=fun e=>by subst e;rw[ha]at hi;injection hi with hi;subst hi;exact ho hq
  rw[zAX9 hne];exact zbM hi
theorem ziX {α:Type}{l:List α}(h:l ≠ []):∃f x,l=f++[x]:=⟨l.dropLast,l.getLast h,(List.dropLast_concat_getLast h).symm⟩
theorem zhD {α:Type}{l:List α}{n:Nat}(h:l.length=n+1):∃f x,l=f++[x]/\f.length=n:=by
 obtain⟨f,x,rfl⟩:=ziX (l:=l) (by intro e;rw[e]at h;simp at h);exact⟨f,x,rfl,by simpa using h⟩
theorem zsG {lv:Nat}{ks:List Pr}{n:zE}(h:n∈zco lv ks):n.pairs.length<=18:=by
 unfold zco at h;obtain⟨i,_,rfl⟩:=zAS9.1 h;show (((ks.drop (19*i)).take 19).drop 1).length<=18;rw[zCA9,zBA9];omega
set_option maxHeartbeats 4000000 in
theorem zrG (H:List zu)(i8 g8 M8 i13 g13:Nat)(vs8 ps8:List PV)(l:List zE)(bs:List Nat)(lv:Nat)(hr8:H[i8]?=some (.row 124 6 g8 M8 vs8))(hM8:M8<=g8)(hlv:Lvl H vs8 ps8 l)(hr13:H[i13]?=some (.row 3 1 g13 0 (bfl bs)))(hlen:bs.length=l.length)(hl:l.length<=1000)(hl0:∀n∈l,n.level=lv)(hlv12:lv<=12)(hb:∀b∈bs,b<2048) :
  FO ET 73 [.sl i8 g8 0 l.length (2*l.length) 6,.sl i13 g13 0 l.length (2*l.length) 1] H false (fun e H'=>zet H H'/\∃idL g M vs ps,e=.ret (.sl idL g 0 vs.length (2*vs.length) 6)/\M<=g/\H.length<=idL/\H'[idL]?=some (.row 124 6 g M vs)/\Lvl H' vs ps (zco (lv+1) ((l.map zE.low).zip bs))/\∀p∈ps,∀a,zdC p=some a->H.length<=a):=by
 refine zro f73 ?_;have hkl:((l.map zE.low).zip bs).length=l.length:=by simp[hlen]
 generalize hks:(l.map zE.low).zip bs=ks at *
 (repeat(first|refine ze ?_|refine zgo ?_));refine zcn 124 6 (i:=5) rfl ?_;simp only[lzy];refine zK (zbd (fun m s=>∃(i:Nat) (Hc:List zu) (idL g M:Nat) (vs ps:List PV),m=l.length-i/\i<=l.length/\zet H Hc/\M<=g/\Hc[idL]?=some (.row 124 6 g M vs)/\H.length<=idL/\Lvl Hc vs ps (zco (lv+1) (ks.take i))/\(∀p∈ps,∀a,zdC p=some a->H.length<=a)/\s.tm 0=.sl i8 g8 0 l.length (2*l.length) 6/\s.tm 1=.sl i13 g13 0 l.length (2*l.length) 1/\s.tm 5=.sl idL g 0 vs.length (2*vs.length) 6/\s.tm 6=iv i/\s.df=[]/\s.H=Hc) (n:=l.length) ?_ ?_)
 ·exact⟨0,_,H.length,0,0,[],[],rfl,zAU9 _,(zet.refl H).app _,zAK9 _,by simp,zAK9 _,(by rw[zFV9];exact Lvl.nil _),fun p hp=>by simp at hp,by simp[upd,zB],by simp[upd,zB],by simp[upd],by simp[upd],rfl,rfl⟩
 ·rintro m ⟨tm,df,Hc⟩ ⟨i,Hc',idL,g,M,vs,ps,rfl,hi,hst,hM,hL,hidL,hlvl,hids,h0,h1,h5,h6,rfl,rfl⟩;dsimp only at h0 h1 h5 h6;(try refine zaa ?_);refine ze (zb ?_);refine zfx ?_ (by simp(disch:=omega)only[go_sem,h0,h6]<;>rfl);refine zd ?_;refine zae (by simp only[go_sem]<;>rfl) ?_ ?_;rotate_left
  ·intro hlt;have hlt:¬i<l.length:=by have:=of_decide_eq_false hlt;omega
   obtain rfl:i=l.length:=by omega
   simp only[zg,zj,zh,zi,zo,zk,if_true,reduceIte];(repeat(first|refine ze ?_|refine zgo ?_ (by simp(disch:=omega)only[go_sem,h5]<;>rfl)));refine zF ?_;(try simp only[zg,zj,zh,zi,zk]);refine zq (by simp only[T73,zI,go_sem]<;>rfl) ?_;simp only[zP];rw[<- hkl,zBM9]at hlvl;exact⟨hst,idL,g,M,vs,ps,rfl,hM,hidL,hL,hlvl,hids⟩
  intro hlt;have hlt:i<l.length:=by have:=of_decide_eq_true hlt;omega
  obtain⟨x,hx⟩:∃x,l[i]?=some x:=⟨_,zAB9 hlt⟩
  obtain⟨b,hbb⟩:∃b,bs[i]?=some b:=⟨_,zAB9 (by omega)⟩
  obtain⟨px,hpx⟩:∃px,ps8[i]?=some px:=⟨_,zAB9 (by rw[hlv.lenP];exact hlt)⟩
  have hv8:=(hlv.val i x px hx hpx).1;have hbv:(bfl bs)[i]?=some (iv b):=by rw[zAL9,hbb];rfl
  have hbm:=hb b (zAO9 hbb);have hxl:=hl0 x (zAO9 hx);have hkx:ks.getD i (0,0)=(x.low,b):=by
   have:ks[i]?=some (x.low,b):=by rw[<- hks,zDJ9];exact⟨by rw[zAL9,hx];rfl,hbb⟩
   exact getD_some this
  have hstep:=zrF (lv+1) ks i (by omega);rw[hkx]at hstep;have h8:=hst i8 _ hr8;have h13:=hst i13 _ hr13;have hblen:(bfl bs).length=l.length:=by rw[zAA9,hlen]
  have r1:(i:Int).tmod 19=((i%19:Nat):Int):=rfl;have hal:(zco (lv+1) (ks.take i)).length<=1000:=by rw[zdD,zBA9];omega
  have hvl:=hlvl.lenV;(repeat refine ze ?_);refine zK ?_
  by_cases hm:i%19=0
  ·have g1:((i%19:Nat):Int)=0:=by omega
   have hl1:IntKind.i64.wrap ((x.level:Int)+1)=((lv+1:Nat):Int):=by rw[wrap_i64 (by omega) (by omega)];omega
   have hbb2:(vs.length+1)*65<=140737488355328:=by omega
   have hLX:∀X,(Hc++X)[idL]?=some (.row 124 6 g M vs):=fun X=>zbM hL;unfold zmq at hstep;rw[if_pos hm]at hstep;(repeat refine ze ?_);(repeat refine ze ?_);refine zgo ?_ (by simp(disch:=omega)only[go_sem,h6,zaF,r1,g1]<;>rfl);refine zfc ?_ ?_;rotate_left
   ·intro h;cases h
   intro _;(repeat refine ze ?_);refine zap ?_;refine zda ?_ (by simp(disch:=omega)only[go_sem,h0,h1,h5,h6,h8,h13,hL,hLX,hv8,hbv,hlt,hM8,hl1,hbb2,zf]<;>rfl);refine zdl ?_ (by simp(disch:=omega)only[go_sem,h0]<;>rfl);refine zR ?_;simp only[zo,zW,zg,go_sem];refine zgc ?_;simp only[zg,zj,zh,zi,zo,zk,if_true,reduceIte];(repeat refine ze ?_);refine zrg ?_ (by simp(disch:=omega)only[go_sem,h6]<;>rfl);refine zG ?_;simp only[zg,zj,zh,zi,zo,zk,if_true,↓reduceIte];refine⟨_,?m,i+1,_,idL,g+1,M,vs++[zb5 ⟨lv+1,0,x.low,b,0,[]⟩ .nilsl],ps++[.nilsl],rfl,hlt,(hst.app _).set hidL _,by omega,zBD9 (by rw[zAC9];have:=(zAD9.1 hL).1;omega),hidL,?L,?I,by simp[upd,h0],by simp[upd,h1],by simp[upd],by simp[upd,h6],trivial,rfl⟩
   case m=>omega
   case L=>rw[hstep];exact(hlvl.snoc _ rfl).other hL (fun h=>absurd (show (124:Nat)=66 from h) (by decide)) _
   case I =>
    intro p hp a ha;rcases zBK9.1 hp with hp|hp
    ·exact hids p hp a ha
    ·obtain rfl:=zBH9.1 hp;cases ha
  ·have g1:¬((i%19:Nat):Int)=0:=by omega
   have hne:(zco (lv+1) (ks.take i)).length≠0:=by rw[zdD,zBA9];omega
   obtain⟨front,nd,hfr⟩:=ziX (l:=zco (lv+1) (ks.take i)) (fun e=>hne (by rw[e];rfl));rw[hfr]at hlvl hstep hal;have hvl:=hlvl.lenV;have hpl:=hlvl.lenP;rw[zAC9]at hvl hpl;obtain⟨vf,v,rfl,hvf⟩:=zhD hvl;obtain⟨pf,p,rfl,hpf⟩:=zhD hpl;have hat:=hlvl.val front.length nd p (by simp) (by rw[<- hpf];simp);have hv:v=zb5 nd p:=by
    have h:=hat.1;rw[<- hvf,zAN9 (zAK9 _),Nat.sub_self]at h;injection h
   subst hv;have hpa:=hat.2;have hpid:=hids p (zDI9 _ (zBH9.2 rfl));unfold zmq at hstep;rw[if_neg hm]at hstep;simp only[zEC9,zDM9]at hstep;have hvfl:vf.length<=1000:=by rw[zAC9]at hal;omega
   have hsub:IntKind.i64.wrap (((vf.length+1:Nat):Int)-1)=(vf.length:Int):=by rw[wrap_i64 (by omega) (by omega)];omega
   have hvv:(vf++[zb5 nd p]).length=vf.length+1:=by simp
   have hvi:vf.length<vf.length+1:=zBR9 _;have hvg:(vf++[zb5 nd p])[vf.length]?=some (zb5 nd p):=by simp
   have hvs:∀y,(vf++[zb5 nd p]).set vf.length y=vf++[y]:=fun y=>by simp
   have hLX:∀X,(Hc++X)[idL]?=some (.row 124 6 g M (vf++[zb5 nd p])):=fun X=>zbM hL;rw[hvv]at h5;(repeat refine ze ?_);(repeat refine ze ?_);refine zgo ?_ (by simp(disch:=omega)only[go_sem,h6,zaF,r1,g1]<;>rfl);refine zfc ?_ ?_
   ·intro h;cases h
   intro _;refine zQ ?_;show W _ _ _ _ _ _;(repeat refine ze ?_);(repeat refine ze ?_);refine zgo ?_ (by simp(disch:=omega)only[go_sem,h5,hsub]<;>rfl);(repeat refine ze ?_);refine zap ?_;rcases hpa with⟨rfl,hnp⟩|⟨idp,gp,rfl,hrp⟩
   ·have hbb2:1*17<=140737488355328:=by omega
    have hLXY:∀X Y,(Hc++X++Y)[idL]?=some (.row 124 6 g M (vf++[zb5 nd .nilsl])):=fun X Y=>zbM (zbM hL);refine zda ?_ (by simp(disch:=omega)only[go_sem,h0,h1,h5,h6,h8,h13,hL,hLX,hM,hv8,hbv,hlt,hM8,hvg,hvi,zf]<;>rfl);refine zda ?_ (by simp(disch:=omega)only[go_sem,h0,h1,h5,h6,hL,hLX,hLXY,hM,hvg,hvi,hvs,zf]<;>rfl);refine zdl ?_ (by simp(disch:=omega)only[go_sem,h0]<;>rfl);refine zR ?_;simp only[zo,zW,zg,go_sem];simp only[zg,zj,zh,zi,zo,zk,if_true,reduceIte];(repeat refine ze ?_);refine zrg ?_ (by simp(disch:=omega)only[go_sem,h6]<;>rfl);refine zG ?_;simp only[zg,zj,zh,zi,zo,zk,if_true,↓reduceIte];have hlc:idL<Hc.length:=(zAD9.1 hL).1;refine⟨_,?m,i+1,_,idL,g,g,vf++[zb5 (zcG nd (nd.pairs++[(x.low,b)])) (.sl (Hc.length+1) 0 0 1 2 2)],pf++[.sl (Hc.length+1) 0 0 1 2 2],rfl,hlt,((hst.app _).app _).set hidL _,zAK9 _,?G,hidL,?L,?I,by simp[upd,h0],by simp[upd,h1],by simp[upd,h5],by simp[upd,h6],trivial,rfl⟩
    case m=>omega
    case G =>
     rw[zBD9 (by simp only[zAC9,zAE9,zAG9];omega)];simp[zcG]
    case L =>
     rw[hstep];refine hlvl.last hvf hpf ?_ (fun a ha=>?_) (fun id o ho hi=>?_)
     ·refine .inr ⟨Hc.length+1,0,by simp[zcG,hnp],?_⟩;rw[zAX9 (by omega)];simp[zcG,hnp]
     ·right
      have:Hc.length+1=a:=by simpa[zdC]using ha
      show Hc.length<=a;omega
     ·left
      have hne:idL≠id:=fun e=>by subst e;rw[hL]at hi;injection hi with hi;subst hi;exact absurd (show (124:Nat)=66 from ho) (by decide)
      rw[zAX9 hne];exact zbM (zbM hi)
    case I =>
     intro p hp a ha;rcases zBK9.1 hp with hp|hp
     ·exact hids p (zEA9 _ hp) a ha
     ·obtain rfl:=zBH9.1 hp;have:Hc.length+1=a:=by simpa[zdC]using ha
      have:=zAD9.1 hL;omega
   ·have hkl2:nd.pairs.length<=18:=zsG (n:=nd) (by rw[hfr];exact zDI9 _ (zBH9.2 rfl));have hbb2:(nd.pairs.length+1)*17<=140737488355328:=by omega
    have hrX:∀X,(Hc++X)[idp]?=some (.row 66 2 gp 0 (nd.pairs.map pv)):=fun X=>zbM hrp;have hipl:idp<Hc.length:=(zAD9.1 hrp).1;have hidp:H.length<=idp:=hpid idp rfl;have d1:idL≠idp:=fun e=>by subst e;rw[hL]at hrp;injection hrp with hrp;injection hrp with hrp;cases hrp
    have d2:i8≠idp:=by have:=(zAD9.1 hr8).1;omega
    have d3:i13≠idp:=by have:=(zAD9.1 hr13).1;omega
    have d4:Hc.length≠idp:=by omega
    have b1:(idL==idp)=false:=by simpa using d1
    have b2:(i8==idp)=false:=by simpa using d2
    have b3:(i13==idp)=false:=by simpa using d3
    have b4:(Hc.length==idp)=false:=by simpa using d4
    have b1':(idp==idL)=false:=by simpa using d1.symm
    have b2':(idp==i8)=false:=by simpa using d2.symm
    have b3':(idp==i13)=false:=by simpa using d3.symm
    have b4':(idp==Hc.length)=false:=by simpa using d4.symm
    have hLS:∀X y,((Hc++X).set idp y)[idL]?=some (.row 124 6 g M (vf++[zb5 nd (.sl idp gp 0 nd.pairs.length (2*nd.pairs.length) 2)])):=fun X y=>by rw[zAX9 (fun e=>d1 e.symm)];exact zbM hL
    refine zda ?_ (by simp(disch:=omega)only[go_sem,h0,h1,h5,h6,h8,h13,hL,hLX,hM,hv8,hbv,hlt,hM8,hvg,hvi,hrX,hbb2,zf]<;>rfl);refine zda ?_ (by simp(disch:=omega)only[go_sem,h0,h1,h5,h6,hL,hLX,hLS,hM,hvg,hvi,hvs,zf,b1,b2,b3,b4,b1',b2',b3',b4']<;>rfl) (by first|exact trivial|simp only[go_sem,h0,h1,h5,h6,hL,hLX,hLS,hM,hvg,hvi,hvs,zf,b1,b2,b3,b4,b1',b2',b3',b4']);refine zdl ?_ (by simp(disch:=omega)only[go_sem,h0]<;>rfl);refine zR ?_;simp only[zo,zW,zg,go_sem];simp only[zg,zj,zh,zi,zo,zk,if_true,reduceIte];(repeat refine ze ?_);refine zrg ?_ (by simp(disch:=omega)only[go_sem,h6]<;>rfl);refine zG ?_;simp only[zg,zj,zh,zi,zo,zk,if_true,↓reduceIte];have hlc:idL<Hc.length:=(zAD9.1 hL).1;refine⟨_,?m,i+1,_,idL,g,g,vf++[zb5 (zcG nd (nd.pairs++[(x.low,b)])) (.sl idp (gp+1) 0 (nd.pairs.length+1) (2*(nd.pairs.length+1)) 2)],pf++[.sl idp (gp+1) 0 (nd.pairs.length+1) (2*(nd.pairs.length+1)) 2],rfl,hlt,((hst.app _).set hidp _).set hidL _,zAK9 _,?G,hidL,?L,?I,by simp[upd,h0],by simp[upd,h1],by simp[upd,h5],by simp[upd,h6],trivial,rfl⟩
    case m=>omega
    case G =>
     rw[zBD9 (by simp only[zCN9,zAC9,zAE9,zAG9];omega)];simp[zcG]
    case L =>
     rw[hstep];refine hlvl.last hvf hpf ?_ (fun a ha=>?_) (fun id o ho hi=>?_)
     ·refine .inr ⟨idp,gp+1,by simp[zcG],?_⟩;rw[zAX9 d1,zBD9 (by simp only[zAC9,zAE9,zAG9];omega)];simp[zcG]
     ·left
      exact ha
     ·by_cases he:idp=id
      ·right;rw[<- he];rfl
      ·left
       have hne:idL≠id:=fun e=>by subst e;rw[hL]at hi;injection hi with hi;subst hi;exact absurd (show (124:Nat)=66 from ho) (by decide)
       rw[zAX9 hne,zAX9 he];exact zbM hi
    case I =>
     intro p hp a ha;rcases zBK9.1 hp with hp|hp
     ·exact hids p (zEA9 _ hp) a ha
     ·obtain rfl:=zBH9.1 hp;have:idp=a:=by simpa[zdC]using ha
      omega
def zb3 (a:Nat)(H H':List zu):Prop:=∀(id:Nat) (o:zu),id≠a->H[id]?=some o->H'[id]?=some o
theorem zb3.refl (a:Nat)(H:List zu):zb3 a H H:=fun _ _ _ h=>h
theorem zb3.app {a:Nat}{H Hc:List zu}(h:zb3 a H Hc)(X:List zu):zb3 a H (Hc++X):=fun id o hi ho=>zbM (h id o hi ho)
theorem zb3.set {a:Nat}{H Hc:List zu}(h:zb3 a H Hc)(o':zu):zb3 a H (Hc.set a o'):=fun id o hi ho=>by
 rw[zAX9 (fun e=>hi e.symm)];exact h id o hi ho
theorem zb3.trans {a:Nat}{H H' H'':List zu}(h:zb3 a H H')(k:zb3 a H' H''):zb3 a H H'':=fun id o hi ho=>k id o hi (h id o hi ho)
theorem zlc {H X:List zu}{a:Nat}{o o':zu}(h:H[a]?=some o):((H++X).set a o')[a]?=some o':=by
 have:=(zAD9.1 h).1;rw[zBD9 (by rw[zAC9];omega)]
theorem zud (q:Nat)(free:List Nat)(used n:Nat)(hfl:free.length<1000000)(hul:used+n<=free.length)(tm:Nat->PV)(H:List zu)(idL g:Nat)(z8:Nat)(idA:Nat)(hA:H[idA]?=some (.row 3 1 0 0 []))(h1:tm 1=.list q 1 (bfl free))(h8:tm 8=.sl idL g 0 n z8 6)(h12:tm 12=iv used)(h13:tm 13=.sl idA 0 0 0 0 1)(h14:tm 14=iv 0){Q:FX->FSt->Prop}
  (hQ:∀(tm':Nat->PV) (H':List zu),zb3 idA H H'->H'[idA]?=some (.row 3 1 n 0 (bfl ((free.drop used).take n)))->(∀k,k≠13->k≠14->(k<74\/88<k)->tm' k=tm k)->tm' 13=.sl idA n 0 n (2*n) 1->Q .norm ⟨tm',[],H'⟩) :
  W ET ET.caught none c27_4 ⟨tm,[],H⟩ Q:=by
 unfold c27_4;have hbg:∀i,i<n->((free.drop used).take n)[i]?=some (free.getD (used+i) 0):=fun i hi=>by
  rw[zBF9,if_pos hi,zBT9,zAQ9,zAB9 (show used+i<free.length by omega)];rfl
 have hbl:((free.drop used).take n).length=n:=by rw[zBA9,zCA9];omega
 generalize hbs:(free.drop used).take n=bs at *
 refine zK (zbd (fun m s=>∃(i:Nat) (Hc:List zu),m=n-i/\i<=n/\zb3 idA H Hc/\Hc[idA]?=some (.row 3 1 i 0 (bfl (bs.take i)))/\(∀k,k≠13->k≠14->(k<74\/88<k)->s.tm k=tm k)/\s.tm 13=.sl idA i 0 i (2*i) 1/\s.tm 14=iv i/\s.df=[]/\s.H=Hc) (n:=n) ?_ ?_)
 ·exact⟨0,H,rfl,zAU9 _,.refl _ _,hA,fun k _ _ _=>rfl,h13,h14,rfl,rfl⟩
 ·rintro m ⟨tn,df,Hc⟩ ⟨i,Hc',rfl,hi,hst,hr,hf,h13',h14',rfl,rfl⟩;dsimp only at hf h13' h14';have h1':=(hf 1 (by decide) (by decide) (by decide)).trans h1;have h8':=(hf 8 (by decide) (by decide) (by decide)).trans h8;have h12':=(hf 12 (by decide) (by decide) (by decide)).trans h12;(try refine zaa ?_);refine ze (zb ?_);refine zfx ?_ (by simp(disch:=omega)only[go_sem,h8',h14']<;>rfl);refine zd ?_;refine zae (by simp only[go_sem]<;>rfl) ?_ ?_
  ·intro hlt;have hlt:i<n:=by have:=of_decide_eq_true hlt;omega
   have hfi:used+i<free.length:=by omega
   have hfv:(bfl free)[used+i]?=some (iv (free.getD (used+i) 0:Nat)):=by rw[zAL9,zAB9 hfi,zAQ9,zAB9 hfi];rfl
   have e1:((used:Int)+(i:Int))=((used+i:Nat):Int):=by omega
   have hb2:(i+1)*9<=140737488355328:=by omega
   have hlen:(bfl (bs.take i)).length=i:=by rw[zAA9,zBA9];omega
   have hX:∀X,(Hc++X)[idA]?=some (.row 3 1 i 0 (bfl (bs.take i))):=fun X=>zbM hr;have hstep:bfl (bs.take (i+1))=bfl (bs.take i)++[iv (free.getD (used+i) 0:Nat)]:=by
    rw[zBN9,hbg i hlt];simp
   generalize free.getD (used+i) 0=b at *
   (repeat refine ze ?_);refine zK ?_;(repeat refine ze ?_);(repeat refine ze ?_);refine zrg ?_ (by simp(disch:=omega)only[go_sem,h1',h12',h13',h14',e1,hfi,hfv,hb2,hlen,hX,zf]<;>rfl);refine zG ?_;simp only[zg,zj,zh,zi,zo,zk,if_true,↓reduceIte];(repeat refine ze ?_);refine zrg ?_ (by simp(disch:=omega)only[go_sem,h14']<;>rfl);refine zG ?_;simp only[zg,zj,zh,zi,zo,zk,if_true,↓reduceIte];refine⟨_,?m,i+1,_,rfl,hlt,(hst.app _).set _,?G,fun k k1 k2 k3=>?_,by simp[upd],by simp[upd,h14'],trivial,rfl⟩
   case m=>omega
   case G=>rw[zlc hr,hstep]
   ·simp(disch:=omega)only[zc2];exact hf k k1 k2 k3
  ·intro hlt;have hlt:¬i<n:=by have:=of_decide_eq_false hlt;omega
   obtain rfl:i=n:=by omega
   simp only[zg,zj,zh,zi,zo,zk,if_true,reduceIte];refine hQ _ Hc hst (by rw[hr,<- hbl,zBM9]) (fun k k1 k2 k3=>?_) (by simp[upd,h13']);simp(disch:=omega)only[zc2];exact hf k k1 k2 k3
theorem ztX (bs ws:List Nat)(i b:Nat)(hb:bs[i]?=some b)(hbm:b<2048)(hws:ws.length=64)(hbs:bs.length<1000000)(tm:Nat->PV)(H:List zu)(idO:Nat)(V0:List PV)(hV0:V0.length<1000000)(idA gA:Nat)(hne:idA≠idO)(hO:H[idO]?=some (.row 83 2 V0.length 0 V0))(hA:H[idA]?=some (.row 3 1 gA 0 (bfl bs)))(h11:tm 11=.sl idO V0.length 0 V0.length (2*V0.length) 2)(h13:tm 13=.sl idA gA 0 bs.length (2*bs.length) 1)(h15:tm 15=iv i)(h16:tm 16=wv 0 ws)(h17:tm 17=iv 0){Q:FX->FSt->Prop}
  (hQ:∀(tm':Nat->PV) (H':List zu) (V:List PV),V=V0++(ziR b ws).map zag->zb3 idO H H'->H'[idO]?=some (.row 83 2 V.length 0 V)->(∀k,k≠11->k≠17->(k<114\/132<k)->tm' k=tm k)->tm' 11=.sl idO V.length 0 V.length (2*V.length) 2->Q .norm ⟨tm',[],H'⟩) :
  W ET ET.caught none c27_8 ⟨tm,[],H⟩ Q:=by
 unfold c27_8;refine zK (zbd (fun m s=>∃(j:Nat) (V:List PV) (Hc:List zu),m=64-j/\j<=64/\V=V0++((List.range j).map fun k=>(64*b+k,ws.getD k 0)).map zag/\zb3 idO H Hc/\Hc[idO]?=some (.row 83 2 V.length 0 V)/\(∀k,k≠11->k≠17->(k<114\/132<k)->s.tm k=tm k)/\s.tm 11=.sl idO V.length 0 V.length (2*V.length) 2/\s.tm 17=iv j/\s.df=[]/\s.H=Hc) (n:=64) ?_ ?_)
 ·exact⟨0,V0,H,rfl,zAU9 _,by simp,.refl _ _,hO,fun k _ _ _=>rfl,h11,h17,rfl,rfl⟩
 ·rintro m ⟨tn,df,Hc⟩ ⟨j,V,Hc',rfl,hj,hV,hst,hr,hf,h11',h17',rfl,rfl⟩;dsimp only at hf h11' h17';have h13':=(hf 13 (by decide) (by decide) (by decide)).trans h13;have h15':=(hf 15 (by decide) (by decide) (by decide)).trans h15;have h16':=(hf 16 (by decide) (by decide) (by decide)).trans h16;have hVl:V.length=V0.length+j:=by rw[hV];simp
  (try refine zaa ?_);refine ze (zb ?_);refine zfx ?_ (by simp(disch:=omega)only[go_sem,h17']<;>rfl);refine zd ?_;refine zae (by simp only[go_sem]<;>rfl) ?_ ?_
  ·intro hlt;have hlt:j<64:=by have:=of_decide_eq_true hlt;omega
   have hA':=hst idA _ hne hA;have hbv:(bfl bs)[i]?=some (iv b):=by rw[zAL9,hb];rfl
   have hib:i<bs.length:=(zAD9.1 hb).1;have hlt2:j<ws.length:=by omega
   have hqv:(ws.map uv)[j]?=some (uv (ws.getD j 0)):=by rw[zAL9,zAB9 hlt2,zAQ9,zAB9 hlt2];rfl
   have hb2:(V.length+1)*17<=140737488355328:=by omega
   have hV2:V++[zag (64*b+j,ws.getD j 0)]=V0++((List.range (j+1)).map fun k=>(64*b+k,ws.getD k 0)).map zag:=by rw[zDX9,hV];simp
   have e1:IntKind.i64.wrap (64*(b:Int))=((64*b:Nat):Int):=by rw[wrap_i64 (by omega) (by omega)];omega
   have e2:IntKind.i64.wrap (((64*b:Nat):Int)+(j:Int))=((64*b+j:Nat):Int):=by rw[wrap_i64 (by omega) (by omega)];omega
   have hX:∀X,(Hc++X)[idO]?=some (.row 83 2 V.length 0 V):=fun X=>zbM hr;(repeat refine ze ?_);refine zK ?_;(repeat refine ze ?_);refine zap ?_;refine zda ?_ (by simp(disch:=omega)only[go_sem,h11',h13',h15',h16',h17',hA',hbv,hib,hlt2,hqv,e1,e2,hb2,hX,zf]<;>rfl);refine zdl ?_ (by simp(disch:=omega)only[go_sem,h15']<;>rfl);refine zR ?_;simp only[zo,zW,zg,go_sem];(repeat refine ze ?_);refine zrg ?_ (by simp(disch:=omega)only[go_sem,h17']<;>rfl);refine zG ?_;simp only[zg,zj,zh,zi,zo,zk,if_true,↓reduceIte];refine⟨_,?m,j+1,V++[zag (64*b+j,ws.getD j 0)],_,rfl,hlt,hV2,(hst.app _).set _,?G,fun k k1 k2 k3=>?_,by simp[upd],by simp[upd,h17'],trivial,rfl⟩
   case m=>omega
   case G=>rw[zlc hr,zAC9];rfl
   ·simp(disch:=omega)only[zc2];exact hf k k1 k2 k3
  ·intro hlt;have hlt:¬j<64:=by have:=of_decide_eq_false hlt;omega
   obtain rfl:j=64:=by omega
   simp only[zg,zj,zh,zi,zo,zk,if_true,reduceIte];refine hQ _ Hc V (by rw[hV,ziR,hws]) hst hr (fun k k1 k2 k3=>?_) (by simp[upd,h11']);simp(disch:=omega)only[zc2];exact hf k k1 k2 k3
theorem zor {l:List Pr}{n:zE}(h:n∈zb2 l):n.pairs.length<=18:=by
 rw[zgT]at h;obtain⟨i,_,rfl⟩:=zAS9.1 h;show ((l.drop (18*i)).take 18).length<=18;rw[zBA9];omega
set_option maxHeartbeats 4000000 in
theorem ztC (p:Nat)(l:List Pr)(hl:l.length<=500)(tm:Nat->PV)(H:List zu)(idL g0 M0:Nat)(vs0 ps0:List PV)(hM0:M0<=g0)(hL0:H[idL]?=some (.row 124 6 g0 M0 vs0))(hlv0:Lvl H vs0 ps0 (zb2 []))(h0:tm 0=psv p l)(h8:tm 8=.sl idL g0 0 vs0.length (2*vs0.length) 6)(h9:tm 9=iv 0){Q:FX->FSt->Prop}
  (hQ:∀(tm':Nat->PV) (H':List zu) (g M:Nat) (vs ps:List PV),M<=g->H'[idL]?=some (.row 124 6 g M vs)->Lvl H' vs ps (zb2 l)->(∀k,k≠8->k≠9->k≠10->(k<34\/73<k)->tm' k=tm k)->tm' 8=.sl idL g 0 vs.length (2*vs.length) 6->Q .norm ⟨tm',[],H'⟩) :
  W ET ET.caught none c27_0 ⟨tm,[],H⟩ Q:=by
 unfold c27_0;refine zK (zbd (fun m s=>∃(i:Nat) (Hc:List zu) (g M:Nat) (vs ps:List PV),m=l.length-i/\i<=l.length/\M<=g/\Hc[idL]?=some (.row 124 6 g M vs)/\Lvl Hc vs ps (zb2 (l.take i))/\(∀k,k≠8->k≠9->k≠10->(k<34\/73<k)->s.tm k=tm k)/\s.tm 8=.sl idL g 0 vs.length (2*vs.length) 6/\s.tm 9=iv i/\s.df=[]/\s.H=Hc) (n:=l.length) ?_ ?_)
 ·exact⟨0,H,g0,M0,vs0,ps0,rfl,zAU9 _,hM0,hL0,by rw[zFV9];exact hlv0,fun k _ _ _ _=>rfl,h8,h9,rfl,rfl⟩
 ·rintro m ⟨tn,df,Hc⟩ ⟨i,Hc',g,M,vs,ps,rfl,hi,hM,hL,hlvl,hf,h8',h9',rfl,rfl⟩;dsimp only at hf h8' h9';have h0':=(hf 0 (by decide) (by decide) (by decide) (by decide)).trans h0;(try refine zaa ?_);refine ze (zb ?_);refine zfx ?_ (by simp(disch:=omega)only[go_sem,h0',h9',zAA9]<;>rfl);refine zd ?_;refine zae (by simp only[go_sem]<;>rfl) ?_ ?_;rotate_left
  ·intro hlt;have hlt:¬i<l.length:=by have:=of_decide_eq_false hlt;omega
   obtain rfl:i=l.length:=by omega
   simp only[zg,zj,zh,zi,zo,zk,if_true,reduceIte];rw[zBM9]at hlvl;refine hQ _ Hc g M vs ps hM hL hlvl (fun k k1 k2 k3 k4=>?_) (by simp[upd,h8']);simp(disch:=omega)only[zc2];exact hf k k1 k2 k3 k4
  intro hlt;have hlt:i<l.length:=by have:=of_decide_eq_true hlt;omega
  obtain⟨x,hx⟩:∃x,l[i]?=some x:=⟨_,zAB9 hlt⟩
  have hxv:(l.map pv)[i]?=some (pv x):=by rw[zAL9,hx];rfl
  have hstep:=zsK l i hlt;rw[getD_some hx]at hstep;have r1:(i:Int).tmod 18=((i%18:Nat):Int):=rfl;have hnl:(zb2 (l.take i)).length<=28:=by rw[zdW,zBA9];omega
  have hvl:=hlvl.lenV;have hfew:∀n∈zff i x (zb2 (l.take i)),n.pairs.length<=18:=by
   intro n hn;unfold zff at hn
   split at hn
   ·rcases zBK9.1 hn with hn|hn
    ·exact zor hn
    ·obtain rfl:=zBH9.1 hn;exact zAU9 _
   ·exact zor hn
  have hnz:zff i x (zb2 (l.take i)) ≠ []:=by
   unfold zff
   split
   ·simp
   ·intro e;have:=congrArg List.length e;rw[zdW]at this;simp at this
  have hnw:(zff i x (zb2 (l.take i))).length<=29:=by
   unfold zff
   split
   ·rw[zAC9];simp;omega
   ·omega
  generalize hnodes:zff i x (zb2 (l.take i))=nodes at hstep hfew hnz hnw;(repeat refine ze ?_);refine zK ?_;refine ze (zbN (Q:=fun y s'=>y=.norm/\∃(g M:Nat) (vs ps:List PV),M<=g/\s'.H[idL]?=some (.row 124 6 g M vs)/\Lvl s'.H vs ps nodes/\(∀k,k≠8->k≠9->k≠10->(k<34\/73<k)->s'.tm k=tn k)/\s'.tm 8=.sl idL g 0 vs.length (2*vs.length) 6/\s'.tm 9=iv i/\s'.df=[]) ?_ ?_)
  ·by_cases hm:0<i/\i%18=0
   ·have g1:((i%18:Nat):Int)=0:=by omega
    have g0:(0:Int)<(i:Int):=by omega
    have hbb2:(vs.length+1)*65<=140737488355328:=by omega
    have hLX:∀X,(Hc++X)[idL]?=some (.row 124 6 g M vs):=fun X=>zbM hL;unfold zff at hnodes;rw[if_pos hm]at hnodes;(repeat refine ze ?_);(repeat refine ze ?_);refine zgo ?_ (by simp(disch:=omega)only[go_sem,h9',zaF,r1,g1,g0]<;>rfl);refine zfc ?_ ?_;rotate_left
    ·intro h;cases h
    intro _;refine zb ?_;refine zfx ?_ (by simp(disch:=omega)only[go_sem,h0',h8',h9',hxv,hlt,hbb2,hLX,zf]<;>rfl);refine zG ?_;refine⟨rfl,g+1,M,vs++[zb5 ⟨0,0,x.1,9223372036854775808,0,[]⟩ .nilsl],ps++[.nilsl],by omega,zlc hL,?_,fun k k1 k2 k3 k4=>?_,by simp[upd],by simp[upd,h9'],rfl⟩
    ·rw[<- hnodes];exact(hlvl.snoc _ rfl).other hL (fun h=>absurd (show (124:Nat)=66 from h) (by decide)) _
    ·simp(disch:=omega)only[zc2]
   ·unfold zff at hnodes;rw[if_neg hm]at hnodes
    by_cases g0:0<i
    ·have g0':(0:Int)<(i:Int):=by omega
     have g1:¬((i%18:Nat):Int)=0:=by omega
     (repeat refine ze ?_);(repeat refine ze ?_);refine zgo ?_ (by simp(disch:=omega)only[go_sem,h9',zaF,r1,g1,g0']<;>rfl);refine zfc ?_ ?_
     ·intro h;cases h
     intro _;refine zQ ⟨rfl,g,M,vs,ps,hM,hL,by rw[<- hnodes];exact hlvl,fun k k1 k2 k3 k4=>?_,by simp[upd,h8'],by simp[upd,h9'],rfl⟩;simp(disch:=omega)only[zc2]
    ·obtain rfl:i=0:=by omega
     (repeat refine ze ?_);(repeat refine ze ?_);refine zgo ?_ (by simp(disch:=omega)only[go_sem,h9']<;>rfl);refine zfc ?_ ?_
     ·intro h;cases h
     intro _;refine zQ ⟨rfl,g,M,vs,ps,hM,hL,by rw[<- hnodes];exact hlvl,fun k k1 k2 k3 k4=>?_,by simp[upd,h8'],by simp[upd,h9'],rfl⟩;simp(disch:=omega)only[zc2]
  clear hM hL hlvl hvl h8' h9';rintro y ⟨tq,df,Hc⟩ ⟨rfl,g,M,vs,ps,hM,hL,hlvl,hf2,h8',h9',rfl⟩;dsimp only at hM hL hlvl hf2 h8' h9';simp only[zg,zj,zh,zi,zo,zk,if_true,reduceIte];have h0q:=(hf2 0 (by decide) (by decide) (by decide) (by decide)).trans h0';obtain⟨front,nd,hfr⟩:=ziX (l:=nodes) hnz;subst hfr;have hvl:=hlvl.lenV;have hpl:=hlvl.lenP;rw[zAC9]at hvl hpl;obtain⟨vf,v,rfl,hvf⟩:=zhD hvl;obtain⟨pf,p',rfl,hpf⟩:=zhD hpl;have hat:=hlvl.val front.length nd p' (by simp) (by rw[<- hpf];simp);have hv:v=zb5 nd p':=by
   have h:=hat.1;rw[<- hvf,zAN9 (zAK9 _),Nat.sub_self]at h;injection h
  subst hv;have hpa:=hat.2;have hkl2:nd.pairs.length<=18:=hfew nd (zDI9 _ (zBH9.2 rfl));unfold znZ at hstep;simp only[zEC9,zDM9]at hstep;have hvfl:vf.length<=1000:=by rw[zAC9]at hnw;omega
  have hsub:IntKind.i64.wrap (((vf.length+1:Nat):Int)-1)=(vf.length:Int):=by rw[wrap_i64 (by omega) (by omega)];omega
  have hvv:(vf++[zb5 nd p']).length=vf.length+1:=by simp
  have hvi:vf.length<vf.length+1:=zBR9 _;have hvg:(vf++[zb5 nd p'])[vf.length]?=some (zb5 nd p'):=by simp
  have hvs:∀y,(vf++[zb5 nd p']).set vf.length y=vf++[y]:=fun y=>by simp
  have hLX:∀X,(Hc++X)[idL]?=some (.row 124 6 g M (vf++[zb5 nd p'])):=fun X=>zbM hL;rw[hvv]at h8';(repeat refine ze ?_);(repeat refine ze ?_);refine zgo ?_ (by simp(disch:=omega)only[go_sem,h8',hsub]<;>rfl);(repeat refine ze ?_);refine zap ?_;rcases hpa with⟨rfl,hnp⟩|⟨idp,gp,rfl,hrp⟩
  ·have hLXY:∀X Y,(Hc++X++Y)[idL]?=some (.row 124 6 g M (vf++[zb5 nd .nilsl])):=fun X Y=>zbM (zbM hL);refine zda ?_ (by simp(disch:=omega)only[go_sem,h0q,h8',h9',hL,hLX,hM,hxv,hlt,hvg,hvi,zf,zAA9]<;>rfl);refine zda ?_ (by simp(disch:=omega)only[go_sem,h0q,h8',h9',hL,hLX,hLXY,hM,hvg,hvi,hvs,zf]<;>rfl);refine zdl ?_ (by simp(disch:=omega)only[go_sem,h0q]<;>rfl);refine zR ?_;simp only[zo,zW,zg,go_sem];simp only[zg,zj,zh,zi,zo,zk,if_true,reduceIte];(repeat refine ze ?_);refine zrg ?_ (by simp(disch:=omega)only[go_sem,h9']<;>rfl);refine zG ?_;simp only[zg,zj,zh,zi,zo,zk,if_true,↓reduceIte];have hlc:idL<Hc.length:=(zAD9.1 hL).1;refine⟨_,?m,i+1,_,g,g,vf++[zb5 (zcG nd (nd.pairs++[x])) (.sl (Hc.length+1) 0 0 1 2 2)],pf++[.sl (Hc.length+1) 0 0 1 2 2],rfl,hlt,zAK9 _,?G,?L,fun k k1 k2 k3 k4=>?_,by simp[upd,h8'],by simp[upd,h9'],trivial,rfl⟩
   case m=>omega
   case G =>
    rw[zBD9 (by simp only[zAC9,zAE9,zAG9];omega)];simp[zcG]
   case L =>
    rw[hstep];refine hlvl.last hvf hpf ?_ (fun a ha=>?_) (fun id o ho hi=>?_)
    ·refine .inr ⟨Hc.length+1,0,by simp[zcG,hnp],?_⟩;rw[zAX9 (by omega)];simp[zcG,hnp]
    ·right
     have:Hc.length+1=a:=by simpa[zdC]using ha
     show Hc.length<=a;omega
    ·left
     have hne:idL≠id:=fun e=>by subst e;rw[hL]at hi;injection hi with hi;subst hi;exact absurd (show (124:Nat)=66 from ho) (by decide)
     rw[zAX9 hne];exact zbM (zbM hi)
   ·simp(disch:=omega)only[zc2];exact(hf2 k k1 k2 k3 k4).trans (hf k k1 k2 k3 k4)
  ·have hbb2:(nd.pairs.length+1)*17<=140737488355328:=by omega
   have hrX:∀X,(Hc++X)[idp]?=some (.row 66 2 gp 0 (nd.pairs.map pv)):=fun X=>zbM hrp;have hipl:idp<Hc.length:=(zAD9.1 hrp).1;have d1:idL≠idp:=fun e=>by subst e;rw[hL]at hrp;injection hrp with hrp;injection hrp with hrp;cases hrp
   have d4:Hc.length≠idp:=by omega
   have b1:(idL==idp)=false:=by simpa using d1
   have b4:(Hc.length==idp)=false:=by simpa using d4
   have b1':(idp==idL)=false:=by simpa using d1.symm
   have b4':(idp==Hc.length)=false:=by simpa using d4.symm
   have hLS:∀X y,((Hc++X).set idp y)[idL]?=some (.row 124 6 g M (vf++[zb5 nd (.sl idp gp 0 nd.pairs.length (2*nd.pairs.length) 2)])):=fun X y=>by rw[zAX9 (fun e=>d1 e.symm)];exact zbM hL
   refine zda ?_ (by simp(disch:=omega)only[go_sem,h0q,h8',h9',hL,hLX,hM,hxv,hlt,hvg,hvi,hrX,hbb2,zf,zAA9]<;>rfl);refine zda ?_ (by simp(disch:=omega)only[go_sem,h0q,h8',h9',hL,hLX,hLS,hM,hvg,hvi,hvs,zf,b1,b4,b1',b4']<;>rfl) (by first|exact trivial|simp only[go_sem,h0q,h8',h9',hL,hLX,hLS,hM,hvg,hvi,hvs,zf,b1,b4,b1',b4']);refine zdl ?_ (by simp(disch:=omega)only[go_sem,h0q]<;>rfl);refine zR ?_;simp only[zo,zW,zg,go_sem];simp only[zg,zj,zh,zi,zo,zk,if_true,reduceIte];(repeat refine ze ?_);refine zrg ?_ (by simp(disch:=omega)only[go_sem,h9']<;>rfl);refine zG ?_;simp only[zg,zj,zh,zi,zo,zk,if_true,↓reduceIte];have hlc:idL<Hc.length:=(zAD9.1 hL).1;refine⟨_,?m,i+1,_,g,g,vf++[zb5 (zcG nd (nd.pairs++[x])) (.sl idp (gp+1) 0 (nd.pairs.length+1) (2*(nd.pairs.length+1)) 2)],pf++[.sl idp (gp+1) 0 (nd.pairs.length+1) (2*(nd.pairs.length+1)) 2],rfl,hlt,zAK9 _,?G,?L,fun k k1 k2 k3 k4=>?_,by simp[upd,h8'],by simp[upd,h9'],trivial,rfl⟩
   case m=>omega
   case G =>
    rw[zBD9 (by simp only[zCN9,zAC9,zAE9,zAG9];omega)];simp[zcG]
   case L =>
    rw[hstep];refine hlvl.last hvf hpf ?_ (fun a ha=>?_) (fun id o ho hi=>?_)
    ·refine .inr ⟨idp,gp+1,by simp[zcG],?_⟩;rw[zAX9 d1,zBD9 (by simp only[zAC9,zAE9,zAG9];omega)];simp[zcG]
    ·left
     exact ha
    ·by_cases he:idp=id
     ·right;rw[<- he];rfl
     ·left
      have hne:idL≠id:=fun e=>by subst e;rw[hL]at hi;injection hi with hi;subst hi;exact absurd (show (124:Nat)=66 from ho) (by decide)
      rw[zAX9 hne,zAX9 he];exact zbM hi
   ·simp(disch:=omega)only[zc2];exact(hf2 k k1 k2 k3 k4).trans (hf k k1 k2 k3 k4)
theorem Lvl.setNode {H:List zu}{vs ps:List PV}{nodes:List zE}(h:Lvl H vs ps nodes){q:Nat}{n n':zE}{p:PV}(hn:nodes[q]?=some n)(hp:ps[q]?=some p)(he:n'.pairs=n.pairs):Lvl H (vs.set q (zb5 n' p)) ps (nodes.set q n'):=by
 have hq:q<nodes.length:=(zAD9.1 hn).1;refine⟨by simp[h.lenV],by simp[h.lenP],fun r m x hm hx=>?_,h.dist⟩
 by_cases hr:r=q
 ·subst hr;rw[zBD9 hq]at hm;rw[zBD9 (by rw[h.lenV];exact hq)];injection hm with hm;subst hm;rw[hp]at hx;injection hx with hx;subst hx;exact⟨rfl,by rw[he];exact(h.val r n p hn hp).2⟩
 ·rw[zAX9 (fun e=>hr e.symm)]at hm⊢;exact h.val r m x hm hx
theorem Lvl.but {H H':List zu}{vs ps:List PV}{nodes:List zE}(h:Lvl H vs ps nodes){a:Nat}{o:zu}(ha:H[a]?=some o)(ho:¬isP o)(k:zb3 a H H'):Lvl H' vs ps nodes :=
 h.keep fun id q hq hi=>k id q (fun e=>by subst e;rw[ha]at hi;injection hi with hi;subst hi;exact ho hq) hi
theorem Lvl.set0 {H:List zu}{vs ps:List PV}{nodes:List zE}(h:Lvl H vs ps nodes){a:Nat}{o o':zu}(ha:H[a]?=some o)(ho:¬isP o):Lvl (H.set a o') vs ps nodes :=
 h.but ha ho ((zb3.refl a H).set o')
theorem zfC.frz {H:List zu}{p:PV}{ps:List Pr}(h:zfC H p ps):Frz H 1 p (psv 1 ps):=by
 rcases h with⟨rfl,rfl⟩|⟨id,g,rfl,h2⟩
 ·exact .nil _ _
 ·exact Frz.whole h2 rfl (by simp) (by simp) (fun v hv=>by obtain⟨x,_,rfl⟩:=zAS9.1 hv;rfl) zd2
def zfM (bs:List Nat)(q:Nat)(n:zE):zE:={ n with sib:=bs.getD (q+1) 0 }
set_option maxHeartbeats 4000000 in
theorem ztn (bs:List Nat)(nl:List zE)(hbl:bs.length=nl.length)(hnl:nl.length<=100)(hbm:∀b∈bs,b<2048)(hg:∀n∈nl,zdc n/\n.sib=0)(tm:Nat->PV)(H:List zu)(idL idA idO g M0 gA:Nat)(vs0 ps V0:List PV)(hV0:V0.length<900000)(hM0:M0<=g)(hL0:H[idL]?=some (.row 124 6 g M0 vs0))(hlv0:Lvl H vs0 ps nl)(hA0:H[idA]?=some (.row 3 1 gA 0 (bfl bs)))(hO0:H[idO]?=some (.row 83 2 V0.length 0 V0))(h8:tm 8=.sl idL g 0 nl.length (2*nl.length) 6)(h11:tm 11=.sl idO V0.length 0 V0.length (2*V0.length) 2)(h13:tm 13=.sl idA gA 0 bs.length (2*bs.length) 1)(h15:tm 15=iv 0){Q:FX->FSt->Prop}
  (hQ:∀(tm':Nat->PV) (H':List zu) (M:Nat) (vs V:List PV),M<=g->H'[idL]?=some (.row 124 6 g M vs)->Lvl H' vs ps (zbE bs nl)->H'[idA]?=some (.row 3 1 gA 0 (bfl bs))->H'[idO]?=some (.row 83 2 V.length 0 V)->V=V0++(zim bs (zbE bs nl)).map zag->(∀k,k<11\/(11<k/\k<15)\/132<k->tm' k=tm k)->tm' 11=.sl idO V.length 0 V.length (2*V.length) 2->Q .norm ⟨tm',[],H'⟩) :
  W ET ET.caught none c27_6 ⟨tm,[],H⟩ Q:=by
 unfold c27_6;have hll:=zcS bs nl hbl;have hVl:∀i,(((bs.zip (zbE bs nl)).take i).flatMap fun x=>ziR x.1 (zbB x.2)).length<=64*i:=fun i=>by
  rw[zk9,zBA9];omega
 refine zK (zbd (fun m s=>∃(i:Nat) (Hc:List zu) (M:Nat) (vs V:List PV) (nodes:List zE),m=nl.length-i/\i<=nl.length/\M<=g/\Hc[idL]?=some (.row 124 6 g M vs)/\Lvl Hc vs ps nodes/\nodes.length=nl.length/\(∀(q:Nat) (n:zE),nl[q]?=some n->nodes[q]?=some (if q<i then zfM bs q n else n))/\Hc[idA]?=some (.row 3 1 gA 0 (bfl bs))/\Hc[idO]?=some (.row 83 2 V.length 0 V)/\V=V0++(((bs.zip (zbE bs nl)).take i).flatMap fun x=>ziR x.1 (zbB x.2)).map zag/\(∀k,k<11\/(11<k/\k<15)\/132<k->s.tm k=tm k)/\s.tm 11=.sl idO V.length 0 V.length (2*V.length) 2/\s.tm 15=iv i/\s.df=[]/\s.H=Hc) (n:=nl.length) ?_ ?_)
 ·exact⟨0,H,M0,vs0,V0,nl,rfl,zAU9 _,hM0,hL0,hlv0,rfl,fun q n hn=>by rw[if_neg (zFM9 _)];exact hn,hA0,hO0,by simp,fun k _=>rfl,h11,h15,rfl,rfl⟩
 ·rintro m ⟨tn,df,Hc⟩ ⟨i,Hc',M,vs,V,nodes,rfl,hi,hM,hL,hlvl,hnlen,hnode,hA,hO,hV,hf,h11',h15',rfl,rfl⟩;dsimp only at hf h11' h15';have h8':=(hf 8 (by decide)).trans h8;have h13':=(hf 13 (by decide)).trans h13;have hVli:=hVl i;have hVlen:V.length<=V0.length+64*i:=by rw[hV,zAC9,zAA9];omega
  (try refine zaa ?_);refine ze (zb ?_);refine zfx ?_ (by simp(disch:=omega)only[go_sem,h8',h15']<;>rfl);refine zd ?_;refine zae (by simp only[go_sem]<;>rfl) ?_ ?_;rotate_left
  ·intro hlt;have hlt:¬i<nl.length:=by have:=of_decide_eq_false hlt;omega
   obtain rfl:i=nl.length:=by omega
   simp only[zg,zj,zh,zi,zo,zk,if_true,reduceIte];have hnl2:nodes=zbE bs nl:=by
    apply zFF9
    intro q;rcases zCM9 q nl.length with hq|hq
    ·have hn:=zAB9 hq;rw[hnode q _ hn,if_pos hq,zem bs nl q _ hbl hn];rfl
    ·rw[zCC9 (by omega),zCC9 (by omega)]
   rw[hnl2]at hlvl;refine hQ _ Hc M vs V hM hL hlvl hA hO ?_ (fun k k1=>?_) (by simp[upd,h11'])
   ·rw[hV,zDC9 (by simp;omega)];rfl
   ·simp(disch:=omega)only[zc2];exact hf k k1
  intro hlt;have hlt:i<nl.length:=by have:=of_decide_eq_true hlt;omega
  obtain⟨x,hx⟩:∃x,nl[i]?=some x:=⟨_,zAB9 hlt⟩
  obtain⟨b,hb⟩:∃b,bs[i]?=some b:=⟨_,zAB9 (by omega)⟩
  obtain⟨p,hp⟩:∃p,ps[i]?=some p:=⟨_,zAB9 (by rw[hlvl.lenP];omega)⟩
  have hxn:nodes[i]?=some x:=by have:=hnode i x hx;rwa [if_neg (Nat.lt_irrefl _)]at this
  have hvx:=(hlvl.val i x p hxn hp).1;have hgx:=hg x (zAO9 hx);have hli:=zem bs nl i x hbl hx;change (zbE bs nl)[i]?=some (zfM bs i x)at hli;have hbmb:=hbm b (zAO9 hb);have hsib:bs.getD (i+1) 0<2048:=by
   rcases zCM9 (i+1) bs.length with h|h
   ·rw[zAQ9,zAB9 h];exact hbm _ (zBU9 _)
   ·rw[zAQ9,zCC9 (by omega)];decide
  have hgx':zdc (zfM bs i x):=hgx.1.setSib hsib;have dLO:idO≠idL:=fun e=>by subst e;rw[hL]at hO;injection hO with hO;injection hO with hO;cases hO
  have dLA:idA≠idL:=fun e=>by subst e;rw[hL]at hA;injection hA with hA;injection hA with hA;cases hA
  have dAO:idA≠idO:=fun e=>by subst e;rw[hO]at hA;injection hA with hA;injection hA with hA;cases hA
  have e2:((i:Int)+1)=((i+1:Nat):Int):=by omega
  have hvsl:i<vs.length:=by rw[hlvl.lenV];omega
  (repeat refine ze ?_);refine zK ?_;refine ze (zbN (Q:=fun y s'=>y=.norm/\∃(M:Nat) (vs:List PV) (nodes:List zE),M<=g/\s'.H[idL]?=some (.row 124 6 g M vs)/\Lvl s'.H vs ps nodes/\nodes.length=nl.length/\(∀(q:Nat) (n:zE),nl[q]?=some n->nodes[q]?=some (if q<i+1 then zfM bs q n else n))/\s'.H[idA]?=some (.row 3 1 gA 0 (bfl bs))/\s'.H[idO]?=some (.row 83 2 V.length 0 V)/\(∀k,k<15\/132<k->s'.tm k=tn k)/\s'.tm 15=iv i/\s'.df=[]) ?_ ?_)
  ·by_cases hi1:i+1<nl.length
   ·have g1:((i+1:Nat):Int)<(nl.length:Nat):=by omega
    have hi1b:i+1<bs.length:=by omega
    have hbv:(bfl bs)[i+1]?=some (iv (bs.getD (i+1) 0:Nat)):=by rw[zAL9,zAB9 hi1b,zAQ9,zAB9 hi1b];rfl
    (repeat refine ze ?_);(repeat refine ze ?_);refine zgo ?_ (by simp(disch:=omega)only[go_sem,h8',h15',e2,g1]<;>rfl);refine zfc ?_ ?_;rotate_left
    ·intro h;cases h
    intro _;refine zb ?_;refine zfx ?_ (by simp(disch:=omega)only[go_sem,h8',h13',h15',e2,hi1b,hbv,hA,hL,hM,hvx,hlt]<;>rfl);refine zG ?_;refine⟨rfl,g,vs.set i (zb5 (zfM bs i x) p),nodes.set i (zfM bs i x),zAK9 _,?G,?L,by simp[hnlen],?N,?A,?O,fun k k1=>?_,by simp[upd,h15'],rfl⟩
    case G=>rw[zBD9 (zAD9.1 hL).1];rfl
    case L=>exact(hlvl.setNode (n':=zfM bs i x) hxn hp rfl).set0 hL (fun h=>absurd (show (124:Nat)=66 from h) (by decide))
    case N =>
     intro q n hn
     by_cases hq:q=i
     ·subst hq;rw[zBD9 (by omega),if_pos (zBR9 _)];rw[hx]at hn;injection hn with hn;subst hn;rfl
     ·rw[zAX9 (fun e=>hq e.symm),hnode q n hn]
      by_cases h1:q<i
      ·rw[if_pos h1,if_pos (by omega)]
      ·rw[if_neg h1,if_neg (by omega)]
    case A=>rw[zAX9 (fun e=>dLA e.symm)];exact hA
    case O=>rw[zAX9 (fun e=>dLO e.symm)];exact hO
    ·simp(disch:=omega)only[zc2]
   ·have g1:¬((i+1:Nat):Int)<(nl.length:Nat):=by omega
    (repeat refine ze ?_);(repeat refine ze ?_);refine zgo ?_ (by simp(disch:=omega)only[go_sem,h8',h15',e2,g1]<;>rfl);refine zfc ?_ ?_
    ·intro h;cases h
    intro _;refine zQ ⟨rfl,M,vs,nodes,hM,hL,hlvl,hnlen,?_,hA,hO,fun k k1=>?_,by simp[upd,h15'],rfl⟩
    ·intro q n hn;rw[hnode q n hn]
     by_cases h1:q<i
     ·rw[if_pos h1,if_pos (by omega)]
     ·by_cases hq:q=i
      ·subst hq;rw[if_neg h1,if_pos (zBR9 _)];rw[hx]at hn;injection hn with hn;subst hn;have h0:=hgx.2;unfold zfM;rw[zAQ9,zCC9 (show bs.length<=q+1 by omega)];obtain⟨a1,a2,a3,a4,a5,a6⟩:=x;dsimp only at h0;rw[h0];rfl
      ·rw[if_neg h1,if_neg (by omega)]
    ·simp(disch:=omega)only[zc2]
  clear hM hL hlvl hA hO hnlen hnode hxn hvx h15' hvsl;rintro y ⟨tq,df,Hc⟩ ⟨rfl,M,vs,nodes,hM,hL,hlvl,hnlen,hnode,hA,hO,hf2,h15',rfl⟩;dsimp only at hM hL hlvl hA hO hf2 h15';simp only[zg,zj,zh,zi,zo,zk,if_true,reduceIte];have hxn:nodes[i]?=some (zfM bs i x):=by have:=hnode i x hx;rwa [if_pos (zBR9 _)]at this
  have hvx:=hlvl.val i _ p hxn hp;have h8q:=(hf2 8 (by decide)).trans h8';have h11q:=(hf2 11 (by decide)).trans h11';have h13q:=(hf2 13 (by decide)).trans h13';have hw:=ziA 1 (zfM bs i x) hgx'.level hgx'.sib hgx'.way hgx'.few;have hfz:Frz Hc 1 (zb5 (zfM bs i x) p) (za7 1 (zfM bs i x)):=Frz.aggL ⟨.int _ _,.int _ _,.int _ _,.int _ _,.int _ _,hvx.2.frz,trivial⟩;have hvv:=hvx.1;generalize hx':zfM bs i x=x' at *
  (repeat refine ze ?_);refine zb ?_;refine zfx ?_ (by simp(disch:=omega)only[go_sem,h8q,h15',hL,hM,hvv,hlt]<;>rfl);refine zH (caps:=?_) (vs:=?_) ?_ ?_ hw ?_ ?_;rotate_left 2;(first|rfl|(simp only[zaf,zas,go_sem]<;>rfl));(simp only[go_sem]<;>rfl)
  ·exact⟨hfz,trivial⟩
  refine zfx ?_;refine zd ?_;(repeat refine ze ?_);(repeat refine ze ?_);refine zrg ?_;refine zd ?_;refine ztX bs (zbB x') i b hb hbmb (zdw _) (by omega) _ Hc idO V (by omega) idA gA dAO hO hA (by simp[upd,h11q]) (by simp[upd,h13q]) (by simp[upd,h15']) (by simp[upd]) (by simp[upd]) (fun tm2 H2 V2 hV2 hst hO2 hfr h11x=>?_);simp only[zg,zj,zh,zi,zo,zk,if_true,reduceIte];have h15x:tm2 15=iv i:=(hfr 15 (by decide) (by decide) (by decide)).trans (by simp[upd,h15']);(repeat refine ze ?_);refine zrg ?_ (by simp(disch:=omega)only[go_sem,h15x]<;>rfl);refine zG ?_;simp only[zg,zj,zh,zi,zo,zk,if_true,↓reduceIte];refine⟨_,?m,i+1,H2,M,vs,V2,nodes,rfl,hlt,hM,hst idL _ dLO.symm hL,hlvl.but hO (fun h=>absurd (show (83:Nat)=66 from h) (by decide)) hst,hnlen,hnode,hst idA _ dAO hA,hO2,?_,fun k k1=>?_,by simp[upd,h11x],by simp[upd,h15x],trivial,rfl⟩
  case m=>omega
  ·rw[hV2,hV,zuf hb hli];simp
  ·simp(disch:=omega)only[zc2];rw[hfr k (by omega) (by omega) (by omega)];simp(disch:=omega)only[zc2];exact(hf2 k (by omega)).trans (hf k k1)
theorem f27:ET.funcs.get 27=some T27:=z9 (by kernel_rfl) (by decide)
theorem zk6 {H:List zu}(n:Nat):Frz H 0 (.tuple [iv 0,.nilsl,iv 0,iv n]) (.tuple [iv 0,.list 0 2 (([]:List Pr).map zag),iv 0,iv n]):=Frz.tupL ⟨.int _ _,.nil _ _,.int _ _,.int _ _,trivial⟩
set_option maxHeartbeats 4000000 in
theorem zsN (p q:Nat)(l:List Pr)(fr:List Int)(hl:l.length<=500)(hfr:fr.length<=2000):FN ET 27 [psv p l,.list q 1 (fr.map iv)] (zeg l fr):=by
 refine zfn f27 (zug l fr) ?_;(repeat(first|refine ze ?_|refine zgo ?_));(repeat refine ze ?_);refine zb ?_;have hris:=zqd p l (by omega);have hblk:=zpZ q fr (by omega)
 by_cases hokP:okP l=true
 rotate_left
 ·have hokP:okP l=false:=by simpa using hokP
  have he:zeg l fr=zpg 2:=by unfold zeg;rw[hokP];rfl
  rw[hokP]at hris;refine zfx ?_;refine zca hris ?_;refine zfx ?_;refine zd ?_;refine zfc ?_ ?_;rotate_left
  ·intro h;cases h
  intro _;(repeat(first|refine ze ?_|refine zgo ?_));refine zF ?_;(try simp only[zg,zj,zh,zi,zk]);refine zq (by simp only[T27,zI,go_sem]<;>rfl) ?_;simp only[zP];rw[he];exact zk6 2
 rw[hokP]at hris
 by_cases hokI:okI [] fr=true
 rotate_left
 ·have hokI:okI [] fr=false:=by simpa using hokI
  have he:zeg l fr=zpg 2:=by unfold zeg;rw[hokI,Bool.and_false];rfl
  rw[hokI]at hblk;refine zfx ?_;refine zca hris ?_;refine zfx ?_;refine zca hblk ?_;refine zfx ?_;refine zd ?_;refine zfc ?_ ?_;rotate_left
  ·intro h;cases h
  intro _;(repeat(first|refine ze ?_|refine zgo ?_));refine zF ?_;(try simp only[zg,zj,zh,zi,zk]);refine zq (by simp only[T27,zI,go_sem]<;>rfl) ?_;simp only[zP];rw[he];exact zk6 2
 rw[hokI]at hblk;refine zfx ?_;refine zca hris ?_;refine zfx ?_;refine zca hblk ?_;refine zfx ?_;refine zd ?_;refine zfc ?_ ?_
 ·intro h;cases h
 intro _;refine zQ ?_;show W _ _ _ _ _ _;obtain⟨free,rfl,hokF⟩:=zpi hokI;have hff:=(zi1 free).1 hokF;have hfree:(free.map fun(b:Nat)=>(b:Int)).map Int.toNat=free:=by rw[zDO9];exact List.map_id free
 have hbE:zeg l (free.map fun(b:Nat)=>(b:Int))=match zf5 l free with
   | none=>zpg 221
   | some T=>bOk T:=by unfold zeg;rw[hokP,hokI,hfree];rfl
 have hfv:(free.map fun(b:Nat)=>(b:Int)).map iv=bfl free:=by rw[zDO9];rfl
 have hfl:free.length<=2000:=by simpa using hfr
 rw[hbE,hfv];have hfbl:(bfl free).length=free.length:=by rw[zAA9]
 (repeat refine ze ?_);refine zb ?_;refine zfx ?_ (by simp(disch:=omega)only[go_sem,zAA9]<;>rfl);refine zca (zoJ l.length hl) ?_
 by_cases hsp:free.length<zd9 l.length
 ·have g:((free.length:Nat):Int)<(zd9 l.length:Nat):=by omega
  have hn:=(zkP (free:=free) hl).2 hsp;refine zfx ?_ (by simp(disch:=omega)only[go_sem,g,zAA9]<;>rfl);refine zd ?_;refine zfc ?_ ?_;rotate_left
  ·intro h;cases h
  intro _;(repeat(first|refine ze ?_|refine zgo ?_));refine zF ?_;(try simp only[zg,zj,zh,zi,zk]);refine zq (by simp only[T27,zI,go_sem]<;>rfl) ?_;simp only[zP];rw[hn];exact zk6 221
 have g:¬((free.length:Nat):Int)<(zd9 l.length:Nat):=by omega
 refine zfx ?_ (by simp(disch:=omega)only[go_sem,g,zAA9]<;>rfl);refine zd ?_;refine zfc ?_ ?_
 ·intro h;cases h
 intro _;refine zQ ?_;show W _ _ _ _ _ _;obtain⟨TT,hTT⟩:∃TT,zf5 l free=some TT:=by
  cases h:zf5 l free with
  | none=>exact absurd ((zkP (free:=free) hl).1 h) hsp
  | some TT=>exact⟨TT,rfl⟩
 rw[hTT];(repeat(first|refine ze ?_|refine zgo ?_));refine ztC p l hl _ _ 0 0 0 [zb5 ⟨0,0,0,9223372036854775808,0,[]⟩ .nilsl] [.nilsl] (zAK9 _) rfl ((Lvl.nil _).snoc ⟨0,0,0,9223372036854775808,0,[]⟩ rfl) (by simp[upd,zB]) (by simp[upd]) (by simp[upd]) (fun tm1 H1 g1 M1 vs1 ps1 hM1 hL1 hlv1 hf1 h81=>?_);simp only[zg,zj,zh,zi,zo,zk,if_true,reduceIte];have k1:tm1 1=.list q 1 (bfl free):=(hf1 1 (by decide) (by decide) (by decide) (by decide)).trans (by simp[upd,zB]);clear hf1;(repeat(first|refine ze ?_|refine zgo ?_));refine zcn 83 2 (i:=11) (by simp[upd]) ?_;simp only[lzy];have hO1:(H1++[zu.row 83 2 0 0 []])[H1.length]?=some (.row 83 2 0 0 []):=by simp
 have hL1':(H1++[zu.row 83 2 0 0 []])[0]?=some (.row 124 6 g1 M1 vs1):=zbM hL1;have hlv1':Lvl (H1++[zu.row 83 2 0 0 []]) vs1 ps1 (zb2 l):=hlv1.keep fun id o _ h=>zbM h;refine zK (zbd (fun m s=>∃(k:Nat) (nl:List zE) (used:Nat) (T:List Lev) (Hc:List zu) (idL g M idO:Nat) (vs ps V:List PV),m=k/\1<=k/\3<=k+T.length/\zjG l free nl used T/\zjH free k nl used T=some TT/\used=(T.reverse.flatMap Prod.fst).length/\V=(zd8 T.reverse).map zag/\V.length=64*used/\M<=g/\Hc[idL]?=some (.row 124 6 g M vs)/\Lvl Hc vs ps nl/\Hc[idO]?=some (.row 83 2 V.length 0 V)/\s.tm 1=.list q 1 (bfl free)/\s.tm 8=.sl idL g 0 vs.length (2*vs.length) 6/\s.tm 11=.sl idO V.length 0 V.length (2*V.length) 2/\s.tm 12=iv used/\s.df=[]/\s.H=Hc) (n:=4) ?_ ?_)
 ·exact⟨4,zb2 l,0,[],_,0,g1,M1,H1.length,vs1,ps1,[],rfl,by decide,by decide,zlU free hokP hl,hTT,rfl,rfl,rfl,hM1,hL1',hlv1',hO1,by simp[upd,k1],by simp[upd,h81],by simp[upd],by simp[upd],rfl,rfl⟩
 ·clear hM1 hL1 hlv1 hL1' hlv1' hO1 k1 h81;rintro m ⟨tm,df,Hc⟩ ⟨k,nl,used,T,Hc',idL,g,M,idO,vs,ps,V,rfl,hk1,hk3,hI,hbd,hus,hV,hVl,hM,hL,hlvl,hO,h1,h8,h11,h12,rfl,rfl⟩;dsimp only at h1 h8 h11 h12;obtain⟨k,rfl⟩:∃k,m=k+1:=⟨m-1,by omega⟩
  have hnl0:0<nl.length:=zBZ9.2 hI.ok.ne;have hnlb:nl.length<=28:=by
   have:=hI.bndL;have hb:∀t,bndL t<=28:=fun t=>by match t with|0=>decide|1=>decide|t+2=>exact(show 1<=28 by decide)
   exact zBG9 this (hb _)
  rw[zjH]at hbd;have hul:=hI.used
  by_cases hsp2:free.length<used+nl.length
  ·rw[if_pos hsp2]at hbd;cases hbd
  rw[if_neg hsp2]at hbd;have hvn:=hlvl.lenV;rw[hvn]at h8;(repeat refine ze ?_);refine zK ?_;(repeat(first|refine ze ?_|refine zgo ?_));refine zcn 3 1 (i:=13) (by simp[upd]) ?_;simp only[lzy];have hlc:idL<Hc.length:=(zAD9.1 hL).1;have hoc:idO<Hc.length:=(zAD9.1 hO).1;refine zud q free used nl.length (by omega) (by omega) _ _ idL g _ Hc.length (by simp) (by simp[upd,h1]) (by simp[upd,h8];rfl) (by simp[upd,h12]) (by simp[upd]) (by simp[upd]) (fun tm2 H2 hst2 hA2 hf2 h13=>?_);simp only[zg,zj,zh,zi,zo,zk,if_true,reduceIte];obtain⟨v1,v2,v3,v4,v5,v6,v7,v8⟩:=hI.level hokF hsp2;have hnx:=hI.next hokF hsp2;have hlvl3:=hI.lvl;have hL2:H2[idL]?=some (.row 124 6 g M vs):=hst2 idL _ (by omega) (zbM hL);have hO2:H2[idO]?=some (.row 83 2 V.length 0 V):=hst2 idO _ (by omega) (zbM hO);have hlv2:Lvl H2 vs ps nl:=hlvl.keep fun id o _ h=>hst2 id o (by have h1:id<Hc.length:=(zAD9.1 h).1;omega) (zbM h);have x1:tm2 1=.list q 1 (bfl free):=(hf2 1 (by decide) (by decide) (by decide)).trans (by simp[upd,h1]);have x8:tm2 8=.sl idL g 0 nl.length (2*nl.length) 6:=(hf2 8 (by decide) (by decide) (by decide)).trans (by simp[upd,h8]);have x11:tm2 11=.sl idO V.length 0 V.length (2*V.length) 2:=(hf2 11 (by decide) (by decide) (by decide)).trans (by simp[upd,h11]);have x12:tm2 12=iv used:=(hf2 12 (by decide) (by decide) (by decide)).trans (by simp[upd,h12]);clear hf2 hst2 h1 h8 h11 h12;generalize hbs:(free.drop used).take nl.length=bs at *
  (repeat(first|refine ze ?_|refine zgo ?_));refine ztn bs nl v1 (by omega) (fun b hb=>(v4 b hb).2) (fun n hn=>⟨(hI.ok.each n hn).1,(hI.ok.each n hn).2.2⟩) _ H2 idL Hc.length idO g M nl.length vs ps V (by omega) hM hL2 hlv2 hA2 hO2 (by simp[upd,x8]) (by simp[upd,x11]) (by simp[upd,h13,v1]) (by simp[upd]) (fun tm3 H3 M3 vs3 V3 hM3 hL3 hlv3 hA3 hO3 hV3 hf3 h11=>?_);simp only[zg,zj,zh,zi,zo,zk,if_true,reduceIte];have y1:tm3 1=.list q 1 (bfl free):=(hf3 1 (by decide)).trans (by simp[upd,x1]);have y8:tm3 8=.sl idL g 0 nl.length (2*nl.length) 6:=(hf3 8 (by decide)).trans (by simp[upd,x8]);have y12:tm3 12=iv used:=(hf3 12 (by decide)).trans (by simp[upd,x12]);have y13:tm3 13=.sl Hc.length nl.length 0 nl.length (2*nl.length) 1:=(hf3 13 (by decide)).trans (by simp[upd,h13]);clear hf3 x1 x8 x11 x12;have hpl:(zim bs (zbE bs nl)).length=64*nl.length:=by
   unfold zim;rw[zk9];simp[v1,zcS bs nl v1]
  have hV4:V3=(zd8 ((bs,zbE bs nl)::T).reverse).map zag:=by
   rw[hV3,hV,zEP9,zd8,zd8,zDR9];simp
  have hV3l:V3.length=64*(used+nl.length):=by rw[hV3,zAC9,zAA9,hpl];omega
  have hus2:used+nl.length=(((bs,zbE bs nl)::T).reverse.flatMap Prod.fst).length:=by
   rw[zEP9,zDR9,zAC9,<- hus];simp[v1]
  have hw:IntKind.i64.wrap ((used:Int)+(nl.length:Int))=((used+nl.length:Nat):Int):=by rw[wrap_i64 (by omega) (by omega)];omega
  by_cases ho:nl.length=1
  ·rw[if_pos ho]at hbd;injection hbd with hbd;subst hbd;have g1:((nl.length:Nat):Int)=1:=by omega
   obtain⟨b0,hb0⟩:=zEM9.1 (v1.trans ho);have hA0:(bfl bs)[0]?=some (iv b0):=by rw[hb0];rfl
   have hgA:0<=nl.length:=zAU9 _;(repeat refine ze ?_);(repeat refine ze ?_);refine zgo ?_ (by simp(disch:=omega)only[go_sem,y8,y12,hw]<;>rfl);(repeat refine ze ?_);(repeat refine ze ?_);refine zgo ?_ (by simp(disch:=omega)only[go_sem,y8,g1]<;>rfl);refine zfc ?_ ?_;rotate_left
   ·intro h;cases h
   intro _;(repeat refine ze ?_);(repeat refine ze ?_);refine zgo ?_ (by simp(disch:=omega)only[go_sem,y13,h11,hA3,hA0,hnl0,hgA]<;>rfl);refine zF ?_;(try simp only[zg,zj,zh,zi,zk]);refine zq (by simp only[T27,zI,go_sem]<;>rfl) ?_;simp only[zP];have hroot:zmr ((bs,zbE bs nl)::T)=b0:=by rw[hb0];rfl
   refine Frz.tupL ⟨?_,?_,?_,.int _ _,trivial⟩
   ·rw[hroot];exact .int _ _
   ·rw[<- hV4];refine Frz.whole hO3 rfl rfl (zAK9 _) (fun v hv=>?_) (fun v hv=>?_)
    ·rw[hV4]at hv;obtain⟨x,_,rfl⟩:=zAS9.1 hv;rfl
    ·rw[hV4]at hv;obtain⟨x,hx,hv⟩:=zBI9.1 hv;obtain⟨y,_,rfl⟩:=zAS9.1 hx;simp[PV.cells]at hv;rcases hv with rfl|rfl<;>exact .int _ _
   ·rw[<- hus2];exact .int _ _
  ·rw[if_neg ho]at hbd;have g1:¬((nl.length:Nat):Int)=1:=by omega
   have hnx:=hnx ho;have hT1:T.length<=1:=by
    have:=hnx.lvl;simp at this;omega
   obtain⟨w1,w2,w3⟩:=zd7 bs nl v1;have hll:=zcS bs nl v1;have hlevs:∀n∈zbE bs nl,n.level=T.length:=by
    intro n hn;obtain⟨j,hj⟩:=zDU9.1 hn;have hjl:j<nl.length:=by rw[<- hll];exact(zAD9.1 hj).1
    have e:=zem bs nl j _ v1 (zAB9 hjl);rw[hj]at e;injection e with e;subst e;exact(hI.ok.each _ (zBU9 _)).2.1
   have hab:=zrG H3 idL g M3 Hc.length nl.length vs3 ps (zbE bs nl) bs T.length hL3 hM3 hlv3 hA3 (by rw[hll];exact v1) (by omega) hlevs (by omega) (fun b hb=>(v4 b hb).2);rw[hll,w2]at hab;(repeat refine ze ?_);(repeat refine ze ?_);refine zgo ?_ (by simp(disch:=omega)only[go_sem,y8,y12,hw]<;>rfl);(repeat refine ze ?_);(repeat refine ze ?_);refine zgo ?_ (by simp(disch:=omega)only[go_sem,y8,g1]<;>rfl);refine zfc ?_ ?_
   ·intro h;cases h
   intro _;refine zQ ?_;show W _ _ _ _ _ _;(repeat refine ze ?_);refine zb ?_;refine zfx ?_ (by simp(disch:=omega)only[go_sem,y8,y13]<;>rfl);refine zeY (caps:=?caps) (vs:=?vs) ?a1 ?a2 hab ?a3 ?a4 ?a5
   case a1=>first|rfl|(simp only[zaf,zas,go_sem]<;>rfl)
   case a2=>simp only[go_sem]<;>rfl
   case a3=>rfl
   case a4=>rfl
   rintro e H4 ⟨hst4,idL4,g4,M4,vs4,ps4,rfl,hM4,_,hL4,hlv4,_⟩;refine zfx ?_;refine zG ?_;simp only[zg,zj,zh,zi,zo,zk,if_true,↓reduceIte];refine⟨k,zBR9 _,k,_,used+nl.length,(bs,zbE bs nl)::T,H4,idL4,g4,M4,idO,vs4,ps4,V3,rfl,by omega,?_,hnx,hbd,hus2,hV4,hV3l,hM4,hL4,hlv4,hst4 idO _ hO3,by simp[upd,y1],by simp[upd],by simp[upd,h11],by simp[upd],trivial,rfl⟩;simp;omega
theorem f9:FN ET 9 [] (.ret (.bool true)):=zvq (by kernel_rfl) (by rfl)
theorem zjL:∀X:List Lev,(∀M∈X,M.1.length=M.2.length)->(zd8 X).length=64*(X.flatMap Prod.fst).length
 | [],_=>rfl
 | M::X,h=>by
  have h1:=zjL X fun K hK=>h K (zAW9 _ hK);have h2:=h M (zAV9 ..);unfold zd8 at h1⊢;rw[zCJ9,zAC9,h1,zCJ9,zAC9];unfold zim;rw[zk9,List.length_zip];omega
theorem zwv:ET.funcs.get 156=some T156:=z9 (by kernel_rfl) (by decide)
theorem zwX:ET.funcs.get 141=some T141:=z9 (by kernel_rfl) (by decide)
theorem zxa:ET.funcs.get 158=some T158:=z9 (by kernel_rfl) (by decide)
theorem zwr:ET.funcs.get 139=some T139:=z9 (by kernel_rfl) (by decide)
theorem zwh:ET.funcs.get 195=some T195:=z9 (by kernel_rfl) (by decide)
theorem zlS (left n:Nat):zbG left n=(decide (left≠0)&&decide (n%2=0)&&decide (4<=n)&&decide (n<=56)):=by
 rw[zDN9];simp only[zbG,zAR9,decide_eq_true_eq];omega
theorem zkG (p left:Nat)(w:List Nat)(hw:zbH w.length):FN ET 156 [uv left,wv p w] (.ret (.bool (zbG left w.length))):=by
 refine zfn zwv (.bool _) ?_;have r1:(w.length:Int).tmod 2=((w.length%2:Nat):Int):=rfl;rw[zlS]
 by_cases b1:left=0
 ·have a1:(left:Int)=0:=by omega
  (repeat(first|refine ze ?_|refine zgo ?_ (by simp(disch:=omega)only[go_sem,a1]<;>rfl)));refine zF ?_;(try simp only[zg,zj,zh,zi,zk]);refine zq (by simp only[T156,zI,go_sem]<;>rfl) ?_;simp only[zP];exact zbo.bool (by simp[b1])
 have a1:¬(left:Int)=0:=by omega
 by_cases b2:w.length%2=0
 rotate_left
 ·have a2:¬((w.length%2:Nat):Int)=0:=by omega
  (repeat(first|refine ze ?_|refine zgo ?_ (by simp(disch:=omega)only[go_sem,a1,zaF,r1,a2,zAA9]<;>rfl)));refine zF ?_;(try simp only[zg,zj,zh,zi,zk]);refine zq (by simp only[T156,zI,go_sem]<;>rfl) ?_;simp only[zP];exact zbo.bool (by simp[b1,b2])
 have a2:((w.length%2:Nat):Int)=0:=by omega
 by_cases b3:4<=w.length
 rotate_left
 ·have a3:¬(4:Int)<=(w.length:Nat):=by omega
  (repeat(first|refine ze ?_|refine zgo ?_ (by simp(disch:=omega)only[go_sem,a1,zaF,r1,a2,a3,zAA9]<;>rfl)));refine zF ?_;(try simp only[zg,zj,zh,zi,zk]);refine zq (by simp only[T156,zI,go_sem]<;>rfl) ?_;simp only[zP];exact zbo.bool (by simp[b3])
 have a3:(4:Int)<=(w.length:Nat):=by omega
 by_cases b4:w.length<=56
 ·have a4:((w.length:Nat):Int)<=56:=by omega
  (repeat(first|refine ze ?_|refine zgo ?_ (by simp(disch:=omega)only[go_sem,a1,zaF,r1,a2,a3,a4,zAA9]<;>rfl)));refine zF ?_;(try simp only[zg,zj,zh,zi,zk]);refine zq (by simp only[T156,zI,go_sem]<;>rfl) ?_;simp only[zP];exact zbo.bool (by simp[b1,b2,b3,b4])
 ·have a4:¬((w.length:Nat):Int)<=56:=by omega
  (repeat(first|refine ze ?_|refine zgo ?_ (by simp(disch:=omega)only[go_sem,a1,zaF,r1,a2,a3,a4,zAA9]<;>rfl)));refine zF ?_;(try simp only[zg,zj,zh,zi,zk]);refine zq (by simp only[T156,zI,go_sem]<;>rfl) ?_;simp only[zP];exact zbo.bool (by simp[b4])
theorem zck {w:List Nat}{i:Nat}(h:i<w.length):(w.map uv)[i]?=some (uv (w.getD i 0)):=by
 rw[zAL9,zAB9 h,zAQ9,zAB9 h];rfl
theorem zhY (p left:Nat)(w:List Nat)(j:Nat)(hw:zbH w.length)(h:2*j<w.length+1):FN ET 141 [uv left,wv p w,iv j] (.ret (uv (zb0 left w j))):=by
 refine zfn zwX (.int _ _) ?_;unfold zb0;(repeat(first|refine ze ?_|refine zgo ?_));refine zfc ?_ ?_
 ·intro hj;obtain rfl:j=0:=by have:=of_decide_eq_true hj;omega
  (repeat(first|refine ze ?_|refine zgo ?_));refine zF ?_;(try simp only[zg,zj,zh,zi,zk]);refine zq (by simp only[T141,zI,go_sem]<;>rfl) ?_;simp only[zP];exact Frz.int _ _
 ·intro hj;have hj:¬j=0:=by have:=of_decide_eq_false hj;omega
  rw[if_neg hj];refine zQ ?_;show W _ _ _ _ _ _;have w1:IntKind.i64.wrap (2*(j:Int))=((2*j:Nat):Int):=by rw[wrap_i64 (by omega) (by omega)];omega
  have w2:IntKind.i64.wrap (((2*j:Nat):Int)-1)=((2*(j-1)+1:Nat):Int):=by rw[wrap_i64 (by omega) (by omega)];omega
  have c1:2*(j-1)+1<w.length:=by omega
  have z1:=zck c1;(repeat(first|refine ze ?_|refine zgo ?_ (by simp(disch:=omega)only[go_sem,w1,w2,c1,z1,zAA9]<;>rfl)));refine zF ?_;(try simp only[zg,zj,zh,zi,zk]);refine zq (by simp only[T141,zI,go_sem]<;>rfl) ?_;simp only[zP];exact Frz.int _ _
theorem znb (p:Nat)(w:List Nat)(hw:zbH w.length):FN ET 158 [wv p w] (.ret (iv (zbz w:Nat))):=by
 refine zfn zxa (.int _ _) ?_;have e0:IntKind.i64.wrap ((w.length:Int).tdiv 2)=((w.length/2:Nat):Int):=by rw[IntWalk.i64_quo _ _ (by omega)];omega
 (repeat(first|refine ze ?_|refine zgo ?_));refine zK (zbd (fun m s=>∃i:Nat,m=w.length-i/\2*i<=w.length/\zbz w=i+zbz (w.drop (2*i))/\s.tm 0=wv p w/\s.tm 3=iv i/\s.df=[]/\s.H=[]) (n:=w.length) ?_ ?_)
 ·exact⟨0,by simp[upd,zB]⟩
 ·rintro m ⟨tm,df,H⟩ ⟨i,rfl,hi,hc,h0,h3,rfl,rfl⟩;dsimp only at h0 h3
  by_cases hlt:i<w.length/2
  ·have g1:(i:Int)<((w.length/2:Nat):Int):=by omega
   have w1:IntKind.i64.wrap (2*(i:Int))=((2*i:Nat):Int):=by rw[wrap_i64 (by omega) (by omega)];omega
   have w2:IntKind.i64.wrap (((2*i:Nat):Int)+1)=((2*i+1:Nat):Int):=by rw[wrap_i64 (by omega) (by omega)];omega
   have c1:2*i+1<w.length:=by omega
   have z1:=zck c1;have hd:=zkf w i c1;have hx:w[2*i+1]=w.getD (2*i+1) 0:=by rw[zAQ9,zAB9 c1];rfl
   rw[hx]at hd;generalize w.getD (2*i+1) 0=x at *
   by_cases hz:x=0
   ·have gx:(x:Int)=0:=by omega
    (try refine zaa ?_);refine ze (zb ?_);refine zfx ?_ (by simp(disch:=omega)only[go_sem,h0,h3,e0,g1,w1,w2,c1,z1,gx,zAA9]<;>rfl);refine zd ?_;refine zae (by simp only[go_sem]<;>rfl) ?_ ?_
    ·intro h;cases h
    ·intro _;simp only[zg,zj,zh,zi,zo,zk,if_true,reduceIte];(repeat(first|refine ze ?_|refine zgo ?_ (by simp(disch:=omega)only[go_sem,h3]<;>rfl)));refine zF ?_;(try simp only[zg,zj,zh,zi,zk]);refine zq (by simp only[T158,zI,go_sem]<;>rfl) ?_;simp only[zP];rw[hc,hd,zbz,if_pos hz];exact Frz.int _ _
   ·have gx:¬(x:Int)=0:=by omega
    (try refine zaa ?_);refine ze (zb ?_);refine zfx ?_ (by simp(disch:=omega)only[go_sem,h0,h3,e0,g1,w1,w2,c1,z1,gx,zAA9]<;>rfl);refine zd ?_;refine zae (by simp only[go_sem]<;>rfl) ?_ ?_
    ·intro _;refine zK ?_;(repeat refine ze ?_);refine zrg ?_ (by simp(disch:=omega)only[go_sem,h3]<;>rfl);refine zG ?_;simp only[zg,zj,zh,zi,zo,zk,if_true,↓reduceIte];refine⟨_,?m,i+1,rfl,by omega,?_,by simp[upd,h0],by simp[upd,h3],trivial,trivial⟩
     case m=>omega
     rw[hc,hd,zbz,if_neg hz];omega
    ·intro h;cases h
  ·have g1:¬(i:Int)<((w.length/2:Nat):Int):=by omega
   (try refine zaa ?_);refine ze (zb ?_);refine zfx ?_ (by simp(disch:=omega)only[go_sem,h0,h3,e0,g1,zAA9]<;>rfl);refine zd ?_;refine zae (by simp only[go_sem]<;>rfl) ?_ ?_
   ·intro h;cases h
   ·intro _;simp only[zg,zj,zh,zi,zo,zk,if_true,reduceIte];(repeat(first|refine ze ?_|refine zgo ?_ (by simp(disch:=omega)only[go_sem,h3]<;>rfl)));refine zF ?_;(try simp only[zg,zj,zh,zi,zk]);refine zq (by simp only[T158,zI,go_sem]<;>rfl) ?_;simp only[zP];rw[hc,zmj (by simp;omega)];exact Frz.int _ _
def zfr (l:List Pr)(x:Nat):Bool:=(l.map Prod.snd).contains x
theorem zna (p:Nat)(l:List Pr)(x:Nat)(hl:zbH l.length):FN ET 195 [psv p l,uv x] (.ret (.bool (zfr l x))):=by
 refine zfn zwh (.bool _) ?_;(repeat(first|refine ze ?_|refine zgo ?_));refine zK (zbd (fun m s=>∃i:Nat,m=l.length-i/\i<=l.length/\zfr l x=zfr (l.drop i) x/\s.tm 0=psv p l/\s.tm 1=uv x/\s.tm 5=iv i/\s.df=[]/\s.H=[]) (n:=l.length) ?_ ?_)
 ·exact⟨0,by simp[upd,zB]⟩
 ·rintro m ⟨tm,df,H⟩ ⟨i,rfl,hi,hc,h0,h1,h5,rfl,rfl⟩;dsimp only at h0 h1 h5;(try refine zaa ?_);refine ze (zb ?_);refine zfx ?_ (by simp(disch:=omega)only[go_sem,h0,h5,zAA9]<;>rfl);refine zd ?_;refine zae (by simp only[go_sem]<;>rfl) ?_ ?_
  ·intro hlt;have hlt:i<l.length:=by have:=of_decide_eq_true hlt;omega
   obtain⟨q,hq⟩:∃q,l[i]?=some q:=⟨_,zAB9 hlt⟩
   have hqv:(l.map pv)[i]?=some (pv q):=by rw[zAL9,hq];rfl
   have hdr:l.drop i=q::l.drop (i+1):=by rw[zBB9 hlt];obtain⟨_,e⟩:=zAD9.1 hq;rw[e]
   (repeat refine ze ?_);refine zK ?_
   by_cases he:q.2=x
   ·have g1:(q.2:Int)=x:=by omega
    (repeat refine ze ?_);refine zgo ?_ (by simp(disch:=omega)only[go_sem,h0,h1,h5,hqv,hlt,g1,zAA9]<;>rfl);refine zfc ?_ ?_;rotate_left
    ·intro h;cases h
    intro _;(repeat(first|refine ze ?_|refine zgo ?_));refine zF ?_;(try simp only[zg,zj,zh,zi,zk]);refine zq (by simp only[T195,zI,go_sem]<;>rfl) ?_;simp only[zP];exact zbo.bool (by rw[hc,hdr];simp[zfr,he])
   ·have g1:¬(q.2:Int)=x:=by omega
    (repeat refine ze ?_);refine zgo ?_ (by simp(disch:=omega)only[go_sem,h0,h1,h5,hqv,hlt,g1,zAA9]<;>rfl);refine zfc ?_ ?_
    ·intro h;cases h
    intro _;refine zQ ?_;simp only[zg,zj,zh,zi,zo,zk,if_true,reduceIte];(repeat refine ze ?_);refine zrg ?_ (by simp(disch:=omega)only[go_sem,h5]<;>rfl);refine zG ?_;simp only[zg,zj,zh,zi,zo,zk,if_true,↓reduceIte];refine⟨_,?m,i+1,rfl,hlt,?_,by simp[upd,h0],by simp[upd,h1],by simp[upd,h5],trivial,trivial⟩
    case m=>omega
    rw[hc,hdr];simp[zfr,Ne.symm he]
  ·intro hlt;have hlt:¬i<l.length:=by have:=of_decide_eq_false hlt;omega
   obtain rfl:i=l.length:=by omega
   simp only[zg,zj,zh,zi,zo,zk,if_true,reduceIte];(repeat(first|refine ze ?_|refine zgo ?_));refine zF ?_;(try simp only[zg,zj,zh,zi,zk]);refine zq (by simp only[T195,zI,go_sem]<;>rfl) ?_;simp only[zP];exact zbo.bool (by rw[hc,zCW9];rfl)
theorem zdB:∀(l:List Nat) (j prev:Nat),2*(zbD j prev l).length<=l.length
 | [],_,_=>by simp[zbD]
 | [_],_,_=>by simp[zbD]
 | _::p::l,j,prev=>by
  have:=zdB l (j+1) p;rw[zbD]
  split
  ·simp
  ·split<;>simp<;>omega
theorem zp2 {l:List Nat}(h:zbz l=0)(j prev:Nat):zbD j prev l=[]:=by
 match l,h with
 | [],_=>simp[zbD]
 | [_],_=>simp[zbD]
 | a::b::l,h =>
  rw[zbz]at h
  by_cases hb:b=0
  ·rw[zbD,if_pos hb]
  ·rw[if_neg hb]at h;omega
set_option maxHeartbeats 1000000 in
theorem zfs (p left:Nat)(w:List Nat)(hw:w.length<1000000):FN ET 139 [uv left,wv p w] (.ret (.tuple [psv 0 (zaB left w),.list 0 1 ((zbD 0 left w).map fun x=>iv (x.1:Nat))])):=by
 refine zfn zwr (Lb.two (Lb.pvs _) ?_) ?_
 ·have:=Lb.ivs (z:=1) ((zbD 0 left w).map fun x=>(x.1:Int));rw[zDO9]at this;exact this
 (repeat(first|refine ze ?_|refine zgo ?_));refine zcn 66 2 (i:=6) rfl ?_;refine zcn 3 1 (i:=7) rfl ?_;simp only[lzy,zAC9,zAE9,zAG9,zAM9,zAF9,zAH9,zAI9];refine zK (zbd (fun m s=>∃(j:Nat) (V1 V2:List PV) (I:List (Nat×Pr)) (G:List zu),m=w.length-j/\j<=zbz w/\zbz w=j+zbz (w.drop (2*j))/\zbD 0 left w=I++zbD j (zb0 left w j) (w.drop (2*j))/\V1=I.map (fun x=>pv x.2)/\V2=I.map (fun x=>iv (x.1:Nat))/\s.tm 0=uv left/\s.tm 1=wv p w/\s.tm 6=.sl 0 V1.length 0 V1.length (2*V1.length) 2/\s.tm 7=.sl 1 V2.length 0 V2.length (2*V2.length) 1/\s.tm 8=iv j/\s.df=[]/\s.H=.row 66 2 V1.length 0 V1::.row 3 1 V2.length 0 V2::G) (n:=w.length) ?_ ?_)
 ·exact⟨0,[],[],[],[],rfl,zAU9 _,by simp,by simp[zb0],rfl,rfl,by simp[upd,zB],by simp[upd,zB],by simp[upd],by simp[upd],by simp[upd],rfl,rfl⟩
 ·rintro m ⟨tm,df,H⟩ ⟨j,V1,V2,I,G,rfl,hj,hraw,hit,hV1,hV2,h0,h1,h6,h7,h8,rfl,rfl⟩;dsimp only at h0 h1 h6 h7 h8;have hrl:=zih w;have hIl:I.length<=w.length:=by have:=zdB w 0 left;rw[hit,zAC9]at this;omega
  have hl1:V1.length=I.length:=by rw[hV1,zAA9]
  have hl2:V2.length=I.length:=by rw[hV2,zAA9]
  refine zaa ?_;(repeat refine ze ?_);refine zrg ?_ (by simp(disch:=omega)only[go_sem,h1,h8]<;>rfl);refine zca (znb p w (by omega)) ?_;refine zfx ?_;refine zd ?_;refine zae (by simp only[go_sem]<;>rfl) ?_ ?_
  ·intro hlt;have hlt:j<zbz w:=by have:=of_decide_eq_true hlt;omega
   have w1:IntKind.i64.wrap (2*(j:Int))=((2*j:Nat):Int):=by rw[wrap_i64 (by omega) (by omega)];omega
   have w2:IntKind.i64.wrap (((2*j:Nat):Int)+1)=((2*j+1:Nat):Int):=by rw[wrap_i64 (by omega) (by omega)];omega
   have c0:2*j<w.length:=by omega
   have c1:2*j+1<w.length:=by omega
   have z0:=zck c0;have z1:=zck c1;have hd:=zkf w j c1;have hx0:w[2*j]=w.getD (2*j) 0:=by rw[zAQ9,zAB9 c0];rfl
   have hx1:w[2*j+1]=w.getD (2*j+1) 0:=by rw[zAQ9,zAB9 c1];rfl
   have han:zb0 left w (j+1)=w.getD (2*j+1) 0:=by unfold zb0;rw[if_neg (by omega),zEZ9]
   have hah:=zhY p left w j (by omega) (by omega);rw[hx0,hx1]at hd;generalize w.getD (2*j) 0=k at *
   generalize w.getD (2*j+1) 0=x at *
   generalize zb0 left w j=a at *
   have hxz:x≠0:=by
    intro e;rw[hraw,hd,zbz,if_pos e]at hlt;omega
   rw[hd,zbz,if_neg hxz]at hraw;rw[hd,zbD,if_neg hxz]at hit;(repeat refine ze ?_);refine zK ?_;(repeat refine ze ?_);refine zap ?_
   by_cases he:x=a
   ·have g1:(x:Int)=a:=by omega
    rw[if_pos he]at hit;refine zdn hah ?_ (by simp(disch:=omega)only[go_sem,h0,h1,h8,w1,w2,c1,z1,zAA9]<;>rfl);refine zdl ?_ (by simp(disch:=omega)only[go_sem,h0,g1]<;>rfl);refine zR ?_;simp only[zo,zW,zg,go_sem];refine zfc ?_ ?_
    ·intro h;simp[g1]at h
    intro _;refine zQ ?_;simp only[zg,zj,zh,zi,zo,zk,if_true,reduceIte];(repeat refine ze ?_);refine zrg ?_ (by simp(disch:=omega)only[go_sem,h8]<;>rfl);refine zG ?_;simp only[zg,zj,zh,zi,zo,zk,if_true,↓reduceIte];refine⟨_,?m1,j+1,V1,V2,I,G,rfl,hlt,by omega,(by rw[han];exact hit),hV1,hV2,by simp[upd,h0],by simp[upd,h1],by simp[upd,h6],by simp[upd,h7],by simp[upd,h8],trivial,rfl⟩
    case m1=>omega
   ·have g1:¬(x:Int)=a:=by omega
    rw[if_neg he]at hit;refine zdn hah ?_ (by simp(disch:=omega)only[go_sem,h0,h1,h8,w1,w2,c1,z1,zAA9]<;>rfl);refine zdl ?_ (by simp(disch:=omega)only[go_sem,h0,g1]<;>rfl);refine zR ?_;simp only[zo,zW,zg,go_sem];refine zfc ?_ ?_;rotate_left
    ·intro h;simp[g1]at h
    intro _;have hb1:(V1.length+1)*17<=140737488355328:=by omega
    have hb2:(V2.length+1)*9<=140737488355328:=by omega
    (repeat refine ze ?_);refine zap ?_;refine zda ?_ (by simp(disch:=omega)only[go_sem,h0,h1,h6,h7,h8,w1,w2,c0,c1,z0,z1,hb1,zf,zAA9]<;>rfl);refine zdl ?_ (by simp(disch:=omega)only[go_sem,h0]<;>rfl);refine zR ?_;simp only[zo,zW,zg,go_sem];(repeat refine ze ?_);refine zrg ?_ (by simp(disch:=omega)only[go_sem,h7,h8,hb2,zf]<;>rfl);refine zG ?_;simp only[zg,zj,zh,zi,zo,zk,if_true,↓reduceIte];(repeat refine ze ?_);refine zrg ?_ (by simp(disch:=omega)only[go_sem,h8]<;>rfl);refine zG ?_;simp only[zg,zj,zh,zi,zo,zk,if_true,↓reduceIte];refine⟨_,?m2,j+1,V1++[pv (k,x)],V2++[iv (j:Nat)],I++[(j,(k,x))],?G2,rfl,hlt,by omega,(by rw[hit,han];simp),(by rw[hV1];simp),(by rw[hV2];simp),by simp[upd,h0],by simp[upd,h1],by simp[upd],by simp[upd],by simp[upd,h8],trivial,?H⟩
    case m2=>omega
    case H=>simp only[zAC9,zAE9,zAG9,zAF9,zAH9];rfl
  ·intro hlt;have hlt:¬j<zbz w:=by have:=of_decide_eq_false hlt;omega
   rw[zp2 (l:=w.drop (2*j)) (by omega),zDV9]at hit;simp only[zg,zj,zh,zi,zo,zk,if_true,reduceIte];(repeat(first|refine ze ?_|refine zgo ?_ (by simp(disch:=omega)only[go_sem,h6,h7]<;>rfl)));refine zF ?_;(try simp only[zg,zj,zh,zi,zk]);refine zq (by simp only[T139,zI,go_sem]<;>rfl) ?_;simp only[zP];have e1:zaB left w=I.map (fun x=>x.2):=by rw[<- zcj w 0 left,hit]
   have e2:(I.map (fun x=>x.2)).map pv=V1:=by rw[hV1,zDO9];rfl
   rw[e1,hit];refine Frz.tupL ⟨?_,?_,trivial⟩
   ·show Frz _ _ _ (.list 0 2 ((I.map fun x=>x.2).map pv));rw[e2];exact Frz.whole (l:=V1) rfl rfl rfl (zAK9 _) (fun v hv=>by rw[hV1]at hv;obtain⟨x,_,rfl⟩:=zAS9.1 hv;rfl) (by rw[<- e2];exact zd2)
   ·rw[<- hV2];have e3:V2=(I.map fun x=>(x.1:Int)).map iv:=by rw[hV2,zDO9];rfl
    exact Frz.whole (l:=V2) rfl rfl rfl (zAK9 _) (fun v hv=>by rw[hV2]at hv;obtain⟨x,_,rfl⟩:=zAS9.1 hv;rfl) (by rw[e3];exact zqt)
end Fv
end Go.Proofs.YtfomlmhnmheenaaGreat
