/- part 6 of the proof of tree_reads. -/
import Derived.Test.YtfomlmhnmheenaaGreatTR5
import Derived.KernelRfl
set_option linter.unusedSimpArgs false
set_option linter.unusedVariables false
set_option maxRecDepth 1000000
namespace Go.Proofs.YtfomlmhnmheenaaGreat
namespace Fv
open Tw
def zxY (f:Nat):Option (List TV->TH->Option (TE×TH)):=bif Nat.beq f 127 then some (znk 83)else bif Nat.beq f 9 then some zlt else bif Nat.beq f 56 then some (zhA 3)else none
noncomputable def ET:Env:=⟨(zeu.set 9 none).set 56 none,zxY,zgq,zps,0⟩
theorem zL {n:Nat}{f:Func}{F:zC}(h:Tryz.prog.funcs[n]?=some f)(hF:fnO Tryz.prog f=some F:=by kernel_rfl)(hn:n≠9/\n≠56:=by decide):ET.funcs.get n=some F:=by
 show ((zeu.set 9 none).set 56 none).get n=some F;rw[Tr.get_set,if_neg hn.2,Tr.get_set,if_neg hn.1];exact zzy h hF
theorem zzm:ET.funcs.get 56=none:=by
 show ((zeu.set 9 none).set 56 none).get 56=none;rw[Tr.get_set,if_pos rfl]
theorem zyF:ET.spec 56=some (zhA 3):=rfl
end Fv
end Go.Proofs.YtfomlmhnmheenaaGreat
namespace Go.Proofs.YtfomlmhnmheenaaGreat
namespace Fv
abbrev Pr:=Nat×Nat
def zbu (left n:Nat):Bool:=decide (left≠0)&&decide (n%2=0)&&decide (2<=n/2)&&decide (n/2<=28)
def zbm:List Nat->Nat
 | _::p::l=>if p=0 then 0 else zbm l+1
 | _=>0
def zav:Nat->List Nat->List Pr
 | prev,k::p::l=>if p=0 then[]else if p=prev then zav p l else(k,p)::zav p l
 | _,_=>[]
def zbB (left:Nat)(l:List Nat):List Pr:=if zbu left l.length=true then zav left l else[]
def zbi:List Pr->Bool
 | a::b::l=>decide (a.1<b.1)&&zbi (b::l)
 | _=>true
def zcq:List Nat->List Pr->Bool
 | seen,p::l=>!seen.contains p.2&&zcq (p.2::seen) l
 | _,[]=>true
def zdF:List Nat->Bool
 | _::p::l=>decide (p=0)&&zdF l
 | _=>true
def zcs (left:Nat)(l:List Nat):Bool :=
 zbi (zbB left l)&&zcq [left] (zbB left l)&&decide ((zbB left l).length=zbm l)&&decide ((zbB left l).length<l.length/2)&&zdF (l.drop (2*(zbB left l).length))
def zbz (left:Nat)(l:List Nat):Nat:=if zbu left l.length=true then if zcs left l=true then 0 else 190 else 2
def zbU (left:Nat)(l:List Nat)(j:Nat):Nat:=if j=0 then left else l.getD (2*(j-1)+1) 0
theorem zj8 (l:List Nat)(j:Nat)(h:2*j+1<l.length):l.drop (2*j)=l[2*j]::l[2*j+1]::l.drop (2*(j+1)):=by
 rw[zAU9 (i:=2*j) (by omega),zAU9 (i:=2*j+1) h];rfl
theorem zh7:∀l:List Nat,2*zbm l<=l.length
 | []=>by simp[zbm]
 | [_]=>by simp[zbm]
 | _::p::l=>by
  have:=zh7 l;rw[zbm]
  split<;>simp<;>omega
theorem zlN {l:List Nat}(h:l.length<2):zbm l=0:=by
 match l,h with
 | [],_=>rfl
 | [_],_=>rfl
@[reducible] def wv (p:Nat) (l:List Nat):PV:=.list p 1 (l.map uv)
@[reducible] def pv (x:Pr):PV:=.agg [uv x.1,uv x.2]
@[reducible] def psv (p:Nat) (l:List Pr):PV:=.list p 2 (l.map pv)
theorem Lb.uvs {z:Nat}(l:List Nat):Lb (.list 0 z (l.map uv)):=.list fun x hx=>by
 obtain⟨y,hy,hx⟩:=zBC9.1 hx;obtain⟨n,_,rfl⟩:=zAP9.1 hy;simp[PV.cells]at hx;subst hx;exact .int _ _
theorem Lb.ivs {z:Nat}(l:List Int):Lb (.list 0 z (l.map iv)):=.list fun x hx=>by
 obtain⟨y,hy,hx⟩:=zBC9.1 hx;obtain⟨n,_,rfl⟩:=zAP9.1 hy;simp[PV.cells]at hx;subst hx;exact .int _ _
theorem Lb.pvs {z:Nat}(l:List Pr):Lb (.list 0 z (l.map pv)):=.list fun x hx=>by
 obtain⟨y,hy,hx⟩:=zBC9.1 hx;obtain⟨n,_,rfl⟩:=zAP9.1 hy;simp[PV.cells]at hx;rcases hx with rfl|rfl<;>exact .int _ _
end Fv
end Go.Proofs.YtfomlmhnmheenaaGreat
namespace Go.Proofs.YtfomlmhnmheenaaGreat
namespace Fv
open Tw
attribute [local go_sem] zaZ zaz zab zap evs ev okv zbj zT.cls za5 za7 za9 zQ zR upd zo zaS zaQ zaR zax zaL zaP zaT zaM zaY zaO zar zaV zaU zaX zaW zaK zaN zae zaC zaJ zal zak zbg PV.cells ofC za6 zV zao okF zaf spl zaB zaF bnd zai zam zan za3 zbb zU zau zaH zaj za8 zbd zW lenP zc zk zah zba PV.toT zaA zH Nat.mul_mod_right Int.reduceOfNat Int.reduceToNat Int.cast_ofNat_Int Int.reduceLE Int.reduceLT Int.reduceAdd Int.reduceSub Int.reduceMul Int.reduceNegSucc Nat.reduceEqDiff if_true if_false ite_true ite_false decide_true decide_false Bool.not_true Bool.not_false and_true true_and and_self false_and and_false or_false false_or or_true true_or or_self List.length_cons List.length_nil List.length_map List.getElem?_cons_zero List.getElem?_cons_succ List.getElem?_map List.getElem?_nil Option.map_some Option.map_none Option.getD_some List.append_nil List.nil_append List.cons_append List.take_succ_cons List.take_zero List.drop_zero List.drop_succ_cons List.set_cons_zero List.set_cons_succ Int.toNat_natCast Int.natCast_nonneg Nat.le_refl Nat.zero_le Nat.reduceAdd Nat.reduceSub Nat.reduceMul Nat.reduceLeDiff Nat.reduceLT Bool.false_eq_true Bool.true_eq_false Nat.add_zero Nat.zero_add List.all_cons List.all_nil Bool.and_true Bool.and_self Bool.true_and Nat.reduceMod Nat.reduceDiv eq_self zaq zaD zX za4 evN za0 dpF zaI zbf zaw za1 zbe zaE List.filter_cons List.filter_nil List.contains_cons List.contains_nil Nat.reduceBEq zac zad zP Option.some.injEq Option.isSome_some wrap_i64 zJ zaG Bool.or_self Bool.or_false Bool.false_or daF dnF xT T4 T5 T8 T9 T10 T11 T12 T13 T14 T15 T16 T17 T18 T19 T20 T21 T22 T23 T24 T25 T26 T27 T28 T30 T33 T34 T36 T37 T38 T39 T40 T41 T42 T43 T44 T45 T46 T47 T48 T49 T50 T51 T52 T53 T54 T55 T56 T57 T58 T59 T60 T61 T62 T63 T64 T65 T66 T67 T68 T69 T70 T71 T72 T73 T75 T76 T77 T80 T81 T82 T83 T84 T85 T86 T87 T88 T89 T90 T91 T92 T93 T94 T95 T96 T97 T98 T99 T100 T101 T102 T103 T104 T105 T106 T107 T108 T109 T110 T111 T112 T113 T114 T115 T116 T119 T120 T121 T122 T123 T124 T125 T126 T129 T130 T131 T132 T133 T134 T135 T136 T137 T138 T139 T140 T141 T142 T143 T144 T145 T146 T147 T148 T149 T150 T151 T152 T153 T154 T155 T156 T157 T158 T159 T160 T161 T162 T163 T164 T165 T166 T167 T168 T169 T170 T171 T173 T174 T175 T176 T177 T178 T181 T182 T183 T184 T185 T186 T187 T188 T189 T190 T191 T192 T193 T194 T195 T196 T197 T198 T199 T200 T201 T202 T203 T204 T205 T206 T207 T208 T209 T210 T211 T212 T213 T214 T215 T216 T217 T218 T219 T220 T222 T223
attribute [local go_sem ↓] reduceIte
set_option maxRecDepth 100000
theorem f65:ET.funcs.get 65=some T65:=zL Tryz.func65
theorem f132:ET.funcs.get 132=some T132:=zL Tryz.func132
theorem f58:ET.funcs.get 58=some T58:=zL Tryz.func58
theorem f170:ET.funcs.get 170=some T170:=zL Tryz.func170
theorem f188:ET.funcs.get 188=some T188:=zL Tryz.func188
theorem f185:ET.funcs.get 185=some T185:=zL Tryz.func185
theorem f181:ET.funcs.get 181=some T181:=zL Tryz.func181
theorem f135:ET.funcs.get 135=some T135:=zL Tryz.func135
theorem f184:ET.funcs.get 184=some T184:=zL Tryz.func184
@[reducible] def zc0 (n:Int):PV:=.iface 31 (.int .i64 n)
theorem zhh (e:Int):FN ET 65 [.bool true,.int .i64 e] (.ret (.tuple [])):=by
 refine zfn f65 Lb.unit ?_;refine za (zgo ?_);refine zfc ?_ ?_
 ·intro h;cases h
 ·intro _;refine zF ?_;exact⟨[],rfl,Frz.tupL trivial⟩
theorem zeq (e:Int):FN ET 65 [.bool false,.int .i64 e] (.panic (zc0 e)):=by
 refine zfn f65 (.iface (.int _ _)) ?_;refine za (zgo ?_);refine zfc ?_ ?_
 ·intro _;refine zr ?_;refine zfx ?_;refine zpJ (ty:=31) (v:=.int .i64 e) rfl (by simp[evs,ev,okv,upd,zo]) ?_;exact Frz.iface (.int _ _)
 ·intro h;cases h
theorem zh0 (e:Int):FN ET 132 [.bool true,.int .i64 e] (.ret (.tuple [])):=by
 refine zfn f132 Lb.unit ?_;refine za (zgo ?_);refine zfc ?_ ?_
 ·intro h;cases h
 ·intro _;refine zF ?_;exact⟨[],rfl,Frz.tupL trivial⟩
theorem zgK (e:Int):FN ET 132 [.bool false,.int .i64 e] (.panic (zc0 e)):=by
 refine zfn f132 (.iface (.int _ _)) ?_;refine za (zgo ?_);refine zfc ?_ ?_
 ·intro _;refine zr ?_;refine zfx ?_;refine zpJ (ty:=31) (v:=.int .i64 e) rfl (by simp[evs,ev,okv,upd,zo]) ?_;exact Frz.iface (.int _ _)
 ·intro h;cases h
theorem zms (p:Nat)(l:List Int)(n:Int)(hl:l.length<4611686018427387904):FN ET 58 [.list p 1 (l.map iv),.int .i64 n] (.ret (.bool (l.contains n))):=by
 refine zfn f58 (.bool _) ?_;refine za (zgo ?_);refine za ?_;refine za (zgo ?_);refine zD (zas (fun m s=>∃i:Nat,m=l.length-i/\i<=l.length/\(l.take i).contains n=false/\s.tm 0=.list p 1 (l.map iv)/\s.tm 1=.int .i64 n/\s.tm 5=.int .i64 i/\s.df=[]/\s.H=[]) (n:=l.length) ?_ ?_)
 ·exact⟨0,by simp[upd,zo]⟩
 ·rintro m ⟨tm,df,H⟩ ⟨i,rfl,hi,hc,h0,h1,h5,rfl,rfl⟩;dsimp only at h0 h1 h5;refine zK ?_;refine za (zgo ?_ (by simp(disch:=omega)only[go_sem,h0,h1,h5]<;>rfl));refine zN (by simp only[go_sem]<;>rfl) ?_ ?_
  ·intro hlt;have hlt:i<l.length:=by have:=of_decide_eq_true hlt;omega
   refine za (zD ?_);refine za (zgo ?_ (by simp(disch:=omega)only[go_sem,h0,h1,h5,zAB9 hlt]<;>rfl));refine zfc ?_ ?_
   ·intro he;have he:=of_decide_eq_true he;refine za (zgo ?_);refine zq ?_;(try simp only[zb,zf,ze,zd,zg]);refine zj (by simp only[T58,zE,go_sem]<;>rfl) ?_;simp only[zG];have:l.contains n=true:=by
     rw[zDB9];rw[<- he];exact zBP9 hlt
    rw[this];exact Frz.bool _
   ·intro he;have he:=of_decide_eq_false he;refine zF ?_;simp only[zb,zf,ze,zd,zi,zg,if_true,reduceIte];refine zr ?_;refine zfx ?_ (by simp(disch:=omega)only[go_sem,h0,h1,h5]<;>rfl);refine zy ?_;refine⟨_,?_,i+1,rfl,hlt,?_,?_⟩
    ·omega
    ·rw[List.take_succ_eq_append_getElem hlt];rw[List.contains_append,hc];simp[Ne.symm he]
    ·have:IntKind.i64.wrap ((i:Int)+1)=((i+1:Nat):Int):=by rw[wrap_i64 (by omega) (by omega)];omega
     simp[upd,h0,h1,this]
  ·intro hlt;have hlt:¬i<l.length:=by have:=of_decide_eq_false hlt;omega
   obtain rfl:i=l.length:=by omega
   simp only[zb,zf,ze,zd,zi,zg,if_true,reduceIte];refine za (zgo ?_);refine zq ?_;(try simp only[zb,zf,ze,zd,zg]);refine zj (by simp only[T58,zE,go_sem]<;>rfl) ?_;simp only[zG];rw[zBK9]at hc;rw[hc];exact Frz.bool _
abbrev za2 (n:Nat):Prop:=n<4611686018427387904
theorem zic (p:Nat)(w:List Nat)(hw:za2 w.length):FN ET 170 [wv p w] (.ret (.int .i64 (w.length/2:Nat))):=by
 refine zfn f170 (.int _ _) ?_;refine za (zgo ?_);have e1:IntKind.i64.wrap ((w.length:Int).tdiv 2)=((w.length/2:Nat):Int):=by
  rw[IntWalk.i64_quo _ _ (by omega)];omega
 refine za (zr ?_);refine zfx ?_ (by simp(disch:=omega)only[go_sem,e1]<;>rfl);refine zh ?_;refine zq ?_;(try simp only[zb,zf,ze,zd,zg]);refine zj (by simp only[T170,zE,go_sem]<;>rfl) ?_;simp only[zG];exact Frz.int _ _
theorem zxT (p:Nat)(w:List Nat)(j:Nat)(hw:za2 w.length)(h:2*j<w.length):FN ET 188 [wv p w,.int .i64 j] (.ret (uv w[2*j])):=by
 refine zfn f188 (.int _ _) ?_;refine za (zgo ?_);have e1:IntKind.i64.wrap (2*(j:Int))=2*(j:Int):=wrap_i64 (by omega) (by omega);have e2:(2*(j:Int)).toNat=2*j:=by omega
 have e3:(0:Int)<=2*(j:Int):=by omega
 refine za (zgo ?_ (by simp(disch:=omega)only[go_sem,e1,e2,e3,zAB9 h]<;>rfl));refine zq ?_;(try simp only[zb,zf,ze,zd,zg]);refine zj (by simp only[T188,zE,go_sem]<;>rfl) ?_;simp only[zG];exact Frz.int _ _
theorem zjj (p:Nat)(w:List Nat)(j:Nat)(hw:za2 w.length)(h:2*j+1<w.length):FN ET 185 [wv p w,.int .i64 j] (.ret (uv w[2*j+1])):=by
 refine zfn f185 (.int _ _) ?_;refine za (zgo ?_);have e1:IntKind.i64.wrap (2*(j:Int))=2*(j:Int):=wrap_i64 (by omega) (by omega);have e4:IntKind.i64.wrap (2*(j:Int)+1)=2*(j:Int)+1:=wrap_i64 (by omega) (by omega);have e2:(2*(j:Int)+1).toNat=2*j+1:=by omega
 have e3:(0:Int)<=2*(j:Int)+1:=by omega
 refine za (zgo ?_ (by simp(disch:=omega)only[go_sem,e1,e2,e3,e4,zAB9 h]<;>rfl));refine zq ?_;(try simp only[zb,zf,ze,zd,zg]);refine zj (by simp only[T185,zE,go_sem]<;>rfl) ?_;simp only[zG];exact Frz.int _ _
@[reducible] def zgx (p:Nat) (w:List Nat) (left:Nat):PV:=.agg [wv p w,uv left]
theorem zpH (p:Nat)(w:List Nat)(left:Nat)(hw:za2 w.length):FN ET 181 [zgx p w left] (.ret (.bool (zbu left w.length))):=by
 refine zfn f181 (.bool _) ?_;refine za (zgo ?_);refine za (zr ?_)
 by_cases h1:left=0
 ·subst h1;refine zfx ?_;refine zh ?_;refine zq ?_;(try simp only[zb,zf,ze,zd,zg]);refine zj (by simp only[T181,zE,go_sem]<;>rfl) ?_;simp only[zG];exact Frz.bool _
 ·have g1:¬(left:Int)=0:=by omega
  by_cases h2:w.length%2=0
  ·have g2:(w.length:Int).tmod 2=0:=by rw[IntWalk.rem_in _ _ (by omega)];omega
   refine zfx ?_ (by simp(disch:=omega)only[go_sem,g1,g2]<;>rfl);refine zca (zic p w hw) ?_
   by_cases h3:2<=w.length/2
   ·have g3:(2:Int)<=((w.length/2:Nat):Int):=by omega
    refine zfx ?_ (by simp(disch:=omega)only[go_sem,g3]<;>rfl);refine zca (zic p w hw) ?_;refine zfx ?_;refine zh ?_;refine zq ?_;(try simp only[zb,zf,ze,zd,zg]);refine zj (by simp only[T181,zE,go_sem]<;>rfl) ?_;simp only[zG];have:zbu left w.length=decide (((w.length/2:Nat):Int)<=28):=by simp[zbu,h1,h2,h3];omega
    rw[this];exact Frz.bool _
   ·have g3:¬(2:Int)<=((w.length/2:Nat):Int):=by omega
    refine zfx ?_ (by simp(disch:=omega)only[go_sem,g3]<;>rfl);refine zh ?_;refine zq ?_;(try simp only[zb,zf,ze,zd,zg]);refine zj (by simp only[T181,zE,go_sem]<;>rfl) ?_;simp only[zG];have:zbu left w.length=false:=by simp[zbu,h1,h2,h3]
    rw[this];exact Frz.bool _
  ·have g2:¬(w.length:Int).tmod 2=0:=by rw[IntWalk.rem_in _ _ (by omega)];omega
   refine zfx ?_ (by simp(disch:=omega)only[go_sem,g1,g2]<;>rfl);refine zh ?_;refine zq ?_;(try simp only[zb,zf,ze,zd,zg]);refine zj (by simp only[T181,zE,go_sem]<;>rfl) ?_;simp only[zG];have:zbu left w.length=false:=by simp[zbu,h1,h2]
   rw[this];exact Frz.bool _
theorem f183:ET.funcs.get 183=some T183:=zL Tryz.func183
theorem f182:ET.funcs.get 182=some T182:=zL Tryz.func182
theorem zu0 (p:Nat)(w:List Nat)(left j:Nat)(hw:za2 w.length)(h:2*j<w.length+1):FN ET 135 [zgx p w left,.int .i64 j] (.ret (uv (zbU left w j))):=by
 refine zfn f135 (.int _ _) ?_;(repeat(first|refine za ?_|refine zgo ?_));refine zfc ?_ ?_
 ·intro hj;obtain rfl:j=0:=by have:=of_decide_eq_true hj;omega
  (repeat(first|refine za ?_|refine zgo ?_));refine zq ?_;(try simp only[zb,zf,ze,zd,zg]);refine zj (by simp only[T135,zE,go_sem]<;>rfl) ?_;simp only[zG];exact Frz.int _ _
 ·intro hj;have hj:¬j=0:=by have:=of_decide_eq_false hj;omega
  refine zF ?_;show W _ _ _ _ _ _;(repeat refine za ?_);refine zrg ?_;have e1:(j:Int)-1=((j-1:Nat):Int):=by omega
  rw[e1];refine zca (zjj p w (j-1) hw (by omega)) ?_;refine zfx ?_;refine zh ?_;refine zq ?_;(try simp only[zb,zf,ze,zd,zg]);refine zj (by simp only[T135,zE,go_sem]<;>rfl) ?_;simp only[zG];have:zbU left w j=w[2*(j-1)+1]'(by omega):=by
   unfold zbU;rw[if_neg hj,zAQ9,zAB9 (by omega)];rfl
  rw[this];exact Frz.int _ _
theorem zuK (p:Nat)(w:List Nat)(left:Nat)(hw:za2 w.length):FN ET 184 [zgx p w left] (.ret (.int .i64 (zbm w:Nat))):=by
 refine zfn f184 (.int _ _) ?_;(repeat(first|refine za ?_|refine zgo ?_));refine zD (zas (fun m s=>∃i:Nat,m=w.length-i/\2*i<=w.length/\zbm w=i+zbm (w.drop (2*i))/\s.tm 1=.ptr 0 0 0 0 2/\s.tm 2=.int .i64 i/\s.df=[]/\s.H=[.row 209 2 0 0 [zgx p w left]]) (n:=w.length) ?_ ?_)
 ·exact⟨0,by simp[upd,zo]⟩
 ·rintro m ⟨tm,df,H⟩ ⟨i,rfl,hi,hc,h1,h2,rfl,rfl⟩;dsimp only at h1 h2;refine zK ?_;(repeat refine za ?_);refine zrg ?_ (by simp(disch:=omega)only[go_sem,h1,h2]<;>rfl);refine zca (zic p w hw) ?_;have stop:∀tm',zbm (w.drop (2*i))=0->tm' 2=.int .i64 i->zf (fun m s=>∃i:Nat,m=w.length-i/\2*i<=w.length/\zbm w=i+zbm (w.drop (2*i))/\s.tm 1=.ptr 0 0 0 0 2/\s.tm 2=.int .i64 i/\s.df=[]/\s.H=[.row 209 2 0 0 [zgx p w left]]) (w.length-i)
    (ze 0 (zb (fun s'=>W ET ET.caught none (.seq (.region [⟨some 17,.mov,[.tmp 2],none⟩,⟨some 2,.mov,[.tmp 17],none⟩]) .ret) s' (zcT ET T184 fun e' H=>zay H 0 e' (.ret (.int .i64 (zbm w:Nat))))) (zcT ET T184 fun e' H=>zay H 0 e' (.ret (.int .i64 (zbm w:Nat)))))) (.exit 0) ⟨tm',[],[.row 209 2 0 0 [zgx p w left]]⟩:=fun tm' h0 ht=>by
   simp only[zb,zf,ze,zd,zi,zg,if_true,reduceIte];(repeat(first|refine za ?_|refine zgo ?_ (by simp(disch:=omega)only[go_sem,ht]<;>rfl)));refine zq ?_;(try simp only[zb,zf,ze,zd,zg]);refine zj (by simp only[T184,zE,go_sem]<;>rfl) ?_;simp only[zG];rw[hc,h0];exact Frz.int _ _
  by_cases hlt:i<w.length/2
  ·have g1:(i:Int)<((w.length/2:Nat):Int):=by omega
   refine zfx ?_ (by simp(disch:=omega)only[go_sem,g1,h1,h2]<;>rfl);refine zca (zjj p w i hw (by omega)) ?_;refine zfx ?_;refine zh ?_;have hd:=zj8 w i (by omega);refine zN (by simp only[go_sem]<;>rfl) ?_ ?_
   ·intro hz;have hz:¬w[2*i+1]'(by omega)=0:=by simpa using hz
    refine zD ?_;(repeat refine za ?_);refine zrg ?_ (by simp(disch:=omega)only[go_sem,h2]<;>rfl);refine zy ?_;simp only[zb,zf,ze,zd,zi,zg,if_true,↓reduceIte];refine⟨_,?_,i+1,rfl,?_,?_,?_⟩
    ·omega
    ·omega
    ·rw[hc,hd,zbm,if_neg hz];omega
    ·simp[upd,h1]
   ·intro hz;have hz:w[2*i+1]'(by omega)=0:=by simpa using hz
    refine stop _ ?_ (by simp[upd,h2]);rw[hd,zbm,if_pos hz]
  ·have g1:¬(i:Int)<((w.length/2:Nat):Int):=by omega
   refine zfx ?_ (by simp(disch:=omega)only[go_sem,g1,h1,h2]<;>rfl);refine zh ?_;refine zN (by simp only[go_sem]<;>rfl) ?_ ?_
   ·intro h;cases h
   ·intro _;refine stop _ ?_ (by simp[upd,h2]);exact zlN (by simp;omega)
theorem zw1 (a b:Pr):FN ET 183 [pv a,pv b] (.ret (.bool (decide (a.1<b.1)))):=by
 refine zfn f183 (.bool _) ?_;(repeat(first|refine za ?_|refine zgo ?_));refine zq ?_;(try simp only[zb,zf,ze,zd,zg]);refine zj (by simp only[T183,zE,go_sem]<;>rfl) ?_;simp only[zG];have:decide ((a.1:Int)<(b.1:Int))=decide (a.1<b.1):=by simp
 rw[this];exact Frz.bool _
theorem zwd {α:Type}(l:List α)(i:Nat)(h:i+1<l.length):l.drop i=l[i]::l[i+1]::l.drop (i+2):=by
 rw[zAU9 (by omega),zAU9 h]
theorem zq7 {l:List Pr}(h:l.length<2):zbi l=true:=by
 match l,h with
 | [],_=>rfl
 | [_],_=>rfl
theorem ztU (p:Nat)(l:List Pr)(hl:za2 l.length):FN ET 182 [psv p l,.fn 183 []] (.ret (.bool (zbi l))):=by
 refine zfn f182 (.bool _) ?_;(repeat(first|refine za ?_|refine zgo ?_));refine zD (zas (fun m s=>∃i:Nat,m=l.length+1-i/\i<=l.length/\zbi l=zbi (l.drop i)/\s.tm 0=psv p l/\s.tm 1=.fn 183 []/\s.tm 5=.int .i64 (i+1:Nat)/\s.df=[]/\s.H=[]) (n:=l.length+1) ?_ ?_)
 ·exact⟨0,by simp[upd,zo]⟩
 ·rintro m ⟨tm,df,H⟩ ⟨i,rfl,hi,hc,h0,h1,h5,rfl,rfl⟩;dsimp only at h0 h1 h5;(try refine zK ?_);refine za (zr ?_);refine zfx ?_ (by simp(disch:=omega)only[go_sem,h0,h1,h5]<;>rfl);refine zh ?_;refine zN (by simp only[go_sem]<;>rfl) ?_ ?_
  ·intro hlt;have hlt:i+1<l.length:=by have:=of_decide_eq_true hlt;omega
   refine za (zD ?_);refine za ?_;refine zag ?_;have e1:((i+1:Nat):Int)-1=(i:Int):=by omega
   refine zdn (zw1 l[i] l[i+1]) ?_ (by simp(disch:=omega)only[go_sem,h0,h1,h5,e1,zAB9 hlt,zAB9 (show i<l.length by omega)]<;>rfl);refine zdl ?_ (by simp(disch:=omega)only[go_sem,h0]<;>rfl);refine zM ?_;simp only[zi,zS,zb,go_sem];have hd:=zwd l i hlt;refine zfc ?_ ?_
   ·intro hb;have hb:¬(l[i].1<l[i+1].1):=by simpa using hb
    (repeat(first|refine za ?_|refine zgo ?_));refine zq ?_;(try simp only[zb,zf,ze,zd,zg]);refine zj (by simp only[T182,zE,go_sem]<;>rfl) ?_;simp only[zG];rw[hc,hd,zbi];simp only[hb,decide_false,zEI9];exact Frz.bool _
   ·intro hb;have hb:l[i].1<l[i+1].1:=by simpa using hb
    refine zF ?_;simp only[zb,zf,ze,zd,zi,zg,if_true,reduceIte];(repeat refine za ?_);refine zrg ?_ (by simp(disch:=omega)only[go_sem,h5]<;>rfl);refine zy ?_;simp only[zb,zf,ze,zd,zi,zg,if_true,↓reduceIte];refine⟨_,?_,i+1,rfl,by omega,?_,?_⟩
    ·omega
    ·rw[hc,hd,zbi,zAU9 hlt];simp[hb]
    ·simp[upd,h0,h1]
  ·intro hlt;have hlt:¬i+1<l.length:=by have:=of_decide_eq_false hlt;omega
   simp only[zb,zf,ze,zd,zi,zg,if_true,reduceIte];(repeat(first|refine za ?_|refine zgo ?_));refine zq ?_;(try simp only[zb,zf,ze,zd,zg]);refine zj (by simp only[T182,zE,go_sem]<;>rfl) ?_;simp only[zG];rw[hc,zq7 (by simp;omega)];exact Frz.bool _
def zbC:Nat->Nat->List Nat->List (Nat×Pr)
 | i,prev,k::p::l=>if p=0 then[]else if p=prev then zbC (i+1) p l else(i,(k,p))::zbC (i+1) p l
 | _,_,_=>[]
def zcF (left:Nat)(l:List Nat):List (Nat×Pr):=if zbu left l.length=true then zbC 0 left l else[]
theorem zcp:∀(l:List Nat) (i prev:Nat),(zbC i prev l).map (·.2)=zav prev l
 | [],_,_=>by simp[zbC,zav]
 | [_],_,_=>by simp[zbC,zav]
 | k::p::l,i,prev=>by
  rw[zbC,zav]
  split
  ·rfl
  ·split
   ·exact zcp l (i+1) p
   ·simp[zcp l (i+1) p]
theorem zf5 (left:Nat)(l:List Nat):(zcF left l).map (·.2)=zbB left l:=by
 unfold zcF zbB
 split
 ·exact zcp l 0 left
 ·rfl
theorem f223:ET.funcs.get 223=some T223:=zL Tryz.func223
theorem f215:ET.funcs.get 215=some T215:=zL Tryz.func215
theorem f164:ET.funcs.get 164=some T164:=zL Tryz.func164
theorem zuU (id p:Nat)(w:List Nat)(left:Nat)(hw:za2 w.length)(P:Nat->List zn)(hlen:∀k,(P k).length=(P 0).length)(hnr:∀(k i:Nat) (o:zn),(P k)[i]?=some o->NRO (P 0).length o)
  (hy:∀(k j:Nat) (x:Pr) (G:List zn),(zcF left w)[k]?=some (j,x)->FY ET id [.int .i64 j,pv x] (P k++G) fun r H'=>r=true/\H'=P (k+1)++G) :
  FO ET 223 [.yield id,.elem [wv p w],.elem [uv left]] (P 0) false fun e H'=>e=.ret (.tuple [])/\H'=P (zcF left w).length:=by
 refine FO.gc (zro f223 ?_);have hb:∀k (x:zn),(P k++[x])[(P 0).length]?=some x:=fun k x=>by rw[<- hlen k];exact zc _ _
 have hs:∀k (x y:zn),(P k++[x]).set (P 0).length y=P k++[y]:=fun k x y=>by rw[<- hlen k];exact zk _ _ _
 have fin:∀(tm:Nat->PV) (k:Nat),k=(zcF left w).length->zcT ET T223 (fun e H'=>∃H'' G,zhE (P 0) H' H'' G/\NRE (P 0).length e/\e=.ret (.tuple [])/\H''=P (zcF left w).length) .ret ⟨tm,[],P k++[.row 209 2 0 0 [zgx p w left]]⟩:=fun tm k hk=>by
  subst hk;refine zj (vs:=[]) rfl ⟨P (zcF left w).length,_,⟨rfl,hlen _,fun i o ho=>.inr (hnr _ i o ho)⟩,.tuple (fun x h=>by cases h),rfl,rfl⟩
 refine zr2 ?_;(repeat refine za ?_);refine zgo ?_ (by simp(disch:=omega)only[go_sem,hb 0,hs 0]<;>rfl);(repeat refine za ?_);refine zrg ?_ (by simp(disch:=omega)only[go_sem,hb 0]<;>rfl);refine zca (zpH p w left hw) ?_;refine zfx ?_;refine zh ?_
 by_cases hr:zbu left w.length=true
 ·have hev:w.length%2=0:=by simp[zbu]at hr;omega
  have hit:zcF left w=zbC 0 left w:=by unfold zcF;rw[if_pos hr]
  refine zfc ?_ ?_
  ·rw[hr];intro h;cases h
  ·intro _;refine zF ?_;show W _ _ _ _ _ _;refine za (zF ?_);simp only[zb,zf,ze,zd,zi,zg,if_true,reduceIte];(repeat refine za ?_);refine zrg ?_ (by simp(disch:=omega)only[go_sem,hb 0]<;>rfl);refine zca (zuK p w left hw) ?_;refine zfx ?_;refine zh ?_;refine zD (zas (fun m s=>∃j k:Nat,m=w.length-j/\j<=zbm w/\zbm w=j+zbm (w.drop (2*j))/\k<=(zcF left w).length/\(zcF left w).drop k=zbC j (zbU left w j) (w.drop (2*j))/\s.tm 0=.yield id/\s.tm 4=.ptr (P 0).length 0 0 0 2/\s.tm 13=.int .i64 (zbm w:Nat)/\s.tm 14=.int .i64 j/\s.df=[]/\s.H=P k++[.row 209 2 0 0 [zgx p w left]]) (n:=w.length) ?_ ?_)
   ·exact⟨0,0,by simp,by omega,by simp,by omega,by simp[hit,zbU],by simp[upd,zo],by simp[upd,zo],by simp[upd,zo],by simp[upd,zo],rfl,rfl⟩
   ·rintro m ⟨tm,df,H⟩ ⟨j,k,rfl,hj,hraw,hk,hdk,h0,h4,h13,h14,rfl,rfl⟩;dsimp only at h0 h4 h13 h14;have hrl:=zh7 w;(try refine zK ?_);refine za (zr ?_);refine zfx ?_ (by simp(disch:=omega)only[go_sem,h0,h4,h13,h14]<;>rfl);refine zh ?_;refine zN (by simp only[go_sem]<;>rfl) ?_ ?_
    ·intro hlt;have hlt:j<zbm w:=by have:=of_decide_eq_true hlt;omega
     have hd:=zj8 w j (by omega);have hpz:¬w[2*j+1]'(by omega)=0:=by
      intro e;rw[hd,zbm,if_pos e]at hraw;omega
     rw[hd,zbC,if_neg hpz]at hdk;rw[hd,zbm,if_neg hpz]at hraw;have hah:zbU left w (j+1)=w[2*j+1]'(by omega):=by
      unfold zbU;rw[if_neg (by omega),zAQ9];simp only[zFE9];rw[zAB9 (by omega)];rfl
     refine za (zD ?_);(repeat refine za ?_);refine zgo ?_ (by simp(disch:=omega)only[go_sem,h14]<;>rfl);refine za ?_;refine zag ?_;refine zdn (zjj p w j hw (by omega)) ?_ (by simp(disch:=omega)only[go_sem,h0,h4,h14,hb k]<;>rfl);refine zdn (zu0 p w left j hw (by omega)) ?_ (by simp(disch:=omega)only[go_sem,h0,h4,h14,hb k]<;>rfl)
     by_cases heq:w[2*j+1]'(by omega)=zbU left w j
     ·have g1:((w[2*j+1]'(by omega):Nat):Int)=((zbU left w j:Nat):Int):=by rw[heq]
      rw[if_pos heq]at hdk;refine zez (by first|exact trivial|simp only[go_sem,g1,h0,h4,h14,hb k]) (by simp(disch:=omega)only[go_sem,g1,h0,h4,h14,hb k]<;>rfl) rfl (by simp only[go_sem,g1,h0,h4,h14,hb k]<;>rfl) (by simp only[go_sem]<;>rfl) ?_;refine zez (by first|exact trivial|simp only[go_sem,g1,h0,h4,h14,hb k]) (by simp(disch:=omega)only[go_sem,g1,h0,h4,h14,hb k]<;>rfl) rfl (by simp only[go_sem,g1,h0,h4,h14,hb k]<;>rfl) (by simp only[go_sem]<;>rfl) ?_;refine zez (by first|exact trivial|simp only[go_sem,g1,h0,h4,h14,hb k]) (by simp(disch:=omega)only[go_sem,g1,h0,h4,h14,hb k]<;>rfl) rfl (by simp only[go_sem,g1,h0,h4,h14,hb k]<;>rfl) (by simp only[go_sem]<;>rfl) ?_;refine zdl ?_ (by simp(disch:=omega)only[go_sem,g1,h0,h4,h14,hb k]<;>rfl);refine zM ?_;simp only[zi,zS,zb,go_sem];refine zfc ?_ ?_
      ·intro h;cases h
      ·intro _;refine zF ?_;simp only[zb,zf,ze,zd,zi,zg,if_true,reduceIte];(repeat refine za ?_);refine zrg ?_ (by simp(disch:=omega)only[go_sem,h14]<;>rfl);refine zy ?_;simp only[zb,zf,ze,zd,zi,zg,if_true,↓reduceIte];refine⟨_,?_,j+1,k,rfl,by omega,by omega,hk,?_,?_⟩
       ·omega
       ·rw[hdk,hah]
       ·simp[upd,h0,h4,h13]
     ·have g1:¬((w[2*j+1]'(by omega):Nat):Int)=((zbU left w j:Nat):Int):=by omega
      rw[if_neg heq]at hdk;have hk1:(zcF left w)[k]?=some (j,(w[2*j]'(by omega),w[2*j+1]'(by omega))):=by
       have:=congrArg List.head? hdk;rw[List.head?_drop]at this;simpa using this
      have hk2:k<(zcF left w).length:=(zAD9.1 hk1).1;have hdk2:(zcF left w).drop (k+1)=zbC (j+1) (w[2*j+1]'(by omega)) (w.drop (2*(j+1))):=by
       rw[<- zEH9,hdk];rfl
      refine zdn (zxT p w j hw (by omega)) ?_ (by simp(disch:=omega)only[go_sem,g1,h0,h4,h14,hb k]<;>rfl);refine zdn (zjj p w j hw (by omega)) ?_ (by simp(disch:=omega)only[go_sem,g1,h0,h4,h14,hb k]<;>rfl);refine zvb (s1:=?_) (id:=?_) (vs:=?_) ?_ ?_ rfl rfl ?_ ?_ ?_;rotate_left 3;(first|exact trivial|(simp only[go_sem,g1,h0,h4,h14,hb k]));(simp(disch:=omega)only[go_sem,wrap_i64,zJ,zaG,g1,h0,h4,h14,hb k]<;>rfl);(first|rfl|(simp only[go_sem,g1,h0,h4,h14,hb k]<;>rfl));(simp only[go_sem,g1,h0,h4,h14,hb k]<;>rfl);refine FY.mono (hy k j _ _ hk1) fun r H' hh=>?_;obtain⟨rfl,rfl⟩:=hh;refine⟨_,by simp only[go_sem]<;>rfl,?_⟩;generalize zaw _ _=K0;refine zdl ?_ (by simp(disch:=omega)only[go_sem,g1]<;>rfl);refine zM ?_;simp only[zi,zS,zb,go_sem];refine zfc ?_ ?_
      ·intro h;cases h
      ·intro _;refine zF ?_;simp only[zb,zf,ze,zd,zi,zg,if_true,reduceIte];(repeat refine za ?_);refine zrg ?_ (by simp(disch:=omega)only[go_sem,h14]<;>rfl);refine zy ?_;simp only[zb,zf,ze,zd,zi,zg,if_true,↓reduceIte];refine⟨_,?_,j+1,k+1,rfl,by omega,by omega,hk2,?_,?_⟩
       ·omega
       ·rw[hdk2,hah]
       ·simp[upd,h0,h4,h13]
    ·intro hlt;have hlt:¬j<zbm w:=by have:=of_decide_eq_false hlt;omega
     obtain rfl:j=zbm w:=by omega
     simp only[zb,zf,ze,zd,zi,zg,if_true,reduceIte];have hz:zbC (zbm w) (zbU left w (zbm w)) (w.drop (2*zbm w))=[]:=by
      have hr0:zbm (w.drop (2*zbm w))=0:=by omega
      revert hr0
      generalize w.drop (2*zbm w)=l
      match l with
      | []=>intro _;simp[zbC]
      | [_]=>intro _;simp[zbC]
      | a::b::l =>
       intro hr0;rw[zbm]at hr0
       split at hr0
       ·rename_i hb;rw[zbC,if_pos hb]
       ·omega
     rw[hz]at hdk;have hk3:k=(zcF left w).length:=by
      have:=congrArg List.length hdk;simp at this;omega
     exact fin _ _ hk3
 ·have hr:zbu left w.length=false:=by simpa using hr
  refine zfc ?_ ?_
  ·intro _;refine zq ?_;simp only[zb,zf,ze,zd,zi,zg,if_true,reduceIte];exact fin _ 0 (by simp[zcF,hr])
  ·rw[hr];intro h;cases h
theorem zxf (p:Nat)(w:List Nat)(left:Nat):FP ET 215 [uv left,wv p w] (.ret (.fn 223 [.elem [wv p w],.elem [uv left]])):=by
 refine zfp f215 ?_;(repeat(first|refine za ?_|refine zgo ?_));refine zq ?_;(try simp only[zb,zf,ze,zd,zg]);refine zj (by simp only[T215,zE,go_sem]<;>rfl) ?_;simp only[zG];refine Frz.fnL ⟨.ptr (w:=wv p w) rfl (zAM9 _) rfl fun j x y hx hy=>?_,.ptr (w:=uv left) rfl (zAM9 _) rfl fun j x y hx hy=>?_,trivial⟩
 ·cases j with
  | zero=>simp[PV.cells]at hx hy;subst hx;subst hy;exact Frz.list _ _ _
  | succ j=>simp at hy
 ·cases j with
  | zero=>simp[PV.cells]at hx hy;subst hx;subst hy;exact Frz.int _ _
  | succ j=>simp at hy
def zsO:zbl:=.region [⟨some 6,.alloc 66 [.int .u64 (.ofNat 0),.int .u64 (.ofNat 0)],[],none⟩,⟨none,.store 2,[.tmp 6,.tmp 11],none⟩]
def zsz:zbl:=.block 1 (.region [⟨some 12,.load false 1,[.tmp 4],none⟩,⟨some 13,.load true 2,[.tmp 6],none⟩,⟨some 14,.bslice 66 2 1 [.int .u64 (.ofNat 0),.int .u64 (.ofNat 0)] [(0,2)],[.tmp 13],none⟩,⟨some 15,.append 66 2 16,[.tmp 12,.tmp 14],none⟩,⟨none,.store 1,[.tmp 4,.tmp 15],none⟩])
def zeX (tm:Nat->PV)(L:List Pr)(k:Nat):List zn:=[.row 41 1 0 0 [.sl 1 k 0 k (2*k) 2],.row 66 2 k 0 ((L.take k).map pv),.dfr false,.loop .ready .norm tm [10,11] zsO zsz 2]
theorem zeL {l:List Pr}:∀v∈(l.map pv).flatMap PV.cells,Id0 v:=fun v hv=>by
 obtain⟨x,hx,hv⟩:=zBC9.1 hv;obtain⟨n,_,rfl⟩:=zAP9.1 hx;simp[PV.cells]at hv;rcases hv with rfl|rfl<;>exact .int _ _
theorem zp3 {tm:Nat->PV}{L:List Pr}(hnr:∀i,tm i=.bad\/NR 4 (tm i))(k i:Nat)(o:zn)(ho:(zeX tm L k)[i]?=some o):NRO 4 o:=by
 match i with
 | 0=>injection ho with ho;subst ho;intro x hx;simp[PV.cells]at hx;subst hx;exact .sl _ _ _ _ _ (by omega)
 | 1=>injection ho with ho;subst ho;exact zwI zeL
 | 2=>injection ho with ho;subst ho;trivial
 | 3=>injection ho with ho;subst ho;exact⟨by omega,hnr,trivial⟩
 | i+4=>simp[zeX]at ho
theorem zsV {tm:Nat->PV}{L:List Pr}(hnr:∀i,tm i=.bad\/NR 4 (tm i))(k:Nat)(G G':List zn):zhE (zeX tm L k++G) (zeX tm L (k+1)++G++G') (zeX tm L (k+1)++G) G' :=
 zhE.front rfl fun id o ho=>zp3 hnr (k+1) id o ho
theorem zdM (left:Nat)(w:List Nat):(zbB left w).length<=28:=by
 unfold zbB
 split
 ·rename_i h;have h1:∀(prev:Nat) (l:List Nat),2*(zav prev l).length<=l.length:=by
   intro prev l
   induction prev,l using zav.induct<;>rw[zav]<;>simp_all<;>omega
  have h2:=h1 left w;simp[zbu]at h;omega
 ·simp
theorem zuE (tm:Nat->PV)(h4:tm 4=.ptr 0 0 0 0 1)(hnr:∀i,tm i=.bad\/NR 4 (tm i))(L:List Pr)(k j:Nat)(x:Pr)(hx:L[k]?=some x)(hL:L.length<1000000)(G:List zn) :
  FY ET 3 [.int .i64 j,pv x] (zeX tm L k++G) fun r H'=>r=true/\H'=zeX tm L (k+1)++G:=by
 have hk:k<L.length:=(zAD9.1 hx).1;have hxk:L[k]=x:=(zAD9.1 hx).2;have hlt:(L.take k).length=k:=by simp;omega
 refine FY.gc (zvf (tm:=tm) (ps:=[10,11]) (aS:=zsO) (bo:=zsz) rfl rfl ?_);refine zr ?_;refine zfx ?_ (by simp(disch:=omega)only[go_sem,h4,zeX]<;>rfl);refine zy ?_;refine⟨rfl,_,_,_,_,_,_,rfl,?_⟩;refine zD (zr ?_);have hb:(k+1)*17<=140737488355328:=by omega
 refine zfx ?_ (by simp(disch:=omega)only[go_sem,h4,hlt,hb]<;>rfl);refine zy ?_;simp only[zb,zf,ze,zd,zi,zg,if_true,↓reduceIte];have htk:(L.take k).map pv++[PV.agg [uv x.1,uv x.2]]=(L.take (k+1)).map pv:=by
  rw[zBM9,hx];simp
 rw[htk,zAF9];exact⟨rfl,.busy,.norm,tm,[10,11],zsO,zsz,2,rfl,zeX tm L (k+1)++G,[zn.row 66 2 0 0 [pv x]]++[zn.row 66 2 0 0 [PV.agg [uv x.1,uv x.2]]],zsV hnr k G _,rfl,rfl⟩
theorem zry (p:Nat)(w:List Nat)(left:Nat)(hw:za2 w.length):FN ET 164 [uv left,wv p w] (.ret (psv 0 (zbB left w))):=by
 refine zfn f164 (Lb.pvs _) ?_;(repeat(first|refine za ?_|refine zgo ?_));(repeat refine za ?_);refine zrg ?_;refine zcg (by first|rfl|(simp only[go_sem]<;>rfl)) (by simp only[go_sem]<;>rfl) (zxf p w left) rfl ?_ ?_;(repeat(first|exact trivial|refine And.intro ?_ ?_|exact Id0.int _ _|exact Id0.bool _|exact Id0.list _ _ _|exact Id0.elem _|exact Id0.nilsl|exact Id0.str _|exact zcj _ _ _));refine zfx ?_;refine zh ?_;refine zD ?_;refine zjI 66 2 (id:=0) rfl ?_;simp only[lzy,zAE9,zAH9,zCX9,zAI9,zAL9];refine zuV (g:=223) (cap:=[.elem [wv p w],.elem [uv left]]) (b:=false) (by simp only[go_sem]) ?_;have hL:(zcF left w).length=(zbB left w).length:=by rw[<- zf5];simp
 have h28:=zdM left w;have hnr:∀i,(upd (upd (upd (upd (zo [uv left,wv p w]) 4 (PV.ptr 0 0 0 0 1)) 7 (uv left)) 8 (wv p w)) 9 (PV.fn 223 [PV.elem [wv p w],PV.elem [uv left]])) i=.bad\/NR 4 ((upd (upd (upd (upd (zo [uv left,wv p w]) 4 (PV.ptr 0 0 0 0 1)) 7 (uv left)) 8 (wv p w)) 9 (PV.fn 223 [PV.elem [wv p w],PV.elem [uv left]])) i) :=
  zml (zml (zml (zml (zxD fun v hv=>by simp at hv;rcases hv with rfl|rfl<;>constructor) (.ptr _ _ _ _ (by omega))) (.int _ _)) (.list _ _ _)) (.fn fun x hx=>by simp at hx;rcases hx with rfl|rfl<;>constructor)
 have hP:=zuU 3 p w left hw (zeX _ (zbB left w)) (fun _=>rfl) (fun k i o ho=>zp3 hnr k i o ho) fun k j x G hk =>
  zuE _ rfl hnr (zbB left w) k j x (by rw[<- zf5];simp[hk]) (by omega) G
 refine FO.mono (fun e H' he=>?_) hP;obtain⟨rfl,rfl⟩:=he;refine⟨⟨_,rfl⟩,.ready,.norm,_,_,_,_,_,by simp,rfl,?_⟩;simp only[zb,zf,ze,zd,zi,zg,if_true,reduceIte];rw[hL];refine za (zr ?_);refine zfx ?_ (by simp(disch:=omega)only[go_sem,zeX]<;>rfl);refine zh ?_;refine zq ?_;refine zvA (vs:=[.sl 1 (zbB left w).length 0 (zbB left w).length (2*(zbB left w).length) 2]) rfl rfl ?_;refine Frz.whole (e:=66) (z':=2) (G:=(zbB left w).length) (l:=(zbB left w).map pv) ?_ rfl (by simp) (by simp) (fun v hv=>?_) zeL
 ·simp[zeX]
 ·obtain⟨x,_,rfl⟩:=zAP9.1 hv;rfl
theorem f130:ET.funcs.get 130=some T130:=zL Tryz.func130
def zdE (left:Nat)(w:List Nat):FE:=if zbu left w.length=true then if zcs left w=true then .ret (psv 0 (zbB left w))else .panic (zc0 190)else .panic (zc0 2)
theorem zcV {H:List zn}{e:FE}{n:Int}(h:e=.panic (zc0 n)):zay H 0 (.panic (zc0 n)) e:=by subst h;exact Frz.iface (.int _ _)
theorem zov (seen:List Nat)(L:List Pr)(i:Nat)(h:i<L.length):zcq seen (L.drop i)=(!seen.contains L[i].2&&zcq (L[i].2::seen) (L.drop (i+1))):=by
 rw[zAU9 h];rfl
theorem zlz (w:List Nat)(i:Nat)(h:2*i+1<w.length):zdF (w.drop (2*i))=(decide (w[2*i+1]=0)&&zdF (w.drop (2*(i+1)))):=by
 rw[zj8 w i h];rfl
theorem zod (w:List Nat)(i:Nat)(h:w.length<=2*i+1):zdF (w.drop (2*i))=true:=by
 match h2:w.drop (2*i)with
 | []=>rfl
 | [_]=>rfl
 | a::b::l=>have:=congrArg List.length h2;simp at this;omega
theorem ztb (p:Nat)(w:List Nat)(left:Nat)(hw:za2 w.length):FN ET 130 [zgx p w left] (zdE left w):=by
 refine zfn f130 ?_ ?_
 ·unfold zdE;split
  ·split
   ·exact Lb.pvs _
   ·exact .iface (.int _ _)
  ·exact .iface (.int _ _)
 (repeat(first|refine za ?_|refine zgo ?_));(repeat refine za ?_);refine zrg ?_;refine zca (zpH p w left hw) ?_
 by_cases hr:zbu left w.length=true
 rotate_left
 ·have hr:zbu left w.length=false:=by simpa using hr
  rw[hr];refine zfx ?_;refine zcx (zgK 2) ?_;exact zcV (by simp[zdE,hr])
 rw[hr];refine zfx ?_;refine zca (zh0 2) ?_;refine zfx ?_;refine zh ?_;(repeat refine za ?_);refine zrg ?_;refine zca (zry p w left hw) ?_;refine zfx ?_;refine zh ?_;have h28:=zdM left w;(repeat refine za ?_);refine zrg ?_;refine zca (ztU 0 (zbB left w) (by omega)) ?_
 by_cases hs1:zbi (zbB left w)=true
 rotate_left
 ·have hs1:zbi (zbB left w)=false:=by simpa using hs1
  rw[hs1];refine zfx ?_;refine zcx (zgK 190) ?_;exact zcV (by simp[zdE,hr,zcs,hs1])
 rw[hs1];refine zfx ?_;refine zca (zh0 190) ?_;refine zfx ?_;refine zh ?_;(repeat(first|refine za ?_|refine zgo ?_));generalize hL:zbB left w=L at *
 have hset:zcs left w=(zcq [left] L&&decide (L.length=zbm w)&&decide (L.length<w.length/2)&&zdF (w.drop (2*L.length))):=by simp[zcs,hL,hs1]
 refine zD (zas (fun m s=>∃(i:Nat) (seen:List Nat) (mm:Int->Option PV) (G:List zn),m=L.length-i/\i<=L.length/\zcq [left] L=zcq seen (L.drop i)/\(∀q:Nat,mm q=if seen.contains q=true then some (iv 1)else none)/\s.tm 1=.ptr 0 0 0 0 2/\s.tm 3=psv 0 L/\s.tm 4=.map 1/\s.tm 23=psv 0 L/\s.tm 24=iv L.length/\s.tm 25=iv i/\s.df=[]/\s.H=.row 209 2 0 0 [zgx p w left]::.mapI .u64 mm::G) (n:=L.length) ?_ ?_)
 ·refine⟨0,[left],_,[],by simp,by omega,rfl,?_,by simp[upd,zo],by simp[upd,zo],by simp[upd,zo],by simp[upd,zo],by simp[upd,zo],by simp[upd,zo],rfl,rfl⟩;intro q
  by_cases hq:q=left
  ·subst hq;simp
  ·have:¬(q:Int)=left:=by omega
   simp[hq,this]
 ·rintro m ⟨tm,df,H⟩ ⟨i,seen,mm,G,rfl,hi,hpt,hmm,h1,h3,h4,h23,h24,h25,rfl,rfl⟩;dsimp only at h1 h3 h4 h23 h24 h25;(try refine zK ?_);refine za (zr ?_);refine zfx ?_ (by simp(disch:=omega)only[go_sem,h1,h3,h4,h23,h24,h25]<;>rfl);refine zh ?_;refine zN (by simp only[go_sem]<;>rfl) ?_ ?_
  ·intro hlt;have hlt:i<L.length:=by have:=of_decide_eq_true hlt;omega
   have hq:=hmm L[i].2;refine za (zD ?_);(repeat(first|refine za ?_|refine zgo ?_ (by simp(disch:=omega)only[go_sem,h1,h3,h4,h23,h24,h25,zAB9 hlt]<;>rfl)))
   by_cases hc:seen.contains L[i].2=true
   ·rw[if_pos hc]at hq;(repeat refine za ?_);refine zrg ?_ (by simp(disch:=omega)only[go_sem,h1,h3,h4,h23,h24,h25,hq]<;>rfl);refine zcx (zgK 190) ?_;exact zcV (by unfold zdE;rw[if_pos hr,hset,hpt,zov _ _ _ hlt,hc];simp)
   ·rw[if_neg hc]at hq;have hc:seen.contains L[i].2=false:=by simpa using hc
    (repeat refine za ?_);refine zrg ?_ (by simp(disch:=omega)only[go_sem,h1,h3,h4,h23,h24,h25,hq]<;>rfl);refine zca (zh0 190) ?_;refine zfx ?_;refine zh ?_;refine zr ?_;refine zfx ?_ (by simp(disch:=omega)only[go_sem,h1,h3,h4,h23,h24,h25]<;>rfl);refine zy ?_;simp only[zb,zf,ze,zd,zi,zg,if_true,↓reduceIte];(repeat refine za ?_);refine zrg ?_ (by simp(disch:=omega)only[go_sem,h25]<;>rfl);refine zy ?_;simp only[zb,zf,ze,zd,zi,zg,if_true,↓reduceIte];refine⟨_,?_,i+1,L[i].2::seen,_,_,rfl,by omega,?_,?_,by simp[upd,h1],by simp[upd,h3],by simp[upd,h4],by simp[upd,h23],by simp[upd,h24],by simp[upd,h25],trivial,rfl⟩
    ·omega
    ·rw[hpt,zov _ _ _ hlt,hc];simp
    ·intro q
     by_cases hq:q=L[i].2
     ·subst hq;simp
     ·have:¬(q:Int)=(L[i].2:Nat):=by omega
      rw[if_neg this,hmm q];simp[hq]
  ·intro hlt;have hlt:¬i<L.length:=by have:=of_decide_eq_false hlt;omega
   obtain rfl:i=L.length:=by omega
   rw[zBG9]at hpt;have hpt:zcq [left] L=true:=by rw[hpt];rfl
   simp only[zb,zf,ze,zd,zi,zg,if_true,reduceIte];(repeat refine za ?_);refine zrg ?_ (by simp(disch:=omega)only[go_sem,h1,h3]<;>rfl);refine zca (zuK p w left hw) ?_;have hmm2:2*(w.length/2)=w.length:=by simp[zbu]at hr;omega
   by_cases hc1:L.length=zbm w
   rotate_left
   ·have g1:¬(L.length:Int)=(zbm w:Nat):=by omega
    refine zfx ?_ (by simp(disch:=omega)only[go_sem,h1,h3,g1]<;>rfl);refine zcx (zgK 190) ?_;exact zcV (by unfold zdE;rw[if_pos hr,hset,hpt];simp[hc1])
   have g1:(L.length:Int)=(zbm w:Nat):=by omega
   refine zfx ?_ (by simp(disch:=omega)only[go_sem,h1,h3,g1]<;>rfl);refine zca (zic p w hw) ?_
   by_cases hc2:L.length<w.length/2
   rotate_left
   ·have g2:¬((zbm w:Nat):Int)<((w.length/2:Nat):Int):=by omega
    refine zfx ?_ (by simp(disch:=omega)only[go_sem,h1,h3,g1,g2]<;>rfl);refine zcx (zgK 190) ?_;exact zcV (by unfold zdE;rw[if_pos hr,hset,hpt,decide_eq_false hc2];simp)
   have g2:((zbm w:Nat):Int)<((w.length/2:Nat):Int):=by omega
   refine zfx ?_ (by simp(disch:=omega)only[go_sem,h1,h3,g1,g2]<;>rfl);refine zca (zh0 190) ?_;refine zfx ?_;refine zh ?_;(repeat(first|refine za ?_|refine zgo ?_ (by simp(disch:=omega)only[go_sem,h1,h3]<;>rfl)));refine zD (zas (fun m s=>∃i:Nat,m=w.length-i/\2*i<=w.length/\zdF (w.drop (2*L.length))=zdF (w.drop (2*i))/\s.tm 1=.ptr 0 0 0 0 2/\s.tm 3=psv 0 L/\s.tm 7=iv i/\s.df=[]/\s.H=.row 209 2 0 0 [zgx p w left]::.mapI .u64 mm::G) (n:=w.length-L.length) ?_ ?_)
   ·exact⟨L.length,rfl,by omega,rfl,by simp[upd,h1],by simp[upd,h3],by simp[upd,h3,g1],rfl,rfl⟩
   ·clear h1 h3 h4 h23 h24 h25;rintro m ⟨tm,df,H⟩ ⟨i,rfl,hi,hz,h1,h3,h7,rfl,rfl⟩;dsimp only at h1 h3 h7;refine zK ?_;(repeat refine za ?_);refine zrg ?_ (by simp(disch:=omega)only[go_sem,h1,h3,h7]<;>rfl);refine zca (zic p w hw) ?_;refine zfx ?_;refine zh ?_;refine zN (by simp only[go_sem]<;>rfl) ?_ ?_
    ·intro hlt;have hlt:i<w.length/2:=by have:=of_decide_eq_true hlt;omega
     refine za (zD ?_);refine zr ?_;refine zfx ?_ (by simp(disch:=omega)only[go_sem,h1,h3,h7]<;>rfl);refine zca (zjj p w i hw (by omega)) ?_;have hst:=zlz w i (by omega)
     by_cases h0:w[2*i+1]'(by omega)=0
     ·have g3:((w[2*i+1]'(by omega):Nat):Int)=0:=by omega
      refine zfx ?_ (by simp(disch:=omega)only[go_sem,g3]<;>rfl);refine zca (zh0 190) ?_;refine zfx ?_;refine zy ?_;simp only[zb,zf,ze,zd,zi,zg,if_true,↓reduceIte];(repeat refine za ?_);refine zrg ?_ (by simp(disch:=omega)only[go_sem,h7]<;>rfl);refine zy ?_;simp only[zb,zf,ze,zd,zi,zg,if_true,↓reduceIte];refine⟨_,?_,i+1,rfl,by omega,?_,by simp[upd,h1],by simp[upd,h3],by simp[upd,h7],trivial,trivial⟩
      ·omega
      ·rw[hz,hst];simp[h0]
     ·have g3:¬((w[2*i+1]'(by omega):Nat):Int)=0:=by omega
      refine zfx ?_ (by simp(disch:=omega)only[go_sem,g3]<;>rfl);refine zcx (zgK 190) ?_;exact zcV (by unfold zdE;rw[if_pos hr,hset,hpt,hz,hst];simp[h0])
    ·intro hlt;have hlt:¬i<w.length/2:=by have:=of_decide_eq_false hlt;omega
     simp only[zb,zf,ze,zd,zi,zg,if_true,reduceIte];(repeat(first|refine za ?_|refine zgo ?_ (by simp(disch:=omega)only[go_sem,h1,h3]<;>rfl)));refine zq ?_;(try simp only[zb,zf,ze,zd,zg]);refine zj (by simp only[T130,zE,go_sem]<;>rfl) ?_;simp only[zG];have:zdE left w=.ret (psv 0 L):=by unfold zdE;rw[if_pos hr,hset,hpt,hz,zod w i (by omega),hL,decide_eq_true hc1,decide_eq_true hc2];rfl
     rw[this];exact Frz.list _ _ _
theorem f174:ET.funcs.get 174=some T174:=zL Tryz.func174
theorem f219:ET.funcs.get 219=some T219:=zL Tryz.func219
theorem zyR:ET.caught.get 128=some ():=by kernel_rfl
theorem zxb:FN ET 219 [] (.ret (.tuple [])):=by
 refine zfn f219 Lb.unit ?_;refine zF ?_;exact⟨[],rfl,Frz.tupL trivial⟩
theorem zay.int {H:List zn}{k:IntKind}{n:Int}{e:FE}(h:e=.ret (.int k n)):zay H 0 (.ret (.int k n)) e:=by subst h;exact Frz.int _ _
theorem ztP (p:Nat)(w:List Nat)(left:Nat)(hw:za2 w.length):FN ET 174 [uv left,wv p w] (.ret (.int .i64 (zbz left w:Nat))):=by
 refine zfn f174 (.int _ _) ?_;(repeat(first|refine za ?_|refine zgo ?_));(repeat refine za ?_);refine zrg ?_;refine zfT (f:=128) (p:=.ptr 0 0 0 0 1) (cl:=.fn 219 []) ?_ ?_ zyR ?_
 ·rfl
 ·simp only[go_sem]<;>rfl
 refine zfx ?_;refine zh ?_;(repeat refine za ?_);refine zrg ?_;have hs:=ztb p w left hw;have bad:∀(tm:Nat->PV) (n:Nat),zbz left w=n->tm 4=.ptr 0 0 0 0 1->zcT ET T174 (fun e' H=>zay H 0 e' (.ret (.int .i64 (zbz left w:Nat)))) (.panic (zc0 n)) ⟨tm,[.caught (.ptr 0 0 0 0 1) (.fn 219 [])],[.row 31 1 0 0 [.int .i64 0]]⟩:=fun tm n hn h4=>by
  refine⟨n,219,[],true,0,0,1,rfl,rfl,rfl,(FN.FO (args:=[]) zxb trivial).mono fun e H he=>?_⟩;obtain⟨rfl,rfl⟩:=he;refine⟨rfl,_,rfl,[.int .i64 n],?_,zay.int (by rw[hn])⟩;simp[T174,xT,zE,okv,h4,zae,zaC,zaJ,zao];rfl
 by_cases hr:zbu left w.length=true
 rotate_left
 ·have he:zdE left w=.panic (zc0 2):=by simp[zdE,hr]
  rw[he]at hs;refine zcx hs ?_;exact bad _ 2 (by simp[zbz,hr]) rfl
 by_cases h2:zcs left w=true
 rotate_left
 ·have he:zdE left w=.panic (zc0 190):=by simp[zdE,hr,h2]
  rw[he]at hs;refine zcx hs ?_;exact bad _ 190 (by simp[zbz,hr,h2]) rfl
 have he:zdE left w=.ret (psv 0 (zbB left w)):=by simp[zdE,hr,h2]
 rw[he]at hs;refine zca hs ?_;refine zfx ?_;refine zh ?_;(repeat(first|refine za ?_|refine zgo ?_));refine zq ?_;have:zbz left w=0:=by simp[zbz,hr,h2]
 rw[this];exact⟨[.int .i64 0],rfl,Frz.int _ _⟩
end Fv
end Go.Proofs.YtfomlmhnmheenaaGreat
namespace Go.Proofs.YtfomlmhnmheenaaGreat
namespace Fv
structure zB where
 level:Nat
 sib:Nat
 low:Nat
 left:Nat
 way:Nat
 pairs:List Pr
deriving DecidableEq
def zcz (p:Nat):Bool:=decide (1<=p)&&decide (p<2048)
def zcM:Nat->Nat->Nat->Bool
 | 0,_,w=>decide (7522529147838689024<=w)&&decide (w<=7522529147838689024+12)
 | 1,_,w=>decide (w<2048)
 | 2,_,_=>true
 | 3,lv,w=>(decide (lv=0)&&decide (w=9223372036854775808))||(decide (0<lv)&&zcz w)
 | _,_,w=>decide (w<=2)
@[irreducible] def zgw (x:Nat):Nat:=x - 7522529147838689024
theorem znH (x:Nat):zgw x=x-7522529147838689024:=by unfold zgw;rfl
def zbI (l:List Nat):Bool:=decide (l.length=64)&&((l.take 8).drop 5).all (fun x=>decide (x=0))&&(List.range 5).all fun i=>zcM i (zgw (l.getD 0 0)) (l.getD i 0)
def zaa (l:List Nat):zB:=⟨zgw (l.getD 0 0),l.getD 1 0,l.getD 2 0,l.getD 3 0,l.getD 4 0,zbB (l.getD 3 0) (l.drop 8)⟩
def zd0:zB:=⟨0,0,0,0,0,[]⟩
def zsD:Nat->zB->Nat
 | 0,n=>7522529147838689024+n.level
 | 1,n=>n.sib
 | 2,n=>n.low
 | 3,n=>n.left
 | _,n=>n.way
def zbT (n:zB)(p:Pr):Bool:=if n.level=0 then decide (1<=p.2)&&decide (p.2<=1099511627776)&&decide (n.low<=p.1)else zcz p.2&&decide (n.low<p.1)
def zen (l:List Nat):Bool:=decide (zbz (zaa l).left (l.drop 8)=0) && !((zaa l).pairs.any fun q=>!zbT (zaa l) q)
def zbh (l:List Nat):Nat:=if zbI l=true then if zen l=true then 0 else 190 else 210
def zlK (n:zB):List Nat:=[7522529147838689024+n.level,n.sib,n.low,n.left,n.way,0,0,0]
def zcU (l:List Pr):List Nat:=l.flatMap fun x=>[x.1,x.2]
@[reducible] def zZ (p:Nat) (n:zB):PV:=.agg [iv n.level,iv n.sib,uv n.low,uv n.left,iv n.way,psv p n.pairs]
def zxH:Nat->Nat
 | 0=>198|1=>201|2=>204|3=>207|_=>211
def zxV:Nat->Nat
 | 0=>199|1=>202|2=>205|3=>209|_=>212
def zyX:Nat->Nat
 | 0=>200|1=>203|2=>206|3=>210|_=>213
@[reducible] def zwA (i:Nat):PV:=.agg [.fn (zxH i) [],.fn (zxV i) [],.fn (zyX i) []]
def zhc:List PV:=(List.range 5).map zwA
end Fv
end Go.Proofs.YtfomlmhnmheenaaGreat
namespace Go.Proofs.YtfomlmhnmheenaaGreat
namespace Fv
open Tw
attribute [local go_sem] zaZ zaz zab zap evs ev okv zbj zT.cls za5 za7 za9 zQ zR upd zo zaS zaQ zaR zax zaL zaP zaT zaM zaY zaO zar zaV zaU zaX zaW zaK zaN zae zaC zaJ zal zak zbg PV.cells ofC za6 zV zao okF zaf spl zaB zaF bnd zai zam zan za3 zbb zU zau zaH zaj za8 zbd zW lenP zc zk zah zba PV.toT zaA zH Nat.mul_mod_right Int.reduceOfNat Int.reduceToNat Int.cast_ofNat_Int Int.reduceLE Int.reduceLT Int.reduceAdd Int.reduceSub Int.reduceMul Int.reduceNegSucc Nat.reduceEqDiff if_true if_false ite_true ite_false decide_true decide_false Bool.not_true Bool.not_false and_true true_and and_self false_and and_false or_false false_or or_true true_or or_self List.length_cons List.length_nil List.length_map List.getElem?_cons_zero List.getElem?_cons_succ List.getElem?_map List.getElem?_nil Option.map_some Option.map_none Option.getD_some List.append_nil List.nil_append List.cons_append List.take_succ_cons List.take_zero List.drop_zero List.drop_succ_cons List.set_cons_zero List.set_cons_succ Int.toNat_natCast Int.natCast_nonneg Nat.le_refl Nat.zero_le Nat.reduceAdd Nat.reduceSub Nat.reduceMul Nat.reduceLeDiff Nat.reduceLT Bool.false_eq_true Bool.true_eq_false Nat.add_zero Nat.zero_add List.all_cons List.all_nil Bool.and_true Bool.and_self Bool.true_and Nat.reduceMod Nat.reduceDiv eq_self zaq zaD zX za4 evN za0 dpF zaI zbf zaw za1 zbe zaE List.filter_cons List.filter_nil List.contains_cons List.contains_nil Nat.reduceBEq zac zad zP Option.some.injEq Option.isSome_some wrap_i64 zJ zaG Bool.or_self Bool.or_false Bool.false_or daF dnF xT T4 T5 T8 T9 T10 T11 T12 T13 T14 T15 T16 T17 T18 T19 T20 T21 T22 T23 T24 T25 T26 T27 T28 T30 T33 T34 T36 T37 T38 T39 T40 T41 T42 T43 T44 T45 T46 T47 T48 T49 T50 T51 T52 T53 T54 T55 T56 T57 T58 T59 T60 T61 T62 T63 T64 T65 T66 T67 T68 T69 T70 T71 T72 T73 T75 T76 T77 T80 T81 T82 T83 T84 T85 T86 T87 T88 T89 T90 T91 T92 T93 T94 T95 T96 T97 T98 T99 T100 T101 T102 T103 T104 T105 T106 T107 T108 T109 T110 T111 T112 T113 T114 T115 T116 T119 T120 T121 T122 T123 T124 T125 T126 T129 T130 T131 T132 T133 T134 T135 T136 T137 T138 T139 T140 T141 T142 T143 T144 T145 T146 T147 T148 T149 T150 T151 T152 T153 T154 T155 T156 T157 T158 T159 T160 T161 T162 T163 T164 T165 T166 T167 T168 T169 T170 T171 T173 T174 T175 T176 T177 T178 T181 T182 T183 T184 T185 T186 T187 T188 T189 T190 T191 T192 T193 T194 T195 T196 T197 T198 T199 T200 T201 T202 T203 T204 T205 T206 T207 T208 T209 T210 T211 T212 T213 T214 T215 T216 T217 T218 T219 T220 T222 T223
attribute [local go_sem ↓] reduceIte
set_option maxRecDepth 100000
theorem f208:ET.funcs.get 208=some T208:=zL Tryz.func208
theorem f198:ET.funcs.get 198=some T198:=zL Tryz.func198
theorem f199:ET.funcs.get 199=some T199:=zL Tryz.func199
theorem f201:ET.funcs.get 201=some T201:=zL Tryz.func201
theorem f202:ET.funcs.get 202=some T202:=zL Tryz.func202
theorem f204:ET.funcs.get 204=some T204:=zL Tryz.func204
theorem f205:ET.funcs.get 205=some T205:=zL Tryz.func205
theorem f207:ET.funcs.get 207=some T207:=zL Tryz.func207
theorem f209:ET.funcs.get 209=some T209:=zL Tryz.func209
theorem f211:ET.funcs.get 211=some T211:=zL Tryz.func211
theorem f212:ET.funcs.get 212=some T212:=zL Tryz.func212
theorem f161:ET.funcs.get 161=some T161:=zL Tryz.func161
theorem zay.bool {H:List zn}{b b':Bool}(h:b=b'):zay H 0 (.ret (.bool b)) (.ret (.bool b')):=by subst h;exact Frz.bool _
theorem zay.uv {H:List zn}{k:IntKind}{b b':Int}(h:b=b'):zay H 0 (.ret (.int k b)) (.ret (.int k b')):=by subst h;exact Frz.int _ _
theorem zpw (x:Nat):FN ET 208 [uv x] (.ret (.bool (zcz x))):=by
 refine zfn f208 (.bool _) ?_;(repeat(first|refine za ?_|refine zgo ?_));refine zr ?_
 by_cases h:1<=x
 ·have g:(1:Int)<=x:=by omega
  refine zfx ?_ (by simp(disch:=omega)only[go_sem,g]<;>rfl);refine zh ?_;refine zq ?_;(try simp only[zb,zf,ze,zd,zg]);refine zj (by simp only[T208,zE,go_sem]<;>rfl) ?_;simp only[zG];exact zay.bool (by simp[zcz,h];omega)
 ·have g:¬(1:Int)<=x:=by omega
  refine zfx ?_ (by simp(disch:=omega)only[go_sem,g]<;>rfl);refine zh ?_;refine zq ?_;(try simp only[zb,zf,ze,zd,zg]);refine zj (by simp only[T208,zE,go_sem]<;>rfl) ?_;simp only[zG];exact zay.bool (by simp[zcz,h])
@[reducible] def zdh (a b c d e:Nat):List PV:=[iv a,iv b,uv c,uv d,iv e,.nilsl]
theorem zyO (cs:List PV)(x:Nat):FN ET 198 [.elem cs,uv x] (.ret (.bool (decide (7522529147838689024<=x)&&decide (x<=7522529147838689024+12)))):=by
 refine zfn f198 (.bool _) ?_;(repeat(first|refine za ?_|refine zgo ?_));refine zr ?_
 by_cases h:7522529147838689024<=x
 ·have g:(7522529147838689024:Int)<=x:=by omega
  refine zfx ?_ (by simp(disch:=omega)only[go_sem,g]<;>rfl);refine zh ?_;refine zq ?_;(try simp only[zb,zf,ze,zd,zg]);refine zj (by simp only[T198,zE,go_sem]<;>rfl) ?_;simp only[zG];exact zay.bool (by simp[h];omega)
 ·have g:¬(7522529147838689024:Int)<=x:=by omega
  refine zfx ?_ (by simp(disch:=omega)only[go_sem,g]<;>rfl);refine zh ?_;refine zq ?_;(try simp only[zb,zf,ze,zd,zg]);refine zj (by simp only[T198,zE,go_sem]<;>rfl) ?_;simp only[zG];exact zay.bool (by simp[h])
theorem zyp (cs:List PV)(x:Nat):FN ET 201 [.elem cs,uv x] (.ret (.bool (decide (x<2048)))):=by
 refine zfn f201 (.bool _) ?_;(repeat(first|refine za ?_|refine zgo ?_));refine zq ?_;(try simp only[zb,zf,ze,zd,zg]);refine zj (by simp only[T201,zE,go_sem]<;>rfl) ?_;simp only[zG];exact zay.bool (by simp;omega)
theorem zy6 (cs:List PV)(x:Nat):FN ET 204 [.elem cs,uv x] (.ret (.bool true)):=by
 refine zfn f204 (.bool _) ?_;(repeat(first|refine za ?_|refine zgo ?_));refine zq ?_;(try simp only[zb,zf,ze,zd,zg]);refine zj (by simp only[T204,zE,go_sem]<;>rfl) ?_;simp only[zG];exact zay.bool rfl
theorem zyI (cs:List PV)(x:Nat):FN ET 211 [.elem cs,uv x] (.ret (.bool (decide (x<=2)))):=by
 refine zfn f211 (.bool _) ?_;(repeat(first|refine za ?_|refine zgo ?_));refine zq ?_;(try simp only[zb,zf,ze,zd,zg]);refine zj (by simp only[T211,zE,go_sem]<;>rfl) ?_;simp only[zG];exact zay.bool (by simp;omega)
theorem zyK (a b c d e x:Nat):FN ET 207 [.elem (zdh a b c d e),uv x] (.ret (.bool (zcM 3 a x))):=by
 refine zfn f207 (.bool _) ?_;(repeat(first|refine za ?_|refine zgo ?_));refine zr ?_
 by_cases h:a=0
 ·have g0:(a:Int)=0:=by omega
  by_cases h2:x=9223372036854775808
  ·have g:(x:Int)=9223372036854775808:=by omega
   refine zfx ?_ (by simp(disch:=omega)only[go_sem,g0,g]<;>rfl);refine zh ?_;refine zq ?_;(try simp only[zb,zf,ze,zd,zg]);refine zj (by simp only[T207,zE,go_sem]<;>rfl) ?_;simp only[zG];exact zay.bool (by simp[zcM,h,h2])
  ·have g:¬(x:Int)=9223372036854775808:=by omega
   refine zfx ?_ (by simp(disch:=omega)only[go_sem,g0,g]<;>rfl);refine zh ?_;refine zq ?_;(try simp only[zb,zf,ze,zd,zg]);refine zj (by simp only[T207,zE,go_sem]<;>rfl) ?_;simp only[zG];exact zay.bool (by simp[zcM,h,h2])
 ·have g:¬(a:Int)=0:=by omega
  have g2:(0:Int)<a:=by omega
  have h2:0<a:=by omega
  refine zfx ?_ (by simp(disch:=omega)only[go_sem,g,g2]<;>rfl);refine zca (zpw x) ?_;refine zfx ?_;refine zh ?_;refine zq ?_;(try simp only[zb,zf,ze,zd,zg]);refine zj (by simp only[T207,zE,go_sem]<;>rfl) ?_;simp only[zG];exact zay.bool (by simp[zcM,h,h2])
theorem zwb:FN ET 161 [] (.ret (.list 0 3 zhc)):=by
 refine zfn f161 ?_ ?_
 ·refine .list fun x hx=>?_;simp[zhc,List.range,List.range.loop,PV.cells]at hx;rcases hx with h|h|h|h|h|h|h|h|h|h|h|h|h|h|h<;>subst h<;>exact .fn fun _ h=>by cases h
 (repeat(first|refine za ?_|refine zgo ?_));refine zq ?_;(try simp only[zb,zf,ze,zd,zg]);refine zj (by simp only[T161,zE,go_sem]<;>rfl) ?_;simp only[zG];refine Frz.whole rfl rfl rfl (by decide) ?_ ?_
 ·intro v hv;simp[zhc,List.range,List.range.loop]at hv;rcases hv with h|h|h|h|h<;>subst h<;>rfl
 ·intro v hv;simp[zhc,List.range,List.range.loop,PV.cells]at hv;rcases hv with h|h|h|h|h|h|h|h|h|h|h|h|h|h|h<;>subst h<;>exact .fn fun _ h=>by cases h
@[reducible] def zdU (cs:List PV):zn:=.row 124 6 0 0 [.agg cs]
theorem zfX {F:zC}{R:FE->List zn->Prop}{tm:Nat->PV}{H:List zn}(h:F.res=[])(k:R (.ret (.tuple [])) H):zcT ET F R .norm ⟨tm,[],H⟩:=zvJ (vs:=[]) (by rw[h];rfl) k
section
variable (a b c d e x:Nat)(G:List zn)
theorem zyl (k:Nat)(h2:k<=12)(e1:IntKind.u64.wrap ((x:Int)-7522529147838689024)=(k:Int)):FO ET 199 [.ptr 0 0 0 0 6,uv x] (zdU (zdh a b c d e)::G) false fun e' H'=>e'=.ret (.tuple [])/\H'=zdU (zdh k b c d e)::G:=by
 refine zro f199 ?_;refine zr ?_;refine zfx ?_ (by simp(disch:=omega)only[go_sem,e1]<;>rfl);refine zgi (zfX rfl ⟨rfl,rfl⟩)
theorem zws (h1:7522529147838689024<=x)(h2:x<=7522529147838689024+12)(k:Nat)(hk:k=x-7522529147838689024):k<=12/\IntKind.u64.wrap ((x:Int)-7522529147838689024)=(k:Int):=by rw[zJ (by omega) (by omega)];omega
theorem set0 (h1:7522529147838689024<=x)(h2:x<=7522529147838689024+12)(k:Nat)(hk:k=x-7522529147838689024):FO ET 199 [.ptr 0 0 0 0 6,uv x] (zdU (zdh a b c d e)::G) false fun e' H'=>e'=.ret (.tuple [])/\H'=zdU (zdh k b c d e)::G :=
 zyl a b c d e x G k (zws x h1 h2 k hk).1 (zws x h1 h2 k hk).2
theorem zyD (h1:x<2048):FO ET 202 [.ptr 0 0 0 0 6,uv x] (zdU (zdh a b c d e)::G) false fun e' H'=>e'=.ret (.tuple [])/\H'=zdU (zdh a x c d e)::G:=by
 refine zro f202 ?_;refine zr ?_;refine zfx ?_;refine zgi (zfX rfl ⟨rfl,rfl⟩)
theorem zyn:FO ET 205 [.ptr 0 0 0 0 6,uv x] (zdU (zdh a b c d e)::G) false fun e' H'=>e'=.ret (.tuple [])/\H'=zdU (zdh a b x d e)::G:=by
 refine zro f205 ?_;refine zr ?_;refine zfx ?_;refine zgi (zfX rfl ⟨rfl,rfl⟩)
theorem zyC:FO ET 209 [.ptr 0 0 0 0 6,uv x] (zdU (zdh a b c d e)::G) false fun e' H'=>e'=.ret (.tuple [])/\H'=zdU (zdh a b c x e)::G:=by
 refine zro f209 ?_;refine zr ?_;refine zfx ?_;refine zgi (zfX rfl ⟨rfl,rfl⟩)
theorem zza (h1:x<=2):FO ET 212 [.ptr 0 0 0 0 6,uv x] (zdU (zdh a b c d e)::G) false fun e' H'=>e'=.ret (.tuple [])/\H'=zdU (zdh a b c d x)::G:=by
 refine zro f212 ?_;refine zr ?_;refine zfx ?_;refine zgi (zfX rfl ⟨rfl,rfl⟩)
end
section
variable (p:Nat)(n:zB)
end
def hAt (lv:Nat)(w:List Nat)(i:Nat):List PV :=
 zdh (if 0<i then lv else 0) (if 1<i then w.getD 1 0 else 0) (if 2<i then w.getD 2 0 else 0) (if 3<i then w.getD 3 0 else 0) (if 4<i then w.getD 4 0 else 0)
theorem zyb (lv:Nat)(w:List Nat)(i x:Nat)(hi:i<5):FN ET (zxH i) [.elem (hAt lv w i),uv x] (.ret (.bool (zcM i lv x))):=by
 match i,hi with
 | 0,_=>exact zyO _ x
 | 1,_=>exact zyp _ x
 | 2,_=>exact zy6 _ x
 | 3,_=>exact zyK _ _ _ _ _ x
 | 4,_=>exact zyI _ x
theorem zx9 (lv:Nat)(w:List Nat)(hlv:lv=w.getD 0 0-7522529147838689024)(i:Nat)(hi:i<5)(hm:zcM i lv (w.getD i 0)=true)(G:List zn):FO ET (zxV i) [.ptr 0 0 0 0 6,uv (w.getD i 0)] (zdU (hAt lv w i)::G) false fun e H'=>e=.ret (.tuple [])/\H'=zdU (hAt lv w (i+1))::G:=by
 match i,hi with
 | 0,_=>rw[zcM,zAR9,decide_eq_true_eq,decide_eq_true_eq]at hm;exact set0 _ _ _ _ _ _ _ hm.1 hm.2 lv hlv
 | 1,_=>rw[zcM,decide_eq_true_eq]at hm;exact zyD _ _ _ _ _ _ _ hm
 | 2,_=>exact zyn _ _ _ _ _ _ _
 | 3,_=>exact zyC _ _ _ _ _ _ _
 | 4,_=>rw[zcM,decide_eq_true_eq]at hm<;>first|exact zza _ _ _ _ _ _ _ hm|simp
theorem zt7 (i:Nat)(hi:i<5):zhc[i]?=some (zwA i):=by
 match i,hi with
 | 0,_=>rfl
 | 1,_=>rfl
 | 2,_=>rfl
 | 3,_=>rfl
 | 4,_=>rfl
theorem zuR:zhc.length=5:=rfl
def zi6 {α:Type}(pr:α->Bool)(l:List α):Int:=match l.findIdx? pr with|some i=>(i:Int)|none=>-1
theorem zkF {α:Type}(pr:α->Bool)(l:List α):decide (0<=zi6 pr l)=l.any pr:=by
 unfold zi6
 cases h:l.findIdx? pr with
 | none =>
  have:l.any pr=false:=by rw[List.findIdx?_eq_none_iff]at h;simpa using h
  rw[this];rfl
 | some i =>
  have:l.any pr=true:=by
   have:=List.findIdx?_isSome (xs:=l) (p:=pr);rw[h]at this;exact this.symm
  rw[this];simp
theorem zsu {H:List zn}{lab:Nat}:∀l:List PV,(∀v∈l,Id0 v)->LF H lab l l
 | [],_=>trivial
 | x::l,h=>⟨(h x zAV9).frz,zsu l fun v hv=>h v (zAT9 _ hv)⟩
theorem f214:ET.funcs.get 214=some T214:=zL Tryz.func214
theorem f162:ET.funcs.get 162=some T162:=zL Tryz.func162
theorem zrh (p:Nat)(l:List Nat)(hl:za2 l.length)(g:Nat)(caps:List PV)(hc:∀v∈caps,Id0 v)(pr:Nat->Bool)(hg:∀x∈l,FN ET g (uv x::caps) (.ret (.bool (pr x)))):FN ET 214 [wv p l,.fn g caps] (.ret (iv (zi6 pr l))):=by
 refine zfn f214 (.int _ _) ?_;(repeat(first|refine za ?_|refine zgo ?_));refine zD (zas (fun m s=>∃i:Nat,m=l.length-i/\i<=l.length/\l.findIdx? pr=((l.drop i).findIdx? pr).map (· + i)/\s.tm 0=wv p l/\s.tm 1=.fn g caps/\s.tm 7=iv l.length/\s.tm 8=iv i/\s.df=[]/\s.H=[]) (n:=l.length) ?_ ?_)
 ·exact⟨0,by simp[upd,zo]⟩
 ·rintro m ⟨tm,df,H⟩ ⟨i,rfl,hi,hf,h0,h1,h7,h8,rfl,rfl⟩;dsimp only at h0 h1 h7 h8;(try refine zK ?_);refine za (zr ?_);refine zfx ?_ (by simp(disch:=omega)only[go_sem,h0,h1,h7,h8]<;>rfl);refine zh ?_;refine zN (by simp only[go_sem]<;>rfl) ?_ ?_
  ·intro hlt;have hlt:i<l.length:=by have:=of_decide_eq_true hlt;omega
   refine za (zD ?_);(repeat(first|refine za ?_|refine zgo ?_ (by simp(disch:=omega)only[go_sem,h8]<;>rfl)));(repeat refine za ?_);refine zrg ?_ (by simp(disch:=omega)only[go_sem,h0,h1,zAB9 hlt]<;>rfl);refine zfe (caps:=caps) (vs:=[uv l[i]]) rfl ?_ (hg _ (zBP9 hlt)) (zsu _ (fun v hv=>?_)) ?_
   ·simp only[go_sem,h1]
   ·rcases zAX9.1 hv with rfl|hv
    ·exact .int _ _
    ·exact hc v hv
   refine zfx ?_;refine zh ?_;rw[zAU9 hlt,zFC9]at hf;refine zfc ?_ ?_
   ·intro hb;have hb:pr l[i]=true:=hb;(repeat(first|refine za ?_|refine zgo ?_));refine zq ?_;(try simp only[zb,zf,ze,zd,zg]);refine zj (by simp only[T214,zE,go_sem]<;>rfl) ?_;simp only[zG];rw[if_pos hb]at hf;exact zay.uv (by simp[zi6,hf])
   ·intro hb;have hb:pr l[i]=false:=hb;refine zF ?_;simp only[zb,zf,ze,zd,zi,zg,if_true,reduceIte];(repeat refine za ?_);refine zrg ?_ (by simp(disch:=omega)only[go_sem,h8]<;>rfl);refine zy ?_;simp only[zb,zf,ze,zd,zi,zg,if_true,↓reduceIte];refine⟨_,?_,i+1,rfl,hlt,?_,by simp[upd,h0],by simp[upd,h1],by simp[upd,h7],by simp[upd],trivial,trivial⟩
    ·omega
    ·rw[hf,hb]
     cases (l.drop (i+1)).findIdx? pr with
     | none=>rfl
     | some j=>simp;omega
  ·intro hlt;have hlt:¬i<l.length:=by have:=of_decide_eq_false hlt;omega
   obtain rfl:i=l.length:=by omega
   simp only[zb,zf,ze,zd,zi,zg,if_true,reduceIte];(repeat(first|refine za ?_|refine zgo ?_));refine zq ?_;(try simp only[zb,zf,ze,zd,zg]);refine zj (by simp only[T214,zE,go_sem]<;>rfl) ?_;simp only[zG];rw[zBG9]at hf;exact zay.uv (by simp[zi6,hf])
theorem zne (p:Nat)(l:List Nat)(hl:za2 l.length)(g:Nat)(caps:List PV)(hc:∀v∈caps,Id0 v)(pr:Nat->Bool)(hg:∀x∈l,FN ET g (uv x::caps) (.ret (.bool (pr x)))):FN ET 162 [wv p l,.fn g caps] (.ret (.bool (l.any pr))):=by
 refine zfn f162 (.bool _) ?_;(repeat(first|refine za ?_|refine zgo ?_));(repeat refine za ?_);refine zrg ?_;refine zfe (caps:=[]) (vs:=[wv p l,.fn g caps]) rfl ?_ (zrh p l hl g caps hc pr hg) ?_ ?_
 ·simp only[go_sem]
 ·refine⟨.list _ _ _,⟨Id0.frz (.fn hc),trivial⟩⟩
 refine zfx ?_;refine zh ?_;refine zq ?_;(try simp only[zb,zf,ze,zd,zg]);refine zj (by simp only[T162,zE,go_sem]<;>rfl) ?_;simp only[zG];exact zay.bool (zkF _ _)
theorem f220:ET.funcs.get 220=some T220:=zL Tryz.func220
theorem f175:ET.funcs.get 175=some T175:=zL Tryz.func175
theorem zrn (p:Nat)(l:List Pr)(hl:za2 l.length)(g:Nat)(caps:List PV)(hc:∀v∈caps,Id0 v)(pr:Pr->Bool)(hg:∀x∈l,FN ET g (pv x::caps) (.ret (.bool (pr x)))):FN ET 220 [psv p l,.fn g caps] (.ret (iv (zi6 pr l))):=by
 refine zfn f220 (.int _ _) ?_;(repeat(first|refine za ?_|refine zgo ?_));refine zD (zas (fun m s=>∃i:Nat,m=l.length-i/\i<=l.length/\l.findIdx? pr=((l.drop i).findIdx? pr).map (· + i)/\s.tm 0=psv p l/\s.tm 1=.fn g caps/\s.tm 7=iv l.length/\s.tm 8=iv i/\s.df=[]/\s.H=[]) (n:=l.length) ?_ ?_)
 ·exact⟨0,by simp[upd,zo]⟩
 ·rintro m ⟨tm,df,H⟩ ⟨i,rfl,hi,hf,h0,h1,h7,h8,rfl,rfl⟩;dsimp only at h0 h1 h7 h8;(try refine zK ?_);refine za (zr ?_);refine zfx ?_ (by simp(disch:=omega)only[go_sem,h0,h1,h7,h8]<;>rfl);refine zh ?_;refine zN (by simp only[go_sem]<;>rfl) ?_ ?_
  ·intro hlt;have hlt:i<l.length:=by have:=of_decide_eq_true hlt;omega
   refine za (zD ?_);(repeat(first|refine za ?_|refine zgo ?_ (by simp(disch:=omega)only[go_sem,h8]<;>rfl)));(repeat refine za ?_);refine zrg ?_ (by simp(disch:=omega)only[go_sem,h0,h1,zAB9 hlt]<;>rfl);refine zfe (caps:=caps) (vs:=[pv l[i]]) rfl ?_ (hg _ (zBP9 hlt)) (zsu _ (fun v hv=>?_)) ?_
   ·simp only[go_sem,h1]
   ·rcases zAX9.1 hv with rfl|hv
    ·exact .agg fun y hy=>by simp at hy;rcases hy with rfl|rfl<;>exact .int _ _
    ·exact hc v hv
   refine zfx ?_;refine zh ?_;rw[zAU9 hlt,zFC9]at hf;refine zfc ?_ ?_
   ·intro hb;have hb:pr l[i]=true:=hb;(repeat(first|refine za ?_|refine zgo ?_));refine zq ?_;(try simp only[zb,zf,ze,zd,zg]);refine zj (by simp only[T220,zE,go_sem]<;>rfl) ?_;simp only[zG];rw[if_pos hb]at hf;exact zay.uv (by simp[zi6,hf])
   ·intro hb;have hb:pr l[i]=false:=hb;refine zF ?_;simp only[zb,zf,ze,zd,zi,zg,if_true,reduceIte];(repeat refine za ?_);refine zrg ?_ (by simp(disch:=omega)only[go_sem,h8]<;>rfl);refine zy ?_;simp only[zb,zf,ze,zd,zi,zg,if_true,↓reduceIte];refine⟨_,?_,i+1,rfl,hlt,?_,by simp[upd,h0],by simp[upd,h1],by simp[upd,h7],by simp[upd],trivial,trivial⟩
    ·omega
    ·rw[hf,hb]
     cases (l.drop (i+1)).findIdx? pr with
     | none=>rfl
     | some j=>simp;omega
  ·intro hlt;have hlt:¬i<l.length:=by have:=of_decide_eq_false hlt;omega
   obtain rfl:i=l.length:=by omega
   simp only[zb,zf,ze,zd,zi,zg,if_true,reduceIte];(repeat(first|refine za ?_|refine zgo ?_));refine zq ?_;(try simp only[zb,zf,ze,zd,zg]);refine zj (by simp only[T220,zE,go_sem]<;>rfl) ?_;simp only[zG];rw[zBG9]at hf;exact zay.uv (by simp[zi6,hf])
theorem zng (p:Nat)(l:List Pr)(hl:za2 l.length)(g:Nat)(caps:List PV)(hc:∀v∈caps,Id0 v)(pr:Pr->Bool)(hg:∀x∈l,FN ET g (pv x::caps) (.ret (.bool (pr x)))):FN ET 175 [psv p l,.fn g caps] (.ret (.bool (l.any pr))):=by
 refine zfn f175 (.bool _) ?_;(repeat(first|refine za ?_|refine zgo ?_));(repeat refine za ?_);refine zrg ?_;refine zfe (caps:=[]) (vs:=[psv p l,.fn g caps]) rfl ?_ (zrn p l hl g caps hc pr hg) ?_ ?_
 ·simp only[go_sem]
 ·refine⟨.list _ _ _,⟨Id0.frz (.fn hc),trivial⟩⟩
 refine zfx ?_;refine zh ?_;refine zq ?_;(try simp only[zb,zf,ze,zd,zg]);refine zj (by simp only[T175,zE,go_sem]<;>rfl) ?_;simp only[zG];exact zay.bool (zkF _ _)
theorem f107:ET.funcs.get 107=some T107:=zL Tryz.func107
theorem f163:ET.funcs.get 163=some T163:=zL Tryz.func163
theorem zx7 (x:Nat):FN ET 163 [uv x] (.ret (.bool (decide (x≠0)))):=by
 refine zfn f163 (.bool _) ?_;(repeat(first|refine za ?_|refine zgo ?_));refine zq ?_;(try simp only[zb,zf,ze,zd,zg]);refine zj (by simp only[T163,zE,go_sem]<;>rfl) ?_;simp only[zG];exact zay.bool (by by_cases h:x=0<;>simp[h];try omega)
theorem Lb.node (n:zB):Lb (zZ 0 n):=.agg fun v hv=>by
 simp at hv;rcases hv with h|h|h|h|h|h<;>subst h
 ·exact .int _ _
 ·exact .int _ _
 ·exact .int _ _
 ·exact .int _ _
 ·exact .int _ _
 ·exact Lb.pvs _
theorem Lb.two {a b:PV}(ha:Lb a)(hb:Lb b):Lb (.tuple [a,b]):=.tuple fun v hv=>by
 simp at hv;rcases hv with h|h<;>subst h<;>assumption
def zdB (w:List Nat):FE:=if zbI w=true then .ret (.tuple [zZ 0 (zaa w),iv 0])else .ret (.tuple [zZ 0 zd0,iv 210])
theorem zxF (lv:Nat)(w:List Nat)(i:Nat):∀v∈hAt lv w i,Id0 v:=fun v hv=>by
 simp[hAt]at hv;rcases hv with h|h|h|h|h|h<;>subst h<;>constructor
@[reducible] def zeY:PV:=.agg [iv 0,iv 0,uv 0,uv 0,iv 0,.nilsl]
theorem znm {H:List zn}:Frz H 0 (.tuple [zeY,iv 210]) (.tuple [zZ 0 zd0,iv 210]):=by
 refine Frz.tupL ⟨Frz.aggL ⟨.int _ _,.int _ _,.int _ _,.int _ _,.int _ _,.nil _ _,trivial⟩,.int _ _,trivial⟩
theorem zqC {H:List zn}{w:List Nat}(h:zbI w=false):zay H 0 (.ret (zG [zeY,iv 210])) (zdB w):=by
 unfold zdB;rw[if_neg (by rw[h];decide)];exact znm
theorem zqz (w:List Nat)(hl:w.length=64)(lv:Nat)(hlv:lv=zgw (w.getD 0 0)):zbI w=(!(((w.take 8).drop 5).any fun x=>decide (x≠0))&&(List.range 5).all fun i=>zcM i lv (w.getD i 0)):=by
 subst hlv;unfold zbI;rw[decide_eq_true hl,zCA9,List.all_eq_not_any_not]
 congr 2
 simp
theorem zpt (w:List Nat)(lv:Nat)(hlv:lv=zgw (w.getD 0 0)):zaa w=⟨lv,w.getD 1 0,w.getD 2 0,w.getD 3 0,w.getD 4 0,zbB (w.getD 3 0) (w.drop 8)⟩:=by
 subst hlv;unfold zaa;rfl
theorem zsj (w:List Nat):∃lv,lv=zgw (w.getD 0 0):=⟨_,rfl⟩
theorem zwF (p:Nat)(w:List Nat)(hw:za2 w.length):FN ET 107 [wv p w] (zdB w):=by
 refine zfn f107 ?_ ?_
 ·unfold zdB;split
  ·exact Lb.two (Lb.node _) (.int _ _)
  ·exact Lb.two (Lb.node _) (.int _ _)
 refine za (zr ?_);refine zfx ?_;refine zh ?_;refine zr2 ?_;(repeat refine za ?_);refine zr ?_;have h2:(1:Nat)=1:=rfl
 by_cases hl:w.length=64
 rotate_left
 ·have g:¬(w.length:Int)=64:=by omega
  refine zfx ?_ (by simp(disch:=omega)only[go_sem,g]<;>rfl);refine zh ?_;refine zfc ?_ ?_
  ·intro _;refine zph ⟨rfl,?_⟩;refine za (zF ?_);simp only[zb,zf,ze,zd,zi,zg,if_true,reduceIte];(repeat refine za ?_);refine zrg ?_ (by simp(disch:=omega)only[go_sem,h2]<;>rfl);refine zh ?_;refine zq ⟨(fun l h=>FX.noConfusion h),?_⟩;refine zj (vs:=[zeY,iv 210]) ?_ ?_
   ·simp only[T107,zE,go_sem];rfl
   ·exact zqC (by simp[zbI,hl])
  ·intro h;cases h
 have g:(w.length:Int)=64:=by omega
 have hm1:List.drop 5 (List.take 8 (List.map uv w))=((w.take 8).drop 5).map uv:=by simp[zCQ9,zDN9]
 refine zfx ?_ (by simp(disch:=omega)only[go_sem,g,hl,hm1]<;>rfl);refine zca (zne p ((w.take 8).drop 5) (by simp;omega) 163 [] (fun _ h=>by cases h) (fun x=>decide (x≠0)) fun x _=>zx7 x) ?_;refine zfx ?_;refine zh ?_;obtain⟨lv,hlv⟩:=zsj w;have hsp:=zqz w hl lv hlv;refine zfc ?_ ?_
 ·intro hb;have hb:(((w.take 8).drop 5).any fun x=>decide (x≠0))=true:=hb;refine zph ⟨rfl,?_⟩;refine za (zF ?_);simp only[zb,zf,ze,zd,zi,zg,if_true,reduceIte];(repeat refine za ?_);refine zrg ?_ (by simp(disch:=omega)only[go_sem,h2]<;>rfl);refine zh ?_;refine zq ⟨(fun l h=>FX.noConfusion h),?_⟩;refine zj (vs:=[zeY,iv 210]) ?_ ?_
  ·simp only[T107,zE,go_sem];rfl
  ·exact zqC (by rw[hsp,hb];rfl)
 intro hb;have hb:(((w.take 8).drop 5).any fun x=>decide (x≠0))=false:=hb;rw[hb]at hsp;refine zF ?_;show W _ _ _ _ _ _;(repeat refine za ?_);refine zrg ?_;refine zca zwb ?_;refine zfx ?_ (by simp(disch:=omega)only[go_sem,zuR]<;>rfl);refine zh ?_;have hsp:zbI w=(List.range 5).all fun i=>zcM i lv (w.getD i 0):=by simpa using hsp
 clear hm1 h2;refine zD (zas (fun m s=>∃(i:Nat) (G:List zn),m=5-i/\i<=5/\(∀j,j<i->zcM j lv (w.getD j 0)=true)/\s.tm 0=wv p w/\s.tm 2=.ptr 0 0 0 0 6/\s.tm 14=.list 0 3 zhc/\s.tm 15=iv 5/\s.tm 16=iv i/\s.df=[]/\s.H=zdU (hAt lv w i)::G) (n:=5) ?_ ?_)
 ·exact⟨0,[],rfl,by omega,(fun j hj=>by omega),by simp[upd,zo],by simp[upd],by simp[upd],by simp[upd],by simp[upd],rfl,rfl⟩
 ·rintro m ⟨tm,df,H⟩ ⟨i,G,rfl,hi,hmay,h0,h2,h14,h15,h16,rfl,rfl⟩;dsimp only at h0 h2 h14 h15 h16;(try refine zK ?_);refine za (zr ?_);refine zfx ?_ (by simp(disch:=omega)only[go_sem,h0,h2,h14,h15,h16]<;>rfl);refine zh ?_;refine zN (by simp only[go_sem]<;>rfl) ?_ ?_
  ·intro hlt;have hlt:i<5:=by have:=of_decide_eq_true hlt;omega
   have hwi:w[i]?=some (w.getD i 0):=by rw[zAQ9,zAB9 (by omega)];rfl
   have hid:=zxF lv w i;(repeat refine za ?_);refine zD ?_;(repeat(first|refine za ?_|refine zgo ?_ (by simp(disch:=omega)only[go_sem,h0,h2,h14,h16,zt7 i hlt]<;>rfl)));(repeat refine za ?_);refine zag ?_;refine zdn (zyb lv w i (w.getD i 0) hlt) ?_ (by simp(disch:=omega)only[go_sem,h0,h2,hwi]<;>rfl);refine zdl ?_ (by simp(disch:=omega)only[go_sem,h0]<;>rfl);refine zM ?_;simp only[zi,zS,zb,go_sem]
   by_cases hm:zcM i lv (w.getD i 0)=true
   rotate_left
   ·have hm:zcM i lv (w.getD i 0)=false:=by simpa using hm
    refine zfc ?_ ?_
    ·intro _;refine zph ⟨rfl,?_⟩;refine za (zF ?_);simp only[zb,zf,ze,zd,zi,zg,if_true,reduceIte];(repeat refine za ?_);refine zrg ?_ (by simp(disch:=omega)only[go_sem,h2]<;>rfl);refine zh ?_;refine zq ⟨(fun l h=>FX.noConfusion h),?_⟩;refine zj (vs:=[zeY,iv 210]) ?_ ?_
     ·simp only[T107,zE,go_sem,h2];rfl
     ·exact zqC (by rw[hsp,List.all_eq_false];exact⟨i,zDC9.2 hlt,by rw[hm];decide⟩)
    ·rw[hm];intro h;cases h
   refine zfc ?_ ?_
   ·rw[hm];intro h;cases h
   intro _;refine zF ?_;show W _ _ _ _ _ _;refine zag ?_;refine zog (s1:=?_) (caps:=?_) (vs:=?_) ?_ ?_ rfl rfl ?_ ?_ (zx9 lv w (by rw[hlv,znH]) i hlt hm ?_) ?_ ?_ ?_;rotate_left 3;(first|exact trivial|(simp only[go_sem,h0,h2,hwi]));(simp(disch:=omega)only[go_sem,wrap_i64,zJ,zaG,h0,h2,hwi]<;>rfl);(first|rfl|(simp only[go_sem,h0,h2,hwi]<;>rfl));(simp only[go_sem,h0,h2,hwi]<;>rfl);rotate_left 1;rfl;rfl;rintro e H' he;obtain⟨rfl,rfl⟩:=he;refine⟨_,by simp only[go_sem]<;>rfl,?_⟩;refine zdl ?_ (by simp(disch:=omega)only[go_sem,h0]<;>rfl);refine zM ?_;simp only[zi,zS,zb,go_sem];simp only[zb,zf,ze,zd,zi,zg,if_true,reduceIte];(repeat refine za ?_);refine zrg ?_ (by simp(disch:=omega)only[go_sem,h16]<;>rfl);refine zy ?_;simp only[zb,zf,ze,zd,zi,zg,if_true,↓reduceIte];refine⟨_,?_,i+1,_,rfl,hlt,?_,by simp[upd,h0],by simp[upd,h2],by simp[upd,h14],by simp[upd,h15],by simp[upd,h16],trivial,rfl⟩
   ·omega
   ·intro j hj
    by_cases hj2:j=i
    ·rw[hj2];exact hm
    ·exact hmay j (by omega)
  ·intro hlt;have hlt:¬i<5:=by have:=of_decide_eq_false hlt;omega
   obtain rfl:i=5:=by omega
   simp only[zb,zf,ze,zd,zi,zg,if_true,reduceIte];have hok:zbI w=true:=by rw[hsp,zBI9];intro j hj;exact hmay j (zDC9.1 hj)
   have h5:hAt lv w 5=zdh lv (w.getD 1 0) (w.getD 2 0) (w.getD 3 0) (w.getD 4 0):=rfl;have hm2:List.drop 8 (List.map uv w)=(w.drop 8).map uv:=by simp[zCQ9]
   rw[h5];refine za (zag ?_);refine zdn (zry p (w.drop 8) (w.getD 3 0) (by simp;omega)) ?_ (by simp(disch:=omega)only[go_sem,h0,h2,hl,hm2]<;>rfl);refine zda ?_ (by simp(disch:=omega)only[go_sem,h0,h2]<;>rfl);refine zdl ?_ (by simp(disch:=omega)only[go_sem,h0]<;>rfl);refine zM ?_;simp only[zi,zS,zb,go_sem];(repeat(first|refine za ?_|refine zgo ?_ (by simp(disch:=omega)only[go_sem,h2]<;>rfl)));refine zq ?_;(try simp only[zb,zf,ze,zd,zg]);refine zj (by simp only[T107,zE,go_sem,h2]<;>rfl) ?_;simp only[zG];unfold zdB;rw[if_pos hok];rw[zpt w lv hlv];exact Frz.tupL ⟨Frz.aggL ⟨.int _ _,.int _ _,.int _ _,.int _ _,.int _ _,.list _ _ _,trivial⟩,.int _ _,trivial⟩
theorem f167:ET.funcs.get 167=some T167:=zL Tryz.func167
theorem f176:ET.funcs.get 176=some T176:=zL Tryz.func176
theorem f125:ET.funcs.get 125=some T125:=zL Tryz.func125
theorem f85:ET.funcs.get 85=some T85:=zL Tryz.func85
theorem zvM (p:Nat)(n:zB)(q:Pr):FN ET 167 [zZ p n,pv q] (.ret (.bool (zbT n q))):=by
 obtain⟨lv,sib,low,left,way,ps⟩:=n;obtain⟨k,x⟩:=q;refine zfn f167 (.bool _) ?_;(repeat(first|refine za ?_|refine zgo ?_))
 by_cases h0:lv=0
 ·have g0:(lv:Int)=0:=by omega
  refine zfc ?_ ?_
  ·intro _;refine za (zr ?_)
   by_cases h1:1<=x
   ·have g1:(1:Int)<=x:=by omega
    by_cases h2:x<=1099511627776
    ·have g2:(x:Int)<=1099511627776:=by omega
     refine zfx ?_ (by simp(disch:=omega)only[go_sem,g1,g2]<;>rfl);refine zh ?_;refine zq ?_;(try simp only[zb,zf,ze,zd,zg]);refine zj (by simp only[T167,zE,go_sem]<;>rfl) ?_;simp only[zG];exact zay.bool (by simp[zbT,h0,h1,h2];try omega)
    ·have g2:¬(x:Int)<=1099511627776:=by omega
     refine zfx ?_ (by simp(disch:=omega)only[go_sem,g1,g2]<;>rfl);refine zh ?_;refine zq ?_;(try simp only[zb,zf,ze,zd,zg]);refine zj (by simp only[T167,zE,go_sem]<;>rfl) ?_;simp only[zG];exact zay.bool (by simp[zbT,h0,h1,h2])
   ·have g1:¬(1:Int)<=x:=by omega
    refine zfx ?_ (by simp(disch:=omega)only[go_sem,g1]<;>rfl);refine zh ?_;refine zq ?_;(try simp only[zb,zf,ze,zd,zg]);refine zj (by simp only[T167,zE,go_sem]<;>rfl) ?_;simp only[zG];exact zay.bool (by simp[zbT,h0,h1])
  ·intro h;exact absurd g0 (of_decide_eq_false h)
 ·have g0:¬(lv:Int)=0:=by omega
  refine zfc ?_ ?_
  ·intro h;exact absurd (of_decide_eq_true h) g0
  ·intro _;refine zF ?_;show W _ _ _ _ _ _;(repeat refine za ?_);refine zrg ?_;refine zca (zpw x) ?_
   by_cases hb:zcz x=true
   ·rw[hb];refine zfx ?_;refine zh ?_;refine zq ?_;(try simp only[zb,zf,ze,zd,zg]);refine zj (by simp only[T167,zE,go_sem]<;>rfl) ?_;simp only[zG];exact zay.bool (by simp[zbT,h0,hb])
   ·have hb:zcz x=false:=by simpa using hb
    rw[hb];refine zfx ?_;refine zh ?_;refine zq ?_;(try simp only[zb,zf,ze,zd,zg]);refine zj (by simp only[T167,zE,go_sem]<;>rfl) ?_;simp only[zG];exact zay.bool (by simp[zbT,h0,hb])
@[reducible] def zsI (p:Nat) (n:zB):List PV:=[iv n.level,iv n.sib,uv n.low,uv n.left,iv n.way,psv p n.pairs]
theorem zq6 (p:Nat)(n:zB)(q:Pr):FN ET 176 [pv q,.elem (zsI p n)] (.ret (.bool (!zbT n q))):=by
 refine zfn f176 (.bool _) ?_;(repeat(first|refine za ?_|refine zgo ?_));(repeat refine za ?_);refine zrg ?_;refine zca (zvM p n q) ?_;refine zfx ?_;refine zh ?_;refine zq ?_;(try simp only[zb,zf,ze,zd,zg]);refine zj (by simp only[T176,zE,go_sem]<;>rfl) ?_;simp only[zG];exact zay.bool rfl
theorem zpb (p:Nat)(n:zB):∀v∈zsI p n,Id0 v:=fun v hv=>by
 simp at hv;rcases hv with h|h|h|h|h|h<;>subst h<;>constructor
def zgB (w:List Nat):FE:=if zbh w=0 then .ret (.tuple [zZ 0 (zaa w),iv 0])else .ret (.tuple [zZ 0 zd0,iv (zbh w:Nat)])
theorem ztR {w:List Nat}(h:zbI w=true):w.length=64:=by
 unfold zbI at h;rw[zAR9,zAR9,decide_eq_true_eq]at h;exact h.1.1
theorem zvy {H:List zn}{n:zB}{k:Int}:Frz H 0 (.tuple [zZ 0 n,iv k]) (.tuple [zZ 0 n,iv k]):=by
 refine Frz.tupL ⟨Frz.aggL ⟨.int _ _,.int _ _,.int _ _,.int _ _,.int _ _,.list _ _ _,trivial⟩,.int _ _,trivial⟩
theorem zk5 {H:List zn}{k:Int}:Frz H 0 (.tuple [zeY,iv k]) (.tuple [zZ 0 zd0,iv k]):=by
 refine Frz.tupL ⟨Frz.aggL ⟨.int _ _,.int _ _,.int _ _,.int _ _,.int _ _,.nil _ _,trivial⟩,.int _ _,trivial⟩
def zf6 (n:zB)(w:List Nat):FE:=if(decide (zbz n.left (w.drop 8)=0) && !(n.pairs.any fun q=>!zbT n q))=true then .ret (.tuple [zZ 0 n,iv 0])else .ret (.tuple [zZ 0 zd0,iv 190])
theorem zqO (p:Nat)(w:List Nat)(n:zB)(hOf:FN ET 107 [wv p w] (.ret (.tuple [zZ 0 n,iv 0])))(hl:w.length=64)(hps:n.pairs.length<=28):FN ET 125 [wv p w] (zf6 n w):=by
 refine zfn f125 ?_ ?_
 ·unfold zf6;split
  ·exact Lb.two (Lb.node _) (.int _ _)
  ·exact Lb.two (Lb.node _) (.int _ _)
 (repeat(first|refine za ?_|refine zgo ?_));(repeat refine za ?_);refine zrg ?_;refine zca hOf ?_;refine zfx ?_;refine zh ?_;(repeat(first|refine za ?_|refine zgo ?_));refine zfc ?_ ?_
 ·intro h;cases h
 intro _;refine zF ?_;show W _ _ _ _ _ _;have hm2:List.drop 8 (List.map uv w)=(w.drop 8).map uv:=by simp[zCQ9]
 have hck:=ztP p (w.drop 8) n.left (by simp;omega);(repeat refine za ?_);refine zag ?_;have hid:=zpb 0 n
 by_cases h1:zbz n.left (w.drop 8)=0
 rotate_left
 ·have g1:¬((zbz n.left (w.drop 8):Nat):Int)=0:=by omega
  refine zdn hck ?_ (by simp(disch:=omega)only[go_sem,hl,hm2]<;>rfl);refine zez (by first|exact trivial|simp only[go_sem,g1]) (by simp(disch:=omega)only[go_sem,g1]<;>rfl) rfl (by simp only[go_sem,g1]<;>rfl) (by simp only[go_sem]<;>rfl) ?_;refine zdl ?_ (by simp(disch:=omega)only[go_sem,g1]<;>rfl);refine zM ?_;simp only[zi,zS,zb,go_sem];refine zfc ?_ ?_
  ·intro _;(repeat(first|refine za ?_|refine zgo ?_));refine zq ?_;(try simp only[zb,zf,ze,zd,zg]);refine zj (by simp only[T125,zE,go_sem]<;>rfl) ?_;simp only[zG];have hs:zf6 n w=.ret (.tuple [zZ 0 zd0,iv 190]):=by unfold zf6;rw[decide_eq_false h1];rfl
   rw[hs];exact zk5
  ·intro h;cases h
 rw[h1]at hck;refine zdn hck ?_ (by simp(disch:=omega)only[go_sem,hl,hm2]<;>rfl);refine zdn (zng 0 n.pairs (by omega) 176 [.elem (zsI 0 n)] (fun v hv=>by simp at hv;subst hv;exact .elem _) (fun q=>!zbT n q) fun q _=>zq6 0 n q) ?_ (by simp(disch:=omega)only[go_sem,hl]<;>rfl);refine zdl ?_ (by simp(disch:=omega)only[go_sem,hl]<;>rfl);refine zM ?_;simp only[zi,zS,zb,go_sem]
 by_cases h2:(n.pairs.any fun q=>!zbT n q)=true
 ·refine zfc ?_ ?_
  ·intro _;(repeat(first|refine za ?_|refine zgo ?_));refine zq ?_;(try simp only[zb,zf,ze,zd,zg]);refine zj (by simp only[T125,zE,go_sem]<;>rfl) ?_;simp only[zG];have hs:zf6 n w=.ret (.tuple [zZ 0 zd0,iv 190]):=by unfold zf6;rw[h2,decide_eq_true h1];rfl
   rw[hs];exact zk5
  ·rw[h2];intro h;cases h
 ·have h2:(n.pairs.any fun q=>!zbT n q)=false:=by simpa using h2
  refine zfc ?_ ?_
  ·rw[h2];intro h;cases h
  ·intro _;refine zF ?_;show W _ _ _ _ _ _;(repeat(first|refine za ?_|refine zgo ?_));refine zq ?_;(try simp only[zb,zf,ze,zd,zg]);refine zj (by simp only[T125,zE,go_sem]<;>rfl) ?_;simp only[zG];have hs:zf6 n w=.ret (.tuple [zZ 0 n,iv 0]):=by unfold zf6;rw[h2,decide_eq_true h1];rfl
   rw[hs];exact zvy
theorem zej (w:List Nat)(hh:zbI w=true):zdB w=.ret (.tuple [zZ 0 (zaa w),iv 0]):=by unfold zdB;rw[if_pos hh]
theorem zvI (w:List Nat)(hh:zbI w=true):zf6 (zaa w) w=zgB w:=by
 have hpk:zen w=(decide (zbz (zaa w).left (w.drop 8)=0) && !((zaa w).pairs.any fun q=>!zbT (zaa w) q)):=by unfold zen;rfl
 unfold zf6 zgB zbh;rw[if_pos hh,<- hpk]
 by_cases hp:zen w=true
 ·rw[if_pos hp,if_pos hp,if_pos rfl]
 ·rw[if_neg hp,if_neg hp,if_neg (by decide)];simp
theorem zrm (p:Nat)(w:List Nat)(hw:za2 w.length):FN ET 125 [wv p w] (zgB w):=by
 have hOf:=zwF p w hw
 by_cases hh:zbI w=true
 ·rw[zej w hh]at hOf;have h1:=zqO p w (zaa w) hOf (ztR hh) (zdM _ _);rw[zvI w hh]at h1;exact h1
 have hh:zbI w=false:=by simpa using hh
 have he:zdB w=.ret (.tuple [zZ 0 zd0,iv 210]):=by unfold zdB;rw[if_neg (by rw[hh];decide)]
 have hc:zbh w=210:=by unfold zbh;rw[if_neg (by rw[hh];decide)]
 have hs:zgB w=.ret (.tuple [zZ 0 zd0,iv 210]):=by unfold zgB;rw[hc];rfl
 rw[he]at hOf;rw[hs];refine zfn f125 (Lb.two (Lb.node _) (.int _ _)) ?_;(repeat(first|refine za ?_|refine zgo ?_));(repeat refine za ?_);refine zrg ?_;refine zca hOf ?_;refine zfx ?_;refine zh ?_;(repeat(first|refine za ?_|refine zgo ?_));refine zfc ?_ ?_
 ·intro _;(repeat(first|refine za ?_|refine zgo ?_));refine zq ?_;(try simp only[zb,zf,ze,zd,zg]);refine zj (by simp only[T125,zE,go_sem]<;>rfl) ?_;simp only[zG];exact zk5
 ·intro h;cases h
theorem znN (p:Nat)(w:List Nat)(n:zB)(c:Nat)(hs:FN ET 125 [wv p w] (.ret (.tuple [zZ 0 n,iv c]))):FN ET 85 [wv p w] (.ret (iv c)):=by
 refine zfn f85 (.int _ _) ?_;(repeat(first|refine za ?_|refine zgo ?_));(repeat refine za ?_);refine zrg ?_;refine zca hs ?_;refine zfx ?_;refine zh ?_;(repeat(first|refine za ?_|refine zgo ?_));refine zq ?_;(try simp only[zb,zf,ze,zd,zg]);refine zj (by simp only[T85,zE,go_sem]<;>rfl) ?_;simp only[zG];exact Frz.int _ _
theorem zxq (w:List Nat)(h:zbh w=0):zgB w=.ret (.tuple [zZ 0 (zaa w),iv ((0:Nat):Int)]):=by unfold zgB;rw[if_pos h];rfl
theorem zxx (w:List Nat)(h:¬zbh w=0):zgB w=.ret (.tuple [zZ 0 zd0,iv (zbh w:Nat)]):=by unfold zgB;rw[if_neg h]
theorem zum (p:Nat)(w:List Nat)(hw:za2 w.length):FN ET 85 [wv p w] (.ret (iv (zbh w:Nat))):=by
 have hs:=zrm p w hw
 by_cases h0:zbh w=0
 ·rw[zxq w h0]at hs;rw[h0];exact znN p w _ 0 hs
 ·rw[zxx w h0]at hs;exact znN p w _ _ hs
def zbY (n:zB):Nat->List Nat
 | 0=>List.replicate 64 0
 | i+1=>(zbY n i).set i (zsD i n)
theorem zjR (n:zB):∀i,(zbY n i).length=64
 | 0=>by simp[zbY]
 | i+1=>by simp[zbY,zjR n i]
def zcO (n:zB):Nat->List Nat
 | 0=>zbY n 5
 | j+1=>((zcO n j).set (8+2*j) (n.pairs.getD j (0,0)).1).set (8+2*j+1) (n.pairs.getD j (0,0)).2
theorem zff (n:zB):∀j,(zcO n j).length=64
 | 0=>zjR n 5
 | j+1=>by simp[zcO,zff n j]
theorem zwp (k k':IntKind)(x y x' y':Int):zfd [1,1] [.int k x,.int k' y] [.int k x',.int k' y']=some (decide (x=x')&&decide (y=y')):=by
 by_cases h:x=x'<;>by_cases h2:y=y'<;>simp[zfd,zlD,zeh,zcD,h,h2]
def zbr (n:zB):List Nat:=zcO n n.pairs.length
theorem zc7 {w:List Nat}(h:zbh w=0):zbI w=true:=by
 unfold zbh at h
 by_cases hh:zbI w=true
 ·exact hh
 ·rw[if_neg hh]at h;cases h
def zh9 (k:Nat)(l:List Pr):List (List Pr):=(List.range ((l.length+(k-1))/k)).map fun i=>(l.drop (k*i)).take k
theorem zfC (k:Nat)(l:List Pr):(zh9 k l).length=(l.length+(k-1))/k:=by simp[zh9]
theorem zcj (f:Nat)(a b:List PV):Id0 (.fn f [.elem a,.elem b]):=.fn fun x hx=>by simp at hx;rcases hx with rfl|rfl<;>exact .elem _
@[reducible] def cv (x:Pr):PV:=.agg [uv x.1,iv x.2]
@[reducible] def csv (p:Nat) (l:List Pr):PV:=.list p 2 (l.map cv)


def zdu (l:List Pr)(i:Nat):zB:=⟨0,0,if 0<i then(l.getD (18*i) (0,0)).1 else 0,9223372036854775808,0,(l.drop (18*i)).take 18⟩
def zbX (l:List Pr):List zB:=if l=[]then[⟨0,0,0,9223372036854775808,0,[]⟩]else(List.range (zh9 18 l).length).map (zdu l)
theorem zgr {p:Nat}{L:List zB}:∀v∈(L.map (zZ p)).flatMap PV.cells,Id0 v:=fun v hv=>by
 obtain⟨x,hx,hv⟩:=zBC9.1 hv;obtain⟨n,_,rfl⟩:=zAP9.1 hx;exact zpb p n v hv
theorem f40:ET.funcs.get 40=some T40:=zL Tryz.func40
theorem f90:ET.funcs.get 90=some T90:=zL Tryz.func90
theorem f138:ET.funcs.get 138=some T138:=zL Tryz.func138
def zu (w:List Nat)(b:Nat):List Nat:=(w.take (64*b+64)).drop (64*b)
theorem zwq (p:Nat)(w:List Nat)(b:Nat)(hw:za2 w.length)(hb:64*b+64<=w.length):FP ET 40 [wv p w,iv b] (.ret (wv p (zu w b))):=by
 refine zfp f40 ?_;(repeat(first|refine za ?_|refine zgo ?_));have e1:(64:Int)*(b:Int)=((64*b:Nat):Int):=by omega
 have e2:((64*b:Nat):Int)+64=((64*b+64:Nat):Int):=by omega
 have e3:64*b<=64*b+64:=by omega
 have e4:0<w.length:=by omega
 have e5:List.drop (64*b) (List.take (64*b+64) (List.map uv w))=(zu w b).map uv:=by simp[zu,zCQ9,zDN9]
 (repeat(first|refine za ?_|refine zgo ?_ (by simp(disch:=omega)only[go_sem,e1,e2,e3,e4,hb,e5]<;>rfl)));refine zq ?_;(try simp only[zb,zf,ze,zd,zg]);refine zj (by simp only[T40,zE,go_sem]<;>rfl) ?_;simp only[zG];exact Frz.list _ _ _
def zbw (n:Nat)(a:Int):Bool:=decide (64<=n)&&decide (n%64=0)&&decide (n<=131072)&&decide (0<=a)&&decide (a<n)
theorem zp4 (p:Nat)(w:List Nat)(a:Int)(hw:za2 w.length):FN ET 90 [wv p w,iv a] (if zbw w.length a=true then .ret (.tuple [])else .panic (zc0 2)):=by
 refine zfn f90 ?_ ?_
 ·split
  ·exact Lb.unit
  ·exact .iface (.int _ _)
 refine zr ?_
 by_cases h1:64<=w.length
 rotate_left
 ·have g1:¬(64:Int)<=w.length:=by omega
  refine zfx ?_ (by simp(disch:=omega)only[go_sem,g1]<;>rfl);refine zcx (zeq 2) ?_;exact zcV (by simp[zbw,h1])
 have g1:(64:Int)<=w.length:=by omega
 by_cases h2:w.length%64=0
 rotate_left
 ·have g2:¬(w.length:Int).tmod 64=0:=by rw[IntWalk.rem_in _ _ (by omega)];omega
  refine zfx ?_ (by simp(disch:=omega)only[go_sem,g1,g2]<;>rfl);refine zcx (zeq 2) ?_;exact zcV (by simp[zbw,h1,h2])
 have g2:(w.length:Int).tmod 64=0:=by rw[IntWalk.rem_in _ _ (by omega)];omega
 by_cases h3:w.length<=131072
 rotate_left
 ·have g3:¬(w.length:Int)<=131072:=by omega
  refine zfx ?_ (by simp(disch:=omega)only[go_sem,g1,g2,g3]<;>rfl);refine zcx (zeq 2) ?_;exact zcV (by simp[zbw,h1,h2,h3])
 have g3:(w.length:Int)<=131072:=by omega
 by_cases h4:(0:Int)<=a
 rotate_left
 ·refine zfx ?_ (by simp(disch:=omega)only[go_sem,g1,g2,g3,h4]<;>rfl);refine zcx (zeq 2) ?_;exact zcV (by simp[zbw,h1,h2,h3,h4])
 by_cases h5:a<(w.length:Int)
 rotate_left
 ·refine zfx ?_ (by simp(disch:=omega)only[go_sem,g1,g2,g3,h4,h5]<;>rfl);refine zcx (zeq 2) ?_;exact zcV (by simp[zbw,h1,h2,h3,h4,h5])
 refine zfx ?_ (by simp(disch:=omega)only[go_sem,g1,g2,g3,h4,h5]<;>rfl);refine zca (zhh 2) ?_;refine zfx ?_;have:zbw w.length a=true:=by simp[zbw,h1,h2,h3,h4,h5]
 rw[if_pos this];exact zgi (zfX rfl (Frz.tupL trivial))
section
variable {α:Type}(G l m n:List α)(x y z:α)
theorem gm0:(G++x::l)[G.length]?=some x:=by simp
theorem gm1:(G++x::l++m)[G.length]?=some x:=by simp
theorem gm2:(G++x::l++m++n)[G.length]?=some x:=by simp
theorem hm0:(G++x::y::l)[G.length+1]?=some y:=by simp[zAO9]
theorem hm1:(G++x::y::l++m)[G.length+1]?=some y:=by rw[zAF9];exact hm0 G _ x y
theorem hm2:(G++x::y::l++m++n)[G.length+1]?=some y:=by rw[zAF9,zAF9];exact hm0 G _ x y
theorem sm0:(G++x::l).set G.length z=G++z::l:=by rw[zBV9 _ _ (zAM9 _)];simp
theorem tm0:(G++x::y::l).set (G.length+1) z=G++x::z::l:=by rw[zBV9 _ _ (by omega)];simp
theorem tm1:(G++x::y::l++m).set (G.length+1) z=G++x::z::l++m:=by rw[zAF9,zAF9];exact tm0 G _ x y z
theorem tm2:(G++x::y::l++m++n).set (G.length+1) z=G++x::z::l++m++n:=by rw[zAF9,zAF9,zAF9,zAF9];exact tm0 G _ x y z
end
def zdr (lv:Nat)(ks:List Pr)(i:Nat):zB:=⟨lv,0,(ks.getD (19*i) (0,0)).1,(ks.getD (19*i) (0,0)).2,0,((ks.drop (19*i)).take 19).drop 1⟩
def zco (lv:Nat)(ks:List Pr):List zB:=(List.range (zh9 19 ks).length).map (zdr lv ks)
theorem LF.append {H:List zn}{lab:Nat}:∀{a b c d:List PV},LF H lab a b->LF H lab c d->LF H lab (a++c) (b++d)
 | [],[],_,_,_,h=>h
 | _::_,_::_,_,_,h,k=>⟨h.1,LF.append h.2 k⟩
theorem LF.get {H:List zn}{lab:Nat}:∀{a b:List PV} {i:Nat} {x y:PV},LF H lab a b->a[i]?=some x->b[i]?=some y->Frz H lab x y
 | [],_,_,_,_,_,hx,_=>by simp at hx
 | _::_,[],_,_,_,h,_,_=>h.elim
 | _::_,_::_,0,_,_,h,hx,hy=>by injection hx with hx;injection hy with hy;subst hx hy;exact h.1
 | _::_,_::_,i+1,_,_,h,hx,hy=>LF.get h.2 hx hy
theorem zwy {H:List zn}{lab:Nat}:∀{a b:List PV},LF H lab a b->a.length=b.length
 | [],[],_=>rfl
 | _::_,_::_,h=>by simp[zwy h.2]
theorem LF.flat {H:List zn}{lab:Nat}{α:Type}{f:α->PV}:∀{vs:List PV} {L:List α},vs.length=L.length->(∀(q:Nat) (n:α),L[q]?=some n->∃v,vs[q]?=some v/\LF H lab v.cells (f n).cells)->LF H lab (vs.flatMap PV.cells) ((L.map f).flatMap PV.cells)
 | [],[],_,_=>trivial
 | v::vs,n::L,hl,h=>by
  have h0:=h 0 n rfl;obtain⟨v',e1,e2⟩:=h0;injection e1 with e1;subst e1;exact LF.append e2 (LF.flat (by simpa using hl) fun q m hm=>h (q+1) m hm)
 | [],_::_,hl,_=>by simp at hl
 | _::_,[],hl,_=>by simp at hl
theorem f102:ET.funcs.get 102=some T102:=zL Tryz.func102
theorem zrl (p q:Nat)(a b:List Pr)(ha:za2 a.length)(hb:za2 b.length):FN ET 102 [csv p a,csv q b] (.ret (.bool (decide (a=b)))):=by
 refine zfn f102 (.bool _) ?_;(repeat(first|refine za ?_|refine zgo ?_))
 by_cases hl:a.length=b.length
 rotate_left
 ·have g:¬(a.length:Int)=b.length:=by omega
  have hne:¬a=b:=fun h=>hl (by rw[h]);refine zfc ?_ ?_
  ·intro _;(repeat(first|refine za ?_|refine zgo ?_));refine zq ?_;(try simp only[zb,zf,ze,zd,zg]);refine zj (by simp only[T102,zE,go_sem]<;>rfl) ?_;simp only[zG];exact zay.bool (decide_eq_false hne).symm
  ·intro h;simp[g]at h
 have g:(a.length:Int)=b.length:=by omega
 refine zfc ?_ ?_
 ·intro h;simp[g]at h
 intro _;refine zF ?_;show W _ _ _ _ _ _;(repeat(first|refine za ?_|refine zgo ?_));refine zD (zas (fun m s=>∃i:Nat,m=a.length-i/\i<=a.length/\decide (a=b)=decide (a.drop i=b.drop i)/\s.tm 0=csv p a/\s.tm 1=csv q b/\s.tm 12=iv a.length/\s.tm 13=iv i/\s.df=[]/\s.H=[]) (n:=a.length) ?_ ?_)
 ·exact⟨0,by simp[upd,zo]⟩
 ·rintro m ⟨tm,df,H⟩ ⟨i,rfl,hi,hd,h0,h1,h12,h13,rfl,rfl⟩;dsimp only at h0 h1 h12 h13;(try refine zK ?_);refine za (zr ?_);refine zfx ?_ (by simp(disch:=omega)only[go_sem,h0,h1,h12,h13]<;>rfl);refine zh ?_;refine zN (by simp only[go_sem]<;>rfl) ?_ ?_
  ·intro hlt;have hlt:i<a.length:=by have:=of_decide_eq_true hlt;omega
   have hltb:i<b.length:=by omega
   (repeat refine za ?_);refine zD ?_;(repeat(first|refine za ?_|refine zgo ?_ (by simp(disch:=omega)only[go_sem,h13]<;>rfl)));(repeat refine za ?_);refine zag ?_;refine zdl ?_ (by simp(disch:=omega)only[go_sem,h0,h1,h13,zAB9 hlt,zAB9 hltb,zwp]<;>rfl);refine zM ?_;simp only[zi,zS,zb,go_sem];have hda:a.drop i=a[i]::a.drop (i+1):=zAU9 hlt;have hdb:b.drop i=b[i]::b.drop (i+1):=zAU9 hltb;rw[hda,hdb]at hd;have hee:(decide (((a[i].1:Nat):Int)=(b[i].1:Nat))&&decide (((a[i].2:Nat):Int)=(b[i].2:Nat)))=decide (a[i]=b[i]):=by
    rw[<- Bool.decide_and]
    congr 1
    rw[Prod.ext_iff];simp only[Int.natCast_inj]
   rw[hee]
   by_cases hx:a[i]=b[i]
   ·refine zfc ?_ ?_
    ·rw[decide_eq_true hx];intro h;cases h
    ·intro _;refine zF ?_;simp only[zb,zf,ze,zd,zi,zg,if_true,reduceIte];(repeat refine za ?_);refine zrg ?_ (by simp(disch:=omega)only[go_sem,h13]<;>rfl);refine zy ?_;simp only[zb,zf,ze,zd,zi,zg,if_true,↓reduceIte];refine⟨_,?_,i+1,rfl,hlt,?_,by simp[upd,h0],by simp[upd,h1],by simp[upd,h12],by simp[upd,h13],trivial,trivial⟩
     ·omega
     ·rw[hd];simp only[hx,List.cons.injEq,true_and]
   ·refine zfc ?_ ?_
    ·intro _;(repeat(first|refine za ?_|refine zgo ?_));refine zq ?_;(try simp only[zb,zf,ze,zd,zg]);refine zj (by simp only[T102,zE,go_sem]<;>rfl) ?_;simp only[zG];exact zay.bool (by rw[hd];simp only[List.cons.injEq,hx,false_and,decide_false,Bool.not_false])
    ·rw[decide_eq_false hx];intro h;cases h
  ·intro hlt;have hlt:¬i<a.length:=by have:=of_decide_eq_false hlt;omega
   obtain rfl:i=a.length:=by omega
   simp only[zb,zf,ze,zd,zi,zg,if_true,reduceIte];(repeat(first|refine za ?_|refine zgo ?_));refine zq ?_;(try simp only[zb,zf,ze,zd,zg]);refine zj (by simp only[T102,zE,go_sem]<;>rfl) ?_;simp only[zG];refine zay.bool ?_;rw[hd,zBG9,hl,zBG9];rfl
def zbM (L:List zB)(n:zB)(lv:Int):Bool:=match L.getLast? with
 | none=>decide (n.low=0)&&(decide (lv<0)||decide ((n.level:Int)=lv))
 | some z=>decide (z.low<n.low)&&decide (n.level=z.level)
@[reducible] def zbk (p q:Nat) (bs:List Nat) (L:List zB):PV:=.agg [.list p 1 (bs.map fun (b:Nat)=>iv (b:Int)),.list p 6 (L.map (zZ q))]
theorem zw9 (p q q':Nat)(bs:List Nat)(L:List zB)(n:zB)(lv:Int)(hl:za2 L.length):FN ET 138 [zbk p q bs L,zZ q' n,iv lv] (.ret (.bool (zbM L n lv))):=by
 obtain⟨nl,ns,nlo,nle,nw,np⟩:=n;refine zfn f138 (.bool _) ?_;refine za (zr ?_);refine zfx ?_;refine zh ?_;(repeat(first|refine za ?_|refine zgo ?_))
 by_cases h0:L.length=0
 ·have g0:(L.length:Int)=0:=by omega
  obtain rfl:L=[]:=zCG9 h0;refine zfc ?_ ?_
  ·intro _;refine za (zr ?_)
   by_cases h1:nlo=0
   ·have g1:(nlo:Int)=0:=by omega
    by_cases h2:lv<0
    ·refine zfx ?_ (by simp(disch:=omega)only[go_sem,g1,h2]<;>rfl);refine zh ?_;refine zq ?_;(try simp only[zb,zf,ze,zd,zg]);refine zj (by simp only[T138,zE,go_sem]<;>rfl) ?_;simp only[zG];exact zay.bool (by simp[zbM,h1,h2])
    ·refine zfx ?_ (by simp(disch:=omega)only[go_sem,g1,h2]<;>rfl);refine zh ?_;refine zq ?_;(try simp only[zb,zf,ze,zd,zg]);refine zj (by simp only[T138,zE,go_sem]<;>rfl) ?_;simp only[zG];exact zay.bool (by simp[zbM,h1,h2])
   ·have g1:¬(nlo:Int)=0:=by omega
    refine zfx ?_ (by simp(disch:=omega)only[go_sem,g1]<;>rfl);refine zh ?_;refine zq ?_;(try simp only[zb,zf,ze,zd,zg]);refine zj (by simp only[T138,zE,go_sem]<;>rfl) ?_;simp only[zG];exact zay.bool (by simp[zbM,h1])
  ·intro h;cases h
 ·have g0:¬(L.length:Int)=0:=by omega
  refine zfc ?_ ?_
  ·intro h;exact absurd (of_decide_eq_true h) g0
  ·intro _;refine zF ?_;show W _ _ _ _ _ _;obtain⟨z,hz⟩:∃z,L.getLast?=some z:=by
    cases hh:L.getLast? with
    | none=>rw[zCV9]at hh;subst hh;simp at h0
    | some z=>exact⟨z,rfl⟩
   have hz2:L[L.length-1]?=some z:=by rw[<- zCF9];exact hz
   have e1:(L.length:Int)-1=((L.length-1:Nat):Int):=by omega
   have hg:zbM L ⟨nl,ns,nlo,nle,nw,np⟩ lv=(decide (z.low<nlo)&&decide (nl=z.level)):=by unfold zbM;rw[hz]
   rw[hg];obtain⟨zl,zs,zlo,zle,zw,zp⟩:=z;(repeat(first|refine za ?_|refine zgo ?_ (by simp(disch:=omega)only[go_sem,e1,hz2]<;>rfl)));refine zr ?_
   by_cases h1:zlo<nlo
   ·have g1:(zlo:Int)<nlo:=by omega
    refine zfx ?_ (by simp(disch:=omega)only[go_sem,g1]<;>rfl);refine zh ?_;refine zq ?_;(try simp only[zb,zf,ze,zd,zg]);refine zj (by simp only[T138,zE,go_sem]<;>rfl) ?_;simp only[zG];exact zay.bool (by simp[h1];try omega)
   ·have g1:¬(zlo:Int)<nlo:=by omega
    refine zfx ?_ (by simp(disch:=omega)only[go_sem,g1]<;>rfl);refine zh ?_;refine zq ?_;(try simp only[zb,zf,ze,zd,zg]);refine zj (by simp only[T138,zE,go_sem]<;>rfl) ?_;simp only[zG];exact zay.bool (by simp[h1])
theorem f43:ET.funcs.get 43=some T43:=zL Tryz.func43
def zdG (z:Option zB)(x:Pr):Bool:=match z with
 | some z=>!decide (z.low<=x.1)
 | none=>true
def zbQ:List zB->List Pr
 | []=>[]
 | n::M=>n.pairs.filter (zdG M.head?)++zbQ M
theorem zn5 (L:List zB)(i:Nat)(h:i<L.length):zbQ (L.drop i)=L[i].pairs.filter (zdG L[i+1]?)++zbQ (L.drop (i+1)):=by
 rw[zAU9 h,zbQ,List.head?_drop]
theorem zix:∀(a:List Pr) (x:Pr),zbi (a++[x])=(zbi a&&(match a.getLast? with|some y=>decide (y.1<x.1)|none=>true))
 | [],_=>rfl
 | [a],x=>by simp[zbi]
 | a::b::l,x=>by
  have:=zix (b::l) x;rw[zAI9,zAI9,zbi,<- zAI9,this,zbi,zDY9,Bool.and_assoc]
theorem ziE:∀(a b:List Pr),zbi (a++b)=true->zbi a=true
 | [],_,_=>rfl
 | [_],_,_=>rfl
 | a::c::l,b,h=>by
  rw[zAI9,zAI9,zbi,<- zAI9,zAR9]at h;rw[zbi,h.1,zCA9];exact ziE (c::l) b h.2
def zfw (L:List zB):FE:=if zbi (zbQ L)=true then .ret (.tuple [psv 0 (zbQ L),.bool true])else .ret (.tuple [psv 0 [],.bool false])
theorem zww {H:List zn}{L:List zB}{acc:List Pr}{x:Pr}{r:List Pr}(hall:zbQ L=acc++x::r)(hx:∃y,acc.getLast?=some y/\¬y.1<x.1):zay H 0 (.ret (.tuple [.nilsl,.bool false])) (zfw L):=by
 have:zbi (zbQ L)=false:=by
  cases h:zbi (zbQ L)with
  | false=>rfl
  | true =>
   rw[hall,<- List.singleton_append,<- zAF9]at h;have h2:=ziE _ _ h;obtain⟨y,e1,e2⟩:=hx;rw[zix,e1]at h2;simp[e2]at h2
 unfold zfw;rw[this];exact Frz.tupL ⟨.nil _ _,.bool _,trivial⟩
def zdq (acc:List Pr)(x:Pr):Bool:=match acc.getLast? with
 | some y=>decide (x.1<=y.1)
 | none=>false
theorem zls {acc:List Pr}{x:Pr}(h:zdq acc x=true):∃y,acc.getLast?=some y/\¬y.1<x.1:=by
 unfold zdq at h
 cases hh:acc.getLast? with
 | none=>rw[hh]at h;cases h
 | some y=>rw[hh]at h;exact⟨y,rfl,by have:=of_decide_eq_true h;omega⟩
theorem zo2 {acc:List Pr}{x:Pr}(h:zbi acc=true)(hb:zdq acc x=false):zbi (acc++[x])=true:=by
 rw[zix,h,zCA9];unfold zdq at hb
 cases hh:acc.getLast? with
 | none=>rfl
 | some y=>rw[hh]at hb;have:=of_decide_eq_false hb;simp;omega
theorem zkI (p q:Nat)(bs:List Nat)(L:List zB)(hl:L.length<1000000)(hp:∀n∈L,n.pairs.length<=28)(hall:(zbQ L).length<1000000):FN ET 43 [zbk p q bs L] (zfw L):=by
 refine zfn f43 ?_ ?_
 ·unfold zfw;split
  ·exact Lb.two (Lb.pvs _) (.bool _)
  ·exact Lb.two (Lb.pvs _) (.bool _)
 refine za (zr ?_);refine zfx ?_;refine zh ?_;(repeat(first|refine za ?_|refine zgo ?_));refine zcd 66 2 (i:=2) rfl ?_;simp only[lzy,zAE9,zAH9,zAI9,zAL9];refine zD (zas (fun m s=>∃(i:Nat) (acc:List Pr) (G:List zn),m=L.length-i/\i<=L.length/\zbQ L=acc++zbQ (L.drop i)/\zbi acc=true/\s.tm 1=.ptr 0 0 0 0 2/\s.tm 2=.sl 1 acc.length 0 acc.length (2*acc.length) 2/\s.tm 10=.list p 6 (L.map (zZ q))/\s.tm 11=iv L.length/\s.tm 12=iv i/\s.df=[]/\s.H=.row 100 2 0 0 [zbk p q bs L]::.row 66 2 acc.length 0 (acc.map pv)::G) (n:=L.length) ?_ ?_)
 ·exact⟨0,[],[],rfl,by omega,rfl,rfl,by simp[upd,zo],by simp[upd],by simp[upd],by simp[upd],by simp[upd],rfl,rfl⟩
 ·rintro m ⟨tm,df,H⟩ ⟨i,acc,G,rfl,hi,hac,hri,h1,h2,h10,h11,h12,rfl,rfl⟩;dsimp only at h1 h2 h10 h11 h12;(try refine zK ?_);refine za (zr ?_);refine zfx ?_ (by simp(disch:=omega)only[go_sem,h1,h2,h10,h11,h12]<;>rfl);refine zh ?_;refine zN (by simp only[go_sem]<;>rfl) ?_ ?_
  ·intro hlt;have hlt:i<L.length:=by have:=of_decide_eq_true hlt;omega
   have hLi:=zAB9 hlt;rw[zn5 L i hlt]at hac;have hn28:=hp _ (zBP9 hlt);generalize L[i]=n at *
   (repeat refine za ?_);refine zD ?_;(repeat(first|refine za ?_|refine zgo ?_ (by simp(disch:=omega)only[go_sem,h10,h12,hLi,zc,zk]<;>rfl)));generalize hR:zbQ (List.drop (i+1) L)=R at hac;refine zD (zas (fun m s=>∃(j:Nat) (acc:List Pr) (G:List zn),m=n.pairs.length-j/\j<=n.pairs.length/\zbQ L=acc++((n.pairs.drop j).filter (zdG L[i+1]?)++R)/\zbi acc=true/\s.tm 1=.ptr 0 0 0 0 2/\s.tm 2=.sl 1 acc.length 0 acc.length (2*acc.length) 2/\s.tm 4=iv i/\s.tm 10=.list p 6 (L.map (zZ q))/\s.tm 11=iv L.length/\s.tm 12=iv i/\s.tm 18=psv q n.pairs/\s.tm 19=iv n.pairs.length/\s.tm 20=iv j/\s.df=[]/\s.H=.row 100 2 0 0 [zbk p q bs L]::.row 66 2 acc.length 0 (acc.map pv)::G) (n:=n.pairs.length) ?_ ?_)
   ·exact⟨0,acc,_,rfl,by omega,hac,hri,by simp[upd,h1],by simp[upd,h2],by simp[upd],by simp[upd,h10],by simp[upd,h11],by simp[upd,h12],by simp[upd],by simp[upd],by simp[upd],rfl,rfl⟩
   ·clear h1 h2 h10 h11 h12 hac hri;rintro m ⟨tm,df,H⟩ ⟨j,acc,G,rfl,hj,hac,hri,h1,h2,h4,h10,h11,h12,h18,h19,h20,rfl,rfl⟩;dsimp only at h1 h2 h4 h10 h11 h12 h18 h19 h20;(try refine zK ?_);refine za (zr ?_);refine zfx ?_ (by simp(disch:=omega)only[go_sem,h18,h19,h20]<;>rfl);refine zh ?_;refine zN (by simp only[go_sem]<;>rfl) ?_ ?_
    ·intro hltj;have hltj:j<n.pairs.length:=by have:=of_decide_eq_true hltj;omega
     have hxj:=zAB9 hltj;rw[zAU9 hltj,zCC9]at hac;generalize n.pairs[j]=x at *
     (repeat refine za ?_);refine zD ?_;(repeat(first|refine za ?_|refine zgo ?_ (by simp(disch:=omega)only[go_sem,h18,h20,hxj,zc,zk]<;>rfl)));(repeat refine za ?_);refine zbA (Q:=fun y s'=>y=.norm/\s'.tm 1=.ptr 0 0 0 0 2/\s'.tm 2=.sl 1 acc.length 0 acc.length (2*acc.length) 2/\s'.tm 4=iv i/\s'.tm 10=.list p 6 (L.map (zZ q))/\s'.tm 11=iv L.length/\s'.tm 12=iv i/\s'.tm 18=psv q n.pairs/\s'.tm 19=iv n.pairs.length/\s'.tm 20=iv j/\s'.tm 41=.bool (!zdG L[i+1]? x)/\s'.tm 7=.ptr (G.length+1+1) 0 0 0 2/\s'.df=[]/\s'.H=.row 100 2 0 0 [zbk p q bs L]::.row 66 2 acc.length 0 (acc.map pv)::(G++[.row 66 2 0 0 [pv x]])) (zag ?_) ?_
     ·have e1:((i:Int)+1)=((i+1:Nat):Int):=by omega
      by_cases hi1:i+1<L.length
      ·have g1:((i+1:Nat):Int)<(L.length:Nat):=by omega
       have hz:=zAB9 hi1;rw[hz];generalize L[i+1]=z at *
       refine zdl ?_ (by simp(disch:=omega)only[go_sem,h1,h4,e1,g1,hz,zc]<;>rfl);refine zM ?_;simp only[zi,zS,zb,go_sem];exact⟨h1,h2,h4,h10,h11,h12,h18,h19,h20,by simp[zdG]⟩
      ·have g1:¬((i+1:Nat):Int)<(L.length:Nat):=by omega
       have hz:L[i+1]?=none:=zBQ9 (by omega);rw[hz];refine zdl ?_ (by simp(disch:=omega)only[go_sem,h1,h4,e1,g1,hz,zc]<;>rfl);refine zM ?_;simp only[zi,zS,zb,go_sem];exact⟨h1,h2,h4,h10,h11,h12,h18,h19,h20,by simp[zdG]⟩
     ·clear h1 h2 h4 h10 h11 h12 h18 h19 h20;rintro y ⟨tm,df,H⟩ ⟨rfl,h1,h2,h4,h10,h11,h12,h18,h19,h20,h41,h7,rfl,rfl⟩;dsimp only at h1 h2 h4 h10 h11 h12 h18 h19 h20 h41 h7;simp only[zb,zf,ze,zd,zi,zg,if_true,reduceIte]
      by_cases hk:zdG L[i+1]? x=true
      rotate_left
      ·rw[if_neg hk]at hac;have hk:zdG L[i+1]? x=false:=by simpa using hk
       refine zfc ?_ ?_ (by simp only[go_sem,h41]<;>rfl)
       ·intro _;refine zgh ?_;simp only[zb,zf,ze,zd,zi,zg,if_true,reduceIte];(repeat refine za ?_);refine zrg ?_ (by simp(disch:=omega)only[go_sem,h20]<;>rfl);refine zy ?_;simp only[zb,zf,ze,zd,zi,zg,if_true,↓reduceIte];refine⟨_,?m1,j+1,acc,_,rfl,hltj,hac,hri,by simp[upd,h1],by simp[upd,h2],by simp[upd,h4],by simp[upd,h10],by simp[upd,h11],by simp[upd,h12],by simp[upd,h18],by simp[upd,h19],by simp[upd,h20],trivial,rfl⟩
        case m1=>omega
       ·rw[hk];intro h;cases h
      rw[if_pos hk]at hac;refine zfc ?_ ?_ (by simp only[go_sem,h41]<;>rfl)
      ·rw[hk];intro h;cases h
      intro _;refine zF ?_;show W _ _ _ _ _ _;(repeat(first|refine za ?_|refine zgo ?_ (by simp(disch:=omega)only[go_sem,h2]<;>rfl)));have hal:acc.length<1000000:=by have:=congrArg List.length hac;simp only[zAC9]at this;omega
      have hH:∀G2:List zn,True:=fun _=>trivial;refine zbA (Q:=fun y s'=>y=.norm/\s'.tm 1=.ptr 0 0 0 0 2/\s'.tm 2=.sl 1 acc.length 0 acc.length (2*acc.length) 2/\s'.tm 4=iv i/\s'.tm 10=.list p 6 (L.map (zZ q))/\s'.tm 11=iv L.length/\s'.tm 12=iv i/\s'.tm 18=psv q n.pairs/\s'.tm 19=iv n.pairs.length/\s'.tm 20=iv j/\s'.tm 56=.bool (zdq acc x)/\s'.tm 7=.ptr (G.length+1+1) 0 0 0 2/\s'.df=[]/\s'.H=.row 100 2 0 0 [zbk p q bs L]::.row 66 2 acc.length 0 (acc.map pv)::(G++[.row 66 2 0 0 [pv x]])) (zag ?_) ?_
      ·by_cases ha0:acc.length=0
       ·have g1:¬(0:Int)<(acc.length:Nat):=by omega
        refine zdl ?_ (by simp(disch:=omega)only[go_sem,h2,g1]<;>rfl);refine zM ?_;simp only[zi,zS,zb,go_sem];obtain rfl:acc=[]:=zCG9 ha0;exact⟨h1,h2,h4,h10,h11,h12,h18,h19,h20,rfl,h7⟩
       ·have g1:(0:Int)<(acc.length:Nat):=by omega
        have e1:(acc.length:Int)-1=((acc.length-1:Nat):Int):=by omega
        have e2:acc.length-1<acc.length:=by omega
        obtain⟨y,hy⟩:∃y,acc.getLast?=some y:=by
         cases hh:acc.getLast? with
         | none=>rw[zCV9]at hh;subst hh;simp at ha0
         | some y=>exact⟨y,rfl⟩
        have hy2:acc[acc.length-1]?=some y:=by rw[<- zCF9];exact hy
        refine zdl ?_ (by simp(disch:=omega)only[go_sem,h2,h7,g1,e1,e2,hy2,zc]<;>rfl);refine zM ?_;simp only[zi,zS,zb,go_sem];exact⟨h1,h2,h4,h10,h11,h12,h18,h19,h20,by simp[zdq,hy],h7⟩
      ·clear h1 h2 h4 h10 h11 h12 h18 h19 h20 h41 h7;rintro y ⟨tm,df,H⟩ ⟨rfl,h1,h2,h4,h10,h11,h12,h18,h19,h20,h56,h7,rfl,rfl⟩;dsimp only at h1 h2 h4 h10 h11 h12 h18 h19 h20 h56 h7;simp only[zb,zf,ze,zd,zi,zg,if_true,reduceIte]
       by_cases hk2:zdq acc x=true
       ·refine zfc ?_ ?_ (by simp only[go_sem,h56]<;>rfl)
        ·intro _;(repeat(first|refine za ?_|refine zgo ?_));refine zq ?_;(try simp only[zb,zf,ze,zd,zg]);refine zj (by simp only[T43,zE,go_sem]<;>rfl) ?_;simp only[zG];exact zww hac (zls hk2)
        ·rw[hk2];intro h;cases h
       have hk2:zdq acc x=false:=by simpa using hk2
       refine zfc ?_ ?_ (by simp only[go_sem,h56]<;>rfl)
       ·rw[hk2];intro h;cases h
       intro _;refine zF ?_;simp only[zb,zf,ze,zd,zi,zg,if_true,reduceIte];have hbb:(acc.length+1)*17<=140737488355328:=by omega
       (repeat refine za ?_);refine zrg ?_ (by simp(disch:=omega)only[go_sem,h2,h7,hbb,zc]<;>rfl);refine zy ?_;simp only[zb,zf,ze,zd,zi,zg,if_true,↓reduceIte];(repeat refine za ?_);refine zrg ?_ (by simp(disch:=omega)only[go_sem,h20]<;>rfl);refine zy ?_;simp only[zb,zf,ze,zd,zi,zg,if_true,↓reduceIte];refine⟨_,?m3,j+1,acc++[x],?G3,rfl,hltj,by rw[hac];simp,zo2 hri hk2,by simp[upd,h1],by simp[upd],by simp[upd,h4],by simp[upd,h10],by simp[upd,h11],by simp[upd,h12],by simp[upd,h18],by simp[upd,h19],by simp[upd,h20],trivial,?H3⟩
       case m3=>omega
       case H3=>rw[zBZ9,zAC9];rfl
    ·intro hltj;have hltj:¬j<n.pairs.length:=by have:=of_decide_eq_false hltj;omega
     obtain rfl:j=n.pairs.length:=by omega
     simp only[zb,zf,ze,zd,zi,zg,if_true,reduceIte];(repeat refine za ?_);refine zrg ?_ (by simp(disch:=omega)only[go_sem,h12]<;>rfl);refine zy ?_;simp only[zb,zf,ze,zd,zi,zg,if_true,↓reduceIte];rw[zBG9,zCJ9,zAL9,<- hR]at hac;refine⟨_,?m9,i+1,acc,G,rfl,hlt,hac,hri,by simp[upd,h1],by simp[upd,h2],by simp[upd,h10],by simp[upd,h11],by simp[upd,h12],trivial,rfl⟩
     case m9=>omega
  ·intro hlt;have hlt:¬i<L.length:=by have:=of_decide_eq_false hlt;omega
   obtain rfl:i=L.length:=by omega
   simp only[zb,zf,ze,zd,zi,zg,if_true,reduceIte];(repeat(first|refine za ?_|refine zgo ?_ (by simp(disch:=omega)only[go_sem,h2]<;>rfl)));refine zq ?_;(try simp only[zb,zf,ze,zd,zg]);refine zj (by simp only[T43,zE,go_sem]<;>rfl) ?_;simp only[zG];rw[zBG9,zbQ,zEB9]at hac;unfold zfw;rw[hac,if_pos hri];refine Frz.tupL ⟨?_,.bool _,trivial⟩;exact Frz.whole (l:=acc.map pv) rfl rfl (by simp) (by simp) (fun v hv=>by obtain⟨x,_,rfl⟩:=zAP9.1 hv;rfl) zeL
end Fv
end Go.Proofs.YtfomlmhnmheenaaGreat
namespace Go.Proofs.YtfomlmhnmheenaaGreat
namespace Fv
def zdg:Nat->List Nat->Nat
 | 0,_=>0
 | n+1,s=>zdg n s+if s.contains n=true then 0 else 1
theorem zow:∀(n b:Nat) (s:List Nat),zdg n (b::s)<=zdg n s
 | 0,_,_=>zAM9 _
 | n+1,b,s=>by
  have:=zow n b s;rw[zdg,zdg]
  by_cases h:s.contains n=true
  ·have h2:(b::s).contains n=true:=by rw[zCD9,h,Bool.or_true]
   rw[if_pos h,if_pos h2];omega
  ·rw[if_neg h];split<;>omega
theorem zjx:∀(n b:Nat) (s:List Nat),b<n->¬s.contains b=true->zdg n (b::s)<zdg n s
 | 0,_,_,h,_=>by omega
 | n+1,b,s,h,hs=>by
  rw[zdg,zdg]
  by_cases hb:b=n
  ·subst hb;have:=zow b b s;have h2:(b::s).contains b=true:=by simp
   rw[if_neg hs,if_pos h2];omega
  ·have:=zjx n b s (by omega) hs
   by_cases h3:s.contains n=true
   ·have h2:(b::s).contains n=true:=by rw[zCD9,h3,Bool.or_true]
    rw[if_pos h3,if_pos h2];omega
   ·rw[if_neg h3];split<;>omega
theorem zhM:∀(n b:Nat) (s:List Nat),zdg n s=0->b<n->s.contains b=true
 | 0,_,_,_,h=>by omega
 | n+1,b,s,h,hb=>by
  rw[zdg]at h
  by_cases h3:s.contains n=true
  ·by_cases hbn:b=n
   ·subst hbn;exact h3
   ·exact zhM n b s (by omega) (by omega)
  ·rw[if_neg h3]at h;omega
theorem ziz:∀(n:Nat) (s:List Nat),zdg n s<=n
 | 0,_=>zAM9 _
 | n+1,s=>by have:=ziz n s;rw[zdg];split<;>omega
abbrev Lev:=List Nat×List zB
def zbp (w:List Nat)(lv:Int):Nat->List Nat->List Nat->List zB->Nat->Option (List Nat×List Nat×List zB)
 | 0,seen,bs,ns,b=>if b=0 then some (seen,bs,ns)else none
 | k+1,seen,bs,ns,b=>if b=0 then some (seen,bs,ns)else
  if decide (w.length/64<=b)||seen.contains b then none else
  if zbI (zu w b)&&zbM ns (zaa (zu w b)) lv then zbp w lv k (b::seen) (bs++[b]) (ns++[zaa (zu w b)]) (zaa (zu w b)).sib else none
def zbD (w:List Nat):Nat->List Nat->List Lev->Nat->Int->List Lev×Bool
 | 0,_,acc,_,_=>(acc,false)
 | d+1,seen,acc,b,lv=>match zbp w lv (w.length/64) seen [] [] b with
  | none=>(acc,false)
  | some (_,_,[])=>(acc,false)
  | some (seen',bs,n::ns)=>if n.level=0 then(acc++[(bs,n::ns)],zbi (zbQ (n::ns)))else zbD w d seen' (acc++[(bs,n::ns)]) n.left ((n.level:Int)-1)
def zO (w:List Nat)(a:Nat):List Lev×Bool:=zbD w 14 [] [] (w.getD a 0) (-1)
end Fv
end Go.Proofs.YtfomlmhnmheenaaGreat
namespace Go.Proofs.YtfomlmhnmheenaaGreat
namespace Fv
open Tw
structure zdx (n:zB):Prop where
 level:n.level<=12
 sib:n.sib<2048
 way:n.way<=2
 few:n.pairs.length<=27
 rise:zbi n.pairs=true
 ptrs:zcq [n.left] n.pairs=true
 may:∀p∈n.pairs,zbT n p=true
 left:(n.level=0/\n.left=9223372036854775808)\/(0<n.level/\zcz n.left=true)
theorem zd5 (p:Nat):zcz p=true↔(1<=p/\p<2048):=by unfold zcz;simp
theorem zqi {n:zB}{p:Pr}(h:zbT n p=true):p.2≠0:=by
 unfold zbT at h
 split at h
 ·simp only[zAR9,decide_eq_true_eq]at h;omega
 ·rw[zAR9,zd5]at h;omega
theorem zhi:∀l:List Pr,(zcU l).length=2*l.length
 | []=>rfl
 | a::l=>by have:=zhi l;simp only[zcU,zBS9,zAC9,zAE9,zAH9]at this⊢;omega
theorem zmm (a:Pr)(l:List Pr):zcU (a::l)=a.1::a.2::zcU l:=by simp[zcU]
theorem zsb (a:Pr)(l:List Pr):zcU (l++[a])=zcU l++[a.1,a.2]:=by simp[zcU]
theorem zqS:∀(m prev:Nat),zav prev (List.replicate m 0)=[]
 | 0,_=>rfl
 | 1,_=>rfl
 | m+2,prev=>by rw[zDE9,zDE9,zav,if_pos rfl]
theorem zkJ (m:Nat):∀(ps:List Pr) (seen:List Nat) (prev:Nat),zcq seen ps=true->prev∈seen->(∀p∈ps,p.2≠0)->zav prev (zcU ps++List.replicate m 0)=ps
 | [],_,prev,_,_,_=>by rw[show zcU []=[]from rfl,zAL9];exact zqS m prev
 | a::ps,seen,prev,h,hm,hz=>by
  rw[zcq,zAR9,zEC9]at h;have h1:¬a.2=prev:=by
   intro e;subst e;have:seen.contains a.2=true:=by simpa using hm
   rw[this]at h;cases h.1
  rw[zmm,zAI9,zAI9,zav,if_neg (hz a (zAV9 ..)),if_neg h1];rw[zkJ m ps (a.2::seen) a.2 h.2 (zAV9 ..) fun p hp=>hz p (zAT9 _ hp)]
theorem zn0 (m:Nat):∀ps:List Pr,(∀p∈ps,p.2≠0)->zbm (zcU ps++List.replicate m 0)=ps.length
 | [],_=>by
  rw[show zcU []=[]from rfl,zAL9]
  match m with
  | 0=>rfl
  | 1=>rfl
  | m+2=>rw[zDE9,zDE9,zbm,if_pos rfl];rfl
 | a::ps,hz=>by
  rw[zmm,zAI9,zAI9,zbm,if_neg (hz a (zAV9 ..)),zn0 m ps fun p hp=>hz p (zAT9 _ hp)];rfl
theorem zoc:∀m,zdF (List.replicate m 0)=true
 | 0=>rfl
 | 1=>rfl
 | m+2=>by rw[zDE9,zDE9,zdF,zoc m];rfl
theorem zwU (A B:List Nat)(k x y a b:Nat)(hk:k=A.length):((A++x::y::B).set k a).set (k+1) b=A++a::b::B:=by
 subst hk;rw[zBV9 _ _ (zAM9 _),zBV9 _ _ (by omega)];simp
theorem zwc (n:zB):zbY n 5=zlK n++List.replicate 56 0:=rfl
theorem zqs (n:zB)(h:n.pairs.length<=28):∀j,j<=n.pairs.length->zcO n j=zlK n++zcU (n.pairs.take j)++List.replicate (56-2*j) 0
 | 0,_=>by rw[zcO,zwc];rfl
 | j+1,hj=>by
  have hr:List.replicate (56-2*j) 0=0::0::List.replicate (56-2*(j+1)) 0:=by
   rw[show 56-2*j=(56-2*(j+1))+1+1 by omega,zDE9,zDE9]
  have hl:(zlK n++zcU (n.pairs.take j)).length=8+2*j:=by
   rw[zAC9,zhi,zBB9];simp[zlK];omega
  rw[zcO,zqs n h j (by omega),hr,zwU _ _ _ _ _ _ _ hl.symm];have ht:n.pairs.take (j+1)=n.pairs.take j++[n.pairs.getD j (0,0)]:=by
   rw[zBM9,zAQ9,zAB9 (by omega)];rfl
  rw[ht,zsb];simp[zAF9]
theorem zvz (n:zB)(h:n.pairs.length<=28):zbr n=zlK n++(zcU n.pairs++List.replicate (56-2*n.pairs.length) 0):=by
 unfold zbr;rw[zqs n h _ (zAM9 _),zBK9,zAF9]
theorem zdO (n:zB):(zbr n).length=64:=zff n _
section
variable {n:zB}(h:zdx n)
include h
theorem zdx.rowL:(zcU n.pairs++List.replicate (56-2*n.pairs.length) 0).length=56:=by
 have:=h.few;rw[zAC9,zhi,List.length_replicate];omega
theorem zdx.left0:n.left≠0:=by
 rcases h.left with⟨_,e⟩|⟨_,e⟩
 ·rw[e];decide
 ·rw[zd5]at e;omega
theorem zdx.row:zbu n.left (zcU n.pairs++List.replicate (56-2*n.pairs.length) 0).length=true:=by
 rw[h.rowL];unfold zbu;simp[h.left0]
theorem zdx.read:zbB n.left (zcU n.pairs++List.replicate (56-2*n.pairs.length) 0)=n.pairs:=by
 unfold zbB;rw[if_pos h.row];exact zkJ _ _ [n.left] _ h.ptrs (zAV9 ..) fun p hp=>zqi (h.may p hp)
theorem zdx.drop8:(zbr n).drop 8=zcU n.pairs++List.replicate (56-2*n.pairs.length) 0:=by
 rw[zvz n (by have:=h.few;omega)];rfl
theorem zdx.slots:zbz n.left ((zbr n).drop 8)=0:=by
 have hne:∀p∈n.pairs,p.2≠0:=fun p hp=>zqi (h.may p hp);unfold zbz;rw[h.drop8,if_pos h.row,if_pos];unfold zcs;rw[h.read,h.rise,h.ptrs,zn0 _ _ hne,h.rowL];have hd:(zcU n.pairs++List.replicate (56-2*n.pairs.length) 0).drop (2*n.pairs.length)=List.replicate (56-2*n.pairs.length) 0:=by
  rw[<- zhi,List.drop_left]
 rw[hd,zoc];have:=h.few;simp;omega
end
structure zu9 (lv:Nat)(ns:List zB):Prop where
 ne:ns ≠ []
 each:∀n∈ns,zdx n/\n.level=lv/\n.sib=0
 low0:∀n,ns[0]?=some n->n.low=0
 rise:∀i n m,ns[i]?=some n->ns[i+1]?=some m->n.low<m.low
 below:∀i n m,ns[i]?=some n->ns[i+1]?=some m->∀p∈n.pairs,p.1<m.low
def zbq:List Nat->List zB->List zB
 | _::bs,n::ns=>{ n with sib:=bs.headD 0 }::zbq bs ns
 | _,_=>[]
theorem zc2:∀(bs:List Nat) (ns:List zB),bs.length=ns.length->(zbq bs ns).length=ns.length
 | [],[],_=>rfl
 | _::bs,n::ns,h=>by rw[zbq,zAE9,zAE9,zc2 bs ns (by simpa using h)]
 | [],_::_,h=>by simp at h
 | _::_,[],h=>by simp at h
theorem zeG:∀(bs:List Nat) (ns:List zB) (i:Nat) (n:zB),bs.length=ns.length->ns[i]?=some n->(zbq bs ns)[i]?=some { n with sib:=bs.getD (i+1) 0 }
 | [],[],i,n,_,h=>by simp at h
 | [],_::_,_,_,h,_=>by simp at h
 | _::_,[],_,_,h,_=>by simp at h
 | b::bs,n::ns,i,m,hl,h=>by
  rw[zbq]
  match i with
  | 0 =>
   rw[zFI9]at h⊢;injection h with h;subst h
   cases bs<;>rfl
  | i+1 =>
   rw[zAY9]at h⊢;rw[zeG bs ns i m (by simpa using hl) h];rfl
theorem zuD {bs:List Nat}{ns:List zB}(hl:bs.length=ns.length)(h:ns ≠ []):zbq bs ns ≠ []:=by
 intro e;have:=zc2 bs ns hl;rw[e]at this;exact h (zCG9 this.symm)
def after:Option Nat->Nat->Prop
 | none,n=>n=0
 | some l,n=>l<n
def zjT (lv:Nat):Option Nat->List Nat->List zB->Prop
 | _,[],[]=>True
 | pl,b::bs,n::ns=>1<=b/\b<2048/\zdx n/\n.level=lv/\n.sib=bs.headD 0/\after pl n.low/\(∀m,ns.head?=some m->∀p∈n.pairs,p.1<m.low)/\zjT lv (some n.low) bs ns
 | _,[],_::_=>False
 | _,_::_,[]=>False
theorem zdx.setSib {n:zB}(h:zdx n){s:Nat}(hs:s<2048):zdx { n with sib:=s }:=⟨h.level,hs,h.way,h.few,h.rise,h.ptrs,h.may,h.left⟩
theorem zp1 (lv:Nat):∀(bs:List Nat) (ns:List zB) (pl:Option Nat),bs.length=ns.length->(∀b∈bs,1<=b/\b<2048)->(∀n∈ns,zdx n/\n.level=lv)->(∀n,ns[0]?=some n->after pl n.low)->(∀i n m,ns[i]?=some n->ns[i+1]?=some m->n.low<m.low)->(∀i n m,ns[i]?=some n->ns[i+1]?=some m->∀p∈n.pairs,p.1<m.low)->zjT lv pl bs (zbq bs ns)
 | [],[],_,_,_,_,_,_,_=>trivial
 | [],_::_,_,h,_,_,_,_,_=>by simp at h
 | _::_,[],_,h,_,_,_,_,_=>by simp at h
 | b::bs,n::ns,pl,hl,hb,hn,h0,hr,hw=>by
  have hs:bs.headD 0<2048:=by
   cases bs with
   | nil=>decide
   | cons c bs=>exact(hb c (by simp)).2
  have hl':bs.length=ns.length:=by simpa using hl
  have hg:=hn n (zAV9 ..);refine⟨(hb b (zAV9 ..)).1,(hb b (zAV9 ..)).2,hg.1.setSib hs,hg.2,rfl,h0 n rfl,?_,?_⟩
  ·intro m hm p hp
   cases ns with
   | nil=>cases bs<;>simp[zbq]at hm
   | cons c ns =>
    cases bs with
    | nil=>simp at hl'
    | cons d bs =>
     simp[zbq]at hm;subst hm;exact hw 0 n c rfl rfl p hp
  ·refine zp1 lv bs ns (some n.low) hl' (fun c hc=>hb c (zAT9 _ hc)) (fun c hc=>hn c (zAT9 _ hc)) ?_ (fun i a c ha hc=>hr (i+1) a c ha hc) (fun i a c ha hc=>hw (i+1) a c ha hc);intro m hm;exact hr 0 n m rfl hm
def zde (w:List Nat)(bs:List Nat)(ns:List zB):Prop:=∀(i b:Nat) (n:zB),bs[i]?=some b->ns[i]?=some n->b<w.length/64/\zu w b=zbr n
theorem zde.tail {w:List Nat}{b:Nat}{bs:List Nat}{n:zB}{ns:List zB}(h:zde w (b::bs) (n::ns)):zde w bs ns:=fun i c m hc hm=>h (i+1) c m hc hm
def zcn (n:zB):List Pr:=(n.low,n.left)::n.pairs
def zcv (L:Lev):List Pr:=(L.2.map zB.low).zip L.1
def zoO:List Lev->Prop
 | []=>False
 | [L]=>zjT 0 none L.1 L.2/\L.2 ≠ []
 | L::M::T=>zjT (T.length+1) none L.1 L.2/\L.2 ≠ []/\L.2.flatMap zcn=zcv M/\zoO (M::T)
def ziP (b:Nat)(ws:List Nat):List Pr:=(List.range ws.length).map fun k=>(64*b+k,ws.getD k 0)
def zbo (w:List Nat)(l:List Pr):List Nat:=l.foldl (fun w x=>w.set x.1 x.2) w
theorem zoB (w:List Nat)(a b:List Pr):zbo w (a++b)=zbo (zbo w a) b:=List.foldl_append
theorem zeF:∀(l:List Pr) (w:List Nat),(zbo w l).length=w.length
 | [],_=>rfl
 | x::l,w=>by show (zbo (w.set x.1 x.2) l).length=_;rw[zeF l,zCS9]
def zib (bs:List Nat)(ns:List zB):List Pr:=(bs.zip ns).flatMap fun x=>ziP x.1 (zbr x.2)
def zdY (T:List Lev):List Pr:=T.flatMap fun L=>zib L.1 L.2
theorem zdP:∀l:List Pr,zbi l=true↔∀(i:Nat) (x y:Pr),l[i]?=some x->l[i+1]?=some y->x.1<y.1
 | []=>⟨fun _ i x y h=>by simp at h,fun _=>rfl⟩
 | [a]=>⟨fun _ i x y _ h=>by simp at h,fun _=>rfl⟩
 | a::b::l=>by
  rw[zbi,zAR9,decide_eq_true_eq,zdP (b::l)];refine⟨fun h i x y hx hy=>?_,fun h=>⟨h 0 a b rfl rfl,fun i x y hx hy=>h (i+1) x y hx hy⟩⟩
  match i with
  | 0=>injection hx with hx;injection hy with hy;subst hx hy;exact h.1
  | i+1=>exact h.2 i x y hx hy
theorem ze3 {l:List Pr}(h:zbi l=true):∀(k i:Nat) (x y:Pr),l[i]?=some x->l[i+k+1]?=some y->x.1<y.1
 | 0,i,x,y,hx,hy=>(zdP l).1 h i x y hx hy
 | k+1,i,x,y,hx,hy=>by
  have hlen:=(zAD9.1 hy).1;have hz:l[i+k+1]?=some l[i+k+1]:=zAB9 (by omega);exact Nat.lt_trans (ze3 h k i x _ hx hz) ((zdP l).1 h _ _ _ hz hy)
theorem zim {l:List Pr}(h:zbi l=true)(k:Nat):zbi (l.drop k)=true:=by
 rw[zdP]at h⊢;intro i x y hx hy;rw[zCB9]at hx hy;exact h (k+i) x y hx (by rw[<- hy];rfl)
theorem zl6 {l:List Pr}(h:zbi l=true)(k:Nat):zbi (l.take k)=true:=by
 have:zbi (l.take k++l.drop k)=true:=by rw[zFQ9];exact h
 exact ziE _ _ this
theorem zex:∀(l:List Pr) (seen:List Nat),zcq seen l=true↔(l.map Prod.snd).Nodup/\∀p∈l,¬p.2∈seen
 | [],seen=>by simp[zcq]
 | a::l,seen=>by
  rw[zcq,zAR9,zEC9,zex l (a.2::seen),zCH9,zEZ9];have:(seen.contains a.2=false)↔¬a.2∈seen:=by rw[<- zEJ9,zDB9]
  rw[this]
  constructor
  ·rintro ⟨h1,h2,h3⟩;refine⟨⟨fun hm=>?_,h2⟩,fun p hp=>?_⟩
   ·obtain⟨p,hp,e⟩:=zAP9.1 hm;exact h3 p hp (by rw[e];exact zAV9 ..)
   ·rcases zAX9.1 hp with rfl|hp
    ·exact h1
    ·exact fun h=>h3 p hp (zAT9 _ h)
  ·rintro ⟨⟨h1,h2⟩,h3⟩;refine⟨h3 a (zAV9 ..),h2,fun p hp h=>?_⟩;rcases zAX9.1 h with e|h
   ·exact h1 (zAP9.2 ⟨p,hp,e⟩)
   ·exact h3 p (zAT9 _ hp) h
theorem zhH (k:Nat)(l:List Pr):∀m,((List.range m).map fun i=>(l.drop (k*i)).take k).flatten=l.take (k*m)
 | 0=>by simp
 | m+1=>by
  rw[zDJ9,zBZ9,List.flatten_append,zhH k l m,Nat.mul_succ,List.take_add];simp
theorem zho:∀L:List zB,(∀(i:Nat) (n m:zB),L[i]?=some n->L[i+1]?=some m->∀p∈n.pairs,p.1<m.low)->zbQ L=L.flatMap zB.pairs
 | [],_=>rfl
 | n::L,h=>by
  rw[zbQ,zBS9,zho L fun i a b ha hb=>h (i+1) a b ha hb]
  congr 1
  rw[List.filter_eq_self];intro p hp;unfold zdG
  cases hh:L.head? with
  | none=>rfl
  | some m =>
   have:=h 0 n m rfl (by rw[List.head?_eq_getElem?]at hh;exact hh) p hp;simp;omega
theorem zev:∀(bs:List Nat) (ns:List zB),bs.length=ns.length->(zbq bs ns).flatMap zB.pairs=ns.flatMap zB.pairs/\(zbq bs ns).map zB.low=ns.map zB.low/\(zbq bs ns).flatMap zcn=ns.flatMap zcn
 | [],[],_=>⟨rfl,rfl,rfl⟩
 | [],_::_,h=>by simp at h
 | _::_,[],h=>by simp at h
 | b::bs,n::ns,h=>by
  obtain⟨h1,h2,h3⟩:=zev bs ns (by simpa using h);simp[zbq,h1,h2,h3,zcn]
def okP (l:List Pr):Bool:=zbi l&&zcq [] l&&l.all fun p=>decide (1<=p.2)&&decide (p.2<=1099511627776)
theorem znB (l:List Pr):okP l=true↔zbi l=true/\(l.map Prod.snd).Nodup/\∀p∈l,1<=p.2/\p.2<=1099511627776:=by
 unfold okP;rw[zAR9,zAR9,zex,zBI9];simp[and_assoc]
theorem zi5 {l:List Pr}{a k:Nat}{p:Pr}(h:p∈(l.drop a).take k):∃j,j<k/\l[a+j]?=some p:=by
 obtain⟨j,hj,e⟩:=zBJ9.1 h;have:=zAB9 hj;rw[e,zBD9]at this;have hjk:j<k:=by have:=hj;simp at this;omega
 rw[if_pos hjk,zCB9]at this;exact⟨j,hjk,this⟩
theorem zkL {l:List Pr}(h:(l.map Prod.snd).Nodup)(a k:Nat):(((l.drop a).take k).map Prod.snd).Nodup :=
 h.sublist (((List.take_sublist k _).trans (List.drop_sublist a l)).map _)
theorem getD_some {l:List Pr}{i:Nat}{x:Pr}(h:l[i]?=some x):l.getD i (0,0)=x:=by rw[zAQ9,h];rfl
theorem get_lt (l:List Pr){i:Nat}(h:i<l.length):l[i]?=some (l.getD i (0,0)):=by rw[zAQ9,zAB9 h];rfl
theorem ztD {l:List Pr}(h:okP l=true)(i:Nat)(hi:18*i<l.length\/i=0):zdx (zdu l i):=by
 rw[znB]at h;obtain⟨h1,h2,h3⟩:=h;have hm:∀p∈(zdu l i).pairs,∃j,j<18/\l[18*i+j]?=some p:=fun p hp=>zi5 hp;refine⟨zAS9 _,show 0<2048 by decide,zAS9 _,?_,?_,?_,fun p hp=>?_,.inl ⟨rfl,rfl⟩⟩
 ·show ((l.drop (18*i)).take 18).length<=27;rw[zBB9];omega
 ·exact zl6 (zim h1 _) _
 ·rw[zex];refine⟨zkL h2 _ _,fun p hp hq=>?_⟩;obtain⟨j,_,hj⟩:=hm p hp;have:=h3 p (zAK9 hj);have hq:p.2=9223372036854775808:=zBL9.1 hq;omega
 ·obtain⟨j,hjk,hj⟩:=hm p hp;have:=h3 p (zAK9 hj);have hl:(zdu l i).low<=p.1:=by
   show (if 0<i then(l.getD (18*i) (0,0)).1 else 0)<=p.1
   split
   ·have hlen:=(zAD9.1 hj).1
    match j with
    | 0=>rw[zDH9]at hj;rw[getD_some hj];exact zAM9 _
    | j+1=>exact Nat.le_of_lt (ze3 h1 j _ _ _ (get_lt l (by omega)) hj)
   ·exact zAS9 _
  unfold zbT;rw[if_pos (show (zdu l i).level=0 from rfl)];simp[this.1,this.2,hl]
theorem zgE (l:List Pr):zbX l=(List.range (max 1 ((l.length+17)/18))).map (zdu l):=by
 unfold zbX
 split
 ·rename_i h;subst h;rfl
 ·rename_i h;have:0<l.length:=zBO9.2 h;rw[zfC,Nat.max_eq_right (by omega)]
theorem zea (l:List Pr):(zbX l).length=max 1 ((l.length+17)/18):=by rw[zgE];simp
theorem zec {n:Nat}{f:Nat->zB}{i:Nat}{x:zB}(h:((List.range n).map f)[i]?=some x):i<n/\x=f i:=by
 have hi:i<n:=by have:=(zAD9.1 h).1;simpa using this
 rw[zAG9,zEL9 hi]at h;injection h with h;exact⟨hi,h.symm⟩
theorem zsk {l:List Pr}(h:okP l=true):zu9 0 (zbX l)/\zbQ (zbX l)=l:=by
 have h':=(znB l).1 h;obtain⟨h1,h2,h3⟩:=h';rw[zgE];have hsm:∀i,i<max 1 ((l.length+17)/18)->18*i<l.length\/i=0:=fun i hi=>by omega
 have hbelow:∀(i:Nat) (n m:zB),((List.range (max 1 ((l.length+17)/18))).map (zdu l))[i]?=some n->((List.range (max 1 ((l.length+17)/18))).map (zdu l))[i+1]?=some m->∀p∈n.pairs,p.1<m.low:=by
  intro i n m hn hm p hp;obtain⟨hi,rfl⟩:=zec hn;obtain⟨hj,rfl⟩:=zec hm;obtain⟨j,hjk,hj⟩:=zi5 hp;show p.1<(if 0<i+1 then(l.getD (18*(i+1)) (0,0)).1 else 0);rw[if_pos (zCO9 _)];exact ze3 h1 (17-j) _ _ _ hj (by rw[show 18*i+j+(17-j)+1=18*(i+1) by omega];exact get_lt l (by omega))
 refine⟨⟨?_,?_,?_,?_,hbelow⟩,?_⟩
 ·intro e;have:=congrArg List.length e;simp at this
 ·intro n hn;obtain⟨i,hi,rfl⟩:=zAP9.1 hn;exact⟨ztD h i (hsm i (zDC9.1 hi)),rfl,rfl⟩
 ·intro n hn;obtain⟨_,rfl⟩:=zec hn;rfl
 ·intro i n m hn hm;obtain⟨hi,rfl⟩:=zec hn;obtain⟨hj,rfl⟩:=zec hm;show (if 0<i then(l.getD (18*i) (0,0)).1 else 0)<(if 0<i+1 then(l.getD (18*(i+1)) (0,0)).1 else 0);rw[if_pos (zCO9 _)];have hlt:18*(i+1)<l.length:=by omega
  split
  ·exact ze3 h1 17 _ _ _ (get_lt l (by omega)) (get_lt l hlt)
  ·exact Nat.lt_of_le_of_lt (zAS9 _) ((zdP l).1 h1 (18*(i+1)-1) _ _ (get_lt l (by omega)) (by rw[show 18*(i+1)-1+1=18*(i+1) by omega];exact get_lt l hlt))
 ·rw[zho _ hbelow,List.flatMap_map];have:=zhH 18 l (max 1 ((l.length+17)/18));rw[zDD9 (by omega)]at this;refine Eq.trans ?_ this;rw[List.flatMap_def];rfl
theorem zko (ks:List Pr)(i:Nat)(hi:19*i<ks.length):(ks.drop (19*i)).take 19=ks.getD (19*i) (0,0)::((ks.drop (19*i)).take 19).drop 1:=by
 have hd:ks.drop (19*i)=ks[19*i]::ks.drop (19*i+1):=zAU9 hi;have hg:ks.getD (19*i) (0,0)=ks[19*i]:=by rw[zAQ9,zAB9 hi];rfl
 rw[hg,hd];rfl
theorem zsy {lv:Nat}{ks:List Pr}{i:Nat}(hi:19*i<ks.length):zcn (zdr lv ks i)=(ks.drop (19*i)).take 19:=by
 rw[zko ks i hi];rfl
theorem zsM {lv:Nat}{ks:List Pr}(h1:1<=lv/\lv<=12)(hr:zbi ks=true)(hn:(ks.map Prod.snd).Nodup)(hb:∀x∈ks,1<=x.2/\x.2<2048)(i:Nat)(hi:19*i<ks.length):zdx (zdr lv ks i):=by
 have hc:=zko ks i hi;have hrc:zbi ((ks.drop (19*i)).take 19)=true:=zl6 (zim hr _) _;have hnc:=zkL hn (19*i) 19;rw[hc]at hnc;rw[zCH9,zEZ9]at hnc;have hm:∀p∈(zdr lv ks i).pairs,p∈(ks.drop (19*i)).take 19:=fun p hp=>zBY9 hp;have hbk:∀p∈(ks.drop (19*i)).take 19,1<=p.2/\p.2<2048:=fun p hp=>hb p (zBY9 (zCE9 hp));refine⟨h1.2,show 0<2048 by decide,zAS9 _,?_,?_,?_,fun p hp=>?_,.inr ⟨h1.1,?_⟩⟩
 ·show (((ks.drop (19*i)).take 19).drop 1).length<=27;rw[zCI9,zBB9];omega
 ·exact zim hrc 1
 ·rw[zex];refine⟨hnc.2,fun p hp hq=>?_⟩;have hq:p.2=(ks.getD (19*i) (0,0)).2:=zBL9.1 hq;exact hnc.1 (zAP9.2 ⟨p,hp,hq⟩)
 ·unfold zbT;rw[if_neg (show ¬(zdr lv ks i).level=0 from by show ¬lv=0;omega),zAR9,zd5,decide_eq_true_eq];refine⟨hbk p (hm p hp),?_⟩;obtain⟨j,hj⟩:=zDO9.1 hp;have hj:(((ks.drop (19*i)).take 19).drop 1)[j]?=some p:=hj;rw[zCB9]at hj;exact ze3 hrc j 0 _ p (by rw[hc];rfl) (by rw[<- hj,show 0+j+1=1+j by omega])
 ·rw[zd5];exact hb _ (zAK9 (get_lt ks hi))
theorem zdZ (lv:Nat)(ks:List Pr):(zco lv ks).length=(ks.length+18)/19:=by unfold zco;rw[zAA9,List.length_range,zfC]
theorem zn8 {lv:Nat}{ks:List Pr}(h1:1<=lv/\lv<=12)(hne:ks ≠ [])(hr:zbi ks=true)(h0:(ks.getD 0 (0,0)).1=0)(hn:(ks.map Prod.snd).Nodup)(hb:∀x∈ks,1<=x.2/\x.2<2048):zu9 lv (zco lv ks)/\(zco lv ks).flatMap zcn=ks:=by
 have hpos:0<ks.length:=zBO9.2 hne;unfold zco;rw[zfC];have hlt:∀i,i<(ks.length+(19-1))/19->19*i<ks.length:=fun i hi=>by omega
 refine⟨⟨?_,?_,?_,?_,?_⟩,?_⟩
 ·intro e;have:=congrArg List.length e;simp at this;omega
 ·intro n hn';obtain⟨i,hi,rfl⟩:=zAP9.1 hn';exact⟨zsM h1 hr hn hb i (hlt i (zDC9.1 hi)),rfl,rfl⟩
 ·intro n hn';obtain⟨_,rfl⟩:=zec hn';exact h0
 ·intro i n m hn' hm;obtain⟨hi,rfl⟩:=zec hn';obtain⟨hj,rfl⟩:=zec hm;exact ze3 hr 18 _ _ _ (get_lt ks (hlt i hi)) (get_lt ks (hlt _ hj))
 ·intro i n m hn' hm p hp;obtain⟨hi,rfl⟩:=zec hn';obtain⟨hj,rfl⟩:=zec hm;obtain⟨j,hjk,hpj⟩:=zi5 (zBY9 (i:=1) hp);show p.1<(ks.getD (19*(i+1)) (0,0)).1;exact ze3 hr (18-j) _ _ _ hpj (by rw[show 19*i+j+(18-j)+1=19*(i+1) by omega];exact get_lt ks (hlt _ hj))
 ·have:=zhH 19 ks ((ks.length+(19-1))/19);rw[zDD9 (by omega)]at this;rw[List.flatMap_map,List.flatMap_def];rw[<- this]
  congr 1
  ·rw[this];refine zDZ9 fun i hi=>?_;exact zsy (hlt i (zDC9.1 hi))
def zhU (free:List Nat):Nat->List zB->Nat->List Lev->Option (List Lev)
 | 0,_,_,_=>none
 | k+1,l,used,T=>if free.length<used+l.length then none else
  if l.length=1 then some (((free.drop used).take l.length,zbq ((free.drop used).take l.length) l)::T)else
  zhU free k (zco (T.length+1) ((l.map zB.low).zip ((free.drop used).take l.length))) (used+l.length) (((free.drop used).take l.length,zbq ((free.drop used).take l.length) l)::T)
def bndL:Nat->Nat
 | 0=>28
 | 1=>2
 | _=>1
def zny (free:List Nat):Bool:=free.all (fun b=>decide (1<=b)&&decide (b<2048))&&decide free.Nodup
theorem zg4 (free:List Nat):zny free=true↔(∀b∈free,1<=b/\b<2048)/\free.Nodup:=by
 unfold zny;rw[zAR9,zBI9,decide_eq_true_eq];simp
structure zjl (p:List Pr)(free:List Nat)(l:List zB)(used:Nat)(T:List Lev):Prop where
 ok:zu9 T.length l
 st:match T with | []=>zbQ l=p|M::T'=>l.flatMap zcn=zcv M/\zoO (M::T')
 last:∀M,T.getLast?=some M->zbQ M.2=p
 len:∀M∈T,M.1.length=M.2.length
 blocks:T.reverse.flatMap Prod.fst=free.take used
 used:used<=free.length
 bndL:l.length<=bndL T.length
 lvl:T.length<=2
structure zwx (p:List Pr)(free:List Nat)(T:List Lev):Prop where
 st:zoO T
 one:∃b n T',T=([b],[n])::T'/\n.sib=0
 last:∀M,T.getLast?=some M->zbQ M.2=p
 len:∀M∈T,M.1.length=M.2.length
 blocks:∃used,used<=free.length/\T.reverse.flatMap Prod.fst=free.take used
 few:T.length<=3
section
variable {p:List Pr}{free:List Nat}(hf:zny free=true)
include hf
theorem zjl.level {l:List zB}{used:Nat}{T:List Lev}(h:zjl p free l used T)(hu:¬free.length<used+l.length) :
  ((free.drop used).take l.length).length=l.length/\zjT T.length none ((free.drop used).take l.length) (zbq ((free.drop used).take l.length) l)/\zbq ((free.drop used).take l.length) l ≠ []/\(∀b∈(free.drop used).take l.length,1<=b/\b<2048)/\((free.drop used).take l.length).Nodup /\
  (((free.drop used).take l.length,zbq ((free.drop used).take l.length) l)::T).reverse.flatMap Prod.fst=free.take (used+l.length)/\zoO (((free.drop used).take l.length,zbq ((free.drop used).take l.length) l)::T) /\
  (∀M,(((free.drop used).take l.length,zbq ((free.drop used).take l.length) l)::T).getLast?=some M->zbQ M.2=p):=by
 rw[zg4]at hf;have hbl:((free.drop used).take l.length).length=l.length:=by rw[zBB9,zCI9];omega
 have hbb:∀b∈(free.drop used).take l.length,1<=b/\b<2048:=fun b hb=>hf.1 b (zBY9 (zCE9 hb));have hnd:((free.drop used).take l.length).Nodup:=hf.2.sublist ((List.take_sublist _ _).trans (List.drop_sublist _ _));have hch:zjT T.length none ((free.drop used).take l.length) (zbq ((free.drop used).take l.length) l) :=
  zp1 _ _ _ _ hbl hbb (fun n hn=>⟨(h.ok.each n hn).1,(h.ok.each n hn).2.1⟩) (fun n hn=>h.ok.low0 n hn) h.ok.rise h.ok.below
 have hne:=zuD hbl h.ok.ne;obtain⟨k1,k2,k3⟩:=zev _ _ hbl;refine⟨hbl,hch,hne,hbb,hnd,?_,?_,?_⟩
 ·rw[zER9,zCT9,h.blocks,List.take_add];simp
 ·have hst:=h.st
  cases T with
  | nil=>exact⟨hch,hne⟩
  | cons M T=>exact⟨hch,hne,by rw[k3];exact hst.1,hst.2⟩
 ·intro M hM;have hst:=h.st
  cases hT:T with
  | nil =>
   subst hT;injection hM with hM;subst hM;have hr:∀(i:Nat) (n m:zB),(zbq ((free.drop used).take l.length) l)[i]?=some n->(zbq ((free.drop used).take l.length) l)[i+1]?=some m->∀q∈n.pairs,q.1<m.low:=by
    intro i n m hn hm;have hi:i+1<l.length:=by have:=(zAD9.1 hm).1;rw[zc2 _ _ hbl]at this;exact this
    have e1:=zeG _ _ i _ hbl (zAB9 (show i<l.length by omega));have e2:=zeG _ _ (i+1) _ hbl (zAB9 hi);rw[hn]at e1;rw[hm]at e2;injection e1 with e1;injection e2 with e2;subst e1 e2;exact h.ok.below i (l[i]'(by omega)) (l[i+1]'hi) (zAB9 (show i<l.length by omega)) (zAB9 hi)
   have e1:=zho _ hr;have e2:=zho _ h.ok.below;show zbQ (zbq _ l)=p;rw[e1,k1,<- e2];exact hst
  | cons K T' =>
   refine h.last M ?_;rw[hT]at hM⊢;rw[zDY9]at hM;exact hM
theorem zme:∀(k:Nat) (l:List zB) (used:Nat) (T T':List Lev),zjl p free l used T->zhU free k l used T=some T'->zwx p free T'
 | 0,l,used,T,T',_,h=>by cases h
 | k+1,l,used,T,T',hi,h=>by
  rw[zhU]at h
  by_cases hu:free.length<used+l.length
  ·rw[if_pos hu]at h;cases h
  rw[if_neg hu]at h;obtain⟨h1,h2,h3,h4,h5,h6,h7,h8⟩:=hi.level hf hu;have hbd:=hi.bndL;have hlvl:=hi.lvl
  by_cases ho:l.length=1
  ·rw[if_pos ho]at h;injection h with h;subst h;refine⟨h7,?_,h8,?_,⟨used+l.length,by omega,h6⟩,?_⟩
   ·obtain⟨n,hn⟩:=zEP9.1 ho;obtain⟨b,hb⟩:=zEP9.1 (h1.trans ho);rw[hb,hn];exact⟨b,{ n with sib:=0 },T,rfl,rfl⟩
   ·intro M hM;rcases zAX9.1 hM with rfl|hM
    ·exact h1.trans (zc2 _ _ h1).symm
    ·exact hi.len M hM
   ·simp;omega
  ·rw[if_neg ho]at h;refine zme k _ _ _ _ ?_ h;have hne0:0<l.length:=zBO9.2 hi.ok.ne;have hT1:T.length<=1:=by
    rcases zCP9 T.length 2 with h|h
    ·omega
    ·have e:T.length=2:=by omega
     rw[e]at hbd;simp[bndL]at hbd;omega
   obtain⟨k1,k2,k3⟩:=zev _ _ h1;generalize hbs:(free.drop used).take l.length=bs at *
   have hzl:((l.map zB.low).zip bs).length=l.length:=by simp[h1]
   have hms:((l.map zB.low).zip bs).map Prod.snd=bs:=List.map_snd_zip (by simp[h1]);have hg:∀(i:Nat) (x:Pr),((l.map zB.low).zip bs)[i]?=some x->∃n,l[i]?=some n/\x.1=n.low:=by
    intro i x hx;rw[zDK9]at hx;have h1:=hx.1;rw[zAG9]at h1
    cases hn:l[i]? with
    | none=>rw[hn]at h1;cases h1
    | some n=>rw[hn]at h1;injection h1 with h1;exact⟨n,rfl,h1.symm⟩
   have hz0:(((l.map zB.low).zip bs).getD 0 (0,0)).1=0:=by
    obtain⟨n,hn,e⟩:=hg 0 _ (get_lt _ (by omega));rw[e];exact hi.ok.low0 n hn
   have hrz:zbi ((l.map zB.low).zip bs)=true:=by
    rw[zdP];intro i x y hx hy;obtain⟨n,hn,e⟩:=hg i x hx;obtain⟨m,hm,e2⟩:=hg _ y hy;rw[e,e2];exact hi.ok.rise i n m hn hm
   have hab:=zn8 (lv:=T.length+1) (ks:=(l.map zB.low).zip bs) ⟨by omega,by omega⟩ (by intro e;rw[e]at hzl;simp at hzl;omega) hrz hz0 (by rw[hms];exact h5) (fun x hx=>h4 x.2 (zFA9 hx).2);refine⟨hab.1,⟨?_,h7⟩,h8,?_,h6,by omega,?_,by simp;omega⟩
   ·rw[hab.2];unfold zcv;rw[k2]
   ·intro M hM;rcases zAX9.1 hM with rfl|hM
    ·exact h1.trans (zc2 _ _ h1).symm
    ·exact hi.len M hM
   ·rw[zdZ,hzl];show _<=bndL (T.length+1)
    match hT:T.length,hT1 with
    | 0,_=>rw[hT]at hbd;simp[bndL]at hbd⊢;omega
    | 1,_=>rw[hT]at hbd;simp[bndL]at hbd⊢;omega
end
theorem zmp {p:List Pr}(free:List Nat)(hp:okP p=true)(hl:p.length<=500):zjl p free (zbX p) 0 []:=by
 have h:=zsk hp;refine⟨h.1,h.2,fun M hM=>by simp at hM,fun M hM=>by simp at hM,rfl,zAS9 _,?_,zAS9 _⟩;rw[zea];simp[bndL];omega
def zek:Nat->Nat->Nat
 | 0,n=>n
 | k+1,n=>n+if n=1 then 0 else zek k ((n+18)/19)
def zeo (n:Nat):Nat:=zek 4 (max 1 ((n+17)/18))
theorem znL (free:List Nat):∀(k:Nat) (l:List zB) (used:Nat) (T:List Lev),3<=k+T.length->1<=k->1<=l.length->l.length<=bndL T.length->(zhU free k l used T=none↔free.length<used+zek k l.length)
 | 0,_,_,_,_,h,_,_=>by omega
 | k+1,l,used,T,h1,_,h3,h4=>by
  rw[zhU,zek]
  by_cases hu:free.length<used+l.length
  ·rw[if_pos hu];exact⟨fun _=>by omega,fun _=>rfl⟩
  rw[if_neg hu]
  by_cases ho:l.length=1
  ·rw[if_pos ho,if_pos ho];exact⟨fun h=>(by cases h),fun h=>by omega⟩
  rw[if_neg ho,if_neg ho];have hT1:T.length<=1:=by
   rcases zCP9 T.length 2 with h|h
   ·omega
   ·obtain⟨m,e⟩:∃m,T.length=m+2:=⟨T.length-2,by omega⟩
    rw[e]at h4;simp[bndL]at h4;omega
  have hzl:((l.map zB.low).zip ((free.drop used).take l.length)).length=l.length:=by simp;omega
  rw[znL free k _ _ _ (by simp;omega) (by omega) (by rw[zdZ,hzl];omega) ?_,zdZ,hzl]
  ·omega
  ·rw[zdZ,hzl];show _<=bndL (T.length+1)
   match hT:T.length,hT1 with
   | 0,_=>rw[hT]at h4;simp[bndL]at h4⊢;omega
   | 1,_=>rw[hT]at h4;simp[bndL]at h4⊢;omega
def zgk (p:List Pr)(free:List Nat):Option (List Lev):=zhU free 4 (zbX p) 0 []
theorem zkr {p:List Pr}{free:List Nat}(hl:p.length<=500):zgk p free=none↔free.length<zeo p.length:=by
 unfold zgk zeo;rw[znL free 4 _ _ _ (by decide) (by decide) (by rw[zea];omega) (by rw[zea];simp[bndL];omega),zea,zAN9]
theorem zup {p:List Pr}{free:List Nat}{T:List Lev}(hp:okP p=true)(hf:zny free=true)(hl:p.length<=500)(h:zgk p free=some T):zwx p free T:=zme hf 4 _ _ _ _ (zmp free hp hl) h
def zcW (n:zB)(z:Option zB):Bool:=match n.pairs.getLast?,z with
 | some p,some m=>decide (p.1<m.low)
 | _,_=>true
def zb4 (w:List Nat):List Nat->List zB->Bool
 | b::bs,n::ns=>decide (zbh (zu w b)=0)&&zcW n ns.head? && zb4 w bs ns
 | _,_=>true
def zbP (w:List Nat):List Lev->Bool
 | []=>true
 | [L]=>zb4 w L.1 L.2
 | L::M::T=>zb4 w L.1 L.2&&decide (L.2.flatMap zcn=zcv M)&&zbP w (M::T)
def zo7:List Lev->Bool
 | (_,n::_)::_=>decide (n.sib=0)
 | _=>false
def zeQ (w:List Nat)(T:List Lev):Bool:=zo7 T&&zbP w T
def zl8 (T:List Lev):Nat:=match T with
 | L::_=>L.1.headD 0
 | []=>0
theorem zdz {l:List Nat}(h:zbI l=true):(zaa l).level<=12/\(zaa l).sib<2048/\(zaa l).way<=2:=by
 unfold zbI at h;rw[zAR9,zBI9]at h;have h0:=h.2 0 (by decide);have h1:=h.2 1 (by decide);have h4:=h.2 4 (by decide);rw[zcM,zAR9,decide_eq_true_eq,decide_eq_true_eq]at h0;rw[zcM,decide_eq_true_eq]at h1;have h4:decide (l.getD 4 0<=2)=true:=h4;rw[decide_eq_true_eq]at h4;refine⟨?_,h1,h4⟩;have:(zaa l).level=zgw (l.getD 0 0):=by unfold zaa;rfl
 rw[this,znH];omega
theorem zpF {ns ms:List zB}(h:ns ≠ []):(ns++ms).head?=ns.head?:=by
 cases ns with
 | nil=>exact absurd rfl h
 | cons a l=>rfl
theorem zck (l:List Nat):(zaa l).pairs.length<=28:=by unfold zaa;exact zdM _ _
structure LvF (w:List Nat)(bs:List Nat)(ns:List zB):Prop where
 is:ns=bs.map fun b=>zaa (zu w b)
 each:∀b∈bs,b<w.length/64/\zbI (zu w b)=true
 same:∀n∈ns,∀z,ns.head?=some z->n.level=z.level
theorem LvF.len {w:List Nat}{bs:List Nat}{ns:List zB}(h:LvF w bs ns):bs.length=ns.length:=by rw[h.is,zAA9]
theorem LvF.node {w:List Nat}{bs:List Nat}{ns:List zB}(h:LvF w bs ns){n:zB}(hn:n∈ns):n.pairs.length<=28/\n.level<=12/\n.sib<2048:=by
 rw[h.is]at hn;obtain⟨b,hb,rfl⟩:=zAP9.1 hn;have:=zdz (h.each b hb).2;exact⟨zck _,this.1,this.2.1⟩
theorem LvF.nil (w:List Nat):LvF w [] []:=⟨rfl,fun b hb=>by simp at hb,fun n hn=>by simp at hn⟩
theorem zey {w:List Nat}{lv:Int}{N:Nat}:∀(k:Nat) (seen bs:List Nat) (ns:List zB) (b:Nat) (r:List Nat×List Nat×List zB),zbp w lv k seen bs ns b=some r->LvF w bs ns->(∀n,ns.head?=some n->lv<0\/(n.level:Int)=lv)->bs.length+k<=N->LvF w r.2.1 r.2.2/\(∀n,r.2.2.head?=some n->lv<0\/(n.level:Int)=lv)/\r.2.1.length<=N
 | 0,seen,bs,ns,b,r,h,hF,hh,hN=>by
  rw[zbp]at h
  split at h
  ·injection h with h;subst h;exact⟨hF,hh,by simpa using hN⟩
  ·cases h
 | k+1,seen,bs,ns,b,r,h,hF,hh,hN=>by
  rw[zbp]at h
  split at h
  ·injection h with h;subst h;exact⟨hF,hh,by simp;omega⟩
  ·split at h
   ·cases h
   ·rename_i hb
    split at h
    ·rename_i hg;rw[zAR9]at hg;have hbl:b<w.length/64:=by
      cases hd:decide (w.length/64<=b)with
      | true=>rw[hd]at hb;exact absurd rfl hb
      | false=>have:=of_decide_eq_false hd;omega
     refine zey k _ _ _ _ r h ⟨by rw[hF.is];simp,fun c hc=>?_,fun n hn z hz=>?_⟩ (fun n hn=>?_) (by simp;omega)
     ·rcases zBF9.1 hc with hc|hc
      ·exact hF.each c hc
      ·simp at hc;subst hc;exact⟨hbl,hg.1⟩
     ·have hgo:=hg.2;unfold zbM at hgo
      cases hl:ns.getLast? with
      | none =>
       rw[zCV9]at hl;subst hl;simp at hn hz;rw[hn,<- hz]
      | some y =>
       rw[hl]at hgo;simp only[zAR9,decide_eq_true_eq]at hgo;have hne:ns ≠ []:=by intro e;rw[e]at hl;simp at hl
       rw[zpF hne]at hz;rcases zBF9.1 hn with hn|hn
       ·exact hF.same n hn z hz
       ·simp at hn;rw[hn,hgo.2];exact hF.same y (zFS9 hl) z hz
     ·have hgo:=hg.2;unfold zbM at hgo
      cases hl:ns.getLast? with
      | none =>
       rw[hl]at hgo;rw[zCV9]at hl;subst hl;simp only[zAR9,zEM9,decide_eq_true_eq]at hgo;simp at hn;rw[<- hn];exact hgo.2
      | some y =>
       have hne:ns ≠ []:=by intro e;rw[e]at hl;simp at hl
       rw[zpF hne]at hn;exact hh n hn
    ·cases h
structure zgu (w:List Nat)(L:Lev):Prop where
 lv:LvF w L.1 L.2
 ne:L.2 ≠ []
 few:L.2.length<=2048
def zha (L:Lev):Prop:=∀n∈L.2,0<n.level
theorem zeV {w:List Nat}(hw:w.length<=131072):∀(d:Nat) (seen:List Nat) (acc:List Lev) (b:Nat) (lv:Int),(∀L∈acc,zgu w L/\zha L) ->
  (∀L∈(zbD w d seen acc b lv).1,zgu w L)/\(∀L∈(zbD w d seen acc b lv).1.dropLast,zha L)/\((zbD w d seen acc b lv).2=true->(zbD w d seen acc b lv).1 ≠ []/\∀M,(zbD w d seen acc b lv).1.getLast?=some M->zbi (zbQ M.2)=true)
 | 0,seen,acc,b,lv,h=>⟨fun L hL=>(h L hL).1,fun L hL=>(h L (zFT9 _ hL)).2,fun e=>by cases e⟩
 | d+1,seen,acc,b,lv,h=>by
  rw[zbD]
  cases hr:zbp w lv (w.length/64) seen [] [] b with
  | none=>exact⟨fun L hL=>(h L hL).1,fun L hL=>(h L (zFT9 _ hL)).2,fun e=>by cases e⟩
  | some r =>
   obtain⟨s',bs,ns⟩:=r;obtain⟨k1,k2,k3⟩:=zey (N:=2048) _ _ _ _ _ _ hr (LvF.nil w) (fun n hn=>by simp at hn) (by simp;omega)
   cases ns with
   | nil=>exact⟨fun L hL=>(h L hL).1,fun L hL=>(h L (zFT9 _ hL)).2,fun e=>by cases e⟩
   | cons n ns =>
    have hF:zgu w (bs,n::ns):=⟨k1,by simp,by rw[<- k1.len];exact k3⟩
    simp only
    split
    ·refine⟨fun L hL=>?_,fun L hL=>?_,fun e=>⟨by simp,fun M hM=>?_⟩⟩
     ·rcases zBF9.1 hL with hL|hL
      ·exact(h L hL).1
      ·simp at hL;subst hL;exact hF
     ·rw[zDT9]at hL;exact(h L hL).2
     ·simp at hM;subst hM;exact e
    ·rename_i hlv;refine zeV hw d _ _ _ _ fun L hL=>?_;rcases zBF9.1 hL with hL|hL
     ·exact h L hL
     ·simp at hL;subst hL;exact⟨hF,fun m hm=>by have:=k1.same m hm n rfl;omega⟩
theorem ze1:∀(L:List zB),(∀n∈L,n.pairs.length<=28)->(zbQ L).length<=28*L.length
 | [],_=>zAS9 _
 | n::L,h=>by
  have h1:=ze1 L fun m hm=>h m (zAT9 _ hm);have h2:=h n (zAV9 ..);have h3:=zFP9 (zdG L.head?) n.pairs;rw[zbQ,zAC9,zAE9];omega
end Fv
end Go.Proofs.YtfomlmhnmheenaaGreat
namespace Go.Proofs.YtfomlmhnmheenaaGreat
namespace Fv
open Tw
attribute [local go_sem] zaZ zaz zab zap evs ev okv zbj zT.cls za5 za7 za9 zQ zR upd zo zaS zaQ zaR zax zaL zaP zaT zaM zaY zaO zar zaV zaU zaX zaW zaK zaN zae zaC zaJ zal zak zbg PV.cells ofC za6 zV zao okF zaf spl zaB zaF bnd zai zam zan za3 zbb zU zau zaH zaj za8 zbd zW lenP zc zk zah zba PV.toT zaA zH Nat.mul_mod_right Int.reduceOfNat Int.reduceToNat Int.cast_ofNat_Int Int.reduceLE Int.reduceLT Int.reduceAdd Int.reduceSub Int.reduceMul Int.reduceNegSucc Nat.reduceEqDiff if_true if_false ite_true ite_false decide_true decide_false Bool.not_true Bool.not_false and_true true_and and_self false_and and_false or_false false_or or_true true_or or_self List.length_cons List.length_nil List.length_map List.getElem?_cons_zero List.getElem?_cons_succ List.getElem?_map List.getElem?_nil Option.map_some Option.map_none Option.getD_some List.append_nil List.nil_append List.cons_append List.take_succ_cons List.take_zero List.drop_zero List.drop_succ_cons List.set_cons_zero List.set_cons_succ Int.toNat_natCast Int.natCast_nonneg Nat.le_refl Nat.zero_le Nat.reduceAdd Nat.reduceSub Nat.reduceMul Nat.reduceLeDiff Nat.reduceLT Bool.false_eq_true Bool.true_eq_false Nat.add_zero Nat.zero_add List.all_cons List.all_nil Bool.and_true Bool.and_self Bool.true_and Nat.reduceMod Nat.reduceDiv eq_self zaq zaD zX za4 evN za0 dpF zaI zbf zaw za1 zbe zaE List.filter_cons List.filter_nil List.contains_cons List.contains_nil Nat.reduceBEq zac zad zP Option.some.injEq Option.isSome_some wrap_i64 zJ zaG Bool.or_self Bool.or_false Bool.false_or daF dnF xT T4 T5 T8 T9 T10 T11 T12 T13 T14 T15 T16 T17 T18 T19 T20 T21 T22 T23 T24 T25 T26 T27 T28 T30 T33 T34 T36 T37 T38 T39 T40 T41 T42 T43 T44 T45 T46 T47 T48 T49 T50 T51 T52 T53 T54 T55 T56 T57 T58 T59 T60 T61 T62 T63 T64 T65 T66 T67 T68 T69 T70 T71 T72 T73 T75 T76 T77 T80 T81 T82 T83 T84 T85 T86 T87 T88 T89 T90 T91 T92 T93 T94 T95 T96 T97 T98 T99 T100 T101 T102 T103 T104 T105 T106 T107 T108 T109 T110 T111 T112 T113 T114 T115 T116 T119 T120 T121 T122 T123 T124 T125 T126 T129 T130 T131 T132 T133 T134 T135 T136 T137 T138 T139 T140 T141 T142 T143 T144 T145 T146 T147 T148 T149 T150 T151 T152 T153 T154 T155 T156 T157 T158 T159 T160 T161 T162 T163 T164 T165 T166 T167 T168 T169 T170 T171 T173 T174 T175 T176 T177 T178 T181 T182 T183 T184 T185 T186 T187 T188 T189 T190 T191 T192 T193 T194 T195 T196 T197 T198 T199 T200 T201 T202 T203 T204 T205 T206 T207 T208 T209 T210 T211 T212 T213 T214 T215 T216 T217 T218 T219 T220 T222 T223
attribute [local go_sem ↓] reduceIte
set_option maxRecDepth 100000
theorem f137:ET.funcs.get 137=some T137:=zL Tryz.func137
theorem f91:ET.funcs.get 91=some T91:=zL Tryz.func91
def rdH (p:Nat)(w:List Nat)(mo:zn)(vs:List PV)(G:List zn):List zn :=
 .row 26 1 0 0 [wv p w]::.row 96 1 0 0 [.sl 5 vs.length 0 vs.length (2*vs.length) 2]::mo::.row 131 1 0 0 [.map 2]::.row 216 1 0 0 [.fn 137 [.ptr 0 0 0 0 1,.ptr 3 0 0 0 1,.ptr 1 0 0 0 1,.ptr 4 0 0 0 1]]::.row 100 2 vs.length 0 vs::G
def zmr (mo:zn)(seen:List Nat):Prop:=(mo=.map0/\seen=[])\/∃mm:Int->Option PV,mo=.mapI .u64 mm/\∀q:Nat,mm q=if seen.contains q=true then some (iv 1)else none
theorem zyg {α:Type}(G l:List α)(x y z:α):(G++x::y::z::l)[G.length+2]?=some z:=by simp[zAO9]
def zoW (H:List zn)(v:PV)(l:Lev):Prop:=∃i j:Nat,v=.agg [.sl (i+6) l.1.length 0 l.1.length (2*l.1.length) 1,.sl (j+6) l.2.length 0 l.2.length (2*l.2.length) 6] /\
 H[i]?=some (.row 3 1 l.1.length 0 (l.1.map fun(b:Nat)=>iv (b:Int)))/\H[j]?=some (.row 124 6 l.2.length 0 (l.2.map (zZ 0)))
def zel (H:List zn)(vs:List PV)(ls:List Lev):Prop:=vs.length=ls.length/\∀(k:Nat) (v:PV) (l:Lev),vs[k]?=some v->ls[k]?=some l->zoW H v l
def ztr (b:Nat)(lv:Int):List PV:=[uv b,iv lv,.ptr 0 0 0 0 1,.ptr 3 0 0 0 1,.ptr 1 0 0 0 1,.ptr 4 0 0 0 1]
def ziK (p:Nat)(w:List Nat)(mo2:zn)(vs:List PV)(G:List zn)(bs:List Nat)(ns:List zB)(G2:List zn):List zn :=
 .row 26 1 0 0 [wv p w]::.row 96 1 0 0 [.sl 5 vs.length 0 vs.length (2*vs.length) 2]::mo2::.row 131 1 0 0 [.map 2]::.row 216 1 0 0 [.fn 137 [.ptr 0 0 0 0 1,.ptr 3 0 0 0 1,.ptr 1 0 0 0 1,.ptr 4 0 0 0 1]]::.row 100 2 vs.length 0 vs ::
   (G++.row 100 2 0 0 [.agg [.sl (G.length+7) bs.length 0 bs.length (2*bs.length) 1,.sl (G.length+8) ns.length 0 ns.length (2*ns.length) 6]]::.row 3 1 bs.length 0 (bs.map fun(b:Nat)=>iv (b:Int))::.row 124 6 ns.length 0 (ns.map (zZ 0))::G2)
theorem zoW.mono {G G':List zn}{v:PV}{l:Lev}(h:zoW G v l):zoW (G++G') v l:=by
 obtain⟨i,j,h1,h2,h3⟩:=h;exact⟨i,j,h1,by rw[zAW9 (zAD9.1 h2).1];exact h2,by rw[zAW9 (zAD9.1 h3).1];exact h3⟩
theorem zel.mono {G G':List zn}{vs:List PV}{ls:List Lev}(h:zel G vs ls):zel (G++G') vs ls:=⟨h.1,fun k v l hv hl=>(h.2 k v l hv hl).mono⟩
theorem zel.snoc {G:List zn}{vs:List PV}{ls:List Lev}(h:zel G vs ls)(r:zn)(bs:List Nat)(ns:List zB)(X:List zn)(k:Nat)(hk:k=ns.length):zel (G++r::.row 3 1 bs.length 0 (bs.map fun(b:Nat)=>iv (b:Int))::.row 124 6 k 0 (ns.map (zZ 0))::X) (vs++[.agg [.sl (G.length+7) bs.length 0 bs.length (2*bs.length) 1,.sl (G.length+8) k 0 k (2*k) 6]]) (ls++[(bs,ns)]):=by
 subst hk;refine⟨by simp[h.1],fun q v l hv hl=>?_⟩;rcases zCP9 q vs.length with hq|hq
 ·rw[zAW9 hq]at hv;rw[zAW9 (by rw[<- h.1];exact hq)]at hl;exact(h.2 q v l hv hl).mono
 ·rw[zAO9 hq]at hv;rw[zAO9 (by rw[<- h.1];exact hq)]at hl;obtain rfl:=zBL9.1 (zAK9 hv);obtain rfl:=zBL9.1 (zAK9 hl);exact⟨G.length+1,G.length+2,rfl,hm0 G _ _ _,zyg G _ _ _ _⟩
def zjV (p:Nat)(w:List Nat)(r:List Lev×Bool)(e:FE)(H':List zn):Prop:=e=.ret (.bool r.2)/\∃mo' vs' G',H'=rdH p w mo' vs' G'/\zel G' vs' r.1
theorem zi8 {w:List Nat}{d:Nat}{seen:List Nat}{acc:List Lev}{b:Nat}{lv:Int}(hd:(0<=lv/\lv+1<=d)\/14<=d)(h:zbp w lv (w.length/64) seen [] [] b=none):zbD w d seen acc b lv=(acc,false):=by
 match d,hd with
 | 0,hd=>omega
 | d+1,_=>rw[zbD,h]
theorem zwV {p:Nat}{w:List Nat}{d:Nat}{seen:List Nat}{acc:List Lev}{b:Nat}{lv:Int}{mo2:zn}{vs:List PV}{G:List zn}{bs:List Nat}{ns:List zB}{G2:List zn}(hd:(0<=lv/\lv+1<=d)\/14<=d)(h:zbp w lv (w.length/64) seen [] [] b=none)(hv:zel G vs acc):zjV p w (zbD w d seen acc b lv) (.ret (.bool false)) (ziK p w mo2 vs G bs ns G2):=by
 rw[zi8 hd h];exact⟨rfl,mo2,vs,_,rfl,hv.mono⟩
theorem zqg {p:Nat}{w:List Nat}{d:Nat}{seen:List Nat}{acc:List Lev}{b:Nat}{lv:Int}{mo2:zn}{vs:List PV}{G:List zn}(hd:(0<=lv/\lv+1<=d)\/14<=d)(h:zbp w lv (w.length/64) seen [] [] b=none)(hv:zel G vs acc):zjV p w (zbD w d seen acc b lv) (.ret (.bool false)) (rdH p w mo2 vs G):=by
 rw[zi8 hd h];exact⟨rfl,mo2,vs,_,rfl,hv⟩
theorem zbF (n:Nat):(n==n+1)=false:=by simp
theorem zbH (n:Nat):(n+1==n)=false:=by simp
theorem zbE (n:Nat):(n==n+1+1)=false:=by rw[beq_eq_false_iff_ne];omega
theorem zbG (n:Nat):(n+1+1==n)=false:=by rw[beq_eq_false_iff_ne];omega
theorem zm6 (n:Nat):(n+6==n+7)=false:=by simp
theorem zm4 (n:Nat):(n+7==n+6)=false:=by simp
theorem znF (n:Nat):(n+6==n+8)=false:=by simp
theorem zmT (n:Nat):(n+8==n+6)=false:=by simp
theorem zmF (n:Nat):(n+7==n+8)=false:=by simp
theorem zmM (n:Nat):(n+8==n+7)=false:=by simp
theorem zns {α:Type}(G G2:List α)(a b c:α):((G++a::b::c::G2).length==G.length)=false:=by rw[beq_eq_false_iff_ne];simp only[zAC9,zAE9,zAH9];omega
theorem znG {α:Type}(G G2:List α)(a b c:α):(G.length==(G++a::b::c::G2).length)=false:=by rw[beq_eq_false_iff_ne];simp only[zAC9,zAE9,zAH9];omega
theorem znD {α:Type}(G G2:List α)(a b c x0:α):((G++a::b::c::G2++[x0]).length==G.length)=false:=by rw[beq_eq_false_iff_ne];simp only[zAC9,zAE9,zAH9];omega
theorem zmX {α:Type}(G G2:List α)(a b c x0:α):(G.length==(G++a::b::c::G2++[x0]).length)=false:=by rw[beq_eq_false_iff_ne];simp only[zAC9,zAE9,zAH9];omega
theorem zmG {α:Type}(G G2:List α)(a b c x0 x1:α):((G++a::b::c::G2++[x0]++[x1]).length==G.length)=false:=by rw[beq_eq_false_iff_ne];simp only[zAC9,zAE9,zAH9];omega
theorem zmR {α:Type}(G G2:List α)(a b c x0 x1:α):(G.length==(G++a::b::c::G2++[x0]++[x1]).length)=false:=by rw[beq_eq_false_iff_ne];simp only[zAC9,zAE9,zAH9];omega
theorem zmD {α:Type}(G G2:List α)(a b c x0 x1 x2:α):((G++a::b::c::G2++[x0]++[x1]++[x2]).length==G.length)=false:=by rw[beq_eq_false_iff_ne];simp only[zAC9,zAE9,zAH9];omega
theorem zmJ {α:Type}(G G2:List α)(a b c x0 x1 x2:α):(G.length==(G++a::b::c::G2++[x0]++[x1]++[x2]).length)=false:=by rw[beq_eq_false_iff_ne];simp only[zAC9,zAE9,zAH9];omega
theorem zmI {α:Type}(G G2:List α)(a b c:α):((G++a::b::c::G2).length==G.length+1)=false:=by rw[beq_eq_false_iff_ne];simp only[zAC9,zAE9,zAH9];omega
theorem zmW {α:Type}(G G2:List α)(a b c:α):(G.length+1==(G++a::b::c::G2).length)=false:=by rw[beq_eq_false_iff_ne];simp only[zAC9,zAE9,zAH9];omega
theorem zmH {α:Type}(G G2:List α)(a b c x0:α):((G++a::b::c::G2++[x0]).length==G.length+1)=false:=by rw[beq_eq_false_iff_ne];simp only[zAC9,zAE9,zAH9];omega
theorem zna {α:Type}(G G2:List α)(a b c x0:α):(G.length+1==(G++a::b::c::G2++[x0]).length)=false:=by rw[beq_eq_false_iff_ne];simp only[zAC9,zAE9,zAH9];omega
theorem znj {α:Type}(G G2:List α)(a b c x0 x1:α):((G++a::b::c::G2++[x0]++[x1]).length==G.length+1)=false:=by rw[beq_eq_false_iff_ne];simp only[zAC9,zAE9,zAH9];omega
theorem zm5 {α:Type}(G G2:List α)(a b c x0 x1:α):(G.length+1==(G++a::b::c::G2++[x0]++[x1]).length)=false:=by rw[beq_eq_false_iff_ne];simp only[zAC9,zAE9,zAH9];omega
theorem zmV {α:Type}(G G2:List α)(a b c x0 x1 x2:α):((G++a::b::c::G2++[x0]++[x1]++[x2]).length==G.length+1)=false:=by rw[beq_eq_false_iff_ne];simp only[zAC9,zAE9,zAH9];omega
theorem znz {α:Type}(G G2:List α)(a b c x0 x1 x2:α):(G.length+1==(G++a::b::c::G2++[x0]++[x1]++[x2]).length)=false:=by rw[beq_eq_false_iff_ne];simp only[zAC9,zAE9,zAH9];omega
theorem zm0 {α:Type}(G G2:List α)(a b c:α):((G++a::b::c::G2).length==G.length+2)=false:=by rw[beq_eq_false_iff_ne];simp only[zAC9,zAE9,zAH9];omega
theorem zmC {α:Type}(G G2:List α)(a b c:α):(G.length+2==(G++a::b::c::G2).length)=false:=by rw[beq_eq_false_iff_ne];simp only[zAC9,zAE9,zAH9];omega
theorem zm8 {α:Type}(G G2:List α)(a b c x0:α):((G++a::b::c::G2++[x0]).length==G.length+2)=false:=by rw[beq_eq_false_iff_ne];simp only[zAC9,zAE9,zAH9];omega
theorem zm9 {α:Type}(G G2:List α)(a b c x0:α):(G.length+2==(G++a::b::c::G2++[x0]).length)=false:=by rw[beq_eq_false_iff_ne];simp only[zAC9,zAE9,zAH9];omega
theorem zmz {α:Type}(G G2:List α)(a b c x0 x1:α):((G++a::b::c::G2++[x0]++[x1]).length==G.length+2)=false:=by rw[beq_eq_false_iff_ne];simp only[zAC9,zAE9,zAH9];omega
theorem znE {α:Type}(G G2:List α)(a b c x0 x1:α):(G.length+2==(G++a::b::c::G2++[x0]++[x1]).length)=false:=by rw[beq_eq_false_iff_ne];simp only[zAC9,zAE9,zAH9];omega
theorem znp {α:Type}(G G2:List α)(a b c x0 x1 x2:α):((G++a::b::c::G2++[x0]++[x1]++[x2]).length==G.length+2)=false:=by rw[beq_eq_false_iff_ne];simp only[zAC9,zAE9,zAH9];omega
theorem znw {α:Type}(G G2:List α)(a b c x0 x1 x2:α):(G.length+2==(G++a::b::c::G2++[x0]++[x1]++[x2]).length)=false:=by rw[beq_eq_false_iff_ne];simp only[zAC9,zAE9,zAH9];omega
theorem gl2 {α:Type}(G G2:List α)(a b b' c p q z:α):(G++a::b'::c::G2++[p]++[q]++[z])[(G++a::b::c::G2++[p]++[q]).length]?=some z:=by
 have:(G++a::b::c::G2++[p]++[q]).length=(G++a::b'::c::G2++[p]++[q]).length:=by simp
 rw[this];simp
theorem zmL (n:Nat):(n+1==n+2)=false:=by simp
theorem zm7 (n:Nat):(n+2==n+1)=false:=by simp
theorem znt (n:Nat):(n==n+2)=false:=by simp
theorem znf (n:Nat):(n+2==n)=false:=by simp
section
variable {α:Type}(G l m n o:List α)(x y z u:α)
theorem gm3:(G++x::l++m++n++o)[G.length]?=some x:=by rw[zAF9,zAF9,zAF9];exact gm0 G _ x
theorem hm3:(G++x::y::l++m++n++o)[G.length+1]?=some y:=by rw[zAF9,zAF9,zAF9];exact hm0 G _ x y
theorem zzj:(G++x::y::z::l)[G.length+2]?=some z:=by simp[zAO9]
theorem km3:(G++x::y::z::l++m++n++o)[G.length+2]?=some z:=by rw[zAF9,zAF9,zAF9];exact zzj G _ x y z
theorem sm3:(G++x::l++m++n++o).set G.length u=G++u::l++m++n++o:=by simp[zBV9]
theorem tm3:(G++x::y::l++m++n++o).set (G.length+1) u=G++x::u::l++m++n++o:=by simp[zBV9]
theorem um3:(G++x::y::z::l++m++n++o).set (G.length+2) u=G++x::y::u::l++m++n++o:=by simp[zBV9]
theorem km0:(G++x::y::z::l)[G.length+2]?=some z:=by simp[zAO9]
theorem km1:(G++x::y::z::l++m)[G.length+2]?=some z:=by rw[zAF9];exact km0 G _ x y z
theorem km2:(G++x::y::z::l++m++n)[G.length+2]?=some z:=by rw[zAF9,zAF9];exact km0 G _ x y z
end
theorem ze2 {l:List Nat}:∀v∈(l.map fun(b:Nat)=>iv (b:Int)).flatMap PV.cells,Id0 v:=fun v hv=>by
 obtain⟨x,hx,hv⟩:=zBC9.1 hv;obtain⟨n,_,rfl⟩:=zAP9.1 hx;simp[PV.cells]at hv;subst hv;exact .int _ _
theorem zwa (p:Nat)(w:List Nat)(hw:64<=w.length/\w.length<=131072/\w.length%64=0):∀(d:Nat) (seen:List Nat) (acc:List Lev) (b:Nat) (lv:Int) (mo:zn) (vs:List PV) (G:List zn) (hd:(0<=lv/\lv+1<=d)\/14<=d) (hs:zmr mo seen) (hv:zel G vs acc) (hva:acc.length+d<=100),
  FO ET 137 (ztr b lv) (rdH p w mo vs G) false (zjV p w (zbD w d seen acc b lv)):=by
 intro d
 induction d with
 | zero=>intro seen acc b lv mo vs G hd;omega
 | succ d ih =>
 intro seen acc b lv mo vs G hd hs hv hva;refine zro f137 ?_;unfold ztr rdH;(repeat(first|refine za ?_|refine zgo ?_));refine zgn 3 1 (id:=G.length+6) (v:=.agg [.nilsl,.nilsl]) (v':=.agg [.sl (G.length+7) 0 0 0 0 1,.nilsl]) (e0:=100) (z0:=2) (G:=0) (M:=0) (by simp only[zAY9,zc]<;>rfl) rfl (fun k x y hx hy=>?_) ?_
 ·match k with
  | 0=>injection hx with hx;injection hy with hy;subst hx hy;exact .inr ⟨rfl,by simp[lzy]⟩
  | 1=>injection hx with hx;injection hy with hy;subst hx hy;exact .inl rfl
  | k+2=>simp[PV.cells]at hx
 simp only[zCK9,zk,zAI9,zAF9,zAL9];refine zgn 124 6 (id:=G.length+6) (v:=.agg [.sl (G.length+7) 0 0 0 0 1,.nilsl]) (v':=.agg [.sl (G.length+7) 0 0 0 0 1,.sl (G.length+8) 0 0 0 0 6]) (e0:=100) (z0:=2) (G:=0) (M:=0) (by simp only[zAY9,gm0]<;>rfl) rfl (fun k x y hx hy=>?_) ?_
 ·match k with
  | 0=>injection hx with hx;injection hy with hy;subst hx hy;exact .inl rfl
  | 1=>injection hx with hx;injection hy with hy;subst hx hy;exact .inr ⟨rfl,by simp[lzy]⟩
  | k+2=>simp[PV.cells]at hx
 simp only[zCK9,sm0,zAI9,zAF9,zAL9];have hnb:w.length/64<=2048:=by omega
 refine zD (zas (fun m s=>∃(k:Nat) (seen2:List Nat) (bs:List Nat) (ns:List zB) (b2:Nat) (mo2:zn) (G2:List zn),m=k/\zdg (w.length/64) seen2<=k/\zbp w lv (w.length/64) seen [] [] b=zbp w lv k seen2 bs ns b2/\bs.length=ns.length/\bs.length+k<=2048/\zmr mo2 seen2/\s.tm 0=uv b2/\s.tm 1=iv lv/\s.tm 2=.ptr 0 0 0 0 1/\s.tm 3=.ptr 3 0 0 0 1/\s.tm 4=.ptr 1 0 0 0 1/\s.tm 5=.ptr 4 0 0 0 1/\s.tm 9=.ptr (G.length+6) 0 0 0 2/\s.df=[] /\
  s.H=ziK p w mo2 vs G bs ns G2) (n:=w.length/64) ?_ ?_)
 ·exact⟨_,seen,[],[],b,mo,[],rfl,ziz _ _,rfl,rfl,by simpa using hnb,hs,by simp[upd,zo],by simp[upd,zo],by simp[upd,zo],by simp[upd,zo],by simp[upd,zo],by simp[upd,zo],by simp[upd],rfl,rfl⟩
 ·rintro m ⟨tm,df,H⟩ ⟨k,seen2,bs,ns,b2,mo2,G2,rfl,hun,hrd,hbn,hbk,hs2,h0,h1,h2,h3,h4,h5,h9,rfl,rfl⟩;dsimp only at h0 h1 h2 h3 h4 h5 h9;unfold ziK;(try refine zK ?_);refine za (zr ?_);refine zfx ?_ (by simp(disch:=omega)only[go_sem,h0]<;>rfl);refine zh ?_;refine zN (by simp only[go_sem]<;>rfl) ?_ ?_
  ·intro hb0;have hb0:¬b2=0:=by simpa using hb0
   have q1:IntKind.i64.wrap ((w.length:Int).tdiv 64)=((w.length/64:Nat):Int):=by rw[IntWalk.i64_quo _ _ (by omega)];omega
   (repeat refine za ?_);refine zD ?_;(repeat refine za ?_);refine zbA (Q:=fun y s'=>y=.norm/\s'.tm 0=uv b2/\s'.tm 1=iv lv/\s'.tm 2=.ptr 0 0 0 0 1/\s'.tm 3=.ptr 3 0 0 0 1/\s'.tm 4=.ptr 1 0 0 0 1/\s'.tm 5=.ptr 4 0 0 0 1/\s'.tm 9=.ptr (G.length+6) 0 0 0 2/\s'.tm 38=.bool (decide (w.length/64<=b2)||seen2.contains b2)/\s'.df=[]/\s'.H=ziK p w mo2 vs G bs ns G2) (zr ?_) ?_
   ·by_cases hge:w.length/64<=b2
    ·have g1:((w.length/64:Nat):Int)<=b2:=by omega
     refine zfx ?_ (by simp(disch:=omega)only[go_sem,h0,h2,h3,q1,g1]<;>rfl);refine zy ?_;simp only[zb,zf,ze,zd,zi,zg,if_true,↓reduceIte];exact⟨trivial,h0,h1,h2,h3,h4,h5,h9,by simp[upd,hge],trivial,rfl⟩
    ·have g1:¬((w.length/64:Nat):Int)<=b2:=by omega
     rcases hs2 with⟨rfl,rfl⟩|⟨mm,rfl,hmm⟩
     ·refine zfx ?_ (by simp(disch:=omega)only[go_sem,h0,h2,h3,q1,g1]<;>rfl);refine zy ?_;simp only[zb,zf,ze,zd,zi,zg,if_true,↓reduceIte];exact⟨trivial,h0,h1,h2,h3,h4,h5,h9,by simp[upd,hge],trivial,rfl⟩
     ·have hq:=hmm b2
      by_cases hc:seen2.contains b2=true
      ·rw[if_pos hc]at hq;refine zfx ?_ (by simp(disch:=omega)only[go_sem,h0,h2,h3,q1,g1,hq]<;>rfl);refine zy ?_;simp only[zb,zf,ze,zd,zi,zg,if_true,↓reduceIte];exact⟨trivial,h0,h1,h2,h3,h4,h5,h9,by rw[hc];simp[upd],trivial,rfl⟩
      ·rw[if_neg hc]at hq;refine zfx ?_ (by simp(disch:=omega)only[go_sem,h0,h2,h3,q1,g1,hq]<;>rfl);refine zy ?_;simp only[zb,zf,ze,zd,zi,zg,if_true,↓reduceIte];have hc:seen2.contains b2=false:=by simpa using hc
       exact⟨trivial,h0,h1,h2,h3,h4,h5,h9,by rw[hc];simp[upd,hge],trivial,rfl⟩
   ·clear h0 h1 h2 h3 h4 h5 h9;rintro y ⟨tm,df,H⟩ ⟨rfl,h0,h1,h2,h3,h4,h5,h9,h38,rfl,rfl⟩;dsimp only at h0 h1 h2 h3 h4 h5 h9 h38;simp only[zb,zf,ze,zd,zi,zg,if_true,reduceIte]
    by_cases hbad:(decide (w.length/64<=b2)||seen2.contains b2)=true
    ·refine zfc ?_ ?_ (by simp only[go_sem,h38]<;>rfl)
     ·intro _;(repeat(first|refine za ?_|refine zgo ?_));refine zq ?_;(try simp only[zb,zf,ze,zd,zg]);refine zj (by simp only[T137,zE,go_sem]<;>rfl) ?_;simp only[zG];refine zwV hd ?_ hv;rw[hrd]
      cases m with
      | zero=>rw[zbp,if_neg hb0]
      | succ m=>rw[zbp,if_neg hb0,if_pos hbad]
     ·rw[hbad];intro h;cases h
    have hbad:(decide (w.length/64<=b2)||seen2.contains b2)=false:=by simpa using hbad
    refine zfc ?_ ?_ (by simp only[go_sem,h38]<;>rfl)
    ·rw[hbad];intro h;cases h
    intro _;refine zF ?_;show W _ _ _ _ _ _;have hbl:b2<w.length/64:=by
     cases h:decide (w.length/64<=b2)with
     | true=>rw[h]at hbad;cases hbad
     | false=>have:=of_decide_eq_false h;omega
    have hbs:¬seen2.contains b2=true:=by intro h;rw[h,Bool.or_true]at hbad;cases hbad
    refine za (zbA (Q:=fun y s'=>y=.norm/\s'.tm 0=uv b2/\s'.tm 1=iv lv/\s'.tm 2=.ptr 0 0 0 0 1/\s'.tm 3=.ptr 3 0 0 0 1/\s'.tm 4=.ptr 1 0 0 0 1/\s'.tm 5=.ptr 4 0 0 0 1/\s'.tm 9=.ptr (G.length+6) 0 0 0 2/\s'.df=[]/\∃mo3,zmr mo3 (b2::seen2)/\s'.H=ziK p w mo3 vs G bs ns G2) (zr ?_) ?_)
    ·unfold ziK;rcases hs2 with⟨rfl,rfl⟩|⟨mm,rfl,hmm⟩
     ·refine zfx ?_ (by simp(disch:=omega)only[go_sem,h0,h3]<;>rfl);refine zy ?_;simp only[zb,zf,ze,zd,zi,zg,if_true,↓reduceIte];refine⟨trivial,h0,h1,h2,h3,h4,h5,h9,trivial,_,.inr ⟨_,rfl,fun q=>?_⟩,rfl⟩
      by_cases hq:q=b2
      ·subst hq;simp
      ·have:¬(q:Int)=b2:=by omega
       simp[hq,this]
     ·refine zfx ?_ (by simp(disch:=omega)only[go_sem,h0,h3]<;>rfl);refine zy ?_;simp only[zb,zf,ze,zd,zi,zg,if_true,↓reduceIte];refine⟨trivial,h0,h1,h2,h3,h4,h5,h9,trivial,_,.inr ⟨_,rfl,fun q=>?_⟩,rfl⟩
      by_cases hq:q=b2
      ·subst hq;simp
      ·have:¬(q:Int)=b2:=by omega
       rw[if_neg this,hmm q];simp[hq]
    ·clear h0 h1 h2 h3 h4 h5 h9 h38 hs2;rintro y ⟨tm,df,H⟩ ⟨rfl,h0,h1,h2,h3,h4,h5,h9,rfl,mo3,hs3,rfl⟩;dsimp only at h0 h1 h2 h3 h4 h5 h9;simp only[zb,zf,ze,zd,zi,zg,if_true,reduceIte];unfold ziK;have hm1:∃m',m=m'+1:=by
      cases m with
      | zero=>exact absurd (zhM _ b2 seen2 (by omega) hbl) hbs
      | succ m=>exact⟨m,rfl⟩
     obtain⟨m',rfl⟩:=hm1;rw[zbp,if_neg hb0,if_neg (by rw[hbad];decide)]at hrd;have hof:=zwq p w b2 (by omega) (by omega);have hOf:=zwF p (zu w b2) (by unfold zu;simp;omega);(repeat refine za ?_);refine zr ?_;refine zfx ?_ (by simp(disch:=omega)only[go_sem,h0,h2]<;>rfl);refine zcg (by first|rfl|(simp only[go_sem]<;>rfl)) (by simp only[go_sem]<;>rfl) hof rfl ?_ ?_;(repeat(first|exact trivial|refine And.intro ?_ ?_|exact Id0.int _ _|exact Id0.bool _|exact Id0.list _ _ _|exact Id0.elem _|exact Id0.nilsl|exact Id0.str _|exact zcj _ _ _))
     by_cases hh:zbI (zu w b2)=true
     rotate_left
     ·have hh:zbI (zu w b2)=false:=by simpa using hh
      have he:zdB (zu w b2)=.ret (.tuple [zZ 0 zd0,iv 210]):=by unfold zdB;rw[if_neg (by rw[hh];decide)]
      rw[he]at hOf;rw[hh,zEI9,if_neg (by decide)]at hrd;refine zfx ?_;refine zca hOf ?_;refine zfx ?_;refine zh ?_;(repeat(first|refine za ?_|refine zgo ?_));refine zfc ?_ ?_
      ·intro _;(repeat(first|refine za ?_|refine zgo ?_));refine zq ?_;(try simp only[zb,zf,ze,zd,zg]);refine zj (by simp only[T137,zE,go_sem]<;>rfl) ?_;simp only[zG];refine zqg (G:=_) hd hrd ?_;exact hv.mono.mono
      ·intro h;cases h
     obtain⟨b12,b2048,bw⟩:=zdz hh;rw[zej _ hh]at hOf;rw[hh,zCA9]at hrd;generalize zaa (zu w b2)=nd at hOf hrd b12 b2048 bw;refine zfx ?_;refine zca hOf ?_;refine zfx ?_;refine zh ?_;(repeat refine za ?_);refine zr ?_;refine zfx ?_ (by simp(disch:=omega)only[go_sem,h1,h9,gm0,gm1,gm2,zc]<;>rfl);refine zcl (zw9 1 0 0 bs ns nd lv (by omega)) ?_ ?_;(repeat(first|exact trivial|refine And.intro ?_ ?_|exact .int _ _|exact .bool _|exact .list _ _ _|exact .elem _|exact .nilsl|exact .nil _ _|exact .str _|refine Frz.aggL ?_|refine Frz.fnL ?_|refine Frz.tupL ?_|refine .iface ?_|exact zbv rfl rfl (by assumption)))
     ·exact Frz.whole (e:=3) (z':=1) (G:=bs.length) (l:=bs.map fun(b:Nat)=>iv (b:Int)) (by simp only[zAY9,hm1]<;>rfl) rfl (by simp) (by simp) (fun v hv=>by obtain⟨x,_,rfl⟩:=zAP9.1 hv;rfl) ze2
     ·refine⟨Frz.whole (e:=124) (z':=6) (G:=ns.length) (l:=ns.map (zZ 0)) (by simp only[zAY9,km1]<;>rfl) rfl (by simp) (by simp) (fun v hv=>by obtain⟨x,_,rfl⟩:=zAP9.1 hv;rfl) zgr,trivial⟩
     ·(repeat(first|exact trivial|refine And.intro ?_ ?_|exact .int _ _|exact .bool _|exact .list _ _ _|exact .elem _|exact .nilsl|exact .nil _ _|exact .str _|refine Frz.aggL ?_|refine Frz.fnL ?_|refine Frz.tupL ?_|refine .iface ?_|exact zbv rfl rfl (by assumption)))
     by_cases hg:zbM ns nd lv=true
     rotate_left
     ·have hg:zbM ns nd lv=false:=by simpa using hg
      rw[hg]at hrd⊢;rw[if_neg (by decide)]at hrd;refine zfx ?_;refine zh ?_;refine zfc ?_ ?_
      ·intro _;(repeat(first|refine za ?_|refine zgo ?_));refine zq ?_;(try simp only[zb,zf,ze,zd,zg]);refine zj (by simp only[T137,zE,go_sem]<;>rfl) ?_;simp only[zG];refine zqg (G:=_) hd hrd ?_;exact hv.mono.mono
      ·intro h;cases h
     rw[hg]at hrd⊢;rw[if_pos rfl]at hrd;refine zfx ?_;refine zh ?_;refine zfc ?_ ?_
     ·intro h;cases h
     intro _;refine zF ?_;show W _ _ _ _ _ _;have hba:(bs.length+1)*9<=140737488355328:=by omega
     have hbb:(ns.length+1)*65<=140737488355328:=by omega
     (repeat refine za ?_);refine zag ?_;refine zda ?_ (by simp(disch:=omega)only[go_sem,h0,h9,gm0,gm1,gm2,hm0,hm1,hm2,km0,km1,km2,gm3,hm3,km3,sm3,tm3,um3,hba,hbb,zc]<;>rfl);refine zda ?_ (by simp(disch:=omega)only[go_sem,h9,zns,znG,znD,zmX,zmG,zmR,zmD,zmJ,zmI,zmW,zmH,zna,znj,zm5,zmV,znz,zm0,zmC,zm8,zm9,zmz,znE,znp,znw,zbF,zbH,zbE,zbG,zmL,zm7,znt,znf,zm6,zm4,znF,zmT,zmF,zmM,gm0,gm1,gm2,hm0,hm1,hm2,km0,km1,km2,gm3,hm3,km3,sm3,tm3,um3,hba,hbb,zc,gl2]<;>rfl) (by first|exact trivial|simp only[go_sem,h9,zns,znG,znD,zmX,zmG,zmR,zmD,zmJ,zmI,zmW,zmH,zna,znj,zm5,zmV,znz,zm0,zmC,zm8,zm9,zmz,znE,znp,znw,zbF,zbH,zbE,zbG,zmL,zm7,znt,znf,zm6,zm4,znF,zmT,zmF,zmM,gm0,gm1,gm2,hm0,hm1,hm2,km0,km1,km2,gm3,hm3,km3,sm3,tm3,um3,hba,hbb,zc,gl2]);refine zda ?_ (by simp(disch:=omega)only[go_sem,h9,zns,znG,znD,zmX,zmG,zmR,zmD,zmJ,zmI,zmW,zmH,zna,znj,zm5,zmV,znz,zm0,zmC,zm8,zm9,zmz,znE,znp,znw,zbF,zbH,zbE,zbG,zmL,zm7,znt,znf,zm6,zm4,znF,zmT,zmF,zmM,gm0,gm1,gm2,hm0,hm1,hm2,km0,km1,km2,gm3,hm3,km3,sm3,tm3,um3,hba,hbb,zc,gl2]<;>rfl) (by first|exact trivial|simp only[go_sem,h9,zns,znG,znD,zmX,zmG,zmR,zmD,zmJ,zmI,zmW,zmH,zna,znj,zm5,zmV,znz,zm0,zmC,zm8,zm9,zmz,znE,znp,znw,zbF,zbH,zbE,zbG,zmL,zm7,znt,znf,zm6,zm4,znF,zmT,zmF,zmM,gm0,gm1,gm2,hm0,hm1,hm2,km0,km1,km2,gm3,hm3,km3,sm3,tm3,um3,hba,hbb,zc,gl2]);refine zda ?_ (by simp(disch:=omega)only[go_sem,h9,zns,znG,znD,zmX,zmG,zmR,zmD,zmJ,zmI,zmW,zmH,zna,znj,zm5,zmV,znz,zm0,zmC,zm8,zm9,zmz,znE,znp,znw,zbF,zbH,zbE,zbG,zmL,zm7,znt,znf,zm6,zm4,znF,zmT,zmF,zmM,gm0,gm1,gm2,hm0,hm1,hm2,km0,km1,km2,gm3,hm3,km3,sm3,tm3,um3,hba,hbb,zc,gl2]<;>rfl) (by first|exact trivial|simp only[go_sem,h9,zns,znG,znD,zmX,zmG,zmR,zmD,zmJ,zmI,zmW,zmH,zna,znj,zm5,zmV,znz,zm0,zmC,zm8,zm9,zmz,znE,znp,znw,zbF,zbH,zbE,zbG,zmL,zm7,znt,znf,zm6,zm4,znF,zmT,zmF,zmM,gm0,gm1,gm2,hm0,hm1,hm2,km0,km1,km2,gm3,hm3,km3,sm3,tm3,um3,hba,hbb,zc,gl2]);refine zdl ?_ (by simp(disch:=omega)only[go_sem,h9]<;>rfl);refine zM ?_;simp only[zi,zS,zb,go_sem];have hlb:(bs++[b2]).length=bs.length+1:=by simp
     have hln:(ns++[nd]).length=ns.length+1:=by simp
     have hgl:(List.map (zZ 0) ns++[zZ 0 nd])[ns.length]?=some (zZ 0 nd):=by simp
     have hgs:IntKind.i64.wrap ((ns.length+1:Nat)-1)=ns.length:=by rw[show ((ns.length+1:Nat):Int)-1=(ns.length:Nat) by omega];exact wrap_i64 (by omega) (by omega)
     have hil:ns.length<ns.length+1:=zBT9 _;(repeat refine za ?_);refine zr ?_;refine zfx ?_ (by simp(disch:=omega)only[go_sem,h9,gm0,gm1,gm2,hm0,hm1,hm2,km0,km1,km2,gm3,hm3,km3,zc,hgl,hgs,hil]<;>rfl);refine zy ?_;simp only[zb,zf,ze,zd,zi,zg,if_true,↓reduceIte];refine⟨m',zBT9 _,m',b2::seen2,bs++[b2],ns++[nd],nd.sib,mo3,?G,rfl,?hu,hrd,by rw[hlb,hln,hbn],by rw[hlb];omega,hs3,?h0,by simp[upd,h1],by simp[upd,h2],by simp[upd,h3],by simp[upd,h4],by simp[upd,h5],by simp[upd,h9],trivial,?H⟩
     case hu=>have:=zjx _ _ _ hbl hbs;omega
     case h0=>simp[upd]
     case H =>
      rw[hlb,hln,zBZ9,zBZ9];simp only[zAF9,zAI9,zAL9];rfl
  ·intro hb0;have hb0:b2=0:=by simpa using hb0
   subst hb0;have hrd2:zbp w lv (w.length/64) seen [] [] b=some (seen2,bs,ns):=by rw[hrd];cases m<;>simp[zbp]
   clear hrd;obtain⟨hF,hfst,_⟩:=zey (N:=2048) _ _ _ _ _ _ hrd2 (LvF.nil w) (fun n hn=>by simp at hn) (by simp;omega);dsimp only at hF hfst;simp only[zb,zf,ze,zd,zi,zg,if_true,reduceIte]
   cases ns with
   | nil =>
    (repeat(first|refine za ?_|refine zgo ?_ (by simp(disch:=omega)only[go_sem,h9,gm0,hm0,km0,gm1,hm1,km1]<;>rfl)));refine zfc ?_ ?_
    ·intro _;(repeat(first|refine za ?_|refine zgo ?_));refine zq ?_;(try simp only[zb,zf,ze,zd,zg]);refine zj (by simp only[T137,zE,go_sem]<;>rfl) ?_;simp only[zG];have:zbD w (d+1) seen acc b lv=(acc,false):=by rw[zbD,hrd2]
     rw[this];exact⟨rfl,mo2,vs,_,rfl,hv.mono⟩
    ·intro h;cases h
   | cons nd ns =>
    have g0:¬((ns.length+1:Nat):Int)=0:=by omega
    (repeat(first|refine za ?_|refine zgo ?_ (by simp(disch:=omega)only[go_sem,h9,gm0,hm0,km0,gm1,hm1,km1,g0]<;>rfl)));refine zfc ?_ ?_
    ·intro h;cases h
    intro _;refine zF ?_;show W _ _ _ _ _ _;have hvl:=hv.1;have hbv:(vs.length+1)*49<=140737488355328:=by omega
    (repeat refine za ?_);refine zgo ?_ (by simp(disch:=omega)only[go_sem,h4,h9,hbv,gm0,gm1,gm2,zc,gm3]<;>rfl);have hg0:(List.map (zZ 0) (nd::ns))[0]?=some (zZ 0 nd):=rfl;have hi0:0<ns.length+1:=zCO9 _;obtain⟨hpp,b12,b2048⟩:=hF.node (zAV9 ..);(repeat refine za ?_);refine zgo ?_ (by simp(disch:=omega)only[go_sem,h9,hg0,hi0,gm0,gm1,gm2,hm0,hm1,hm2,km0,km1,km2,zc,gm3,hm3,km3]<;>rfl);have hX:=fun X=>hv.snoc (.row 100 2 0 0 [.agg [.sl (G.length+7) bs.length 0 bs.length (2*bs.length) 1,.sl (G.length+8) (ns.length+1) 0 (ns.length+1) (2*(ns.length+1)) 6]]) bs (nd::ns) X (ns.length+1) rfl
    by_cases hlv:nd.level=0
    ·have g1:(nd.level:Int)=0:=by omega
     (repeat refine za ?_);refine zgo ?_ (by simp(disch:=omega)only[go_sem,g1,zc,gm0,gm1,gm2]<;>rfl);refine zfc ?_ ?_
     ·intro _;have hnl:(nd::ns).length<=2048:=by rw[<- hF.len];omega
      have hll:=ze1 (nd::ns) fun n hn=>(hF.node hn).1;have hra:zbD w (d+1) seen acc b lv=(acc++[(bs,nd::ns)],zbi (zbQ (nd::ns))):=by rw[zbD,hrd2];simp only;rw[if_pos hlv]
      have hlp:=zkI 1 0 bs (nd::ns) (by omega) (fun n hn=>(hF.node hn).1) (by omega);unfold zfw at hlp
      by_cases hri:zbi (zbQ (nd::ns))=true
      ·rw[if_pos hri]at hlp;(repeat refine za ?_);refine zr ?_;refine zfx ?_ (by simp(disch:=omega)only[go_sem,h9,gm0,gm1,gm2,gm3,zc]<;>rfl);refine zcl hlp ?_ ?_;(repeat(first|exact trivial|refine And.intro ?_ ?_|exact .int _ _|exact .bool _|exact .list _ _ _|exact .elem _|exact .nilsl|exact .nil _ _|exact .str _|refine Frz.aggL ?_|refine Frz.fnL ?_|refine Frz.tupL ?_|refine .iface ?_|exact zbv rfl rfl (by assumption)))
       ·exact Frz.whole (e:=3) (z':=1) (G:=bs.length) (l:=bs.map fun(b:Nat)=>iv (b:Int)) (by simp only[zAY9,hm2]<;>rfl) rfl (by simp) (by simp) (fun v hv=>by obtain⟨x,_,rfl⟩:=zAP9.1 hv;rfl) ze2
       ·exact⟨Frz.whole (e:=124) (z':=6) (G:=ns.length+1) (l:=(nd::ns).map (zZ 0)) (by simp only[zAY9,km2]<;>rfl) rfl (by simp) (by simp) (fun v hv=>by obtain⟨x,_,rfl⟩:=zAP9.1 hv;rfl) zgr,trivial⟩
       ·(repeat(first|exact trivial|refine And.intro ?_ ?_|exact .int _ _|exact .bool _|exact .list _ _ _|exact .elem _|exact .nilsl|exact .nil _ _|exact .str _|refine Frz.aggL ?_|refine Frz.fnL ?_|refine Frz.tupL ?_|refine .iface ?_|exact zbv rfl rfl (by assumption)))
       refine zfx ?_;refine zh ?_;(repeat(first|refine za ?_|refine zgo ?_));refine zq ?_;(try simp only[zb,zf,ze,zd,zg]);refine zj (by simp only[T137,zE,go_sem]<;>rfl) ?_;simp only[zG];rw[hra,hri];refine⟨rfl,mo2,_,_,?e1,hX ?X1⟩
       case e1 =>
        unfold rdH;simp only[zAC9,zAE9,zAH9,zAN9,zAF9,zAI9];rfl
      ·rw[if_neg hri]at hlp;have hri:zbi (zbQ (nd::ns))=false:=by simpa using hri
       (repeat refine za ?_);refine zr ?_;refine zfx ?_ (by simp(disch:=omega)only[go_sem,h9,gm0,gm1,gm2,gm3,zc]<;>rfl);refine zcl hlp ?_ ?_;(repeat(first|exact trivial|refine And.intro ?_ ?_|exact .int _ _|exact .bool _|exact .list _ _ _|exact .elem _|exact .nilsl|exact .nil _ _|exact .str _|refine Frz.aggL ?_|refine Frz.fnL ?_|refine Frz.tupL ?_|refine .iface ?_|exact zbv rfl rfl (by assumption)))
       ·exact Frz.whole (e:=3) (z':=1) (G:=bs.length) (l:=bs.map fun(b:Nat)=>iv (b:Int)) (by simp only[zAY9,hm2]<;>rfl) rfl (by simp) (by simp) (fun v hv=>by obtain⟨x,_,rfl⟩:=zAP9.1 hv;rfl) ze2
       ·exact⟨Frz.whole (e:=124) (z':=6) (G:=ns.length+1) (l:=(nd::ns).map (zZ 0)) (by simp only[zAY9,km2]<;>rfl) rfl (by simp) (by simp) (fun v hv=>by obtain⟨x,_,rfl⟩:=zAP9.1 hv;rfl) zgr,trivial⟩
       ·(repeat(first|exact trivial|refine And.intro ?_ ?_|exact .int _ _|exact .bool _|exact .list _ _ _|exact .elem _|exact .nilsl|exact .nil _ _|exact .str _|refine Frz.aggL ?_|refine Frz.fnL ?_|refine Frz.tupL ?_|refine .iface ?_|exact zbv rfl rfl (by assumption)))
       refine zfx ?_;refine zh ?_;(repeat(first|refine za ?_|refine zgo ?_));refine zq ?_;(try simp only[zb,zf,ze,zd,zg]);refine zj (by simp only[T137,zE,go_sem]<;>rfl) ?_;simp only[zG];rw[hra,hri];refine⟨rfl,mo2,_,_,?e2,hX ?X2⟩
       case e2 =>
        unfold rdH;simp only[zAC9,zAE9,zAH9,zAN9,zAF9,zAI9];rfl
     ·intro h;cases h
    ·have g1:¬(nd.level:Int)=0:=by omega
     (repeat refine za ?_);refine zgo ?_ (by simp(disch:=omega)only[go_sem,g1,zc,gm0,gm1,gm2]<;>rfl);refine zfc ?_ ?_
     ·intro h;cases h
     intro _;refine zF ?_;show W _ _ _ _ _ _;have hra:zbD w (d+1) seen acc b lv=zbD w d seen2 (acc++[(bs,nd::ns)]) nd.left ((nd.level:Int)-1):=by rw[zbD,hrd2];simp only;rw[if_neg hlv]
     have hfl:=hfst nd rfl;have ihc:=fun X=>ih seen2 (acc++[(bs,nd::ns)]) nd.left ((nd.level:Int)-1) mo2 _ _ (by omega) hs2 (hX X) (by simp;omega);unfold rdH at ihc;simp only[show ∀v:PV,(vs++[v]).length=vs.length+1 from fun v=>by simp]at ihc;rw[<- hra]at ihc;(repeat refine za ?_);refine zr ?_;refine zfx ?_ (by simp(disch:=omega)only[go_sem,h5,gm0,gm1,gm2,gm3,zc]<;>rfl);simp only[zAF9,zAI9,zAL9];refine zdN (caps:=?caps) (vs:=?vs) ?g1 ?g2 (ihc ?X3) ?g3 ?g4 ?g5
     case g1=>first|rfl|(simp only[zab,zap,go_sem]<;>rfl)
     case g2=>simp only[go_sem,h5]<;>rfl
     case g3=>rfl
     case g4=>rfl
     rintro e H' ⟨rfl,mo',vs',G',rfl,hv'⟩;refine zfx ?_;refine zh ?_;refine zq ?_;(try simp only[zb,zf,ze,zd,zg]);refine zj (by simp only[T137,zE,go_sem]<;>rfl) ?_;simp only[zG];exact⟨rfl,mo',vs',G',rfl,hv'⟩
theorem f42:ET.funcs.get 42=some T42:=zL Tryz.func42
@[reducible] def zbK (T:List Lev):PV:=.list 0 2 (T.map fun L=>zbk 0 0 L.1 L.2)
theorem Lb.ivn {z:Nat}(l:List Nat):Lb (.list 0 z (l.map fun(b:Nat)=>iv (b:Int))):=.list fun x hx=>by
 obtain⟨y,hy,hx⟩:=zBC9.1 hx;obtain⟨n,_,rfl⟩:=zAP9.1 hy;simp[PV.cells]at hx;subst hx;exact .int _ _
theorem Lb.nodes {z:Nat}(l:List zB):Lb (.list 0 z (l.map (zZ 0))):=.list fun x hx=>by
 obtain⟨y,hy,hx⟩:=zBC9.1 hx;obtain⟨n,_,rfl⟩:=zAP9.1 hy;have:=Lb.node n
 cases this with
 | agg h=>exact h x hx
theorem zki (T:List Lev):Lb (zbK T):=.list fun x hx=>by
 obtain⟨y,hy,hx⟩:=zBC9.1 hx;obtain⟨L,_,rfl⟩:=zAP9.1 hy;simp[PV.cells]at hx;rcases hx with rfl|rfl
 ·exact Lb.ivn _
 ·exact Lb.nodes _
theorem zvZ {p:Nat}{w:List Nat}{mo:zn}{vs:List PV}{G:List zn}{T:List Lev}(h:zel G vs T):Frz (rdH p w mo vs G) 0 (.sl 5 vs.length 0 vs.length (2*vs.length) 2) (zbK T):=by
 have hf:LF (rdH p w mo vs G) 0 (vs.flatMap PV.cells) ((T.map fun L=>zbk 0 0 L.1 L.2).flatMap PV.cells):=LF.flat h.1 fun q L hL=>by
  have hq:q<vs.length:=by rw[h.1];exact(zAD9.1 hL).1
  obtain⟨i,j,e1,e2,e3⟩:=h.2 q _ L (zAB9 hq) hL;refine⟨_,(zAB9 hq).trans (congrArg some e1),?_,?_,trivial⟩
  ·exact Frz.whole (e:=3) (z':=1) (G:=L.1.length) (l:=L.1.map fun(b:Nat)=>iv (b:Int)) e2 rfl (by simp) (by simp) (fun v hv=>by obtain⟨x,_,rfl⟩:=zAP9.1 hv;rfl) ze2
  ·exact Frz.whole (e:=124) (z':=6) (G:=L.2.length) (l:=L.2.map (zZ 0)) e3 rfl (by simp) (by simp) (fun v hv=>by obtain⟨x,_,rfl⟩:=zAP9.1 hv;rfl) zgr
 have ht:(vs.drop 0).take vs.length=vs:=by rw[zFG9,zBK9]
 have hl:=h.1;refine .sl (e:=100) (M:=0) (G:=vs.length) (l:=vs) rfl (zAS9 _) (zAM9 _) (by omega) (zAM9 _) (by simp[hl]) (fun v hv=>by obtain⟨x,_,rfl⟩:=zAP9.1 hv;rfl) ?_ ?_
 ·rw[ht];exact zwy hf
 ·rw[ht];exact fun i x y hx hy=>hf.get hx hy
theorem zwP (p:Nat)(w:List Nat)(hw:64<=w.length/\w.length<=131072/\w.length%64=0)(a:Nat)(ha:a<w.length):FN ET 91 [wv p w,iv a] (.ret (.tuple [zbK (zO w a).1,.bool (zO w a).2])):=by
 refine zfn f91 (Lb.two (zki _) (.bool _)) ?_;have hwa:(w.map uv)[a]?=some (uv (w.getD a 0)):=by rw[zAG9,zAB9 ha,zAQ9,zAB9 ha];rfl
 (repeat(first|refine za ?_|refine zgo ?_));refine zjI 100 2 (id:=1) rfl ?_;simp only[lzy,zAE9,zAH9,zCK9,zCX9,zAI9,zAL9];have hc:=zwa p w hw 14 [] [] (w.getD a 0) (-1) .map0 [] [] (.inr (zAM9 _)) (.inl ⟨rfl,rfl⟩) ⟨rfl,fun k v l hv _=>by simp at hv⟩ (by decide);change FO ET 137 _ _ _ (zjV p w (zO w a))at hc;generalize zO w a=r at hc;(repeat refine za ?_);refine zag ?_;refine zog (s1:=?_) (caps:=?_) (vs:=?_) ?_ ?_ rfl rfl ?_ ?_ hc ?_ ?_ ?_;rotate_left 3;(first|exact trivial|(simp only[go_sem,hwa,ha]));(simp(disch:=omega)only[go_sem,wrap_i64,zJ,zaG,hwa,ha]<;>rfl);(first|rfl|(simp only[go_sem,hwa,ha]<;>rfl));(simp only[go_sem,hwa,ha]<;>rfl);rfl;rfl;rintro e H' ⟨rfl,mo',vs',G',rfl,hv'⟩;refine⟨_,by simp only[go_sem]<;>rfl,?_⟩;refine zdl ?_ (by simp(disch:=omega)only[go_sem,hwa]<;>rfl);refine zM ?_;simp only[zi,zS,zb,go_sem];unfold rdH;(repeat(first|refine za ?_|refine zgo ?_ (by simp(disch:=omega)only[go_sem,hwa]<;>rfl)));refine zq ?_;(try simp only[zb,zf,ze,zd,zg]);refine zj (by simp only[T91,zE,go_sem]<;>rfl) ?_;simp only[zG];exact Frz.tupL ⟨zvZ hv',.bool _,trivial⟩
def zgJ (w:List Nat)(a:Int):FE:=if zbw w.length a=true then if(zO w a.toNat).2=true then .ret (zbK (zO w a.toNat).1)else .panic (zc0 220)else .panic (zc0 2)
theorem zcC (n:Nat)(a:Int):zbw n a=true↔(64<=n/\n%64=0/\n<=131072/\0<=a/\a<n):=by unfold zbw;simp[and_assoc]
theorem zhn (p:Nat)(w:List Nat)(a:Int)(hs:za2 w.length):FN ET 42 [wv p w,iv a] (zgJ w a):=by
 have hr:=zp4 p w a hs;unfold zgJ
 by_cases h:zbw w.length a=true
 rotate_left
 ·rw[if_neg h]at hr⊢;refine zfn f42 (.iface (.int _ _)) ?_;(repeat(first|refine za ?_|refine zgo ?_));(repeat refine za ?_);refine zrg ?_;refine zcx hr ?_;(try(refine .iface ?_;exact .int _ _))
 rw[if_pos h]at hr⊢;have hb:=(zcC _ _).1 h;obtain⟨n,rfl⟩:∃n:Nat,a=n:=⟨a.toNat,by omega⟩
 have hrd:=zwP p w ⟨hb.1,hb.2.2.1,hb.2.1⟩ n (by omega);rw[zCU9];generalize zO w n=r at hrd;obtain⟨T,b⟩:=r
 cases b with
 | true =>
  rw[if_pos rfl];refine zfn f42 (zki _) ?_;(repeat(first|refine za ?_|refine zgo ?_));(repeat refine za ?_);refine zrg ?_;refine zca hr ?_;refine zfx ?_;refine zh ?_;(repeat refine za ?_);refine zrg ?_;refine zca hrd ?_;refine zfx ?_;refine zh ?_;(repeat refine za ?_);refine zrg ?_;refine zca (zhh 220) ?_;refine zfx ?_;refine zh ?_;(repeat(first|refine za ?_|refine zgo ?_));refine zq ?_;(try simp only[zb,zf,ze,zd,zg]);refine zj (by simp only[T42,zE,go_sem]<;>rfl) ?_;simp only[zG];exact Frz.list _ _ _
 | false =>
  rw[if_neg (show ¬(T,false).2=true from Bool.false_ne_true)];refine zfn f42 (.iface (.int _ _)) ?_;(repeat(first|refine za ?_|refine zgo ?_));(repeat refine za ?_);refine zrg ?_;refine zca hr ?_;refine zfx ?_;refine zh ?_;(repeat refine za ?_);refine zrg ?_;refine zca hrd ?_;refine zfx ?_;refine zh ?_;(repeat refine za ?_);refine zrg ?_;refine zcx (zeq 220) ?_;(try(refine .iface ?_;exact .int _ _))
theorem f16:ET.funcs.get 16=some T16:=zL Tryz.func16
theorem f54:ET.funcs.get 54=some T54:=zL Tryz.func54
theorem c35:ET.caught.get 35=some ():=by kernel_rfl
def zb6 (T:List Lev):Lev:=T.getLastD ([],[])
theorem zga {T:List Lev}(h:T ≠ []):T[T.length-1]?=some (zb6 T)/\T.getLast?=some (zb6 T):=by
 have:T.getLast?=some (zb6 T):=by unfold zb6;rw[List.getLastD_eq_getLast?];cases T with
  | nil=>exact absurd rfl h
  | cons a l=>rw[List.getLast?_eq_some_getLast (by simp)];rfl
 exact⟨by rw[<- zCF9];exact this,this⟩
theorem zf7 (w:List Nat):∀(d:Nat) (seen:List Nat) (acc:List Lev) (b:Nat) (lv:Int),(zbD w d seen acc b lv).1.length<=acc.length+d
 | 0,_,acc,_,_=>zAM9 _
 | d+1,seen,acc,b,lv=>by
  rw[zbD]
  split
  ·simp
  ·simp
  ·split
   ·simp
   ·refine zBN9 (zf7 w d _ _ _ _) ?_;simp;omega
theorem zbW {w:List Nat}(hw:w.length<=131072)(a:Nat){T:List Lev}(h:zO w a=(T,true)):(∀L∈T,zgu w L)/\(∀L∈T.dropLast,zha L)/\T ≠ []/\zbi (zbQ (zb6 T).2)=true/\T.length<=14:=by
 have hle:=zf7 w 14 [] [] (w.getD a 0) (-1);change (zO w a).1.length<=0+14 at hle;have hf:=zeV hw 14 [] [] (w.getD a 0) (-1) (fun L hL=>by simp at hL);change (∀L∈(zO w a).1,zgu w L)/\(∀L∈(zO w a).1.dropLast,zha L)/\((zO w a).2=true->(zO w a).1 ≠ []/\∀M,(zO w a).1.getLast?=some M->zbi (zbQ M.2)=true)at hf;rw[h]at hf hle;obtain⟨h1,h2,h3⟩:=hf;obtain⟨h3,h4⟩:=h3 rfl;exact⟨h1,h2,h3,h4 _ (zga h3).2,by simpa using hle⟩
def zfs (w:List Nat)(a:Int):FE:=if zbw w.length a=true then if(zO w a.toNat).2=true then .ret (.tuple [psv 0 (zbQ (zb6 (zO w a.toNat).1).2),iv 0])else .ret (.tuple [psv 0 [],iv 220])else .ret (.tuple [psv 0 [],iv 2])
theorem zxi:FO ET 54 [.ptr 0 0 0 0 1] [.row 41 1 0 0 [.nilsl],.row 31 1 0 0 [iv 0]] false fun e H'=>e=.ret (.tuple [])/\H'=[.row 41 1 0 0 [.nilsl],.row 31 1 0 0 [iv 0]]:=by
 refine zro f54 ?_;(repeat refine za ?_);refine zrg ?_;refine zy ?_;exact⟨[],rfl,rfl,rfl⟩
theorem zxG (p:Nat)(w:List Nat)(a:Int)(hs:za2 w.length):FN ET 16 [wv p w,iv a] (zfs w a):=by
 have hl:=zhn p w a hs;have hlb:LbE (zfs w a):=by
  unfold zfs
  split
  ·split
   ·exact Lb.two (Lb.pvs _) (.int _ _)
   ·exact Lb.two (Lb.pvs _) (.int _ _)
  ·exact Lb.two (Lb.pvs _) (.int _ _)
 refine zfn f16 hlb ?_;(repeat(first|refine za ?_|refine zgo ?_));(repeat refine za ?_);refine zrg ?_;refine zfT (f:=35) (p:=.ptr 1 0 0 0 1) (cl:=.fn 54 [.ptr 0 0 0 0 1]) ?_ ?_ c35 ?_
 ·rfl
 ·simp only[go_sem]<;>rfl
 refine zfx ?_;refine zh ?_;(repeat refine za ?_);refine zrg ?_;have bad:∀(tm:Nat->PV) (n:Nat),zfs w a=.ret (.tuple [psv 0 [],iv n])->tm 4=.ptr 0 0 0 0 1->tm 5=.ptr 1 0 0 0 1->zcT ET T16 (fun e' H=>zay H 0 e' (zfs w a)) (.panic (zc0 n)) ⟨tm,[.caught (.ptr 1 0 0 0 1) (.fn 54 [.ptr 0 0 0 0 1])],[.row 41 1 0 0 [.nilsl],.row 31 1 0 0 [iv 0]]⟩:=fun tm n hn h4 h5=>by
  refine⟨n,54,[.ptr 0 0 0 0 1],false,1,0,1,rfl,rfl,rfl,zxi.mono fun e H he=>?_⟩;obtain⟨rfl,rfl⟩:=he;refine⟨rfl,_,rfl,[.nilsl,iv n],?_,?_⟩
  ·simp[T16,xT,zE,okv,h4,h5,zae,zaC,zaJ,zao];rfl
  ·rw[hn];exact Frz.tupL ⟨.nil _ _,.int _ _,trivial⟩
 unfold zgJ at hl
 by_cases hr:zbw w.length a=true
 rotate_left
 ·rw[if_neg hr]at hl;refine zcx hl ?_;exact bad _ 2 (by unfold zfs;rw[if_neg hr];rfl) rfl rfl
 rw[if_pos hr]at hl;have hb:=(zcC _ _).1 hr
 by_cases ht:(zO w a.toNat).2=true
 rotate_left
 ·rw[if_neg ht]at hl;refine zcx hl ?_;exact bad _ 220 (by unfold zfs;rw[if_pos hr,if_neg ht];rfl) rfl rfl
 rw[if_pos ht]at hl;have hall:zfs w a=.ret (.tuple [psv 0 (zbQ (zb6 (zO w a.toNat).1).2),iv 0]):=by unfold zfs;rw[if_pos hr,if_pos ht]
 obtain⟨f1,f2,f3,f4,f5⟩:=zbW (w:=w) (T:=(zO w a.toNat).1) (by omega) a.toNat (by rw[<- ht]);rw[hall];clear bad;generalize (zO w a.toNat).1=T at hl f1 f2 f3 f4 f5;obtain⟨g1,g2⟩:=zga f3;have hlen:T.length≠0:=fun h=>f3 (zCG9 h);have hLF:=f1 _ (zAK9 g1);have hget:(T.map fun L=>zbk 0 0 L.1 L.2)[T.length-1]?=some (zbk 0 0 (zb6 T).1 (zb6 T).2):=by rw[zAG9,g1];rfl
 have hll:=ze1 (zb6 T).2 fun n hn=>(hLF.lv.node hn).1;have hfew:=hLF.few;have hlp:=zkI 0 0 (zb6 T).1 (zb6 T).2 (by omega) (fun n hn=>(hLF.lv.node hn).1) (by omega);unfold zfw at hlp;rw[if_pos f4]at hlp;refine zca hl ?_;refine zfx ?_;refine zh ?_;have hq:IntKind.i64.wrap ((T.length:Int)-1)=((T.length-1:Nat):Int):=by rw[wrap_i64 (by omega) (by omega)];omega
 have hi:T.length-1<T.length:=by omega
 (repeat refine za ?_);refine zrg ?_ (by simp(disch:=omega)only[go_sem,hq,hget,hi]<;>rfl);refine zca hlp ?_;refine zfx ?_;refine zh ?_;(repeat(first|refine za ?_|refine zgo ?_));refine zq ?_;exact⟨[psv 0 (zbQ (zb6 T).2),iv 0],rfl,Frz.tupL ⟨.list _ _ _,.int _ _,trivial⟩⟩
@[reducible] def cvI (x:Pr):PV:=.agg [uv x.1,.int .i64 (IntKind.i64.wrap (x.2:Int))]
theorem zxQ {x:Pr}(h:x.2<9223372036854775808):cvI x=cv x:=by
 unfold cvI cv;rw[wrap_i64 (by omega) (by omega)]
theorem zvP (G:List zn)(r r2:zn)(V0:List PV)(ps:List Pr)(hb:V0.length+ps.length<1000000)(tm:Nat->PV)(G3:List zn)(h8:tm 8=.sl (G.length+1) V0.length 0 V0.length (2*V0.length) 2)(h93:tm 93=psv 0 ps)(h94:tm 94=iv ps.length)(h95:tm 95=iv 0){Q:FX->FSt->Prop}
  (hQ:∀(tm':Nat->PV) (V:List PV) (G4:List zn),V=V0++ps.map cvI->(∀k,k≠8->k≠14->(k<95\/108<k)->tm' k=tm k)->tm' 8=.sl (G.length+1) V.length 0 V.length (2*V.length) 2->Q .norm ⟨tm',[],G++r::.row 138 2 V.length 0 V::r2::G4⟩) :
  W ET ET.caught none c60_4 ⟨tm,[],G++r::.row 138 2 V0.length 0 V0::r2::G3⟩ Q:=by
 unfold c60_4 xC;refine zD (zas (fun m s=>∃(j:Nat) (V:List PV) (G4:List zn),m=ps.length-j/\j<=ps.length/\V=V0++(ps.take j).map cvI/\(∀k,k≠8->k≠14->k≠95->(k<95\/108<k)->s.tm k=tm k)/\s.tm 8=.sl (G.length+1) V.length 0 V.length (2*V.length) 2/\s.tm 95=iv j/\s.df=[]/\s.H=G++r::.row 138 2 V.length 0 V::r2::G4) (n:=ps.length) ?_ ?_)
 ·exact⟨0,V0,G3,rfl,zAS9 _,by simp,fun k _ _ _ _=>rfl,h8,h95,rfl,rfl⟩
 ·rintro m ⟨tn,df,H⟩ ⟨j,V,G4,rfl,hj,hV,hf,h8',h95',rfl,rfl⟩;dsimp only at hf h8' h95';have h93':=(hf 93 (by decide) (by decide) (by decide) (by decide)).trans h93;have h94':=(hf 94 (by decide) (by decide) (by decide) (by decide)).trans h94;have hVl:V.length=V0.length+j:=by rw[hV];simp;omega
  (try refine zK ?_);refine za (zr ?_);refine zfx ?_ (by simp(disch:=omega)only[go_sem,h93',h94',h95']<;>rfl);refine zh ?_;refine zN (by simp only[go_sem]<;>rfl) ?_ ?_
  ·intro hlt;have hlt:j<ps.length:=by have:=of_decide_eq_true hlt;omega
   obtain⟨q,hq⟩:∃q,ps[j]?=some q:=⟨_,zAB9 hlt⟩
   have hqv:(ps.map pv)[j]?=some (pv q):=by rw[zAG9,hq];rfl
   have hb2:(V.length+1)*17<=140737488355328:=by omega
   have hV2:V++[cvI q]=V0++(ps.take (j+1)).map cvI:=by rw[zBM9,hq,hV];simp
   (repeat refine za ?_);refine zD ?_;(repeat(first|refine za ?_|refine zgo ?_ (by simp(disch:=omega)only[go_sem,h8',h93',h95',hqv,hb2,zc,zk,gm0,gm1,gm2,hm0,hm1,hm2,tm0,tm1,tm2]<;>rfl)));(repeat refine za ?_);refine zrg ?_ (by simp(disch:=omega)only[go_sem,h8',h93',h95',hqv,hb2,zc,zk,gm0,gm1,gm2,hm0,hm1,hm2,tm0,tm1,tm2]<;>rfl);refine zy ?_;simp only[zb,zf,ze,zd,zi,zg,if_true,↓reduceIte];(repeat refine za ?_);refine zrg ?_ (by simp(disch:=omega)only[go_sem,h95']<;>rfl);refine zy ?_;simp only[zb,zf,ze,zd,zi,zg,if_true,↓reduceIte];refine⟨_,?m,j+1,V++[cvI q],?G4,rfl,hlt,hV2,?f,?h8,by simp[upd,h95'],trivial,?H⟩
   case m=>omega
   case f=>intro k k1 k2 k3 k4;simp(disch:=omega)only[zb1];exact hf k k1 k2 k3 k4
   case h8=>simp[upd]
   case H =>
    rw[zAC9];simp only[zAF9,zAI9,zAL9];rfl
  ·intro hlt;have hlt:¬j<ps.length:=by have:=of_decide_eq_false hlt;omega
   obtain rfl:j=ps.length:=by omega
   simp only[zb,zf,ze,zd,zi,zg,if_true,reduceIte];refine hQ _ V G4 (by rw[hV,zBK9]) (fun k k1 k2 k3=>?_) (by simp[upd,h8']);simp(disch:=omega)only[zb1];exact hf k k1 k2 (by omega) k3
section
variable {α:Type}(G l m n o:List α)(x y z u:α)
theorem um0:(G++x::y::z::l).set (G.length+2) u=G++x::y::u::l:=by simp[zBV9]
theorem um1:(G++x::y::z::l++m).set (G.length+2) u=G++x::y::u::l++m:=by simp[zBV9]
theorem um2:(G++x::y::z::l++m++n).set (G.length+2) u=G++x::y::u::l++m++n:=by simp[zBV9]
end
theorem zug {M:Lev}{j:Nat}{x:zB}{b:Nat}(hx:M.2[j]?=some x)(hb:M.1[j]?=some b):(zcv M).take (j+1)=(zcv M).take j++[(x.low,b)]:=by
 have:(zcv M)[j]?=some (x.low,b):=by
  unfold zcv;rw[zDK9];exact⟨by rw[zAG9,hx];rfl,hb⟩
 rw[zBM9,this];rfl
theorem zu3 (G:List zn)(r r1:zn)(T:List Lev)(M:Lev)(n:Nat)(hn:n<1000000)(hM:T[n+1]?=some M)(hlen:M.1.length=M.2.length)(hfew:M.2.length<=2048)(tm:Nat->PV)(G3:List zn)(h5:tm 5=zbK T)(h6:tm 6=iv n)(h9:tm 9=.sl (G.length+2) 0 0 0 0 2)(h120:tm 120=.list 0 6 (M.2.map (zZ 0)))(h121:tm 121=iv M.2.length)(h122:tm 122=iv 0){Q:FX->FSt->Prop}
  (hQ:∀(tm':Nat->PV) (V:List PV) (G4:List zn),V=(zcv M).map cv->(∀k,k≠9->k≠15->k≠16->(k<122\/142<k)->tm' k=tm k)->tm' 9=.sl (G.length+2) V.length 0 V.length (2*V.length) 2->Q .norm ⟨tm',[],G++r::r1::.row 138 2 V.length 0 V::G4⟩) :
  W ET ET.caught none c60_6 ⟨tm,[],G++r::r1::.row 138 2 0 0 []::G3⟩ Q:=by
 unfold c60_6 xC;have hLT:(T.map fun L=>zbk 0 0 L.1 L.2)[n+1]?=some (zbk 0 0 M.1 M.2):=by rw[zAG9,hM];rfl
 have hnT:n+1<T.length:=(zAD9.1 hM).1;have e1:((n:Int)+1)=((n+1:Nat):Int):=by omega
 have hll:(zcv M).length=M.2.length:=by unfold zcv;simp[hlen]
 refine zD (zas (fun m s=>∃(j:Nat) (V:List PV) (G4:List zn),m=M.2.length-j/\j<=M.2.length/\V=((zcv M).take j).map cv/\(∀k,k≠9->k≠15->k≠16->k≠122->(k<122\/142<k)->s.tm k=tm k)/\s.tm 9=.sl (G.length+2) V.length 0 V.length (2*V.length) 2/\s.tm 122=iv j/\s.df=[]/\s.H=G++r::r1::.row 138 2 V.length 0 V::G4) (n:=M.2.length) ?_ ?_)
 ·exact⟨0,[],G3,rfl,zAS9 _,by simp,fun k _ _ _ _ _=>rfl,h9,h122,rfl,rfl⟩
 ·rintro m ⟨tn,df,H⟩ ⟨j,V,G4,rfl,hj,hV,hf,h9',h122',rfl,rfl⟩;dsimp only at hf h9' h122';have h5':=(hf 5 (by decide) (by decide) (by decide) (by decide) (by decide)).trans h5;have h6':=(hf 6 (by decide) (by decide) (by decide) (by decide) (by decide)).trans h6;have h120':=(hf 120 (by decide) (by decide) (by decide) (by decide) (by decide)).trans h120;have h121':=(hf 121 (by decide) (by decide) (by decide) (by decide) (by decide)).trans h121;have hVl:V.length=j:=by rw[hV];simp;omega
  (try refine zK ?_);refine za (zr ?_);refine zfx ?_ (by simp(disch:=omega)only[go_sem,h120',h121',h122']<;>rfl);refine zh ?_;refine zN (by simp only[go_sem]<;>rfl) ?_ ?_
  ·intro hlt;have hlt:j<M.2.length:=by have:=of_decide_eq_true hlt;omega
   have hlt1:j<M.1.length:=by omega
   obtain⟨x,hx⟩:∃x,M.2[j]?=some x:=⟨_,zAB9 hlt⟩
   obtain⟨b,hb⟩:∃b,M.1[j]?=some b:=⟨_,zAB9 hlt1⟩
   have hxv:(M.2.map (zZ 0))[j]?=some (zZ 0 x):=by rw[zAG9,hx];rfl
   have hbv:(M.1.map fun(b:Nat)=>iv (b:Int))[j]?=some (iv b):=by rw[zAG9,hb];rfl
   have hb2:(V.length+1)*17<=140737488355328:=by omega
   have hV2:V++[cv (x.low,b)]=((zcv M).take (j+1)).map cv:=by rw[zug hx hb,hV];simp
   (repeat refine za ?_);refine zD ?_;(repeat(first|refine za ?_|refine zgo ?_ (by simp(disch:=omega)only[go_sem,h120',h122',hxv,zc,zk]<;>rfl)));refine zag ?_;refine zda ?_ (by simp(disch:=omega)only[go_sem,h9',h5',h6',hLT,hnT,e1,hbv,hlt1,hb2,zc,km0,km1,km2,um0,um1,um2]<;>rfl);refine zdl ?_ (by simp(disch:=omega)only[go_sem,h5']<;>rfl);refine zM ?_;simp only[zi,zS,zb,go_sem];(repeat refine za ?_);refine zrg ?_ (by simp(disch:=omega)only[go_sem,h122']<;>rfl);refine zy ?_;simp only[zb,zf,ze,zd,zi,zg,if_true,↓reduceIte];refine⟨_,?m,j+1,V++[cv (x.low,b)],?G4,rfl,hlt,hV2,?f,?h9,by simp[upd,h122'],trivial,?H⟩
   case m=>omega
   case f=>intro k k1 k2 k3 k4 k5;simp(disch:=omega)only[zb1];exact hf k k1 k2 k3 k4 k5
   case h9=>simp[upd]
   case H =>
    rw[zAC9];simp only[zAF9,zAI9,zAL9];rfl
  ·intro hlt;have hlt:¬j<M.2.length:=by have:=of_decide_eq_false hlt;omega
   obtain rfl:j=M.2.length:=by omega
   simp only[zb,zf,ze,zd,zi,zg,if_true,reduceIte];refine hQ _ V G4 (by rw[hV,<- hll,zBK9]) (fun k k1 k2 k3 k4=>?_) (by simp[upd,h9']);simp(disch:=omega)only[zb1];exact hf k k1 k2 k3 (by omega) k4
def zoV (w:List Nat)(L:Lev):List Lev->Bool
 | []=>true
 | M::T=>decide (L.2.flatMap zcn=zcv M)&&zbP w (M::T)
theorem zpe (w:List Nat)(L:Lev)(R:List Lev):zbP w (L::R)=(zb4 w L.1 L.2&&zoV w L R):=by
 cases R with
 | nil=>rw[zbP,zoV,Bool.and_true]
 | cons M R=>rw[zbP,zoV,Bool.and_assoc]
theorem ziX (w:List Nat)(bs:List Nat)(ns:List zB)(i:Nat)(b:Nat)(n:zB)(hb:bs[i]?=some b)(hn:ns[i]?=some n):zb4 w (bs.drop i) (ns.drop i)=(decide (zbh (zu w b)=0)&&zcW n ns[i+1]? && zb4 w (bs.drop (i+1)) (ns.drop (i+1))):=by
 obtain⟨h1,rfl⟩:=zAD9.1 hb;obtain⟨h2,rfl⟩:=zAD9.1 hn;rw[zAU9 h1,zAU9 h2,zb4,List.head?_drop]
theorem ztt (ns:List zB)(i:Nat)(n:zB)(hn:ns[i]?=some n):(ns.take (i+1)).flatMap zcn=(ns.take i).flatMap zcn++zcn n:=by
 rw[zBM9,hn,zCT9];simp
theorem zqK {ns:List zB}(h:∀n∈ns,n.pairs.length<=28):(ns.flatMap zcn).length<=29*ns.length:=by
 induction ns with
 | nil=>exact zAS9 _
 | cons n ns ih =>
  have h1:=h n (zAV9 ..);have h2:=ih fun m hm=>h m (zAT9 _ hm);rw[zBS9,zAC9,zAE9];have:(zcn n).length=n.pairs.length+1:=rfl;omega
theorem gp1 {α:Type}(G l q:List α)(a b b' p:α):(G++a::b'::l++[p]++q)[(G++a::b::l).length]?=some p:=by
 have:(G++a::b::l).length=(G++a::b'::l).length:=by simp
 rw[this,zAF9,zAO9 (zAM9 _),Nat.sub_self];rfl
theorem gp2 {α:Type}(G l q:List α)(a b b' p:α):(G++a::b'::(l++p::q))[(G++a::b::l).length]?=some p:=by
 have:=gp1 G l q a b b' p
 rwa [zAF9,zAF9]at this
theorem zuZ (p:Nat)(w:List Nat)(hs:za2 w.length)(G:List zn)(r2:zn)(L:Lev)(hLF:zgu w L)(tm:Nat->PV)(G3:List zn)(h0:tm 0=wv p w)(h7:tm 7=.ptr G.length 0 0 0 2)(h8:tm 8=.sl (G.length+1) 0 0 0 0 2)(h37:tm 37=.list 0 6 (L.2.map (zZ 0)))(h38:tm 38=iv L.2.length)(h39:tm 39=iv 0){Q:FX->FSt->Prop}
  (hP:zb4 w L.1 L.2=false->∀tm' H,Q (.panic (zc0 220)) ⟨tm',[],H⟩)
  (hQ:∀(tm':Nat->PV) (V:List PV) (G4:List zn),zb4 w L.1 L.2=true->V=(L.2.flatMap zcn).map cvI->(∀(j b:Nat),L.1[j]?=some b->zbh (zu w b)=0)->(∀k,k≠8->k≠10->k≠11->k≠12->k≠14->(k<39\/109<k)->tm' k=tm k)->tm' 8=.sl (G.length+1) V.length 0 V.length (2*V.length) 2->Q .norm ⟨tm',[],G++.row 100 2 0 0 [zbk 0 0 L.1 L.2]::.row 138 2 V.length 0 V::r2::G4⟩) :
  W ET ET.caught none c60_2 ⟨tm,[],G++.row 100 2 0 0 [zbk 0 0 L.1 L.2]::.row 138 2 0 0 []::r2::G3⟩ Q:=by
 unfold c60_2 xC;have hbl:=hLF.lv.len;have hfew:=hLF.few;refine zD (zas (fun m s=>∃(i:Nat) (V:List PV) (G4:List zn),m=L.2.length-i/\i<=L.2.length/\V=((L.2.take i).flatMap zcn).map cvI/\zb4 w L.1 L.2=zb4 w (L.1.drop i) (L.2.drop i)/\(∀(j b:Nat),j<i->L.1[j]?=some b->zbh (zu w b)=0)/\(∀k,k≠8->k≠10->k≠11->k≠12->k≠14->(k<39\/109<k)->s.tm k=tm k)/\s.tm 8=.sl (G.length+1) V.length 0 V.length (2*V.length) 2/\s.tm 39=iv i/\s.df=[]/\s.H=G++.row 100 2 0 0 [zbk 0 0 L.1 L.2]::.row 138 2 V.length 0 V::r2::G4) (n:=L.2.length) ?_ ?_)
 ·exact⟨0,[],G3,rfl,zAS9 _,rfl,rfl,fun j b h=>absurd h (zEY9 _),fun k _ _ _ _ _ _=>rfl,h8,h39,rfl,rfl⟩
 ·rintro m ⟨tn,df,H⟩ ⟨i,V,G4,rfl,hi,hV,hls,hck,hf,h8',h39',rfl,rfl⟩;dsimp only at hf h8' h39';have h0':=(hf 0 (by decide) (by decide) (by decide) (by decide) (by decide) (by decide)).trans h0;have h7':=(hf 7 (by decide) (by decide) (by decide) (by decide) (by decide) (by decide)).trans h7;have h37':=(hf 37 (by decide) (by decide) (by decide) (by decide) (by decide) (by decide)).trans h37;have h38':=(hf 38 (by decide) (by decide) (by decide) (by decide) (by decide) (by decide)).trans h38;(try refine zK ?_);refine za (zr ?_);refine zfx ?_ (by simp(disch:=omega)only[go_sem,h37',h38',h39']<;>rfl);refine zh ?_;refine zN (by simp only[go_sem]<;>rfl) ?_ ?_;rotate_left
  ·intro hlti;have hlti:¬i<L.2.length:=by have:=of_decide_eq_false hlti;omega
   obtain rfl:i=L.2.length:=by omega
   simp only[zb,zf,ze,zd,zi,zg,if_true,reduceIte];refine hQ _ V G4 (by rw[hls,<- hbl,zBG9];rfl) (by rw[hV,zBK9]) (fun j b hb=>hck j b (by have:=(zAD9.1 hb).1;omega) hb) (fun k k1 k2 k3 k4 k5 k6=>?_) (by simp[upd,h8']);simp(disch:=omega)only[zb1];exact hf k k1 k2 k3 k4 k5 k6
  intro hlti;have hlti:i<L.2.length:=by have:=of_decide_eq_true hlti;omega
  obtain⟨x,hx⟩:∃x,L.2[i]?=some x:=⟨_,zAB9 hlti⟩
  obtain⟨b,hb⟩:∃b,L.1[i]?=some b:=⟨_,zAB9 (by omega)⟩
  have hbl':i<L.1.length:=by omega
  have hxv:(L.2.map (zZ 0))[i]?=some (zZ 0 x):=by rw[zAG9,hx];rfl
  have hbv:(L.1.map fun(b:Nat)=>iv (b:Int))[i]?=some (iv b):=by rw[zAG9,hb];rfl
  have hbw:=(hLF.lv.each b (zAK9 hb)).1;have hof:=zwq p w b hs (by omega);have hch:=zum p (zu w b) (by unfold zu;simp;omega);rw[ziX w L.1 L.2 i b x hb hx]at hls;have hKl:=zqK (ns:=L.2.take i) fun n hn=>(hLF.lv.node (zCE9 hn)).1;rw[zBB9]at hKl;have hVl:V.length<=29*L.2.length:=by rw[hV,zAA9];omega
  have hKt:=ztt L.2 i x hx;have hxl:=(hLF.lv.node (zAK9 hx)).1;(repeat refine za ?_);refine zD ?_;(repeat(first|refine za ?_|refine zgo ?_ (by simp(disch:=omega)only[go_sem,h37',h39',hxv,zc,zk]<;>rfl)));(repeat refine za ?_);refine zrg ?_ (by simp(disch:=omega)only[go_sem,h0',h7',gm0,gm1,gm2,zc,hbv,hbl']<;>rfl);refine zcg (by first|rfl|(simp only[go_sem]<;>rfl)) (by simp only[go_sem]<;>rfl) hof rfl ?_ ?_;(repeat(first|exact trivial|refine And.intro ?_ ?_|exact Id0.int _ _|exact Id0.bool _|exact Id0.list _ _ _|exact Id0.elem _|exact Id0.nilsl|exact Id0.str _|exact zcj _ _ _));refine zfx ?_;refine zca hch ?_
  by_cases hc0:zbh (zu w b)=0
  rotate_left
  ·have g:¬((zbh (zu w b):Nat):Int)=0:=by omega
   refine zfx ?_ (by simp(disch:=omega)only[go_sem,g]<;>rfl);refine zcx (zeq 220) ?_;exact hP (by rw[hls];simp[hc0]) _ _
  have g:((zbh (zu w b):Nat):Int)=0:=by omega
  refine zfx ?_ (by simp(disch:=omega)only[go_sem,g]<;>rfl);refine zca (zhh 220) ?_;refine zfx ?_;refine zh ?_;(repeat refine za ?_);(repeat refine za ?_);refine zgo ?_ (by simp(disch:=omega)only[go_sem,zc]<;>rfl);have e1:((i:Int)+1)=((i+1:Nat):Int):=by omega
  generalize hH0:G++zn.row 100 2 0 0 [zbk 0 0 L.1 L.2]::.row 138 2 V.length 0 V::r2::G4=H0;refine zbA (Q:=fun y s'=>(y=.norm/\zcW x L.2[i+1]?=true/\(∀k,k≠8->k≠10->k≠11->k≠12->k≠14->(k<39\/109<k)->s'.tm k=tm k)/\s'.tm 8=.sl (G.length+1) V.length 0 V.length (2*V.length) 2/\s'.tm 11=.ptr H0.length 0 0 0 6/\s'.tm 39=iv i/\s'.df=[]/\s'.H=H0++[.row 124 6 0 0 [zZ 0 x]])\/(y=.panic (zc0 220)/\zcW x L.2[i+1]?=false/\s'.df=[])) ?_ ?_
  ·have hfr:∀(t:Nat->PV),(∀k,k≠8->k≠10->k≠11->k≠12->k≠14->(k<39\/109<k)->t k=tn k)->∀k,k≠8->k≠10->k≠11->k≠12->k≠14->(k<39\/109<k)->t k=tm k:=fun t ht k k1 k2 k3 k4 k5 k6=>(ht k k1 k2 k3 k4 k5 k6).trans (hf k k1 k2 k3 k4 k5 k6)
   by_cases hp0:x.pairs.length=0
   ·have g0:¬(0:Int)<(x.pairs.length:Nat):=by omega
    (repeat refine za ?_);(repeat refine za ?_);refine zgo ?_ (by simp(disch:=omega)only[go_sem,g0]<;>rfl);refine zfc ?_ ?_
    ·intro h;cases h
    intro _;refine zF (.inl ⟨rfl,?_,hfr _ (fun k k1 k2 k3 k4 k5 k6=>by simp(disch:=omega)only[zb1]),h8',by simp[upd],h39',rfl,rfl⟩);unfold zcW;rw[zCG9 hp0];rfl
   have g0:(0:Int)<(x.pairs.length:Nat):=by omega
   subst hH0
   by_cases hi1:i+1<L.2.length
   rotate_left
   ·have g1:¬((i+1:Nat):Int)<(L.2.length:Nat):=by omega
    (repeat refine za ?_);(repeat refine za ?_);refine zgo ?_ (by simp(disch:=omega)only[go_sem,g0,g1,e1,h7',gm0,gm1,gm2]<;>rfl);refine zfc ?_ ?_
    ·intro h;cases h
    intro _;refine zF (.inl ⟨rfl,?_,hfr _ (fun k k1 k2 k3 k4 k5 k6=>by simp(disch:=omega)only[zb1]),h8',by simp[upd],h39',rfl,rfl⟩);unfold zcW;rw[zBQ9 (show L.2.length<=i+1 by omega)];split
    ·rename_i h;cases h
    ·rfl
   have g1:((i+1:Nat):Int)<(L.2.length:Nat):=by omega
   obtain⟨z,hz⟩:∃z,L.2[i+1]?=some z:=⟨_,zAB9 hi1⟩
   have hzv:(L.2.map (zZ 0))[i+1]?=some (zZ 0 z):=by rw[zAG9,hz];rfl
   obtain⟨y,hy⟩:∃y,x.pairs[x.pairs.length-1]?=some y:=⟨_,zAB9 (by omega)⟩
   have hyv:(x.pairs.map pv)[x.pairs.length-1]?=some (pv y):=by rw[zAG9,hy];rfl
   have hq:IntKind.i64.wrap ((x.pairs.length:Int)-1)=((x.pairs.length-1:Nat):Int):=by rw[wrap_i64 (by omega) (by omega)];omega
   have hq1:x.pairs.length-1<x.pairs.length:=by omega
   have hll:zcW x L.2[i+1]?=decide (y.1<z.low):=by unfold zcW;rw[zCF9,hy,hz]
   (repeat refine za ?_);(repeat refine za ?_);refine zgo ?_ (by simp(disch:=omega)only[go_sem,g0,g1,e1,h7',gm0,gm1,gm2]<;>rfl);refine zfc ?_ ?_;rotate_left
   ·intro h;cases h
   intro _;refine zag ?_
   by_cases hlow:y.1<z.low
   ·have g2:(y.1:Int)<(z.low:Nat):=by omega
    refine zdn (zhh 220) ?_ (by simp(disch:=omega)only[go_sem,h7',gm0,gm1,gm2,zc,hq,hyv,hq1,e1,hzv,hi1,g2]<;>rfl);refine zdl ?_ (by simp(disch:=omega)only[go_sem,h7']<;>rfl);refine zM ?_;refine .inl ⟨rfl,by rw[hll];simp[hlow],hfr _ (fun k k1 k2 k3 k4 k5 k6=>?_),h8',?_,h39',rfl,rfl⟩
    ·simp(disch:=first|omega|simp)only[zS,zb1]
    ·simp[zS,upd]
   ·have g2:¬(y.1:Int)<(z.low:Nat):=by omega
    refine zts (by first|exact trivial|simp only[go_sem,h7',gm0,gm1,gm2,zc,hq,hyv,hq1,e1,hzv,hi1,g2]) (by simp(disch:=omega)only[go_sem,h7',gm0,gm1,gm2,zc,hq,hyv,hq1,e1,hzv,hi1,g2]<;>rfl) rfl rfl (by first|rfl|(simp only[go_sem]<;>rfl)) (by simp only[go_sem,h7',gm0,gm1,gm2,zc,hq,hyv,hq1,e1,hzv,hi1,g2]<;>rfl) (zeq 220) ?_ ?_;(repeat(first|exact trivial|refine And.intro ?_ ?_|exact .int _ _|exact .bool _|exact .list _ _ _|exact .elem _|exact .nilsl|exact .nil _ _|exact .str _|refine Frz.aggL ?_|refine Frz.fnL ?_|refine Frz.tupL ?_|refine .iface ?_|exact zbv rfl rfl (by assumption)));exact .inr ⟨rfl,by rw[hll];simp[hlow],rfl⟩
  rintro y ⟨tq,df,H⟩ (⟨rfl,hlow,hf2,h8'',h11,h39'',rfl,rfl⟩|⟨rfl,hlow,rfl⟩);rotate_left
  ·exact hP (by rw[hls];simp[hlow]) _ _
  dsimp only at hf2 h8'' h11 h39'';subst hH0;simp only[zb,zf,ze,zd,zi,zg,if_true,reduceIte];have hbK:(V.length+1)*17<=140737488355328:=by omega
  (repeat refine za ?_);refine zgo ?_ (by simp(disch:=omega)only[go_sem,h8'',h11,gm0,gm1,gm2,hm0,hm1,hm2,tm0,tm1,tm2,zc,hbK]<;>rfl);(repeat refine za ?_);(repeat refine za ?_);refine zgo ?_ (by simp(disch:=omega)only[go_sem,h11,gp1,gp2]<;>rfl);simp only[zAF9,zAI9,zAL9];obtain⟨V1,hV1⟩:∃V1,V1=V++[cvI (x.low,x.left)]:=⟨_,rfl⟩
  have hV1l:V.length+1=V1.length:=by rw[hV1];simp
  rw[<- hV1,hV1l];refine zvP G _ r2 V1 x.pairs (by omega) _ _ (by simp[upd]) (by simp[upd]) (by simp[upd]) (by simp[upd]) (fun tm' V2 G5 hV2 hfr h8=>?_);simp only[zb,zf,ze,zd,zi,zg,if_true,reduceIte];have h39x:tm' 39=iv i:=(hfr 39 (by decide) (by decide) (by decide)).trans (by simp[upd,h39'']);(repeat refine za ?_);refine zrg ?_ (by simp(disch:=omega)only[go_sem,h39x]<;>rfl);refine zy ?_;simp only[zb,zf,ze,zd,zi,zg,if_true,↓reduceIte];refine⟨_,?m,i+1,V2,?G6,rfl,hlti,?hV,?hls,?hck,?hf,by simp[upd,h8],by simp[upd,h39x],trivial,?H⟩
  case m=>omega
  case hV=>rw[hV2,hV1,hV,hKt];simp[zcn]
  case hls=>rw[hls,hlow];simp[hc0]
  case hck =>
   intro j c hj hc;rcases zCP9 j i with h|h
   ·exact hck j c h hc
   ·obtain rfl:j=i:=by omega
    rw[hb]at hc;injection hc with hc;subst hc;exact hc0
  case hf =>
   intro k k1 k2 k3 k4 k5 k6;simp(disch:=omega)only[zb1];rw[hfr k k1 k5 (by omega)];simp(disch:=omega)only[zb1];exact hf2 k k1 k2 k3 k4 k5 k6
  case H=>rfl
theorem f60:ET.funcs.get 60=some T60:=zL Tryz.func60
theorem ziH {l:List Nat}(h:zbh l=0)(hl:0<(zaa l).level):∀x∈zcn (zaa l),x.2<2048:=by
 have hh:=zc7 h;unfold zbh at h;rw[if_pos hh]at h;have hp:zen l=true:=by
  by_cases hp:zen l=true
  ·exact hp
  ·rw[if_neg hp]at h;cases h
 unfold zen at hp;rw[zAR9,zEC9,List.any_eq_false]at hp;intro x hx;rcases zAX9.1 hx with rfl|hx
 ·unfold zbI at hh;rw[zAR9,zBI9]at hh;have h3:=hh.2 3 (by decide);have e1:(zaa l).level=zgw (l.getD 0 0):=by unfold zaa;rfl
  have e2:(zaa l).left=l.getD 3 0:=by unfold zaa;rfl
  rw[zcM,<- e1,<- e2]at h3;simp only[zEM9,zAR9,decide_eq_true_eq]at h3;rcases h3 with⟨h3,_⟩|⟨_,h3⟩
  ·omega
  ·exact((zd5 _).1 h3).2
 ·have:=hp.2 x hx;have hm:zbT (zaa l) x=true:=by simpa using this
  unfold zbT at hm;rw[if_neg (by omega),zAR9]at hm;exact((zd5 _).1 hm.1).2
def zjp (w:List Nat)(a:Int):FE:=if zbw w.length a=true then if(zO w a.toNat).2=true then if zeQ w (zO w a.toNat).1=true then .ret (zbK (zO w a.toNat).1)else .panic (zc0 220)else .panic (zc0 220)else .panic (zc0 2)
theorem zqP (p:Nat)(w:List Nat)(a:Int)(hs:za2 w.length)(hwl:w.length<=131072)(T:List Lev)(hl:FN ET 42 [wv p w,iv a] (.ret (zbK T)))(f1:∀L∈T,zgu w L)(f2:∀L∈T.dropLast,zha L)(f3:T ≠ [])(f5:T.length<=14) :
  FN ET 60 [wv p w,iv a] (if zeQ w T=true then .ret (zbK T)else .panic (zc0 220)):=by
 refine zfn f60 ?_ ?_
 ·split
  ·exact zki _
  ·exact .iface (.int _ _)
 have bad:zeQ w T=false->(if zeQ w T=true then FE.ret (zbK T)else .panic (zc0 220))=.panic (zc0 220):=fun h=>by rw[h];rfl
 obtain⟨L0,R,rfl⟩:∃L0 R,T=L0::R:=by
  cases T with
  | nil=>exact absurd rfl f3
  | cons a l=>exact⟨a,l,rfl⟩
 have hT0:(List.map (fun L=>zbk 0 0 L.1 L.2) (L0::R))[0]?=some (zbk 0 0 L0.1 L0.2):=rfl;obtain⟨n0,hn0⟩:∃n0:zB,(L0.2.map (zZ 0))[0]?=some (zZ 0 n0)/\zo7 (L0::R)=decide (n0.sib=0):=by
  have:=(f1 L0 (zAV9 ..)).ne;obtain⟨bs,ns⟩:=L0
  cases ns with
  | nil=>exact absurd rfl this
  | cons n ns=>exact⟨n,rfl,rfl⟩
 obtain⟨hn0,hsb⟩:=hn0;(repeat(first|refine za ?_|refine zgo ?_));(repeat refine za ?_);refine zrg ?_;refine zca hl ?_;refine zfx ?_;refine zh ?_;have hnl:0<L0.2.length:=zBO9.2 (f1 L0 (zAV9 ..)).ne;have hrl:0<R.length+1:=zCO9 _
 by_cases hsib:n0.sib=0
 rotate_left
 ·have g:¬(n0.sib:Int)=0:=by omega
  (repeat refine za ?_);refine zrg ?_ (by simp(disch:=omega)only[go_sem,hT0,hn0,hnl,hrl,g]<;>rfl);refine zcx (zeq 220) ?_;exact zcV (by rw[bad (by unfold zeQ;rw[hsb];simp[hsib])])
 have g:(n0.sib:Int)=0:=by omega
 (repeat refine za ?_);refine zrg ?_ (by simp(disch:=omega)only[go_sem,hT0,hn0,hnl,hrl,g]<;>rfl);refine zca (zhh 220) ?_;refine zfx ?_;refine zh ?_;(repeat(first|refine za ?_|refine zgo ?_ (by simp(disch:=omega)only[go_sem,hT0]<;>rfl)));have hset:zeQ w (L0::R)=zbP w (L0::R):=by unfold zeQ;rw[hsb,hsib];rfl
 rw[hset]at bad⊢;clear hset hsb hT0 hn0 hnl hrl g hsib f3;have hTl:(L0::R).length=R.length+1:=rfl;generalize L0::R=T at *
 refine zD (zas (fun m s=>∃(n:Nat) (G:List zn),m=T.length-n/\n<=T.length/\zbP w T=zbP w (T.drop n)/\s.tm 0=wv p w/\s.tm 5=zbK T/\s.tm 29=zbK T/\s.tm 30=iv T.length/\s.tm 31=iv n/\s.df=[]/\s.H=G) (n:=T.length) ?_ ?_)
 ·exact⟨0,_,rfl,by omega,rfl,by simp[upd,zo],by simp[upd],by simp[upd],by simp[upd];omega,by simp[upd],rfl,rfl⟩
 ·rintro m ⟨tm,df,G⟩ ⟨n,G',rfl,hn,hls,h0,h5,h29,h30,h31,rfl,rfl⟩;dsimp only at h0 h5 h29 h30 h31;(try refine zK ?_);refine za (zr ?_);refine zfx ?_ (by simp(disch:=omega)only[go_sem,h29,h30,h31]<;>rfl);refine zh ?_;refine zN (by simp only[go_sem]<;>rfl) ?_ ?_;rotate_left
  ·intro hlt;have hlt:¬n<T.length:=by have:=of_decide_eq_false hlt;omega
   obtain rfl:n=T.length:=by omega
   simp only[zb,zf,ze,zd,zi,zg,if_true,reduceIte];(repeat(first|refine za ?_|refine zgo ?_ (by simp(disch:=omega)only[go_sem,h5]<;>rfl)));refine zq ?_;(try simp only[zb,zf,ze,zd,zg]);refine zj (by simp only[T60,zE,go_sem]<;>rfl) ?_;simp only[zG];rw[zBG9]at hls;rw[hls];exact Frz.list _ _ _
  intro hlt;have hlt:n<T.length:=by have:=of_decide_eq_true hlt;omega
  obtain⟨L,hL⟩:∃L,T[n]?=some L:=⟨_,zAB9 hlt⟩
  have hLT:(T.map fun L=>zbk 0 0 L.1 L.2)[n]?=some (zbk 0 0 L.1 L.2):=by rw[zAG9,hL];rfl
  have hLF:=f1 L (zAK9 hL);have hdr:T.drop n=L::T.drop (n+1):=by rw[zAU9 hlt];obtain⟨_,e⟩:=zAD9.1 hL;rw[e]
  rw[hdr,zpe]at hls;have hbl:=hLF.lv.len;have hfew:=hLF.few;(repeat refine za ?_);refine zD ?_;(repeat(first|refine za ?_|refine zgo ?_ (by simp(disch:=omega)only[go_sem,h29,h31,hLT,zc,zk]<;>rfl)));refine zcd 138 2 (i:=8) rfl ?_;refine zcd 138 2 (i:=9) rfl ?_;simp only[lzy,zAC9,zAE9,zAH9,zAN9,zAF9,zAI9,zAL9];(repeat(first|refine za ?_|refine zgo ?_ (by simp(disch:=omega)only[go_sem,gm0]<;>rfl)));refine zuZ p w hs G _ L hLF _ [] (by simp[upd,h0]) (by simp[upd]) (by simp[upd]) (by simp[upd]) (by simp[upd]) (by simp[upd]) (fun hf tm' H=>?_) (fun tm' V G4 hns hV hck hfr h8=>?_)
  ·exact zcV (by rw[bad (by rw[hls,hf,zEI9])])
  rw[hns,zCA9]at hls;simp only[zb,zf,ze,zd,zi,zg,if_true,reduceIte];have h0':tm' 0=wv p w:=(hfr 0 (by decide) (by decide) (by decide) (by decide) (by decide) (by decide)).trans (by simp[upd,h0]);have h5':tm' 5=zbK T:=(hfr 5 (by decide) (by decide) (by decide) (by decide) (by decide) (by decide)).trans (by simp[upd,h5]);have h6':tm' 6=iv n:=(hfr 6 (by decide) (by decide) (by decide) (by decide) (by decide) (by decide)).trans (by simp[upd]);have h9':tm' 9=.sl (G.length+2) 0 0 0 0 2:=(hfr 9 (by decide) (by decide) (by decide) (by decide) (by decide) (by decide)).trans (by simp[upd]);have h29':tm' 29=zbK T:=(hfr 29 (by decide) (by decide) (by decide) (by decide) (by decide) (by decide)).trans (by simp[upd,h29]);have h30':tm' 30=iv T.length:=(hfr 30 (by decide) (by decide) (by decide) (by decide) (by decide) (by decide)).trans (by simp[upd,h30]);have h31':tm' 31=iv n:=(hfr 31 (by decide) (by decide) (by decide) (by decide) (by decide) (by decide)).trans (by simp[upd,h31]);have hq:IntKind.i64.wrap ((T.length:Int)-1)=((T.length-1:Nat):Int):=by rw[wrap_i64 (by omega) (by omega)];omega
  by_cases hlast:n+1=T.length
  ·have g:((n:Nat):Int)=(T.length-1:Nat):=by omega
   have hd0:T.drop (n+1)=[]:=zEO9 (by omega);rw[hd0]at hls;(repeat refine za ?_);(repeat refine za ?_);refine zgo ?_ (by simp(disch:=omega)only[go_sem,h5',h6',hq,g]<;>rfl);refine zfc ?_ ?_;rotate_left
   ·intro h;simp at h
   intro _;refine zgh ?_;simp only[zb,zf,ze,zd,zi,zg,if_true,reduceIte];(repeat(first|refine za ?_|refine zgo ?_ (by simp(disch:=omega)only[go_sem,h5']<;>rfl)));refine zq ?_;(try simp only[zb,zf,ze,zd,zg]);refine zj (by simp only[T60,zE,go_sem]<;>rfl) ?_;simp only[zG];rw[hls];exact Frz.list _ _ _
  have g:¬((n:Nat):Int)=(T.length-1:Nat):=by omega
  obtain⟨M,hM⟩:∃M,T[n+1]?=some M:=⟨_,zAB9 (by omega)⟩
  have hdM:T.drop (n+1)=M::T.drop (n+1+1):=by rw[zAU9 (show n+1<T.length by omega)];obtain⟨_,e⟩:=zAD9.1 hM;rw[e]
  have hMF:=f1 M (zAK9 hM);have hMT:(T.map fun L=>zbk 0 0 L.1 L.2)[n+1]?=some (zbk 0 0 M.1 M.2):=by rw[zAG9,hM];rfl
  have hMn:n+1<T.length:=by omega
  have e1:((n:Int)+1)=((n+1:Nat):Int):=by omega
  have hLp:zha L:=f2 L (by
   have:T.dropLast[n]?=some L:=by rw[List.getElem?_dropLast,if_pos (by omega)];exact hL
   exact zAK9 this)
  have hsm:∀x∈L.2.flatMap zcn,x.2<2048:=fun x hx=>by
   obtain⟨y,hy,hx⟩:=zBC9.1 hx;have hy0:=hLp y hy;rw[hLF.lv.is]at hy;obtain⟨b,hb,rfl⟩:=zAP9.1 hy;obtain⟨j,hj⟩:=zDO9.1 hb;exact ziH (hck j b hj) hy0 x hx
  have hVc:V=(L.2.flatMap zcn).map cv:=by
   rw[hV];exact zDZ9 fun x hx=>zxQ (by have:=hsm x hx;omega)
  rw[hdM,zoV]at hls;(repeat refine za ?_);(repeat refine za ?_);refine zgo ?_ (by simp(disch:=omega)only[go_sem,h5',h6',hq,g]<;>rfl);refine zfc ?_ ?_
  ·intro h;simp at h
  intro _;refine zF ?_;show W _ _ _ _ _ _;(repeat refine za ?_);(repeat refine za ?_);refine zgo ?_ (by simp(disch:=omega)only[go_sem,h5',h6',e1,hMT,hMn]<;>rfl);refine zu3 G _ _ T M n (by omega) hM hMF.lv.len hMF.few _ _ (by simp[upd,h5']) (by simp[upd,h6']) (by simp[upd,h9']) (by simp[upd]) (by simp[upd]) (by simp[upd]) (fun tm2 V2 G5 hV2 hfr2 h9=>?_);simp only[zb,zf,ze,zd,zi,zg,if_true,reduceIte];have h8x:tm2 8=.sl (G.length+1) V.length 0 V.length (2*V.length) 2:=(hfr2 8 (by decide) (by decide) (by decide) (by decide)).trans (by simp[upd,h8]);have hk1:=zqK (ns:=L.2) fun n hn=>(hLF.lv.node hn).1;have hfew:=hLF.few;have hMfew:=hMF.few;have hml:(zcv M).length=M.2.length:=by unfold zcv;simp[hMF.lv.len]
  have heq:=zrl 1 1 (L.2.flatMap zcn) (zcv M) (by omega) (by omega);have hflat:∀l:List Pr,∀v∈(l.map cv).flatMap PV.cells,Id0 v:=fun l v hv=>by
   obtain⟨x,hx,hv⟩:=zBC9.1 hv;obtain⟨y,_,rfl⟩:=zAP9.1 hx;simp[PV.cells]at hv;rcases hv with rfl|rfl<;>exact .int _ _
  have fz1:Frz (G++zn.row 100 2 0 0 [zbk 0 0 L.1 L.2]::.row 138 2 V.length 0 V::.row 138 2 V2.length 0 V2::G5) 1 (.sl (G.length+1) V.length 0 V.length (2*V.length) 2) (csv 1 (L.2.flatMap zcn)):=by
   rw[hVc];exact Frz.whole (hm0 G _ _ _) rfl (by simp) (by simp) (fun v hv=>by obtain⟨x,_,rfl⟩:=zAP9.1 hv;rfl) (hflat _)
  have fz2:Frz (G++zn.row 100 2 0 0 [zbk 0 0 L.1 L.2]::.row 138 2 V.length 0 V::.row 138 2 V2.length 0 V2::G5) 1 (.sl (G.length+2) V2.length 0 V2.length (2*V2.length) 2) (csv 1 (zcv M)):=by
   rw[hV2];exact Frz.whole (km0 G _ _ _ _) rfl (by simp) (by simp) (fun v hv=>by obtain⟨x,_,rfl⟩:=zAP9.1 hv;rfl) (hflat _)
  (repeat refine za ?_);refine zr ?_;refine zfx ?_ (by simp(disch:=omega)only[go_sem,h8x,h9]<;>rfl);refine zfe (caps:=?_) (vs:=?_) ?_ ?_ heq ?_ ?_;rotate_left 2;(first|rfl|(simp only[zab,zap,go_sem]<;>rfl));(simp only[go_sem]<;>rfl)
  ·exact⟨fz1,fz2,trivial⟩
  by_cases hke:L.2.flatMap zcn=zcv M
  rotate_left
  ·rw[decide_eq_false hke];refine zfx ?_;refine zcx (zeq 220) ?_;exact zcV (by rw[bad (by rw[hls];simp[hke])])
  rw[decide_eq_true hke,zCA9]at hls;rw[decide_eq_true hke];refine zfx ?_;refine zca (zhh 220) ?_;refine zfx ?_;refine zy ?_;simp only[zb,zf,ze,zd,zi,zg,if_true,↓reduceIte];have hx5:tm2 5=zbK T:=(hfr2 5 (by decide) (by decide) (by decide) (by decide)).trans (by simp[upd,h5']);have hx0:tm2 0=wv p w:=(hfr2 0 (by decide) (by decide) (by decide) (by decide)).trans (by simp[upd,h0']);have hx29:tm2 29=zbK T:=(hfr2 29 (by decide) (by decide) (by decide) (by decide)).trans (by simp[upd,h29']);have hx30:tm2 30=iv T.length:=(hfr2 30 (by decide) (by decide) (by decide) (by decide)).trans (by simp[upd,h30']);have hx31:tm2 31=iv n:=(hfr2 31 (by decide) (by decide) (by decide) (by decide)).trans (by simp[upd,h31']);(repeat refine za ?_);refine zrg ?_ (by simp(disch:=omega)only[go_sem,hx31,e1]<;>rfl);refine zy ?_;simp only[zb,zf,ze,zd,zi,zg,if_true,↓reduceIte];refine⟨_,?m,n+1,_,rfl,hlt,by rw[hls,hdM],by simp[upd,hx0],by simp[upd,hx5],by simp[upd,hx29],by simp[upd,hx30],by simp[upd],trivial,rfl⟩
  case m=>omega
theorem zqZ (p:Nat)(w:List Nat)(a:Int)(hs:za2 w.length):FN ET 60 [wv p w,iv a] (zjp w a):=by
 have hl:=zhn p w a hs;unfold zgJ at hl;unfold zjp
 by_cases hr:zbw w.length a=true
 rotate_left
 ·rw[if_neg hr]at hl⊢;refine zfn f60 (.iface (.int _ _)) ?_;(repeat(first|refine za ?_|refine zgo ?_));(repeat refine za ?_);refine zrg ?_;refine zcx hl ?_;(try(refine .iface ?_;exact .int _ _))
 rw[if_pos hr]at hl⊢;have hb:=(zcC _ _).1 hr
 by_cases ht:(zO w a.toNat).2=true
 rotate_left
 ·rw[if_neg ht]at hl⊢;refine zfn f60 (.iface (.int _ _)) ?_;(repeat(first|refine za ?_|refine zgo ?_));(repeat refine za ?_);refine zrg ?_;refine zcx hl ?_;(try(refine .iface ?_;exact .int _ _))
 rw[if_pos ht]at hl⊢;obtain⟨f1,f2,f3,f4,f5⟩:=zbW (w:=w) (T:=(zO w a.toNat).1) (by omega) a.toNat (by rw[<- ht]);exact zqP p w a hs (by omega) _ hl f1 f2 f3 f5
theorem f21:ET.funcs.get 21=some T21:=zL Tryz.func21
theorem f59:ET.funcs.get 59=some T59:=zL Tryz.func59
theorem zyc:FN ET 59 [] (.ret (.tuple [])):=by
 refine zfn f59 Lb.unit ?_;refine zF ?_;exact⟨[],rfl,Frz.tupL trivial⟩
def zc9 (w:List Nat)(a:Int):Nat:=if zbw w.length a=true then if(zO w a.toNat).2=true then if zeQ w (zO w a.toNat).1=true then 0 else 220 else 220 else 2
theorem zt1 (p:Nat)(w:List Nat)(a:Int)(hs:za2 w.length):FN ET 21 [wv p w,iv a] (.ret (iv (zc9 w a:Nat))):=by
 refine zfn f21 (.int _ _) ?_;(repeat(first|refine za ?_|refine zgo ?_));(repeat refine za ?_);refine zrg ?_;refine zfT (f:=35) (p:=.ptr 0 0 0 0 1) (cl:=.fn 59 []) ?_ ?_ c35 ?_
 ·rfl
 ·simp only[go_sem]<;>rfl
 refine zfx ?_;refine zh ?_;(repeat refine za ?_);refine zrg ?_;have hs:=zqZ p w a hs;have bad:∀(tm:Nat->PV) (n:Nat),zc9 w a=n->tm 4=.ptr 0 0 0 0 1->zcT ET T21 (fun e' H=>zay H 0 e' (.ret (iv (zc9 w a:Nat)))) (.panic (zc0 n)) ⟨tm,[.caught (.ptr 0 0 0 0 1) (.fn 59 [])],[.row 31 1 0 0 [.int .i64 0]]⟩:=fun tm n hn h4=>by
  refine⟨n,59,[],true,0,0,1,rfl,rfl,rfl,(FN.FO (args:=[]) zyc trivial).mono fun e H he=>?_⟩;obtain⟨rfl,rfl⟩:=he;refine⟨rfl,_,rfl,[.int .i64 n],?_,zay.int (by rw[hn])⟩;simp[T21,xT,zE,okv,h4,zae,zaC,zaJ,zao];rfl
 unfold zjp at hs
 by_cases hr:zbw w.length a=true
 rotate_left
 ·rw[if_neg hr]at hs;refine zcx hs ?_;exact bad _ 2 (by unfold zc9;rw[if_neg hr]) rfl
 rw[if_pos hr]at hs
 by_cases ht:(zO w a.toNat).2=true
 rotate_left
 ·rw[if_neg ht]at hs;refine zcx hs ?_;exact bad _ 220 (by unfold zc9;rw[if_pos hr,if_neg ht]) rfl
 rw[if_pos ht]at hs
 by_cases hb:zeQ w (zO w a.toNat).1=true
 rotate_left
 ·rw[if_neg hb]at hs;refine zcx hs ?_;exact bad _ 220 (by unfold zc9;rw[if_pos hr,if_pos ht,if_neg hb]) rfl
 rw[if_pos hb]at hs;refine zca hs ?_;refine zfx ?_;refine zh ?_;(repeat(first|refine za ?_|refine zgo ?_));refine zq ?_;have:zc9 w a=0:=by unfold zc9;rw[if_pos hr,if_pos ht,if_pos hb]
 rw[this];exact⟨[.int .i64 0],rfl,Frz.int _ _⟩
@[reducible] def zat (x:Pr):PV:=.agg [iv x.1,uv x.2]
def zei:Option Nat->Nat->Bool
 | none,_=>true
 | some k,n=>decide (k<n)
def zdJ (seen:List Nat)(pk:Option Nat)(x:Pr):Bool:=decide (1<=x.2)&&decide (x.2<=1099511627776) && !seen.contains x.2&&zei pk x.1
def zhZ:List Nat->Option Nat->List Pr->Bool
 | _,_,[]=>true
 | seen,pk,x::l=>zdJ seen pk x&&zhZ (x.2::seen) (some x.1) l
theorem zmj:∀(l:List Pr) (seen:List Nat) (pk:Option Nat),zhZ seen pk l=true↔(zcq seen l=true/\(∀p∈l,1<=p.2/\p.2<=1099511627776)/\zbi l=true/\(∀x,l.head?=some x->zei pk x.1=true))
 | [],_,_=>⟨fun _=>⟨rfl,by simp,rfl,by simp⟩,fun _=>rfl⟩
 | x::l,seen,pk=>by
  rw[zhZ,zAR9,zmj l,zcq,zAR9];unfold zdJ;have hr:zbi (x::l)=true↔zbi l=true/\∀y,l.head?=some y->zei (some x.1) y.1=true:=by
   cases l with
   | nil=>simp[zbi]
   | cons y l=>rw[zbi,zAR9];simp[zei,and_comm]
  rw[hr];simp only[zAR9,decide_eq_true_eq,List.head?_cons,Option.some.injEq,forall_eq',zAX9,forall_eq_or_imp]
  constructor
  ·rintro ⟨⟨⟨⟨a,b⟩,c⟩,d⟩,e,f,g,h⟩;exact⟨⟨c,e⟩,⟨⟨a,b⟩,f⟩,⟨g,h⟩,d⟩
  ·rintro ⟨⟨c,e⟩,⟨⟨a,b⟩,f⟩,⟨g,h⟩,d⟩;exact⟨⟨⟨⟨a,b⟩,c⟩,d⟩,e,f,g,h⟩
theorem zsS (l:List Pr):zhZ [] none l=okP l:=by
 rw[zDU9,zmj,znB,zex]
 constructor
 ·rintro ⟨⟨a,_⟩,b,c,_⟩;exact⟨c,a,b⟩
 ·rintro ⟨c,a,b⟩;exact⟨⟨a,by simp⟩,b,c,fun _ _=>rfl⟩
def zfL (l:List Pr)(i:Nat):Option Nat:=if i=0 then none else some (l.getD (i-1) (0,0)).1
def okI:List Int->List Int->Bool
 | _,[]=>true
 | seen,b::l=>decide (1<=b)&&decide (b<2048) && !seen.contains b&&okI (b::seen) l
theorem zr7:∀(l seen:List Int),okI seen l=true↔(∀b∈l,1<=b/\b<2048)/\l.Nodup/\∀b∈l,¬b∈seen
 | [],seen=>by simp[okI]
 | b::l,seen=>by
  rw[okI,zAR9,zAR9,zAR9,zr7 l,decide_eq_true_eq,decide_eq_true_eq,zEC9,zEZ9];have:(seen.contains b=false)↔¬b∈seen:=by rw[<- zEJ9,zDB9]
  rw[this]
  constructor
  ·rintro ⟨⟨⟨a1,a2⟩,a3⟩,b1,b2,b3⟩;refine⟨fun c hc=>?_,⟨fun h=>b3 b h (zAV9 ..),b2⟩,fun c hc=>?_⟩
   ·rcases zAX9.1 hc with rfl|hc
    ·exact⟨a1,a2⟩
    ·exact b1 c hc
   ·rcases zAX9.1 hc with rfl|hc
    ·exact a3
    ·exact fun h=>b3 c hc (zAT9 _ h)
  ·rintro ⟨h1,⟨h2,h3⟩,h4⟩;refine⟨⟨h1 b (zAV9 ..),h4 b (zAV9 ..)⟩,fun c hc=>h1 c (zAT9 _ hc),h3,fun c hc h=>?_⟩;rcases zAX9.1 h with rfl|h
   ·exact h2 hc
   ·exact h4 c (zAT9 _ hc) h
theorem zqf {l:List Int}(h:okI [] l=true):∃fr:List Nat,l=fr.map (fun(b:Nat)=>(b:Int))/\zny fr=true:=by
 rw[zr7]at h;obtain⟨h1,h2,_⟩:=h;have he:l=(l.map Int.toNat).map (fun(b:Nat)=>(b:Int)):=by
  rw[zDM9]
  conv=>lhs;rw[<- List.map_id l]
  refine zDZ9 fun b hb=>?_;have:=h1 b hb;show b=((b.toNat:Nat):Int)
  omega
 refine⟨l.map Int.toNat,he,?_⟩;rw[zg4];refine⟨fun b hb=>?_,?_⟩
 ·obtain⟨c,hc,rfl⟩:=zAP9.1 hb;have:=h1 c hc;omega
 ·rw[he,List.nodup_iff_pairwise_ne,List.pairwise_map]at h2;exact h2.imp fun h e=>h (by rw[e])
@[reducible] def bfl (free:List Nat):List PV:=free.map fun (b:Nat)=>iv (b:Int)
theorem zkT (xs:List (Nat×zB)):(xs.flatMap fun x=>ziP x.1 (zbr x.2)).length=64*xs.length:=by
 induction xs with
 | nil=>rfl
 | cons a xs ih=>rw[zBS9,zAC9,ih,zAE9];simp[ziP,zdO];omega
theorem zu7 {bs:List Nat}{L:List zB}{i b:Nat}{x:zB}(hb:bs[i]?=some b)(hx:L[i]?=some x):(bs.zip L).take (i+1)=(bs.zip L).take i++[(b,x)]:=by
 have:(bs.zip L)[i]?=some (b,x):=by rw[zDK9];exact⟨hb,hx⟩
 rw[zBM9,this];rfl
end Fv
end Go.Proofs.YtfomlmhnmheenaaGreat
namespace Go.Proofs.YtfomlmhnmheenaaGreat
namespace Fv
open Tw
theorem zjl.next {p:List Pr}{free:List Nat}(hf:zny free=true){l:List zB}{used:Nat}{T:List Lev}(hi:zjl p free l used T)(hu:¬free.length<used+l.length)(ho:¬l.length=1) :
  zjl p free (zco (T.length+1) ((l.map zB.low).zip ((free.drop used).take l.length))) (used+l.length) (((free.drop used).take l.length,zbq ((free.drop used).take l.length) l)::T):=by
 obtain⟨h1,h2,h3,h4,h5,h6,h7,h8⟩:=hi.level hf hu;have hbd:=hi.bndL;have hlvl:=hi.lvl;have hne0:0<l.length:=zBO9.2 hi.ok.ne;have hT1:T.length<=1:=by
  rcases zCP9 T.length 2 with h|h
  ·omega
  ·have e:T.length=2:=by omega
   rw[e]at hbd;simp[Fv.bndL]at hbd;omega
 obtain⟨k1,k2,k3⟩:=zev _ _ h1;generalize hbs:(free.drop used).take l.length=bs at *
 have hzl:((l.map zB.low).zip bs).length=l.length:=by simp[h1]
 have hms:((l.map zB.low).zip bs).map Prod.snd=bs:=List.map_snd_zip (by simp[h1]);have hg:∀(i:Nat) (x:Pr),((l.map zB.low).zip bs)[i]?=some x->∃n,l[i]?=some n/\x.1=n.low:=by
  intro i x hx;rw[zDK9]at hx;have h1:=hx.1;rw[zAG9]at h1
  cases hn:l[i]? with
  | none=>rw[hn]at h1;cases h1
  | some n=>rw[hn]at h1;injection h1 with h1;exact⟨n,rfl,h1.symm⟩
 have hz0:(((l.map zB.low).zip bs).getD 0 (0,0)).1=0:=by
  obtain⟨n,hn,e⟩:=hg 0 _ (get_lt _ (by omega));rw[e];exact hi.ok.low0 n hn
 have hrz:zbi ((l.map zB.low).zip bs)=true:=by
  rw[zdP];intro i x y hx hy;obtain⟨n,hn,e⟩:=hg i x hx;obtain⟨m,hm,e2⟩:=hg _ y hy;rw[e,e2];exact hi.ok.rise i n m hn hm
 have hab:=zn8 (lv:=T.length+1) (ks:=(l.map zB.low).zip bs) ⟨by omega,by omega⟩ (by intro e;rw[e]at hzl;simp at hzl;omega) hrz hz0 (by rw[hms];exact h5) (fun x hx=>h4 x.2 (zFA9 hx).2);refine⟨hab.1,⟨?_,h7⟩,h8,?_,h6,by omega,?_,by simp;omega⟩
 ·rw[hab.2];unfold zcv;rw[k2]
 ·intro M hM;rcases zAX9.1 hM with rfl|hM
  ·exact h1.trans (zc2 _ _ h1).symm
  ·exact hi.len M hM
 ·rw[zdZ,hzl];show _<=Fv.bndL (T.length+1)
  match hT:T.length,hT1 with
  | 0,_=>rw[hT]at hbd;simp[Fv.bndL]at hbd⊢;omega
  | 1,_=>rw[hT]at hbd;simp[Fv.bndL]at hbd⊢;omega
end Fv
end Go.Proofs.YtfomlmhnmheenaaGreat
namespace Go.Proofs.YtfomlmhnmheenaaGreat
namespace Fv
open Tw
attribute [local go_sem] zaZ zaz zab zap evs ev okv zbj zT.cls za5 za7 za9 zQ zR upd zo zaS zaQ zaR zax zaL zaP zaT zaM zaY zaO zar zaV zaU zaX zaW zaK zaN zae zaC zaJ zal zak zbg PV.cells ofC za6 zV zao okF zaf spl zaB zaF bnd zai zam zan za3 zbb zU zau zaH zaj za8 zbd zW lenP zc zk zah zba PV.toT zaA zH Nat.mul_mod_right Int.reduceOfNat Int.reduceToNat Int.cast_ofNat_Int Int.reduceLE Int.reduceLT Int.reduceAdd Int.reduceSub Int.reduceMul Int.reduceNegSucc Nat.reduceEqDiff if_true if_false ite_true ite_false decide_true decide_false Bool.not_true Bool.not_false and_true true_and and_self false_and and_false or_false false_or or_true true_or or_self List.length_cons List.length_nil List.length_map List.getElem?_cons_zero List.getElem?_cons_succ List.getElem?_map List.getElem?_nil Option.map_some Option.map_none Option.getD_some List.append_nil List.nil_append List.cons_append List.take_succ_cons List.take_zero List.drop_zero List.drop_succ_cons List.set_cons_zero List.set_cons_succ Int.toNat_natCast Int.natCast_nonneg Nat.le_refl Nat.zero_le Nat.reduceAdd Nat.reduceSub Nat.reduceMul Nat.reduceLeDiff Nat.reduceLT Bool.false_eq_true Bool.true_eq_false Nat.add_zero Nat.zero_add List.all_cons List.all_nil Bool.and_true Bool.and_self Bool.true_and Nat.reduceMod Nat.reduceDiv eq_self zaq zaD zX za4 evN za0 dpF zaI zbf zaw za1 zbe zaE List.filter_cons List.filter_nil List.contains_cons List.contains_nil Nat.reduceBEq zac zad zP Option.some.injEq Option.isSome_some wrap_i64 zJ zaG Bool.or_self Bool.or_false Bool.false_or daF dnF xT T4 T5 T8 T9 T10 T11 T12 T13 T14 T15 T16 T17 T18 T19 T20 T21 T22 T23 T24 T25 T26 T27 T28 T30 T33 T34 T36 T37 T38 T39 T40 T41 T42 T43 T44 T45 T46 T47 T48 T49 T50 T51 T52 T53 T54 T55 T56 T57 T58 T59 T60 T61 T62 T63 T64 T65 T66 T67 T68 T69 T70 T71 T72 T73 T75 T76 T77 T80 T81 T82 T83 T84 T85 T86 T87 T88 T89 T90 T91 T92 T93 T94 T95 T96 T97 T98 T99 T100 T101 T102 T103 T104 T105 T106 T107 T108 T109 T110 T111 T112 T113 T114 T115 T116 T119 T120 T121 T122 T123 T124 T125 T126 T129 T130 T131 T132 T133 T134 T135 T136 T137 T138 T139 T140 T141 T142 T143 T144 T145 T146 T147 T148 T149 T150 T151 T152 T153 T154 T155 T156 T157 T158 T159 T160 T161 T162 T163 T164 T165 T166 T167 T168 T169 T170 T171 T173 T174 T175 T176 T177 T178 T181 T182 T183 T184 T185 T186 T187 T188 T189 T190 T191 T192 T193 T194 T195 T196 T197 T198 T199 T200 T201 T202 T203 T204 T205 T206 T207 T208 T209 T210 T211 T212 T213 T214 T215 T216 T217 T218 T219 T220 T222 T223
attribute [local go_sem ↓] reduceIte
set_option maxRecDepth 100000
@[reducible] def zo4 (n:Nat):FE:=.ret (.tuple [iv 0,.list 0 2 (([]:List Pr).map zat),iv 0,iv n])
@[reducible] def bOk (T:List Lev):FE:=.ret (.tuple [iv (zl8 T),.list 0 2 ((zdY T.reverse).map zat),iv (T.reverse.flatMap Prod.fst).length,iv 0])
def zes (l:List Pr)(fr:List Int):FE:=if okP l&&okI [] fr then match zgk l (fr.map Int.toNat)with
 | none=>zo4 221
 | some T=>bOk T else zo4 2
theorem zdc (l:List Pr):Lb (.list 0 2 (l.map zat)):=.list fun x hx=>by
 obtain⟨y,hy,hx⟩:=zBC9.1 hx;obtain⟨n,_,rfl⟩:=zAP9.1 hy;simp[PV.cells]at hx;rcases hx with rfl|rfl<;>exact .int _ _
theorem Lb.four {a b c d:PV}(ha:Lb a)(hb:Lb b)(hc:Lb c)(hd:Lb d):Lb (.tuple [a,b,c,d]):=.tuple fun v hv=>by
 simp at hv;rcases hv with h|h|h|h<;>subst h<;>assumption
theorem zv3 (l:List Pr)(fr:List Int):LbE (zes l fr):=by
 unfold zes
 split
 ·split
  ·exact Lb.four (.int _ _) (zdc _) (.int _ _) (.int _ _)
  ·exact Lb.four (.int _ _) (zdc _) (.int _ _) (.int _ _)
 ·exact Lb.four (.int _ _) (zdc _) (.int _ _) (.int _ _)
theorem f13:ET.funcs.get 13=some T13:=zL Tryz.func13
theorem f20:ET.funcs.get 20=some T20:=zL Tryz.func20
theorem zpr (p q:Nat)(a b:List Pr)(ha:za2 a.length)(hb:za2 b.length):FN ET 20 [.list p 2 (a.map pv),.list q 2 (b.map pv)] (.ret (.bool (decide (a=b)))):=by
 refine zfn f20 (.bool _) ?_;(repeat(first|refine za ?_|refine zgo ?_))
 by_cases hl:a.length=b.length
 rotate_left
 ·have g:¬(a.length:Int)=b.length:=by omega
  have hne:¬a=b:=fun h=>hl (by rw[h]);(repeat refine za ?_);refine zfc ?_ ?_
  ·intro _;(repeat(first|refine za ?_|refine zgo ?_));refine zq ?_;(try simp only[zb,zf,ze,zd,zg]);refine zj (by simp only[T20,zE,go_sem]<;>rfl) ?_;simp only[zG];exact zay.bool (decide_eq_false hne).symm
  ·intro h;simp[g]at h
 have g:(a.length:Int)=b.length:=by omega
 (repeat refine za ?_);refine zfc ?_ ?_
 ·intro h;simp[g]at h
 intro _;refine zF ?_;show W _ _ _ _ _ _;(repeat(first|refine za ?_|refine zgo ?_));refine zD (zas (fun m s=>∃i:Nat,m=a.length-i/\i<=a.length/\decide (a=b)=decide (a.drop i=b.drop i)/\s.tm 0=.list p 2 (a.map pv)/\s.tm 1=.list q 2 (b.map pv)/\s.tm 5=iv i/\s.df=[]/\s.H=[]) (n:=a.length) ?_ ?_)
 ·exact⟨0,by simp[upd,zo]⟩
 ·rintro m ⟨tm,df,H⟩ ⟨i,rfl,hi,hd,h0,h1,h5,rfl,rfl⟩;dsimp only at h0 h1 h5;(try refine zK ?_);refine za (zr ?_);refine zfx ?_ (by simp(disch:=omega)only[go_sem,h0,h1,h5,zAA9]<;>rfl);refine zh ?_;refine zN (by simp only[go_sem]<;>rfl) ?_ ?_
  ·intro hlt;have hlt:i<a.length:=by have:=of_decide_eq_true hlt;omega
   have hltb:i<b.length:=by omega
   have hda:a.drop i=a[i]::a.drop (i+1):=zAU9 hlt;have hdb:b.drop i=b[i]::b.drop (i+1):=zAU9 hltb;have hav:(a.map pv)[i]?=some (pv a[i]):=by rw[zAG9,zAB9 hlt];rfl
   have hbv:(b.map pv)[i]?=some (pv b[i]):=by rw[zAG9,zAB9 hltb];rfl
   have hee:(decide (((a[i].1:Nat):Int)=(b[i].1:Nat))&&decide (((a[i].2:Nat):Int)=(b[i].2:Nat)))=decide (a[i]=b[i]):=by
    rw[<- Bool.decide_and]
    congr 1
    rw[Prod.ext_iff];simp only[Int.natCast_inj]
   rw[hda,hdb]at hd;generalize a[i]=x at *
   generalize b[i]=y at *
   (repeat refine za ?_);refine zD ?_;(repeat refine za ?_);refine zag ?_;refine zdl ?_ (by simp(disch:=omega)only[go_sem,h0,h1,h5,hav,hbv,hlt,hltb,zwp,zAA9]<;>rfl);refine zM ?_;simp only[zi,zS,zb,go_sem];rw[hee]
   by_cases hx:x=y
   ·refine zfc ?_ ?_
    ·rw[decide_eq_true hx];intro h;cases h
    ·intro _;refine zF ?_;simp only[zb,zf,ze,zd,zi,zg,if_true,reduceIte];(repeat refine za ?_);refine zrg ?_ (by simp(disch:=omega)only[go_sem,h5]<;>rfl);refine zy ?_;simp only[zb,zf,ze,zd,zi,zg,if_true,↓reduceIte];refine⟨_,?m,i+1,rfl,hlt,?_,by simp[upd,h0],by simp[upd,h1],by simp[upd,h5],trivial,trivial⟩
     case m=>omega
     rw[hd];simp only[hx,List.cons.injEq,true_and]
   ·refine zfc ?_ ?_
    ·intro _;(repeat(first|refine za ?_|refine zgo ?_));refine zq ?_;(try simp only[zb,zf,ze,zd,zg]);refine zj (by simp only[T20,zE,go_sem]<;>rfl) ?_;simp only[zG];exact zay.bool (by rw[hd];simp only[List.cons.injEq,hx,false_and,decide_false])
    ·rw[decide_eq_false hx];intro h;cases h
  ·intro hlt;have hlt:¬i<a.length:=by have:=of_decide_eq_false hlt;omega
   obtain rfl:i=a.length:=by omega
   simp only[zb,zf,ze,zd,zi,zg,if_true,reduceIte];(repeat(first|refine za ?_|refine zgo ?_));refine zq ?_;(try simp only[zb,zf,ze,zd,zg]);refine zj (by simp only[T20,zE,go_sem]<;>rfl) ?_;simp only[zG];refine zay.bool ?_;rw[hd,zBG9,hl,zBG9];rfl
theorem f15:ET.funcs.get 15=some T15:=zL Tryz.func15
theorem zlF (e:Int):FN ET 15 [iv e] (.ret (iv e)):=by
 refine zfn f15 (.int _ _) ?_;(repeat(first|refine za ?_|refine zgo ?_));refine zq ?_;exact⟨[iv e],rfl,Frz.int _ _⟩
theorem f99:ET.funcs.get 99=some T99:=zL Tryz.func99
theorem zc3 (x:Nat):FN ET 99 [iv 0,uv x] (.ret (.bool (decide (1<=x)&&decide (x<=1099511627776)))):=by
 refine zfn f99 (.bool _) ?_;(repeat(first|refine za ?_|refine zgo ?_));(repeat refine za ?_);refine zfc ?_ ?_;rotate_left
 ·intro h;cases h
 intro _
 by_cases b1:1<=x
 ·have a1:(1:Int)<=x:=by omega
  by_cases b2:x<=1099511627776
  ·have a2:(x:Int)<=1099511627776:=by omega
   (repeat(first|refine za ?_|refine zgo ?_ (by simp(disch:=omega)only[go_sem,a1,a2]<;>rfl)));refine zq ?_;(try simp only[zb,zf,ze,zd,zg]);refine zj (by simp only[T99,zE,go_sem]<;>rfl) ?_;simp only[zG];exact zay.bool (by simp[b1,b2])
  ·have a2:¬(x:Int)<=1099511627776:=by omega
   (repeat(first|refine za ?_|refine zgo ?_ (by simp(disch:=omega)only[go_sem,a1,a2]<;>rfl)));refine zq ?_;(try simp only[zb,zf,ze,zd,zg]);refine zj (by simp only[T99,zE,go_sem]<;>rfl) ?_;simp only[zG];exact zay.bool (by simp[b1,b2])
 ·have a1:¬(1:Int)<=x:=by omega
  (repeat(first|refine za ?_|refine zgo ?_ (by simp(disch:=omega)only[go_sem,a1]<;>rfl)));refine zq ?_;(try simp only[zb,zf,ze,zd,zg]);refine zj (by simp only[T99,zE,go_sem]<;>rfl) ?_;simp only[zG];exact zay.bool (by simp[b1])
theorem f52:ET.funcs.get 52=some T52:=zL Tryz.func52
theorem zpc (n:Nat)(hn:n<=500):FN ET 52 [iv n] (.ret (iv (zeo n:Nat))):=by
 refine zfn f52 (.int _ _) ?_;have q1:IntKind.i64.wrap (((n:Int)+17).tdiv 18)=(((n+17)/18:Nat):Int):=by rw[show (n:Int)+17=((n+17:Nat):Int) by omega,IntWalk.i64_quo _ _ (by omega)];omega
 have hm:max (1:Int) (((n+17)/18:Nat):Int)=((max 1 ((n+17)/18):Nat):Int):=by omega
 (repeat(first|refine za ?_|refine zgo ?_ (by simp(disch:=omega)only[go_sem,q1,hm]<;>rfl)));refine zD (zas (fun m s=>∃(t m' c:Nat),m=m'/\t<=2/\1<=m'/\m'<=bndL t/\c<=10000*(t+1)/\zeo n+m'=c+zek (4-t) m'/\s.tm 3=iv m'/\s.tm 4=iv c/\s.df=[]/\s.H=[]) (n:=max 1 ((n+17)/18)) ?_ ?_)
 ·exact⟨0,_,_,rfl,by decide,by omega,by simp[bndL];omega,by omega,zDL9 _ _,by simp[upd],by simp[upd],rfl,rfl⟩
 ·rintro m ⟨tm,df,H⟩ ⟨t,m',c,rfl,ht,h1,hb,hc,hn,h3,h4,rfl,rfl⟩;dsimp only at h3 h4;(try refine zK ?_);refine za (zr ?_);refine zfx ?_ (by simp(disch:=omega)only[go_sem,h3,h4]<;>rfl);refine zh ?_;refine zN (by simp only[go_sem]<;>rfl) ?_ ?_
  ·intro hlt;have hlt:1<m:=by have:=of_decide_eq_true hlt;omega
   have q2:IntKind.i64.wrap (((m:Int)+18).tdiv 19)=(((m+18)/19:Nat):Int):=by
    have:m<=28:=zBN9 hb (by match t with|0=>decide|1=>decide|t+2=>exact(show 1<=28 by decide));rw[show (m:Int)+18=((m+18:Nat):Int) by omega,IntWalk.i64_quo _ _ (by omega)];omega
   have hm28:m<=28:=zBN9 hb (by match t with|0=>decide|1=>decide|t+2=>exact(show 1<=28 by decide));have q3:IntKind.i64.wrap ((c:Int)+(((m+18)/19:Nat):Int))=((c+(m+18)/19:Nat):Int):=by rw[wrap_i64 (by omega) (by omega)];omega
   (repeat refine za ?_);refine zD ?_;(repeat refine za ?_);(repeat refine za ?_);refine zgo ?_ (by simp(disch:=omega)only[go_sem,h3,q2]<;>rfl);(repeat refine za ?_);refine zrg ?_ (by simp(disch:=omega)only[go_sem,h3,h4,q3]<;>rfl);refine zy ?_;simp only[zb,zf,ze,zd,zi,zg,if_true,↓reduceIte];refine⟨(m+18)/19,by omega,t+1,(m+18)/19,c+(m+18)/19,rfl,?_,by omega,?_,by omega,?_,by simp[upd],by simp[upd],trivial,trivial⟩
   ·match t,ht,hb with
    | 0,_,_=>decide
    | 1,_,_=>decide
    | 2,_,hb=>simp[bndL]at hb;omega
   ·match t,ht,hb with
    | 0,_,hb=>simp[bndL]at hb⊢;omega
    | 1,_,hb=>simp[bndL]at hb⊢;omega
    | 2,_,hb=>simp[bndL]at hb;omega
   ·have e:4-t=(4-(t+1))+1:=by omega
    rw[e,zek,if_neg (by omega)]at hn;omega
  ·intro hlt;have hlt:¬1<m:=by have:=of_decide_eq_false hlt;omega
   obtain rfl:m=1:=by omega
   simp only[zb,zf,ze,zd,zi,zg,if_true,reduceIte];(repeat(first|refine za ?_|refine zgo ?_ (by simp(disch:=omega)only[go_sem,h4]<;>rfl)));refine zq ?_;(try simp only[zb,zf,ze,zd,zg]);refine zj (by simp only[T52,zE,go_sem]<;>rfl) ?_;simp only[zG];have e:4-t=(3-t)+1:=by omega
   rw[e,zek,if_pos rfl]at hn;have:zeo n=c:=by omega
   rw[this];exact Frz.int _ _
theorem f71:ET.funcs.get 71=some T71:=zL Tryz.func71
theorem znS:∀(l s t:List Int),(∀b,b∈s↔b∈t)->okI s l=okI t l
 | [],_,_,_=>rfl
 | b::l,s,t,h=>by
  rw[okI,okI,znS l (b::s) (b::t) fun c=>by simp[h c]]
  congr 3
  rw[zDU9,zDB9,zDB9];exact h b
theorem zqR (p:Nat)(l:List Int)(hl:l.length<1000000):FN ET 71 [.list p 1 (l.map iv)] (.ret (.bool (okI [] l))):=by
 refine zfn f71 (.bool _) ?_;(repeat(first|refine za ?_|refine zgo ?_));refine zD (zas (fun m s=>∃i:Nat,m=l.length-i/\i<=l.length/\okI [] l=okI (l.take i) (l.drop i)/\s.tm 0=.list p 1 (l.map iv)/\s.tm 3=iv i/\s.df=[]/\s.H=[]) (n:=l.length) ?_ ?_)
 ·exact⟨0,by simp[upd,zo]⟩
 ·rintro m ⟨tm,df,H⟩ ⟨i,rfl,hi,hd,h0,h3,rfl,rfl⟩;dsimp only at h0 h3;(try refine zK ?_);refine za (zr ?_);refine zfx ?_ (by simp(disch:=omega)only[go_sem,h0,h3,zAA9]<;>rfl);refine zh ?_;refine zN (by simp only[go_sem]<;>rfl) ?_ ?_;rotate_left
  ·intro hlt;have hlt:¬i<l.length:=by have:=of_decide_eq_false hlt;omega
   obtain rfl:i=l.length:=by omega
   simp only[zb,zf,ze,zd,zi,zg,if_true,reduceIte];(repeat(first|refine za ?_|refine zgo ?_));refine zq ?_;(try simp only[zb,zf,ze,zd,zg]);refine zj (by simp only[T71,zE,go_sem]<;>rfl) ?_;simp only[zG];refine zay.bool ?_;rw[hd,zBG9];rfl
  intro hlt;have hlt:i<l.length:=by have:=of_decide_eq_true hlt;omega
  obtain⟨x,hx⟩:∃x,l[i]?=some x:=⟨_,zAB9 hlt⟩
  have hxv:(l.map iv)[i]?=some (iv x):=by rw[zAG9,hx];rfl
  have hdx:l.drop i=x::l.drop (i+1):=by rw[zAU9 hlt];obtain⟨_,e⟩:=zAD9.1 hx;rw[e]
  rw[hdx,okI]at hd;have hle:i<=l.length:=hi;have htk:(l.map iv).take i=(l.take i).map iv:=by rw[zDN9]
  have hhas:=zms p (l.take i) x (by rw[zBB9];omega);(repeat refine za ?_);refine zD ?_;(repeat refine za ?_);refine zag ?_
  by_cases b1:x<1
  ·refine zez (by first|exact trivial|simp only[go_sem,h0,h3,hxv,hlt,b1,zAA9]) (by simp(disch:=omega)only[go_sem,h0,h3,hxv,hlt,b1,zAA9]<;>rfl) rfl (by simp only[go_sem,h0,h3,hxv,hlt,b1,zAA9]<;>rfl) (by simp only[go_sem]<;>rfl) ?_;refine zdl ?_ (by simp(disch:=omega)only[go_sem,h0]<;>rfl);refine zM ?_;simp only[zi,zS,zb,go_sem];refine zfc ?_ ?_
   ·intro _;(repeat(first|refine za ?_|refine zgo ?_));refine zq ?_;(try simp only[zb,zf,ze,zd,zg]);refine zj (by simp only[T71,zE,go_sem]<;>rfl) ?_;simp only[zG];refine zay.bool ?_;rw[hd];simp;omega
   ·intro h;cases h
  by_cases b2:2047<x
  ·refine zez (by first|exact trivial|simp only[go_sem,h0,h3,hxv,hlt,b1,b2,zAA9]) (by simp(disch:=omega)only[go_sem,h0,h3,hxv,hlt,b1,b2,zAA9]<;>rfl) rfl (by simp only[go_sem,h0,h3,hxv,hlt,b1,b2,zAA9]<;>rfl) (by simp only[go_sem]<;>rfl) ?_;refine zdl ?_ (by simp(disch:=omega)only[go_sem,h0]<;>rfl);refine zM ?_;simp only[zi,zS,zb,go_sem];refine zfc ?_ ?_
   ·intro _;(repeat(first|refine za ?_|refine zgo ?_));refine zq ?_;(try simp only[zb,zf,ze,zd,zg]);refine zj (by simp only[T71,zE,go_sem]<;>rfl) ?_;simp only[zG];refine zay.bool ?_;rw[hd];simp;omega
   ·intro h;cases h
  refine zdn hhas ?_ (by simp(disch:=omega)only[go_sem,h0,h3,hxv,hlt,hle,b1,b2,htk,zAA9]<;>rfl);refine zdl ?_ (by simp(disch:=omega)only[go_sem,h0]<;>rfl);refine zM ?_;simp only[zi,zS,zb,go_sem]
  by_cases hc:(l.take i).contains x=true
  ·refine zfc ?_ ?_ (by simp only[go_sem,hc]<;>rfl)
   ·intro _;(repeat(first|refine za ?_|refine zgo ?_));refine zq ?_;(try simp only[zb,zf,ze,zd,zg]);refine zj (by simp only[T71,zE,go_sem]<;>rfl) ?_;simp only[zG];refine zay.bool ?_;rw[hd,hc];simp
   ·intro h;cases h
  have hc:(l.take i).contains x=false:=by simpa using hc
  refine zfc ?_ ?_ (by simp only[go_sem,hc]<;>rfl)
  ·intro h;cases h
  intro _;refine zF ?_;simp only[zb,zf,ze,zd,zi,zg,if_true,reduceIte];(repeat refine za ?_);refine zrg ?_ (by simp(disch:=omega)only[go_sem,h3]<;>rfl);refine zy ?_;simp only[zb,zf,ze,zd,zi,zg,if_true,↓reduceIte];refine⟨_,?m,i+1,rfl,hlt,?_,by simp[upd,h0],by simp[upd,h3],trivial,trivial⟩
  case m=>omega
  rw[hd,hc];have:l.take (i+1)=l.take i++[x]:=by rw[zBM9,hx];rfl
  rw[this,znS _ (x::l.take i) (l.take i++[x]) fun b=>by simp[or_comm]];have e1:decide (1<=x)=true:=by simp;omega
  have e2:decide (x<2048)=true:=by simp;omega
  rw[e1,e2];simp
theorem f53:ET.funcs.get 53=some T53:=zL Tryz.func53
set_option maxHeartbeats 4000000 in
theorem zq4 (p:Nat)(l:List Pr)(hl:l.length<1000000):FN ET 53 [psv p l] (.ret (.bool (okP l))):=by
 refine zfn f53 (.bool _) ?_;(repeat(first|refine za ?_|refine zgo ?_));refine zD (zas (fun m s=>∃(i:Nat) (seen:List Nat) (mo:zn),m=l.length-i/\i<=l.length/\zmr mo seen/\okP l=zhZ seen (zfL l i) (l.drop i)/\s.tm 0=psv p l/\s.tm 3=.map 0/\s.tm 4=iv i/\s.df=[]/\s.H=[mo]) (n:=l.length) ?_ ?_)
 ·exact⟨0,[],.map0,rfl,zAS9 _,.inl ⟨rfl,rfl⟩,(zsS l).symm,by simp[upd,zo],by simp[upd],by simp[upd],rfl,rfl⟩
 ·rintro m ⟨tm,df,H⟩ ⟨i,seen,mo,rfl,hi,hs,hd,h0,h3,h4,rfl,rfl⟩;dsimp only at h0 h3 h4;(try refine zK ?_);refine za (zr ?_);refine zfx ?_ (by simp(disch:=omega)only[go_sem,h0,h4,zAA9]<;>rfl);refine zh ?_;refine zN (by simp only[go_sem]<;>rfl) ?_ ?_;rotate_left
  ·intro hlt;have hlt:¬i<l.length:=by have:=of_decide_eq_false hlt;omega
   obtain rfl:i=l.length:=by omega
   simp only[zb,zf,ze,zd,zi,zg,if_true,reduceIte];(repeat(first|refine za ?_|refine zgo ?_));refine zq ?_;(try simp only[zb,zf,ze,zd,zg]);refine zj (by simp only[T53,zE,go_sem]<;>rfl) ?_;simp only[zG];refine zay.bool ?_;rw[hd,zBG9];rfl
  intro hlt;have hlt:i<l.length:=by have:=of_decide_eq_true hlt;omega
  obtain⟨x,hx⟩:∃x,l[i]?=some x:=⟨_,zAB9 hlt⟩
  have hxv:(l.map pv)[i]?=some (pv x):=by rw[zAG9,hx];rfl
  have hdx:l.drop i=x::l.drop (i+1):=by rw[zAU9 hlt];obtain⟨_,e⟩:=zAD9.1 hx;rw[e]
  rw[hdx,zhZ]at hd;have hpk:some x.1=zfL l (i+1):=by unfold zfL;rw[if_neg (by omega),zFE9,zAQ9,hx];rfl
  rw[hpk]at hd;(repeat refine za ?_);refine zD ?_;(repeat refine za ?_);refine zbA (Q:=fun y s'=>y=.norm/\s'.tm 46=.bool (!zdJ seen (zfL l i) x)/\s'.tm 0=psv p l/\s'.tm 3=.map 0/\s'.tm 4=iv i/\s'.df=[]/\s'.H=[mo]) (zag ?_) ?_
  ·by_cases b0:(decide (1<=x.2)&&decide (x.2<=1099511627776))=true
   rotate_left
   ·have b0:(decide (1<=x.2)&&decide (x.2<=1099511627776))=false:=by simpa using b0
    refine zdn (zc3 x.2) ?_ (by simp(disch:=omega)only[go_sem,h0,h3,h4,hxv,hlt,zAA9,b0]<;>rfl);refine zdl ?_ (by simp(disch:=omega)only[go_sem,h0,h3,h4,hxv,hlt,zAA9,b0]<;>rfl);refine zM ?_;simp only[zi,zS,zb,go_sem];exact⟨by simp[zdJ,b0],h0,h3,h4⟩
   have b1:1<=x.2:=by simp at b0;exact b0.1
   have b2:x.2<=1099511627776:=by simp at b0;exact b0.2
   by_cases b3:i=0
   ·subst b3;rcases hs with⟨rfl,rfl⟩|⟨mm,rfl,hmm⟩
    ·skip
     refine zdn (zc3 x.2) ?_ (by simp(disch:=omega)only[go_sem,h0,h3,h4,hxv,hlt,zAA9,b0]<;>rfl);refine zdl ?_ (by simp(disch:=omega)only[go_sem,h0,h3,h4,hxv,hlt,zAA9,b0]<;>rfl);refine zM ?_;simp only[zi,zS,zb,go_sem];exact⟨by simp[zdJ,b1,b2,zfL,zei],h0,h3,h4⟩
    ·have hq:=hmm x.2
     by_cases hc:seen.contains x.2=true
     ·rw[if_pos hc]at hq;have hc2:x.2∈seen:=by simpa using hc
      refine zdn (zc3 x.2) ?_ (by simp(disch:=omega)only[go_sem,h0,h3,h4,hxv,hlt,zAA9,b0,hq]<;>rfl);refine zdl ?_ (by simp(disch:=omega)only[go_sem,h0,h3,h4,hxv,hlt,zAA9,b0,hq]<;>rfl);refine zM ?_;simp only[zi,zS,zb,go_sem];exact⟨by simp[zdJ,b1,b2,zfL,zei,hc2],h0,h3,h4⟩
     ·rw[if_neg hc]at hq;have hc2:¬x.2∈seen:=by simpa using hc
      refine zdn (zc3 x.2) ?_ (by simp(disch:=omega)only[go_sem,h0,h3,h4,hxv,hlt,zAA9,b0,hq]<;>rfl);refine zdl ?_ (by simp(disch:=omega)only[go_sem,h0,h3,h4,hxv,hlt,zAA9,b0,hq]<;>rfl);refine zM ?_;simp only[zi,zS,zb,go_sem];exact⟨by simp[zdJ,b1,b2,zfL,zei,hc2],h0,h3,h4⟩
   have hi0:(0:Int)<(i:Int):=by omega
   have hi1:IntKind.i64.wrap ((i:Int)-1)=((i-1:Nat):Int):=by rw[wrap_i64 (by omega) (by omega)];omega
   have hil:i-1<l.length:=by omega
   have hpv:(l.map pv)[i-1]?=some (pv (l.getD (i-1) (0,0))):=by rw[zAG9,get_lt l hil];rfl
   have hpk2:zfL l i=some (l.getD (i-1) (0,0)).1:=by unfold zfL;rw[if_neg b3]
   generalize l.getD (i-1) (0,0)=pr at hpv hpk2
   by_cases b4:pr.1<x.1
   ·have hkey:¬((x.1:Nat):Int)<=(pr.1:Nat):=by omega
    rcases hs with⟨rfl,rfl⟩|⟨mm,rfl,hmm⟩
    ·skip
     refine zdn (zc3 x.2) ?_ (by simp(disch:=omega)only[go_sem,h0,h3,h4,hxv,hlt,zAA9,b0,hi0,hi1,hil,hpv,hkey]<;>rfl);refine zdl ?_ (by simp(disch:=omega)only[go_sem,h0,h3,h4,hxv,hlt,zAA9,b0,hi0,hi1,hil,hpv,hkey]<;>rfl);refine zM ?_;simp only[zi,zS,zb,go_sem];exact⟨by simp[zdJ,b1,b2,hpk2,zei,b4],h0,h3,h4⟩
    ·have hq:=hmm x.2
     by_cases hc:seen.contains x.2=true
     ·rw[if_pos hc]at hq;have hc2:x.2∈seen:=by simpa using hc
      refine zdn (zc3 x.2) ?_ (by simp(disch:=omega)only[go_sem,h0,h3,h4,hxv,hlt,zAA9,b0,hi0,hi1,hil,hpv,hkey,hq]<;>rfl);refine zdl ?_ (by simp(disch:=omega)only[go_sem,h0,h3,h4,hxv,hlt,zAA9,b0,hi0,hi1,hil,hpv,hkey,hq]<;>rfl);refine zM ?_;simp only[zi,zS,zb,go_sem];exact⟨by simp[zdJ,b1,b2,hpk2,zei,b4,hc2],h0,h3,h4⟩
     ·rw[if_neg hc]at hq;have hc2:¬x.2∈seen:=by simpa using hc
      refine zdn (zc3 x.2) ?_ (by simp(disch:=omega)only[go_sem,h0,h3,h4,hxv,hlt,zAA9,b0,hi0,hi1,hil,hpv,hkey,hq]<;>rfl);refine zdl ?_ (by simp(disch:=omega)only[go_sem,h0,h3,h4,hxv,hlt,zAA9,b0,hi0,hi1,hil,hpv,hkey,hq]<;>rfl);refine zM ?_;simp only[zi,zS,zb,go_sem];exact⟨by simp[zdJ,b1,b2,hpk2,zei,b4,hc2],h0,h3,h4⟩
   ·have hkey:((x.1:Nat):Int)<=(pr.1:Nat):=by omega
    refine zdn (zc3 x.2) ?_ (by simp(disch:=omega)only[go_sem,h0,h3,h4,hxv,hlt,zAA9,b0,hi0,hi1,hil,hpv,hkey]<;>rfl);refine zdl ?_ (by simp(disch:=omega)only[go_sem,h0,h3,h4,hxv,hlt,zAA9,b0,hi0,hi1,hil,hpv,hkey]<;>rfl);refine zM ?_;simp only[zi,zS,zb,go_sem];exact⟨by simp[zdJ,b1,b2,hpk2,zei,b4],h0,h3,h4⟩
  clear h0 h3 h4;rintro y ⟨tm,df,H⟩ ⟨rfl,h46,h0,h3,h4,rfl,rfl⟩;dsimp only at h46 h0 h3 h4;simp only[zb,zf,ze,zd,zi,zg,if_true,reduceIte]
  by_cases hst:zdJ seen (zfL l i) x=true
  rotate_left
  ·have hst:zdJ seen (zfL l i) x=false:=by simpa using hst
   refine zfc ?_ ?_ (by simp only[go_sem,h46]<;>rfl)
   ·intro _;(repeat(first|refine za ?_|refine zgo ?_));refine zq ?_;(try simp only[zb,zf,ze,zd,zg]);refine zj (by simp only[T53,zE,go_sem]<;>rfl) ?_;simp only[zG];refine zay.bool ?_;rw[hd,hst];rfl
   ·rw[hst];intro h;cases h
  rw[hst,zCA9]at hd;refine zfc ?_ ?_ (by simp only[go_sem,h46]<;>rfl)
  ·rw[hst];intro h;cases h
  intro _;refine zF ?_;show W _ _ _ _ _ _;rcases hs with⟨rfl,rfl⟩|⟨mm,rfl,hmm⟩
  ·(repeat refine za ?_);refine zrg ?_ (by simp(disch:=omega)only[go_sem,h0,h3,h4,hxv,hlt,zAA9]<;>rfl);refine zy ?_;simp only[zb,zf,ze,zd,zi,zg,if_true,↓reduceIte];(repeat refine za ?_);refine zrg ?_ (by simp(disch:=omega)only[go_sem,h4]<;>rfl);refine zy ?_;simp only[zb,zf,ze,zd,zi,zg,if_true,↓reduceIte];refine⟨_,?m1,i+1,[x.2],_,rfl,hlt,.inr ⟨_,rfl,fun q=>?_⟩,hd,by simp[upd,h0],by simp[upd,h3],by simp[upd,h4],trivial,rfl⟩
   case m1=>omega
   by_cases hq:q=x.2
   ·subst hq;simp
   ·have:¬(q:Int)=x.2:=by omega
    simp[hq,this]
  ·(repeat refine za ?_);refine zrg ?_ (by simp(disch:=omega)only[go_sem,h0,h3,h4,hxv,hlt,zAA9]<;>rfl);refine zy ?_;simp only[zb,zf,ze,zd,zi,zg,if_true,↓reduceIte];(repeat refine za ?_);refine zrg ?_ (by simp(disch:=omega)only[go_sem,h4]<;>rfl);refine zy ?_;simp only[zb,zf,ze,zd,zi,zg,if_true,↓reduceIte];refine⟨_,?m2,i+1,x.2::seen,_,rfl,hlt,.inr ⟨_,rfl,fun q=>?_⟩,hd,by simp[upd,h0],by simp[upd,h3],by simp[upd,h4],trivial,rfl⟩
   case m2=>omega
   by_cases hq:q=x.2
   ·subst hq;simp
   ·have:¬(q:Int)=x.2:=by omega
    rw[if_neg this,hmm q];simp[hq]
theorem f72:ET.funcs.get 72=some T72:=zL Tryz.func72
theorem ziB (p:Nat)(n:zB)(h1:n.level<=12)(h2:n.sib<2048)(h3:n.way<=2)(hp:n.pairs.length<=27):FN ET 72 [zZ p n] (.ret (wv 0 (zbr n))):=by
 refine zfn f72 (Lb.uvs _) ?_;have e0:(7522529147838689024:Int)+(n.level:Int)=((7522529147838689024+n.level:Nat):Int):=by omega
 have g:∀k,k<64->∃v,((zbY n k).map uv)[k]?=some v:=fun k hk=>⟨_,zAB9 (by rw[zAA9,zjR];exact hk)⟩
 have s:∀k,(zbY n (k+1)).map uv=((zbY n k).map uv).set k (uv (zsD k n)):=fun k=>by rw[show zbY n (k+1)=(zbY n k).set k (zsD k n)from rfl,zET9]
 obtain⟨v0,g0⟩:=g 0 (by decide);obtain⟨v1,g1⟩:=g 1 (by decide);obtain⟨v2,g2⟩:=g 2 (by decide);obtain⟨v3,g3⟩:=g 3 (by decide);obtain⟨v4,g4⟩:=g 4 (by decide);have s0:((zbY n 0).map uv).set 0 (.int .u64 ((7522529147838689024+n.level:Nat):Int))=(zbY n 1).map uv:=(s 0).symm;have s1:((zbY n 1).map uv).set 1 (.int .u64 (n.sib:Int))=(zbY n 2).map uv:=(s 1).symm;have s2:((zbY n 2).map uv).set 2 (.int .u64 (n.low:Int))=(zbY n 3).map uv:=(s 2).symm;have s3:((zbY n 3).map uv).set 3 (.int .u64 (n.left:Int))=(zbY n 4).map uv:=(s 3).symm;have s4:((zbY n 4).map uv).set 4 (.int .u64 (n.way:Int))=(zbY n 5).map uv:=(s 4).symm;(repeat refine za ?_);(repeat refine za ?_);refine zrg ?_;refine zh ?_;(repeat refine za ?_);(repeat refine za ?_);refine zrg ?_;refine zh ?_;have h00:List.replicate 64 (PV.int .u64 0)=(zbY n 0).map uv:=by rw[show zbY n 0=List.replicate 64 0 from rfl,List.map_replicate];rfl
 rw[h00];generalize hL0:(zbY n 0).map uv=L0 at *
 generalize hL1:(zbY n 1).map uv=L1 at *
 generalize hL2:(zbY n 2).map uv=L2 at *
 generalize hL3:(zbY n 3).map uv=L3 at *
 generalize hL4:(zbY n 4).map uv=L4 at *
 generalize hL5:(zbY n 5).map uv=L5 at *
 (repeat refine za ?_);refine zag ?_;refine zda ?_ (by simp(disch:=omega)only[go_sem,e0,g0,s0]<;>rfl);refine zda ?_ (by simp(disch:=omega)only[go_sem,g1,s1]<;>rfl);refine zda ?_ (by simp(disch:=omega)only[go_sem,g2,s2]<;>rfl);refine zda ?_ (by simp(disch:=omega)only[go_sem,g3,s3]<;>rfl);refine zda ?_ (by simp(disch:=omega)only[go_sem,g4,s4]<;>rfl);refine zdl ?_ (by simp(disch:=omega)only[go_sem,e0]<;>rfl);refine zM ?_;simp only[zi,zS,zb,go_sem];(repeat(first|refine za ?_|refine zgo ?_));subst hL5;refine zD (zas (fun m s=>∃(j:Nat) (G:List zn),m=n.pairs.length-j/\j<=n.pairs.length/\s.tm 1=.ptr 0 0 0 0 6/\s.tm 3=.sl 1 0 0 64 128 1/\s.tm 4=iv j/\s.df=[]/\s.H=.row 124 6 0 0 [zZ p n]::.row 24 1 0 0 ((zcO n j).map uv)::G) (n:=n.pairs.length) ?_ ?_)
 ·exact⟨0,_,rfl,zAS9 _,by simp[upd],by simp[upd],by simp[upd],rfl,rfl⟩
 ·rintro m ⟨tm,df,H⟩ ⟨j,G,rfl,hj,t1,t3,t4,rfl,rfl⟩;dsimp only at t1 t3 t4;(try refine zK ?_);refine za (zr ?_);refine zfx ?_ (by simp(disch:=omega)only[go_sem,t1,t3,t4,zAA9]<;>rfl);refine zh ?_;refine zN (by simp only[go_sem]<;>rfl) ?_ ?_
  ·intro hlt;have hlt:j<n.pairs.length:=by have:=of_decide_eq_true hlt;omega
   have hpj:(n.pairs.map pv)[j]?=some (pv (n.pairs.getD j (0,0))):=by rw[zAG9,get_lt _ hlt];rfl
   obtain⟨o1,ho1⟩:∃old,(zcO n j)[8+2*j]?=some old:=⟨_,zAB9 (by rw[zff];omega)⟩
   obtain⟨o2,ho2⟩:∃old,((zcO n j).set (8+2*j) (n.pairs.getD j (0,0)).1)[8+2*j+1]?=some old:=⟨_,zAB9 (by rw[zCS9,zff];omega)⟩
   have w1:IntKind.i64.wrap (2*(j:Int))=((2*j:Nat):Int):=by rw[wrap_i64 (by omega) (by omega)];omega
   have w2:IntKind.i64.wrap (8+((2*j:Nat):Int))=((8+2*j:Nat):Int):=by rw[wrap_i64 (by omega) (by omega)];omega
   have w3:IntKind.i64.wrap (9+((2*j:Nat):Int))=((8+2*j+1:Nat):Int):=by rw[wrap_i64 (by omega) (by omega)];omega
   have c1:8+2*j<64:=by omega
   have c2:8+2*j+1<64:=by omega
   have z1:((zcO n j).map uv)[8+2*j]?=some (uv o1):=by rw[zAG9,ho1];rfl
   have z2:(((zcO n j).set (8+2*j) (n.pairs.getD j (0,0)).1).map uv)[8+2*j+1]?=some (uv o2):=by rw[zAG9,ho2];rfl
   have y1:((zcO n j).map uv).set (8+2*j) (.int .u64 ((n.pairs.getD j (0,0)).1:Int))=((zcO n j).set (8+2*j) (n.pairs.getD j (0,0)).1).map uv:=zET9.symm;have y2:(((zcO n j).set (8+2*j) (n.pairs.getD j (0,0)).1).map uv).set (8+2*j+1) (.int .u64 ((n.pairs.getD j (0,0)).2:Int))=(zcO n (j+1)).map uv:=zET9.symm;generalize n.pairs.getD j (0,0)=q at *
   generalize (zcO n j).map uv=K0 at *
   generalize ((zcO n j).set (8+2*j) q.1).map uv=K1 at *
   (repeat refine za ?_);refine zD ?_;(repeat refine za ?_);refine zag ?_;refine zda ?_ (by simp(disch:=omega)only[go_sem,t1,t3,t4,hpj,hlt,w1,w2,w3,c1,c2,z1,y1]<;>rfl);refine zda ?_ (by simp(disch:=omega)only[go_sem,t1,t3,t4,hpj,hlt,w1,w2,w3,c1,c2,z2,y2]<;>rfl);refine zdl ?_ (by simp(disch:=omega)only[go_sem,t3]<;>rfl);refine zM ?_;simp only[zi,zS,zb,go_sem];(repeat refine za ?_);refine zrg ?_ (by simp(disch:=omega)only[go_sem,t4]<;>rfl);refine zy ?_;simp only[zb,zf,ze,zd,zi,zg,if_true,↓reduceIte];refine⟨_,?m2,j+1,G,rfl,hlt,by simp[upd,t1],by simp[upd,t3],by simp[upd,t4],trivial,rfl⟩
   case m2=>omega
  ·intro hlt;have hlt:¬j<n.pairs.length:=by have:=of_decide_eq_false hlt;omega
   obtain rfl:j=n.pairs.length:=by omega
   simp only[zb,zf,ze,zd,zi,zg,if_true,reduceIte];(repeat(first|refine za ?_|refine zgo ?_ (by simp(disch:=omega)only[go_sem,t3]<;>rfl)));refine zq ?_;(try simp only[zb,zf,ze,zd,zg]);refine zj (by simp only[T72,zE,go_sem]<;>rfl) ?_;simp only[zG];refine Frz.whole (l:=(zcO n n.pairs.length).map uv) rfl rfl (by simp[zff]) (by simp[zff]) (fun v hv=>?_) zif;obtain⟨x,_,rfl⟩:=zAP9.1 hv;rfl
theorem f28:ET.funcs.get 28=some T28:=zL Tryz.func28
theorem Frz.wholeM {H:List zn}{lab id e z z' G M o n q:Nat}{l:List PV}(hH:H[id]?=some (.row e z' G M l))(hM:M<=G)(ho:o=0)(hl:n=l.length)(hq:2*l.length<=q)(hz:∀v∈l,v.cells.length=z)(hs:∀v∈l.flatMap PV.cells,Id0 v) :
  Frz H lab (.sl id G o n q z) (.list lab z l):=by
 subst ho hl;refine .sl hH hM (zAM9 _) (by omega) hq rfl hz (by simp) fun i x y hx hy=>?_;have:x=y:=by
  simp at hx;rw[hx]at hy;injection hy
 subst this;exact(hs _ (zAK9 hy)).frz
@[reducible] def zb5 (n:zB) (pvl:PV):PV:=.agg [iv n.level,iv n.sib,uv n.low,uv n.left,iv n.way,pvl]
def zfW (H:List zn)(pvl:PV)(ps:List Pr):Prop:=(pvl=.nilsl/\ps=[])\/∃id g,pvl=.sl id g 0 ps.length (2*ps.length) 2/\H[id]?=some (.row 66 2 g 0 (ps.map pv))
def zdS:PV->Option Nat
 | .sl id _ _ _ _ _=>some id
 | _=>none
structure Lvl (H:List zn)(vs:List PV)(ps:List PV)(nodes:List zB):Prop where
 lenV:vs.length=nodes.length
 lenP:ps.length=nodes.length
 val:∀(q:Nat) (n:zB) (p:PV),nodes[q]?=some n->ps[q]?=some p->vs[q]?=some (zb5 n p)/\zfW H p n.pairs
 dist:∀(q r:Nat) (x y:PV) (a:Nat),ps[q]?=some x->ps[r]?=some y->zdS x=some a->zdS y=some a->q=r
def isP:zn->Prop
 | .row e _ _ _ _=>e=66
 | _=>False
theorem zfW.keep {H H':List zn}{p:PV}{ps:List Pr}(h:zfW H p ps)(k:∀(id:Nat) (o:zn),zdS p=some id->isP o->H[id]?=some o->H'[id]?=some o):zfW H' p ps:=by
 rcases h with h|⟨id,g,rfl,h2⟩
 ·exact .inl h
 ·exact .inr ⟨id,g,rfl,k id _ rfl rfl h2⟩
theorem Lvl.keep {H H':List zn}{vs ps:List PV}{nodes:List zB}(h:Lvl H vs ps nodes)(k:∀(id:Nat) (o:zn),isP o->H[id]?=some o->H'[id]?=some o):Lvl H' vs ps nodes :=
 ⟨h.lenV,h.lenP,fun q n p hn hp=>⟨(h.val q n p hn hp).1,(h.val q n p hn hp).2.keep fun id o _ ho hi=>k id o ho hi⟩,h.dist⟩
theorem Lvl.nil (H:List zn):Lvl H [] [] []:=⟨rfl,rfl,fun q n p h=>by simp at h,fun q r x y a h=>by simp at h⟩
theorem Lvl.snoc {H:List zn}{vs ps:List PV}{nodes:List zB}(h:Lvl H vs ps nodes)(n:zB)(hn:n.pairs=[]):Lvl H (vs++[zb5 n .nilsl]) (ps++[.nilsl]) (nodes++[n]):=by
 refine⟨by simp[h.lenV],by simp[h.lenP],fun q m p hm hp=>?_,fun q r x y a hx hy ha hb=>?_⟩
 ·rcases zCP9 q nodes.length with hq|hq
  ·rw[zAW9 hq]at hm;rw[zAW9 (by rw[h.lenP];exact hq)]at hp;rw[zAW9 (by rw[h.lenV];exact hq)];exact h.val q m p hm hp
  ·rw[zAO9 hq]at hm;rw[zAO9 (by rw[h.lenP];exact hq)]at hp;rw[zAO9 (by rw[h.lenV];exact hq)];rw[h.lenP]at hp;rw[h.lenV];obtain rfl:=zBL9.1 (zAK9 hm);obtain rfl:=zBL9.1 (zAK9 hp);have h0:q-nodes.length=0:=by have:=(zAD9.1 hm).1;simp at this;omega
   rw[h0];exact⟨rfl,.inl ⟨rfl,hn⟩⟩
 ·have hl:∀(s:Nat) (z:PV),(ps++[PV.nilsl])[s]?=some z->zdS z=some a->ps[s]?=some z:=fun s z hz he=>by
   rcases zCP9 s ps.length with hs|hs
   ·rwa [zAW9 hs]at hz
   ·rw[zAO9 hs]at hz;obtain rfl:=zBL9.1 (zAK9 hz);simp[zdS]at he
  exact h.dist q r x y a (hl q x hx ha) (hl r y hy hb) ha hb
theorem Lvl.last {H H':List zn}{vf pf:List PV}{front:List zB}{v p p':PV}{nd nd':zB}(h:Lvl H (vf++[v]) (pf++[p]) (front++[nd]))(hlv:vf.length=front.length)(hlp:pf.length=front.length)
  (hp':zfW H' p' nd'.pairs) (hd:∀a,zdS p'=some a->zdS p=some a\/H.length<=a) (k:∀(id:Nat) (o:zn),isP o->H[id]?=some o->H'[id]?=some o\/zdS p=some id):Lvl H' (vf++[zb5 nd' p']) (pf++[p']) (front++[nd']):=by
 have hlast:(pf++[p])[front.length]?=some p:=by rw[<- hlp];simp
 have hpq:∀(q:Nat) (x:PV),q<front.length->pf[q]?=some x->(pf++[p])[q]?=some x:=fun q x hq hx=>by rw[zAW9 (by omega)];exact hx
 have hbound:∀(q:Nat) (x:PV) (a:Nat),q<front.length->pf[q]?=some x->zdS x=some a->a<H.length:=fun q x a hq hx ha=>by
  obtain⟨n,hn⟩:∃n,front[q]?=some n:=⟨_,zAB9 hq⟩
  have:=(h.val q n x (by rw[zAW9 hq];exact hn) (hpq q x hq hx)).2;rcases this with⟨rfl,_⟩|⟨id,g,rfl,h2⟩
  ·simp[zdS]at ha
  ·simp[zdS]at ha;subst ha;exact(zAD9.1 h2).1
 refine⟨by simp[hlv],by simp[hlp],fun q m x hm hx=>?_,fun q r x y a hx hy ha hb=>?_⟩
 ·rcases zCP9 q front.length with hq|hq
  ·rw[zAW9 hq]at hm;rw[zAW9 (by omega)]at hx;rw[zAW9 (by omega)];have hv:=h.val q m x (by rw[zAW9 hq];exact hm) (hpq q x hq hx);rw[zAW9 (by omega)]at hv;refine⟨hv.1,hv.2.keep fun id o he ho hi=>?_⟩;rcases k id o ho hi with h1|h1
   ·exact h1
   ·exact absurd (h.dist q front.length x p id (hpq q x hq hx) hlast he h1) (by omega)
  ·rw[zAO9 hq]at hm;rw[zAO9 (by omega)]at hx;rw[zAO9 (by omega)];have h0:q-front.length=0:=by have:=(zAD9.1 hm).1;simp at this;omega
   rw[h0]at hm;rw[hlp,h0]at hx;rw[hlv,h0];injection hm with hm;injection hx with hx;subst hm hx;exact⟨rfl,hp'⟩
 ·have hcase:∀(s:Nat) (z:PV),(pf++[p'])[s]?=some z->(s<front.length/\pf[s]?=some z)\/(s=front.length/\z=p'):=fun s z hz=>by
   rcases zCP9 s front.length with hs|hs
   ·rw[zAW9 (by omega)]at hz;exact .inl ⟨hs,hz⟩
   ·rw[zAO9 (by omega)]at hz;have h0:s-pf.length=0:=by have:=(zAD9.1 hz).1;simp at this;omega
    rw[h0]at hz;injection hz with hz;exact .inr ⟨by omega,hz.symm⟩
  have key:∀(s:Nat) (z:PV),s<front.length->pf[s]?=some z->zdS z=some a->zdS p'=some a->False:=fun s z hs hz he hp=>by
   rcases hd a hp with h1|h1
   ·exact absurd (h.dist s front.length z p a (hpq s z hs hz) hlast he h1) (by omega)
   ·have:=hbound s z a hs hz he;omega
  rcases hcase q x hx with⟨h1,h2⟩|⟨h1,h2⟩
  ·rcases hcase r y hy with⟨h3,h4⟩|⟨h3,h4⟩
   ·exact h.dist q r x y a (hpq q x h1 h2) (hpq r y h3 h4) ha hb
   ·rw[h4]at hb;exact(key q x h1 h2 ha hb).elim
  ·rcases hcase r y hy with⟨h3,h4⟩|⟨h3,h4⟩
   ·rw[h2]at ha;exact(key r y h3 h4 hb ha).elim
   ·omega
theorem zhj (ks:List Pr)(m j:Nat)(h:j<m)(hm:m<=ks.length):(ks.take m).getD j (0,0)=ks.getD j (0,0):=by
 rw[zAQ9,zAQ9,zBD9,if_pos h]
theorem zmf (k:Nat)(ks:List Pr)(m j:Nat)(h:k*j+k<=m):((ks.take m).drop (k*j)).take k=(ks.drop (k*j)).take k:=by
 rw[zFF9,zFH9,zDI9 (by omega)]
theorem zma (k:Nat)(ks:List Pr)(m j:Nat)(h:m<=k*j+k):((ks.take m).drop (k*j)).take k=(ks.drop (k*j)).take (m-k*j):=by
 rw[zFF9,zFH9,Nat.min_eq_right (by omega)]
def zcP (n:zB)(l:List Pr):zB:={ n with pairs:=l }
def zlw (lv i:Nat)(x:Pr)(L:List zB):List zB:=if i%19=0 then L++[⟨lv,0,x.1,x.2,0,[]⟩]else
 match L.getLast? with
 | some n=>L.dropLast++[zcP n (n.pairs++[x])]
 | none=>L
theorem znM (lv:Nat)(ks:List Pr)(m c:Nat)(hm:m<=ks.length)(hc:19*c<=m):(List.range c).map (zdr lv (ks.take m))=(List.range c).map (zdr lv ks):=by
 refine zDZ9 fun j hj=>?_;have hj:j<c:=zDC9.1 hj;unfold zdr;rw[zhj ks m _ (by omega) hm,zmf 19 ks m j (by omega)]
theorem zuM (lv:Nat)(ks:List Pr)(m c:Nat)(hm:m<=ks.length)(h1:19*c<m)(h2:m<=19*c+19):zdr lv (ks.take m) c=⟨lv,0,(ks.getD (19*c) (0,0)).1,(ks.getD (19*c) (0,0)).2,0,((ks.drop (19*c)).take (m-19*c)).drop 1⟩:=by
 unfold zdr;rw[zhj ks m _ h1 hm,zma 19 ks m c h2]
theorem zhI (lv:Nat)(ks:List Pr)(m c:Nat)(hm:m<=ks.length)(h1:19*c<m)(h2:m<=19*c+19):zco lv (ks.take m)=(List.range c).map (zdr lv ks)++[⟨lv,0,(ks.getD (19*c) (0,0)).1,(ks.getD (19*c) (0,0)).2,0,((ks.drop (19*c)).take (m-19*c)).drop 1⟩]:=by
 unfold zco;have:(zh9 19 (ks.take m)).length=c+1:=by rw[zfC,zBB9,zDI9 hm];omega
 rw[this,zDJ9,zBZ9,znM lv ks m c hm (by omega)];simp only[zCH9,zBX9];rw[zuM lv ks m c hm h1 h2]
theorem zsh (lv:Nat)(ks:List Pr)(i:Nat)(hi:i<ks.length):zco lv (ks.take (i+1))=zlw lv i (ks.getD i (0,0)) (zco lv (ks.take i)):=by
 unfold zlw
 by_cases h:i%19=0
 ·rw[if_pos h];obtain⟨c,rfl⟩:∃c,i=19*c:=⟨i/19,by omega⟩
  rw[zhI lv ks (19*c+1) c (by omega) (by omega) (by omega)];have e:zco lv (ks.take (19*c))=(List.range c).map (zdr lv ks):=by
   unfold zco;have:(zh9 19 (ks.take (19*c))).length=c:=by rw[zfC,zBB9,zDI9 (by omega)];omega
   rw[this,znM lv ks (19*c) c (by omega) (by omega)]
  rw[e];have:((ks.drop (19*c)).take (19*c+1-19*c)).drop 1=[]:=by
   apply zEO9;rw[zBB9];omega
  rw[this]
 ·rw[if_neg h];have hc1:19*(i/19)<i:=by omega
  rw[zhI lv ks i (i/19) (by omega) hc1 (by omega),zhI lv ks (i+1) (i/19) (by omega) (by omega) (by omega)];simp only[zEG9,zDT9,zcP]
  congr 3
  have e:i+1-19*(i/19)=(i-19*(i/19))+1:=by omega
  rw[e,zBM9,zFU9 (by rw[zBB9,zCI9];omega)]
  congr 1
  rw[zCB9,show 19*(i/19)+(i-19*(i/19))=i by omega,get_lt ks hi];rfl
def zfE (i:Nat)(x:Pr)(L:List zB):List zB:=if 0<i/\i%18=0 then L++[⟨0,0,x.1,9223372036854775808,0,[]⟩]else L
def zoI (x:Pr)(L:List zB):List zB:=match L.getLast? with
 | some n=>L.dropLast++[zcP n (n.pairs++[x])]
 | none=>L
theorem zwj (ks:List Pr)(m c:Nat)(hm:m<=ks.length)(hc:18*c<=m):(List.range c).map (zdu (ks.take m))=(List.range c).map (zdu ks):=by
 refine zDZ9 fun j hj=>?_;have hj:j<c:=zDC9.1 hj;unfold zdu;rw[zhj ks m _ (by omega) hm,zmf 18 ks m j (by omega)]
theorem zgD (ks:List Pr)(m c:Nat)(hm:m<=ks.length)(h1:18*c<m\/(m=0/\c=0))(h2:m<=18*c+18):zbX (ks.take m)=(List.range c).map (zdu ks)++[⟨0,0,if 0<c then(ks.getD (18*c) (0,0)).1 else 0,9223372036854775808,0,(ks.drop (18*c)).take (m-18*c)⟩]:=by
 rw[zgE,zBB9,zDI9 hm];have:max 1 ((m+17)/18)=c+1:=by omega
 rw[this,zDJ9,zBZ9,zwj ks m c hm (by omega)];simp only[zCH9,zBX9]
 congr 2
 unfold zdu;rw[zma 18 ks m c h2]
 by_cases hc:0<c
 ·rw[if_pos hc,if_pos hc,zhj ks m _ (by omega) hm]
 ·rw[if_neg hc,if_neg hc]
theorem ztA (ks:List Pr)(i:Nat)(hi:i<ks.length):zbX (ks.take (i+1))=zoI (ks.getD i (0,0)) (zfE i (ks.getD i (0,0)) (zbX (ks.take i))):=by
 unfold zfE
 by_cases h:0<i/\i%18=0
 ·rw[if_pos h];obtain⟨c,rfl⟩:∃c,i=18*(c+1):=⟨i/18-1,by omega⟩
  rw[zgD ks (18*(c+1)+1) (c+1) (by omega) (by omega) (by omega),zgD ks (18*(c+1)) c (by omega) (by omega) (by omega)];unfold zoI;simp only[zEG9,zDT9,zcP];rw[zDJ9,zBZ9];simp only[zCH9,zBX9,zAL9]
  congr 2
  ·congr 2
   unfold zdu
   congr 1
   rw[show 18*(c+1)-18*c=18 by omega]
  ·rw[if_pos (zCO9 _)]
   congr 1
   rw[show 18*(c+1)+1-18*(c+1)=1 by omega];rw[zAU9 hi,zFW9,zFX9,zAQ9,zAB9 hi];rfl
 ·rw[if_neg h];have hc1:18*(i/18)<i\/(i=0/\i/18=0):=by omega
  rw[zgD ks i (i/18) (by omega) hc1 (by omega),zgD ks (i+1) (i/18) (by omega) (by omega) (by omega)];unfold zoI;simp only[zEG9,zDT9,zcP]
  congr 3
  have e:i+1-18*(i/18)=(i-18*(i/18))+1:=by omega
  rw[e,zBM9]
  congr 1
  rw[zCB9,show 18*(i/18)+(i-18*(i/18))=i by omega,get_lt ks hi];rfl
end Fv
end Go.Proofs.YtfomlmhnmheenaaGreat
