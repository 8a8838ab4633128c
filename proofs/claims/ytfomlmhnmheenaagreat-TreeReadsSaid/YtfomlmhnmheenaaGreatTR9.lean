/- TreeReads returns true for every input, and its input reads afterwards as it did. No condition. -/
import Derived.Test.YtfomlmhnmheenaaGreatTR8
import Derived.WalkKit
import Derived.WalkSpells
import Derived.WalkLawsBesides
import Derived.Lib.Hide
import Derived.Maps.AppendAt
import Derived.Maps.OwnOps
import Derived.Maps.Views
import Derived.Deep.AppendLies
import Derived.Deep.Draws
import Derived.Deep.RegionHeld3
import Derived.Deep.QuietTactic
import Derived.BigQuiet
import Derived.Deep.RegionWith
import Derived.Test.YtfomlmhnmheenaaGreatProg
import Derived.Laws.MakeOwn
import Derived.Laws.OwnMore
import Derived.RangeFuncNested
import Derived.RangeFuncBound
import Derived.RangeFuncCalls
import Derived.RangeFuncLeaves
import Derived.Shelf.RegionOpen
import Derived.OwnWalkIn
import Derived.TacticsInMore
import Derived.LoopNIn
import Derived.LoopIn
import Derived.Scope
import Derived.Shelf.Abstract
import Derived.OrdersHeld
import Derived.OrdersIn
import Derived.Maps.OwnIn
import Derived.RangeFuncOwn
import Derived.WalkArith
import Derived.Laws.CopyOwn
import Derived.Lib.AppendZerosOnto
import Derived.Lib.Overlaps
import Derived.Laws.Externs
import Derived.Shelf.RegionOpenPlain
import Derived.Lib.JoinLaws
import Derived.Lib.SliceRun
import Derived.Recover
import Derived.RecoverIn
import Derived.Shelf.SortM.Plain
import Derived.KernelRfl
import Derived.Sort.OwnSortedInts
import Derived.ProofKit
import Derived.OpenShut
import Derived.Deep.Slices
import Derived.Deep.SlicePairs
import Derived.ShutString
import Derived.ChangeOld
import Derived.Test.YtfomlmhnmheenaaGreatRows
set_option linter.unusedSimpArgs false
set_option linter.unusedVariables false
namespace Go.Proofs.YtfomlmhnmheenaaGreat
namespace Fv
open Tw
attribute [local go_sem] zaZ zaz zab zap evs ev okv zbj zT.cls za5 za7 za9 zQ zR upd zo zaS zaQ zaR zax zaL zaP zaT zaM zaY zaO zar zaV zaU zaX zaW zaK zaN zae zaC zaJ zal zak zbg PV.cells ofC za6 zV zao okF zaf spl zaB zaF bnd zai zam zan za3 zbb zU zau zaH zaj za8 zbd zW lenP zc zk zah zba PV.toT zaA zH Nat.mul_mod_right Int.reduceOfNat Int.reduceToNat Int.cast_ofNat_Int Int.reduceLE Int.reduceLT Int.reduceAdd Int.reduceSub Int.reduceMul Int.reduceNegSucc Nat.reduceEqDiff if_true if_false ite_true ite_false decide_true decide_false Bool.not_true Bool.not_false and_true true_and and_self false_and and_false or_false false_or or_true true_or or_self List.length_cons List.length_nil List.length_map List.getElem?_cons_zero List.getElem?_cons_succ List.getElem?_map List.getElem?_nil Option.map_some Option.map_none Option.getD_some List.append_nil List.nil_append List.cons_append List.take_succ_cons List.take_zero List.drop_zero List.drop_succ_cons List.set_cons_zero List.set_cons_succ Int.toNat_natCast Int.natCast_nonneg Nat.le_refl Nat.zero_le Nat.reduceAdd Nat.reduceSub Nat.reduceMul Nat.reduceLeDiff Nat.reduceLT Bool.false_eq_true Bool.true_eq_false Nat.add_zero Nat.zero_add List.all_cons List.all_nil Bool.and_true Bool.and_self Bool.true_and Nat.reduceMod Nat.reduceDiv eq_self zaq zaD zX za4 evN za0 dpF zaI zbf zaw za1 zbe zaE List.filter_cons List.filter_nil List.contains_cons List.contains_nil Nat.reduceBEq zac zad zP Option.some.injEq Option.isSome_some wrap_i64 zJ zaG Bool.or_self Bool.or_false Bool.false_or daF dnF xT T4 T5 T8 T9 T10 T11 T12 T13 T14 T15 T16 T17 T18 T19 T20 T21 T22 T23 T24 T25 T26 T27 T28 T30 T33 T34 T36 T37 T38 T39 T40 T41 T42 T43 T44 T45 T46 T47 T48 T49 T50 T51 T52 T53 T54 T55 T56 T57 T58 T59 T60 T61 T62 T63 T64 T65 T66 T67 T68 T69 T70 T71 T72 T73 T75 T76 T77 T80 T81 T82 T83 T84 T85 T86 T87 T88 T89 T90 T91 T92 T93 T94 T95 T96 T97 T98 T99 T100 T101 T102 T103 T104 T105 T106 T107 T108 T109 T110 T111 T112 T113 T114 T115 T116 T119 T120 T121 T122 T123 T124 T125 T126 T129 T130 T131 T132 T133 T134 T135 T136 T137 T138 T139 T140 T141 T142 T143 T144 T145 T146 T147 T148 T149 T150 T151 T152 T153 T154 T155 T156 T157 T158 T159 T160 T161 T162 T163 T164 T165 T166 T167 T168 T169 T170 T171 T173 T174 T175 T176 T177 T178 T181 T182 T183 T184 T185 T186 T187 T188 T189 T190 T191 T192 T193 T194 T195 T196 T197 T198 T199 T200 T201 T202 T203 T204 T205 T206 T207 T208 T209 T210 T211 T212 T213 T214 T215 T216 T217 T218 T219 T220 T222 T223
attribute [local go_sem ↓] reduceIte
set_option maxRecDepth 100000
theorem f23:ET.funcs.get 23=some T23:=zL Tryz.func23
theorem f63:ET.funcs.get 63=some T63:=zL Tryz.func63
def fdH (p:Nat)(b:Bool)(G:List zn):List zn:=.row 24 1 0 0 [uv p]::.row 4 1 0 0 [.bool b]::.row 31 1 0 0 [iv 0]::G
theorem zxm (G:List zn):FO ET 63 [.ptr 0 0 0 0 1,.ptr 1 0 0 0 1] (fdH 0 false G) false fun e H'=>e=.ret (.tuple [])/\H'=fdH 0 false G:=by
 refine zro f63 ?_;unfold fdH;(repeat refine za ?_);refine zrg ?_;refine zy ?_;exact⟨[],rfl,rfl,rfl⟩
structure FdK (key:Nat)(T:List Lev)(tm:Nat->PV):Prop where
 h2:tm 2=uv key
 h6:tm 6=.ptr 0 0 0 0 1
 h7:tm 7=.ptr 1 0 0 0 1
 h8:tm 8=.ptr 2 0 0 0 1
 h9:tm 9=zbK T
 h22:tm 22=zbK T
 h23:tm 23=iv T.length
theorem FdK.mono {key:Nat}{T:List Lev}{tm tm':Nat->PV}(h:FdK key T tm)(e2:tm' 2=tm 2)(e6:tm' 6=tm 6)(e7:tm' 7=tm 7)(e8:tm' 8=tm 8)(e9:tm' 9=tm 9)(e22:tm' 22=tm 22)(e23:tm' 23=tm 23):FdK key T tm' :=
 ⟨e2.trans h.h2,e6.trans h.h6,e7.trans h.h7,e8.trans h.h8,e9.trans h.h9,e22.trans h.h22,e23.trans h.h23⟩
def zve (x:zB):Prop:=x.left<18446744073709551616/\∀p∈x.pairs,p.2<18446744073709551616
theorem ztF (key:Nat):∀(l:List Pr) (t:Nat),t<18446744073709551616->(∀p∈l,p.2<18446744073709551616)->toN key l t<18446744073709551616
 | [],t,h,_=>h
 | p::l,t,h,hl=>by
  unfold toN;refine ztF key l _ ?_ fun q hq=>hl q (zAT9 _ hq)
  split
  ·exact hl p (zAV9 ..)
  ·exact h
@[reducible] def fdD:List FD:=[.caught (.ptr 2 0 0 0 1) (.fn 63 [.ptr 0 0 0 0 1,.ptr 1 0 0 0 1])]
theorem zwG (n:Nat)(tm tm':Nat->PV)(G:List zn)(e6:tm' 6=tm 6)(e7:tm' 7=tm 7)(e8:tm' 8=tm 8)(h6:tm 6=.ptr 0 0 0 0 1)(h7:tm 7=.ptr 1 0 0 0 1)(h8:tm 8=.ptr 2 0 0 0 1) :
  zcT ET T23 (fun e' H=>zay H 0 e' (.ret (.tuple [uv 0,.bool false,iv n]))) (.panic (zc0 n)) ⟨tm',fdD,fdH 0 false G⟩:=by
 refine⟨n,63,[.ptr 0 0 0 0 1,.ptr 1 0 0 0 1],false,2,0,1,rfl,rfl,rfl,(zxm _).mono fun e H he=>?_⟩;obtain⟨rfl,rfl⟩:=he;refine⟨rfl,_,rfl,[uv 0,.bool false,iv n],?_,?_⟩
 ·simp[T23,xT,zE,okv,e6,e7,e8,h6,h7,h8,zae,zaC,zaJ,zao,fdH];rfl
 ·exact Frz.tupL ⟨.int _ _,.bool _,.int _ _,trivial⟩
theorem zuC (p:Nat)(w:List Nat)(a:Int)(key:Nat)(T:List Lev)(hl:FN ET 42 [wv p w,iv a] (.ret (zbK T)))(f1:∀L∈T,zgu w L)(hw:w.length<=131072)(f3:T ≠ [])(f5:T.length<=14)(hpw:∀L∈T,∀x∈L.2,zve x) :
  FN ET 23 [wv p w,iv a,uv key] (.ret (zoF (zcu key T 0))):=by
 refine zfn f23 (zk9 _) ?_;(repeat(first|refine za ?_|refine zgo ?_));(repeat refine za ?_);refine zrg ?_;refine zfT (f:=35) (p:=.ptr 2 0 0 0 1) (cl:=.fn 63 [.ptr 0 0 0 0 1,.ptr 1 0 0 0 1]) ?_ ?_ c35 ?_
 ·rfl
 ·simp only[go_sem]<;>rfl
 refine zfx ?_;refine zh ?_;(repeat refine za ?_);refine zrg ?_;refine zca hl ?_;refine zfx ?_;refine zh ?_;(repeat(first|refine za ?_|refine zgo ?_));have hT0:0<T.length:=zBO9.2 f3;have hq:IntKind.i64.wrap ((T.length:Int)-1)=((T.length-1:Nat):Int):=by rw[wrap_i64 (by omega) (by omega)];omega
 refine zD (zas (fun m s=>∃(n i:Nat) (G:List zn),m=T.length-n/\n<T.length/\(∀L,T[n]?=some L->i<L.2.length)/\zcu key T 0=zcu key (T.drop n) i/\FdK key T s.tm/\s.tm 10=iv i/\s.tm 24=iv n/\s.df=fdD/\s.H=fdH 0 false G) (n:=T.length) ?_ ?_)
 ·exact⟨0,0,_,rfl,hT0,fun L hL=>zBO9.2 (f1 L (zAK9 hL)).ne,rfl,⟨by simp[upd,zo],by simp[upd],by simp[upd],by simp[upd],by simp[upd],by simp[upd],by simp[upd]⟩,by simp[upd],by simp[upd],rfl,rfl⟩
 rintro m ⟨tm,df,H⟩ ⟨n,i,G,rfl,hn,hiL,hf0,hk,h10,h24,rfl,rfl⟩;dsimp only at hk h10 h24;obtain⟨L,hL⟩:∃L,T[n]?=some L:=⟨_,zAB9 hn⟩
 have hLv:(T.map fun L=>zbk 0 0 L.1 L.2)[n]?=some (zbk 0 0 L.1 L.2):=by rw[zAG9,hL];rfl
 have hLF:=f1 L (zAK9 hL);have hfew:=hLF.few;have hi0:=hiL L hL;have hdr:T.drop n=L::T.drop (n+1):=by rw[zAU9 hn];obtain⟨_,e⟩:=zAD9.1 hL;rw[e]
 obtain⟨F,hF⟩:∃F:zB->Option (Option Nat),F=fun x=>(match T.drop (n+1)with | []=>some (zfK key x.pairs)|M::_=>if ixB 0 M.1 (toN key x.pairs x.left)<0 then none else zcu key (T.drop (n+1)) (ixB 0 M.1 (toN key x.pairs x.left)).toNat):=⟨_,rfl⟩
 have hf:∀x,L.2[zew L.2 key (L.2.length-i) i]?=some x->zcu key T 0=F x:=fun x hx=>by
  rw[hf0,hdr,zcu,hx,hF]<;>rfl
 clear hiL hdr hf0;obtain⟨h2,h6,h7,h8,h9,h22,h23⟩:=id hk;unfold fdH;(try refine zK ?_);refine za (zr ?_);refine zfx ?_ (by simp(disch:=omega)only[go_sem,h22,h23,h24,hn,zAA9]<;>rfl);refine zh ?_;refine zN (by simp only[go_sem]<;>rfl) ?_ ?_;rotate_left
 ·intro h;have:=of_decide_eq_false h;omega
 intro _;(repeat refine za ?_);refine zD ?_;(repeat(first|refine za ?_|refine zgo ?_ (by simp(disch:=omega)only[go_sem,h22,h24,hLv,hn,zc,zk,zAA9]<;>rfl)));refine zbA (Q:=fun y s=>y=.norm/\∃(i:Nat) (x:zB),L.2[i]?=some x/\zcu key T 0=F x/\FdK key T s.tm/\s.tm 10=iv i/\s.tm 11=iv n/\s.tm 12=.ptr (G.length+1+1+1) 0 0 0 2/\s.tm 24=iv n/\s.df=fdD/\s.H=fdH 0 false (G++[.row 100 2 0 0 [zbk 0 0 L.1 L.2]])) (zD (zas (fun m s=>∃(i:Nat),m=L.2.length-i/\i<L.2.length/\(∀x,L.2[zew L.2 key (L.2.length-i) i]?=some x->zcu key T 0=F x)/\FdK key T s.tm/\s.tm 10=iv i/\s.tm 11=iv n/\s.tm 12=.ptr (G.length+1+1+1) 0 0 0 2/\s.tm 24=iv n/\s.df=fdD/\s.H=fdH 0 false (G++[.row 100 2 0 0 [zbk 0 0 L.1 L.2]])) (n:=L.2.length-i) ?_ ?_)) ?_
 ·exact⟨i,rfl,hi0,hf,hk.mono rfl rfl rfl rfl rfl rfl rfl,by simp[upd,h10],by simp[upd],by simp[upd],by simp[upd,h24],rfl,rfl⟩
 ·clear h2 h6 h7 h8 h9 h22 h23 h10 h24 hk hf hi0 i;rintro m ⟨tm,df,H2⟩ ⟨i,rfl,hi,hf,hk,h10,h11,h12,h24,rfl,rfl⟩;dsimp only at hk h10 h11 h12 h24;obtain⟨h2,h6,h7,h8,h9,h22,h23⟩:=id hk;have e1:((i:Int)+1)=((i+1:Nat):Int):=by omega
  have hii:=zAB9 hi;unfold fdH;rcases zCP9 (i+1) L.2.length with hi1|hi1
  ·obtain⟨z,hz⟩:∃z,L.2[i+1]?=some z:=⟨_,zAB9 hi1⟩
   have hzv:(L.2.map (zZ 0))[i+1]?=some (zZ 0 z):=by rw[zAG9,hz];rfl
   have g1:((i+1:Nat):Int)<(L.2.length:Nat):=by omega
   by_cases hle:z.low<=key
   ·have g2:(z.low:Int)<=(key:Nat):=by omega
    rw[zqa hz hle]at hf;(try refine zK ?_);refine za (zr ?_);refine zfx ?_ (by simp(disch:=omega)only[go_sem,h2,h10,h12,ga0,hzv,hi1,e1,g1,g2,zAA9]<;>rfl);refine zh ?_;refine zN (by simp only[go_sem]<;>rfl) ?_ ?_;rotate_left
    ·intro h;simp at h
    intro _;refine zD ?_;(repeat refine za ?_);refine zrg ?_ (by simp(disch:=omega)only[go_sem,h10,e1]<;>rfl);refine zy ?_;simp only[zb,zf,ze,zd,zi,zg,if_true,↓reduceIte];refine⟨_,?m1,i+1,rfl,hi1,hf,hk.mono rfl rfl rfl rfl rfl rfl rfl,by simp[upd],by simp[upd,h11],by simp[upd,h12],by simp[upd,h24],trivial,trivial⟩
    case m1=>omega
   ·have g2:¬(z.low:Int)<=(key:Nat):=by omega
    rw[zlR hi hz hle]at hf;(try refine zK ?_);refine za (zr ?_);refine zfx ?_ (by simp(disch:=omega)only[go_sem,h2,h10,h12,ga0,hzv,hi1,e1,g1,g2,zAA9]<;>rfl);refine zh ?_;refine zN (by simp only[go_sem]<;>rfl) ?_ ?_
    ·intro h;simp at h
    intro _;simp only[zb,zf,ze,zd,zi,zg,if_true,reduceIte];exact⟨trivial,i,_,hii,hf _ hii,hk.mono rfl rfl rfl rfl rfl rfl rfl,by simp[upd,h10],by simp[upd,h11],by simp[upd,h12],by simp[upd,h24],trivial,trivial⟩
  ·have g1:¬((i+1:Nat):Int)<(L.2.length:Nat):=by omega
   rw[znU hi (zBQ9 hi1)]at hf;(try refine zK ?_);refine za (zr ?_);refine zfx ?_ (by simp(disch:=omega)only[go_sem,h2,h10,h12,ga0,e1,g1,zAA9]<;>rfl);refine zh ?_;refine zN (by simp only[go_sem]<;>rfl) ?_ ?_
   ·intro h;simp at h
   intro _;simp only[zb,zf,ze,zd,zi,zg,if_true,reduceIte];exact⟨trivial,i,_,hii,hf _ hii,hk.mono rfl rfl rfl rfl rfl rfl rfl,by simp[upd,h10],by simp[upd,h11],by simp[upd,h12],by simp[upd,h24],trivial,trivial⟩
 clear h2 h6 h7 h8 h9 h22 h23 h10 h24 hk hf hi0 i;rintro y ⟨tm,df,H⟩ ⟨rfl,i,x,hx,hf,hk,h10,h11,h12,h24,rfl,rfl⟩;dsimp only at hk h10 h11 h12 h24;obtain⟨h2,h6,h7,h8,h9,h22,h23⟩:=id hk;simp only[zb,zf,ze,zd,zi,zg,if_true,reduceIte];have hil:i<L.2.length:=(zAD9.1 hx).1;have hxv:(L.2.map (zZ 0))[i]?=some (zZ 0 x):=by rw[zAG9,hx];rfl
 have hx28:=(hLF.lv.node (zAK9 hx)).1;have hll:T.drop (n+1)=[]↔n+1=T.length:=by rw[List.drop_eq_nil_iff];omega
 unfold fdH
 by_cases hl1:n+1=T.length
 ·have g2:(n:Int)=((T.length-1:Nat):Int):=by omega
  have hFx:zcu key T 0=some (zfK key x.pairs):=by rw[hf,hF];dsimp only;rw[hll.2 hl1]
  (repeat(first|refine za ?_|refine zgo ?_ (by simp(disch:=omega)only[go_sem,h9,h11,hq,g2,zAA9]<;>rfl)));refine zfc ?_ ?_;rotate_left
  ·intro h;simp at h
  intro _;refine zgh ?_;simp only[zb,zf,ze,zd,zi,zg,if_true,reduceIte];have hLv2:(T.map fun L=>zbk 0 0 L.1 L.2)[T.length-1]?=some (zbk 0 0 L.1 L.2):=by rw[show T.length-1=n by omega];exact hLv
  have hT1:T.length-1<T.length:=by omega
  (repeat(first|refine za ?_|refine zgo ?_ (by simp(disch:=omega)only[go_sem,h9,h10,hq,hLv2,hT1,hxv,hil,zAA9]<;>rfl)));refine zD (zas (fun m s=>∃(k:Nat) (G:List zn),m=x.pairs.length-k/\k<=x.pairs.length/\zfK key x.pairs=zfK key (x.pairs.drop k)/\FdK key T s.tm/\s.tm 100=psv 0 x.pairs/\s.tm 101=iv x.pairs.length/\s.tm 102=iv k/\s.df=fdD/\s.H=fdH 0 false G) (n:=x.pairs.length) ?_ ?_)
  ·exact⟨0,_,rfl,zAS9 _,rfl,hk.mono rfl rfl rfl rfl rfl rfl rfl,by simp[upd],by simp[upd],by simp[upd],rfl,rfl⟩
  clear h2 h6 h7 h8 h9 h22 h23 h10 h11 h12 h24 hk;rintro m ⟨tm,df,H⟩ ⟨k,G,rfl,hk,hlk,hkk,h100,h101,h102,rfl,rfl⟩;dsimp only at hkk h100 h101 h102;obtain⟨h2,h6,h7,h8,h9,h22,h23⟩:=id hkk;unfold fdH;(try refine zK ?_);refine za (zr ?_);refine zfx ?_ (by simp(disch:=omega)only[go_sem,h101,h102,zAA9]<;>rfl);refine zh ?_;refine zN (by simp only[go_sem]<;>rfl) ?_ ?_
  ·intro hlt;have hlt:k<x.pairs.length:=by have:=of_decide_eq_true hlt;omega
   obtain⟨y,hy⟩:∃y,x.pairs[k]?=some y:=⟨_,zAB9 hlt⟩
   have hyv:(x.pairs.map pv)[k]?=some (pv y):=by rw[zAG9,hy];rfl
   have hdk:x.pairs.drop k=y::x.pairs.drop (k+1):=by rw[zAU9 hlt];obtain⟨_,e⟩:=zAD9.1 hy;rw[e]
   rw[hdk,zfK]at hlk;(repeat refine za ?_);refine zD ?_;(repeat(first|refine za ?_|refine zgo ?_ (by simp(disch:=omega)only[go_sem,h100,h102,hyv,hlt,zc,zk,zAA9]<;>rfl)))
   by_cases hke:y.1=key
   ·have g1:(y.1:Int)=(key:Nat):=by omega
    rw[if_pos hke]at hlk;(repeat(first|refine za ?_|refine zgo ?_ (by simp(disch:=omega)only[go_sem,h2,ga0,g1]<;>rfl)));refine zfc ?_ ?_;rotate_left
    ·intro h;simp at h
    intro _;(repeat(first|refine za ?_|refine zgo ?_ (by simp(disch:=omega)only[go_sem,h6,h7,h8,ga0]<;>rfl)));refine zq ?_;simp only[zb,zf,ze,zd,zi,zg,if_true,reduceIte];rw[hFx,hlk];exact⟨[uv y.2,.bool true,iv 0],by simp[T23,xT,zE,okv,upd,h6,h7,h8,zae,zaC,zaJ,zao]<;>rfl,Frz.tupL ⟨.int _ _,.bool _,.int _ _,trivial⟩⟩
   ·have g1:¬(y.1:Int)=(key:Nat):=by omega
    rw[if_neg hke]at hlk;(repeat(first|refine za ?_|refine zgo ?_ (by simp(disch:=omega)only[go_sem,h2,ga0,g1]<;>rfl)));refine zfc ?_ ?_
    ·intro h;simp at h
    intro _;refine zF ?_;show W _ _ _ _ _ _;(repeat refine za ?_);refine zrg ?_ (by simp(disch:=omega)only[go_sem,h102]<;>rfl);refine zy ?_;simp only[zb,zf,ze,zd,zi,zg,if_true,↓reduceIte];refine⟨_,?m5,k+1,_,rfl,hlt,hlk,hkk.mono rfl rfl rfl rfl rfl rfl rfl,by simp[upd,h100],by simp[upd,h101],by simp[upd],trivial,rfl⟩
    case m5=>omega
  ·intro hlt;have hlt:¬k<x.pairs.length:=by have:=of_decide_eq_false hlt;omega
   obtain rfl:k=x.pairs.length:=by omega
   rw[zBG9]at hlk;simp only[zb,zf,ze,zd,zi,zg,if_true,reduceIte];(repeat(first|refine za ?_|refine zgo ?_ (by simp(disch:=omega)only[go_sem,h6,h7,h8]<;>rfl)));refine zq ?_;rw[hFx,hlk];exact⟨[uv 0,.bool false,iv 0],by simp[T23,xT,zE,okv,upd,h6,h7,h8,zae,zaC,zaJ,zao]<;>rfl,Frz.tupL ⟨.int _ _,.bool _,.int _ _,trivial⟩⟩
 have g2:¬(n:Int)=((T.length-1:Nat):Int):=by omega
 obtain⟨M,hM⟩:∃M,T[n+1]?=some M:=⟨_,zAB9 (by omega)⟩
 have hMT:(T.map fun L=>zbk 0 0 L.1 L.2)[n+1]?=some (zbk 0 0 M.1 M.2):=by rw[zAG9,hM];rfl
 have hMn:n+1<T.length:=by omega
 have hMF:=f1 M (zAK9 hM);have hMl:=hMF.lv.len;have hMfew:=hMF.few;have hM48:∀b∈M.1,b<2048:=fun b hb=>by have:=(hMF.lv.each b hb).1;omega
 have hdM:T.drop (n+1)=M::T.drop (n+1+1):=by rw[zAU9 hMn];obtain⟨_,e⟩:=zAD9.1 hM;rw[e]
 have e1:((n:Int)+1)=((n+1:Nat):Int):=by omega
 obtain⟨hp1,hp2⟩:=hpw L (zAK9 hL) x (zAK9 hx);have hF2:F x=if ixB 0 M.1 (toN key x.pairs x.left)<0 then none else zcu key (T.drop (n+1)) (ixB 0 M.1 (toN key x.pairs x.left)).toNat:=by
  rw[hF];dsimp only;rw[hdM]
 (repeat(first|refine za ?_|refine zgo ?_ (by simp(disch:=omega)only[go_sem,h9,h11,hq,g2,zAA9]<;>rfl)));refine zfc ?_ ?_
 ·intro h;simp at h
 intro _;refine zF ?_;show W _ _ _ _ _ _;(repeat(first|refine za ?_|refine zgo ?_ (by simp(disch:=omega)only[go_sem,h10,h12,ga0,hxv,hil,zAA9]<;>rfl)));refine zD (zas (fun m s=>∃(k to:Nat) (G:List zn),m=x.pairs.length-k/\k<=x.pairs.length/\toN key x.pairs x.left=toN key (x.pairs.drop k) to/\FdK key T s.tm/\s.tm 11=iv n/\s.tm 13=uv to/\s.tm 24=iv n/\s.tm 64=psv 0 x.pairs/\s.tm 65=iv x.pairs.length/\s.tm 66=iv k/\s.df=fdD/\s.H=fdH 0 false G) (n:=x.pairs.length) ?_ ?_)
 ·exact⟨0,x.left,_,rfl,zAS9 _,rfl,hk.mono rfl rfl rfl rfl rfl rfl rfl,by simp[upd,h11],by simp[upd],by simp[upd,h24],by simp[upd],by simp[upd],by simp[upd],rfl,rfl⟩
 clear h2 h6 h7 h8 h9 h22 h23 h10 h11 h12 h24 hk;rintro m ⟨tm,df,H⟩ ⟨k,to,G,rfl,hk,hto,hkk,h11,h13,h24,h64,h65,h66,rfl,rfl⟩;dsimp only at hkk h11 h13 h24 h64 h65 h66;obtain⟨h2,h6,h7,h8,h9,h22,h23⟩:=id hkk;unfold fdH;(try refine zK ?_);refine za (zr ?_);refine zfx ?_ (by simp(disch:=omega)only[go_sem,h65,h66,zAA9]<;>rfl);refine zh ?_;refine zN (by simp only[go_sem]<;>rfl) ?_ ?_
 ·intro hlt;have hlt:k<x.pairs.length:=by have:=of_decide_eq_true hlt;omega
  obtain⟨y,hy⟩:∃y,x.pairs[k]?=some y:=⟨_,zAB9 hlt⟩
  have hyv:(x.pairs.map pv)[k]?=some (pv y):=by rw[zAG9,hy];rfl
  have hdk:x.pairs.drop k=y::x.pairs.drop (k+1):=by rw[zAU9 hlt];obtain⟨_,e⟩:=zAD9.1 hy;rw[e]
  rw[hdk,toN]at hto;(repeat refine za ?_);refine zD ?_;(repeat(first|refine za ?_|refine zgo ?_ (by simp(disch:=omega)only[go_sem,h64,h66,hyv,hlt,zc,zk,zAA9]<;>rfl)))
  by_cases hle:y.1<=key
  ·have g1:(y.1:Int)<=(key:Nat):=by omega
   rw[if_pos hle]at hto;(repeat(first|refine za ?_|refine zgo ?_ (by simp(disch:=omega)only[go_sem,h2,ga0,g1]<;>rfl)));refine zfc ?_ ?_;rotate_left
   ·intro h;simp at h
   intro _;(repeat refine za ?_);refine zrg ?_ (by simp(disch:=omega)only[go_sem,ga0]<;>rfl);refine zy ?_;simp only[zb,zf,ze,zd,zi,zg,if_true,↓reduceIte];(repeat refine za ?_);refine zrg ?_ (by simp(disch:=omega)only[go_sem,h66]<;>rfl);refine zy ?_;simp only[zb,zf,ze,zd,zi,zg,if_true,↓reduceIte];refine⟨_,?m6,k+1,y.2,_,rfl,hlt,hto,hkk.mono rfl rfl rfl rfl rfl rfl rfl,by simp[upd,h11],by simp[upd],by simp[upd,h24],by simp[upd,h64],by simp[upd,h65],by simp[upd],trivial,rfl⟩
   case m6=>omega
  ·have g1:¬(y.1:Int)<=(key:Nat):=by omega
   rw[if_neg hle]at hto;(repeat(first|refine za ?_|refine zgo ?_ (by simp(disch:=omega)only[go_sem,h2,ga0,g1]<;>rfl)));refine zfc ?_ ?_
   ·intro h;simp at h
   intro _;refine zF ?_;show W _ _ _ _ _ _;(repeat refine za ?_);refine zrg ?_ (by simp(disch:=omega)only[go_sem,h66]<;>rfl);refine zy ?_;simp only[zb,zf,ze,zd,zi,zg,if_true,↓reduceIte];refine⟨_,?m7,k+1,to,_,rfl,hlt,hto,hkk.mono rfl rfl rfl rfl rfl rfl rfl,by simp[upd,h11],by simp[upd,h13],by simp[upd,h24],by simp[upd,h64],by simp[upd,h65],by simp[upd],trivial,rfl⟩
   case m7=>omega
 ·intro hlt;have hlt:¬k<x.pairs.length:=by have:=of_decide_eq_false hlt;omega
  obtain rfl:k=x.pairs.length:=by omega
  rw[zBG9,toN]at hto;have htl:to<18446744073709551616:=hto ▸ ztF key _ _ hp1 hp2;rw[hto]at hF2;have hix:=zs6 0 M.1 (IntKind.i64.wrap to) (by unfold za2;omega);rw[zpR M.1 0 to hM48 htl]at hix;have hrg:=zi4 M.1 0 to;simp only[zb,zf,ze,zd,zi,zg,if_true,reduceIte];(repeat refine za ?_);refine zrg ?_ (by simp(disch:=omega)only[go_sem,h9,h11,h13,e1,hMT,hMn,zAA9]<;>rfl);refine zca hix ?_;refine zfx ?_;refine zh ?_;rcases hrg with hneg|⟨j,hj,hjl,_⟩
  ·rw[hneg]at hF2⊢;have hn0:zcu key T 0=none:=by rw[hf,hF2];rfl
   (repeat refine za ?_);refine zrg ?_;refine zcx (zeq 220) ?_;simp only[zb,zf,ze,zd,zi,zg,if_true,reduceIte];rw[hn0];exact zwG 220 tm _ _ rfl rfl rfl h6 h7 h8
  ·rw[zAN9]at hj;rw[hj]at hF2⊢;have g3:¬(j:Int)<0:=by omega
   have g4:(0:Int)<=(j:Nat):=by omega
   rw[if_neg g3,zCU9]at hF2;(repeat refine za ?_);refine zrg ?_ (by simp(disch:=omega)only[go_sem,g4]<;>rfl);refine zca (zhh 220) ?_;refine zfx ?_;refine zy ?_;simp only[zb,zf,ze,zd,zi,zg,if_true,↓reduceIte];(repeat refine za ?_);refine zrg ?_ (by simp(disch:=omega)only[go_sem,h24]<;>rfl);refine zy ?_;simp only[zb,zf,ze,zd,zi,zg,if_true,↓reduceIte];refine⟨_,?m8,n+1,j,_,rfl,hMn,fun L' hL'=>by rw[hM]at hL';injection hL' with hL';subst hL';omega,by rw[hf,hF2],hkk.mono rfl rfl rfl rfl rfl rfl rfl,by simp[upd],by simp[upd],trivial,rfl⟩
   case m8=>omega
theorem zuu (p:Nat)(w:List Nat)(a:Int)(key:Nat)(hs:za2 w.length)(hpw:∀L∈(zO w a.toNat).1,∀x∈L.2,zve x):FN ET 23 [wv p w,iv a,uv key] (zcE w a key):=by
 have hl:=zhn p w a hs;have hlb:=zpm w a key;unfold zgJ at hl;unfold zcE at hlb⊢;have go:∀n:Nat,FN ET 42 [wv p w,iv a] (.panic (zc0 n))->LbE (.ret (.tuple [uv 0,.bool false,iv n]))->FN ET 23 [wv p w,iv a,uv key] (.ret (.tuple [uv 0,.bool false,iv n])):=fun n hl hlb=>by
  refine zfn f23 hlb ?_;(repeat(first|refine za ?_|refine zgo ?_));(repeat refine za ?_);refine zrg ?_;refine zfT (f:=35) (p:=.ptr 2 0 0 0 1) (cl:=.fn 63 [.ptr 0 0 0 0 1,.ptr 1 0 0 0 1]) ?_ ?_ c35 ?_
  ·rfl
  ·simp only[go_sem]<;>rfl
  refine zfx ?_;refine zh ?_;(repeat refine za ?_);refine zrg ?_;refine zcx hl ?_;simp only[zb,zf,ze,zd,zi,zg,if_true,reduceIte];exact zwG n _ _ [] rfl rfl rfl rfl rfl rfl
 by_cases hr:zbw w.length a=true
 rotate_left
 ·rw[if_neg hr]at hl hlb⊢;exact go 2 hl hlb
 rw[if_pos hr]at hl hlb⊢;have hb:=(zcC _ _).1 hr
 by_cases ht:(zO w a.toNat).2=true
 rotate_left
 ·rw[if_neg ht]at hl hlb⊢;exact go 220 hl hlb
 rw[if_pos ht]at hl hlb⊢;obtain⟨f1,f2,f3,f4,f5⟩:=zbW (w:=w) (T:=(zO w a.toNat).1) (by omega) a.toNat (by rw[<- ht]);exact zuC p w a key _ hl f1 (by omega) f3 f5 hpw
theorem f17:ET.funcs.get 17=some T17:=zL Tryz.func17
theorem f55:ET.funcs.get 55=some T55:=zL Tryz.func55
theorem zzp (T:List Lev)(n:Nat):zhN T (n+1)=zhN T n++lvB T n:=by
 unfold zhN;rw[zDJ9,zCT9];simp
theorem zzo {T:List Lev}{b x:Nat}(h:x∈lvB T b):x=b:=by
 obtain⟨_,_,e⟩:=zAP9.1 h;exact e.symm
theorem zzw (T:List Lev)(b a:Nat):(lvB T b).count a=if a=b then(T.filter fun L=>L.1.contains a).length else 0:=by
 unfold lvB;rw[show (fun _:Lev=>b)=Function.const Lev b from rfl,List.map_const,List.count_replicate]
 by_cases h:a=b
 ·subst h;simp
 ·rw[if_neg h,if_neg (by simpa using fun e=>h (Eq.symm e))]
theorem zzr (T:List Lev)(a:Nat):∀n,(zhN T n).count a=if a<n then(T.filter fun L=>L.1.contains a).length else 0
 | 0=>by simp[zhN]
 | n+1=>by
  rw[zzp,List.count_append,zzr T a n,zzw]
  by_cases h:a<n
  ·rw[if_pos h,if_neg (by omega),if_pos (by omega),zDH9]
  ·rw[if_neg h,zAN9]
   by_cases h2:a=n
   ·rw[if_pos h2,if_pos (by omega)]
   ·rw[if_neg h2,if_neg (by omega)]
theorem zzs (a:Nat):∀T:List Lev,(∀L∈T,L.1.Nodup)->(T.flatMap (·.1)).count a=(T.filter fun L=>L.1.contains a).length
 | [],_=>rfl
 | L::T,h=>by
  rw[zBS9,List.count_append,zzs a T fun M hM=>h M (zAT9 _ hM),(h L (zAV9 ..)).count,zCC9]
  by_cases hc:a∈L.1
  ·rw[if_pos hc,if_pos (by simpa using hc),zAE9];omega
  ·rw[if_neg hc,if_neg (by simpa using hc)];omega
theorem zzq (T:List Lev):∀n,(zhN T n).Pairwise (·<=·)/\∀x∈zhN T n,x<n
 | 0=>by simp[zhN]
 | n+1=>by
  obtain⟨h1,h2⟩:=zzq T n;rw[zzp];refine⟨List.pairwise_append.2 ⟨h1,zDQ9.2 fun i j hi hj _=>?_,fun x hx y hy=>?_⟩,fun x hx=>?_⟩
  ·rw[zzo (zBP9 hi),zzo (zBP9 hj)];exact zAM9 _
  ·have:=h2 x hx;rw[zzo hy];omega
  ·rcases zBF9.1 hx with hx|hx
   ·have:=h2 x hx;omega
   ·rw[zzo hx];omega
theorem zzx (T:List Lev)(n:Nat)(hn:∀L∈T,L.1.Nodup)(hb:∀L∈T,∀b∈L.1,b<n):srt ((T.flatMap (·.1)).map fun b:Nat=>(b:Int))=(zhN T n).map fun b:Nat=>(b:Int):=by
 have hp:(T.flatMap (·.1)).Perm (zhN T n):=List.perm_iff_count.2 fun a=>by
  rw[zzs a T hn,zzr]
  by_cases h:a<n
  ·rw[if_pos h]
  ·rw[if_neg h,zDX9,List.filter_eq_nil_iff];intro L hL hc;exact h (hb L hL a (by simpa using hc))
 refine List.Perm.eq_of_pairwise (le:=fun x y:Int=>x<=y) (fun a b _ _ h1 h2=>by omega) ?_ ?_ ((List.mergeSort_perm _ _).trans (hp.map _))
 ·exact(List.pairwise_mergeSort (fun a b c h1 h2=>by simp at *;omega) (fun a b=>by simp;omega) _).imp fun h=>of_decide_eq_true h
 ·exact List.pairwise_map.2 ((zzq T n).1.imp fun h=>by omega)
theorem zjs {w:List Nat}{lv:Int}:∀(k:Nat) (seen bs:List Nat) (ns:List zB) (b:Nat),bs.Nodup->(∀x∈bs,x∈seen)->∀r,zbp w lv k seen bs ns b=some r->r.2.1.Nodup
 | 0,seen,bs,ns,b,h1,h2,r,h=>by
  unfold zbp at h
  split at h
  ·injection h with h;subst h;exact h1
  ·cases h
 | k+1,seen,bs,ns,b,h1,h2,r,h=>by
  unfold zbp at h
  split at h
  ·injection h with h;subst h;exact h1
  ·split at h
   ·cases h
   ·rename_i hs
    split at h
    ·refine zjs k _ _ _ _ ?_ ?_ r h
     ·refine List.nodup_append.2 ⟨h1,by simp,fun x hx y hy e=>?_⟩;simp at hy;subst hy;subst e;exact hs (by simp[h2 x hx])
     ·intro x hx;rcases zBF9.1 hx with hx|hx
      ·exact zAT9 _ (h2 x hx)
      ·simp at hx;subst hx;exact zAV9 ..
    ·cases h
theorem ziZ {w:List Nat}:∀(d:Nat) (seen:List Nat) (acc:List Lev) (b:Nat) (lv:Int),(∀L∈acc,L.1.Nodup)->∀L∈(zbD w d seen acc b lv).1,L.1.Nodup
 | 0,seen,acc,b,lv,h=>h
 | d+1,seen,acc,b,lv,h=>by
  rw[zbD]
  cases hr:zbp w lv (w.length/64) seen [] [] b with
  | none=>exact h
  | some r =>
   obtain⟨s',bs,ns⟩:=r;have k:=zjs _ _ _ _ _ List.nodup_nil (fun x hx=>by simp at hx) _ hr;have h':∀L∈acc++[(bs,ns)],L.1.Nodup:=fun L hL=>by
    rcases zBF9.1 hL with hL|hL
    ·exact h L hL
    ·simp at hL;subst hL;exact k
   cases ns with
   | nil=>exact h
   | cons n ns =>
    simp only
    split
    ·exact h'
    ·exact ziZ d _ _ _ _ h'
def blH (acc:List Nat)(i:Nat)(G:List zn):List zn:=.row 25 1 0 0 [.sl 2 i 0 acc.length (2*acc.length) 1]::.row 31 1 0 0 [iv 0]::.row 3 1 i 0 (bfl acc)::G
theorem zxB:FO ET 55 [.ptr 0 0 0 0 1] [.row 25 1 0 0 [.nilsl],.row 31 1 0 0 [iv 0]] false fun e H'=>e=.ret (.tuple [])/\H'=[.row 25 1 0 0 [.nilsl],.row 31 1 0 0 [iv 0]]:=by
 refine zro f55 ?_;(repeat refine za ?_);refine zrg ?_;refine zy ?_;exact⟨[],rfl,rfl,rfl⟩
theorem zt6 (l:List Nat):bfl l=(l.map fun b:Nat=>(b:Int)).map iv:=by rw[zDM9];rfl
theorem zpu:∀(T:List Lev),(∀L∈T,L.1.length<=2048)->(T.flatMap (·.1)).length<=2048*T.length
 | [],_=>zAS9 _
 | L::T,h=>by
  have h1:=zpu T fun M hM=>h M (zAT9 _ hM);have h2:=h L (zAV9 ..);rw[zBS9,zAC9,zAE9];omega
theorem zxJ {acc:List Nat}{i q:Nat}{G:List zn}(h1:0<acc.length)(h2:acc.length<=1000000):FO ET 56 [.sl 2 i 0 acc.length q 1] (blH acc i G) false fun e H'=>e=.ret (.tuple [])/\H'=.row 25 1 0 0 [.sl 2 i 0 acc.length (2*acc.length) 1]::.row 31 1 0 0 [iv 0]::.row 3 1 i i ((srt (acc.map fun b:Nat=>(b:Int))).map iv)::G:=by
 have:=zwO zzm zyF (H:=blH acc i G) (id:=2) (g:=i) (M:=0) (xs:=acc.map fun b:Nat=>(b:Int)) (by rw[<- zt6];rfl) (zAS9 _) (by simpa using h1) (by simpa using h2) q;rw[zAA9]at this;exact this
theorem zrd (p:Nat)(w:List Nat)(a:Int)(hs:za2 w.length):FN ET 17 [wv p w,iv a] (zdb w a):=by
 have hl:=zhn p w a hs;have hlb:=zlW w a;refine zfn f17 hlb ?_;(repeat(first|refine za ?_|refine zgo ?_));(repeat refine za ?_);refine zrg ?_;refine zfT (f:=35) (p:=.ptr 1 0 0 0 1) (cl:=.fn 55 [.ptr 0 0 0 0 1]) ?_ ?_ c35 ?_
 ·rfl
 ·simp only[go_sem]<;>rfl
 refine zfx ?_;refine zh ?_;(repeat refine za ?_);refine zrg ?_;have bad:∀(tm:Nat->PV) (n:Nat),zdb w a=.ret (.tuple [.list 0 1 (bfl []),iv n])->tm 4=.ptr 0 0 0 0 1->tm 5=.ptr 1 0 0 0 1->zcT ET T17 (fun e' H=>zay H 0 e' (zdb w a)) (.panic (zc0 n)) ⟨tm,[.caught (.ptr 1 0 0 0 1) (.fn 55 [.ptr 0 0 0 0 1])],[.row 25 1 0 0 [.nilsl],.row 31 1 0 0 [iv 0]]⟩:=fun tm n hn h4 h5=>by
  refine⟨n,55,[.ptr 0 0 0 0 1],false,1,0,1,rfl,rfl,rfl,zxB.mono fun e H he=>?_⟩;obtain⟨rfl,rfl⟩:=he;refine⟨rfl,_,rfl,[.nilsl,iv n],?_,?_⟩
  ·simp[T17,xT,zE,okv,h4,h5,zae,zaC,zaJ,zao];rfl
  ·rw[hn];exact Frz.tupL ⟨.nil _ _,.int _ _,trivial⟩
 unfold zgJ at hl
 by_cases hr:zbw w.length a=true
 rotate_left
 ·rw[if_neg hr]at hl;refine zcx hl ?_;exact bad _ 2 (by unfold zdb;rw[if_neg hr];rfl) rfl rfl
 rw[if_pos hr]at hl;have hb:=(zcC _ _).1 hr
 by_cases ht:(zO w a.toNat).2=true
 rotate_left
 ·rw[if_neg ht]at hl;refine zcx hl ?_;exact bad _ 220 (by unfold zdb;rw[if_pos hr,if_neg ht];rfl) rfl rfl
 rw[if_pos ht]at hl;have hall:zdb w a=.ret (.tuple [.list 0 1 (bfl (zhN (zO w a.toNat).1 (w.length/64))),iv 0]):=by unfold zdb;rw[if_pos hr,if_pos ht]
 obtain⟨f1,f2,f3,f4,f5⟩:=zbW (w:=w) (T:=(zO w a.toNat).1) (by omega) a.toNat (by rw[<- ht]);have fn:∀L∈(zO w a.toNat).1,L.1.Nodup:=ziZ _ _ _ _ _ fun L hL=>by simp at hL
 rw[hall];clear bad;generalize (zO w a.toNat).1=T at hl f1 f2 f3 f4 f5 fn;have hB:∀L∈T,L.1.length<=2048:=fun L hL=>by have h1:=(f1 L hL).lv.len;have h2:=(f1 L hL).few;omega
 refine zca hl ?_;refine zfx ?_;refine zh ?_;refine zjI 3 1 (id:=0) rfl ?_;simp only[lzy,zAE9,zAH9,zCX9,zCK9,zAI9,zAL9];(repeat refine za ?_);refine zD (zas (fun m s=>∃(i:Nat) (acc:List Nat) (G:List zn),m=T.length-i/\i<=T.length/\acc=(T.take i).flatMap (·.1)/\(0<i->0<acc.length)/\s.tm 4=.ptr 0 0 0 0 1/\s.tm 5=.ptr 1 0 0 0 1/\s.tm 11=zbK T/\s.tm 12=iv T.length/\s.tm 13=iv i/\s.df=[.caught (.ptr 1 0 0 0 1) (.fn 55 [.ptr 0 0 0 0 1])]/\s.H=blH acc i G) (n:=T.length) ?_ ?_)
 ·exact⟨0,[],[],rfl,zAS9 _,rfl,fun h=>absurd h (by omega),by simp[upd,zo],by simp[upd,zo],by simp[upd,zo],by simp[upd,zo],by simp[upd,zo],rfl,rfl⟩
 rintro m ⟨tm,df,H⟩ ⟨i,acc,G,rfl,hi,hacc,hpos,h4,h5,h11,h12,h13,rfl,rfl⟩;dsimp only at h4 h5 h11 h12 h13;unfold blH;have hal:acc.length<=2048*14:=by
  rw[hacc];have:=zpu (T.take i) fun L hL=>hB L (zCE9 hL);rw[zBB9]at this;omega
 (try refine zK ?_);refine za (zr ?_);refine zfx ?_ (by simp(disch:=omega)only[go_sem,h12,h13]<;>rfl);refine zh ?_;refine zN (by simp only[go_sem]<;>rfl) ?_ ?_
 ·intro hlt;have hlt:i<T.length:=by have:=of_decide_eq_true hlt;omega
  obtain⟨L,hL⟩:∃L,T[i]?=some L:=⟨_,zAB9 hlt⟩
  have hLv:(T.map fun L=>zbk 0 0 L.1 L.2)[i]?=some (zbk 0 0 L.1 L.2):=by rw[zAG9,hL];rfl
  have hLm:=zAK9 hL;have hLl:=hB L hLm;have hLne:¬L.1.length=0:=fun h=>(f1 L hLm).ne (zCG9 (by rw[<- (f1 L hLm).lv.len];exact h));have hbb:(acc.length+L.1.length)*9<=140737488355328:=by omega
  (repeat refine za ?_);refine zD ?_;(repeat(first|refine za ?_|refine zgo ?_ (by simp(disch:=omega)only[go_sem,h11,h13,hLv,hlt,zAA9]<;>rfl)));(repeat refine za ?_);refine zrg ?_ (by simp(disch:=omega)only[go_sem,h4,hLne,hbb,zc,zAA9]<;>rfl);refine zy ?_;simp only[zb,zf,ze,zd,zi,zg,if_true,↓reduceIte];(repeat refine za ?_);refine zrg ?_ (by simp(disch:=omega)only[go_sem,h13]<;>rfl);refine zy ?_;simp only[zb,zf,ze,zd,zi,zg,if_true,↓reduceIte];refine⟨_,?m1,i+1,acc++L.1,?G1,rfl,hlt,?e1,fun _=>by(rw[zAC9];omega),by simp[upd,h4],by simp[upd,h5],by simp[upd,h11],by simp[upd,h12],by simp[upd,h13],(by first|exact trivial|rfl),?H1⟩
  case m1=>omega
  case e1=>rw[hacc,zBM9,hL,zCT9];simp
  case H1=>rw[show bfl (acc++L.1)=bfl acc++bfl L.1 from zBZ9,zAC9]
 intro hlt;have hlt:¬i<T.length:=by have:=of_decide_eq_false hlt;omega
 obtain rfl:i=T.length:=by omega
 rw[zBK9]at hacc;have hp:=hpos (zBO9.2 f3);simp only[zb,zf,ze,zd,zi,zg,if_true,reduceIte];(repeat refine za ?_);refine zr ?_;refine zfx ?_ (by simp(disch:=omega)only[go_sem,h4]<;>rfl);have hso:=zxJ (acc:=acc) (i:=T.length) (q:=2*acc.length) (G:=G) hp (by omega);unfold blH at hso;refine zdN (caps:=?_) (vs:=?_) ?_ ?_ hso ?_ ?_ ?_;rotate_left 2;(first|rfl|(simp only[zab,zap,go_sem,h4]<;>rfl));(simp only[go_sem,h4]<;>rfl);rfl;rfl;rintro e H' ⟨rfl,rfl⟩;refine zfx ?_;refine zh ?_;(repeat(first|refine za ?_|refine zgo ?_ (by simp(disch:=omega)only[go_sem,h4,h5]<;>rfl)));refine zq ?_;refine⟨[.sl 2 T.length 0 acc.length (2*acc.length) 1,iv 0],by simp[T17,xT,zE,okv,upd,h4,h5,zae,zaC,zaJ,zao,PV.cells],Frz.tupL ⟨?_,.int _ _,trivial⟩⟩;have e:=zzx T (w.length/64) fn fun L hL b hb=>((f1 L hL).lv.each b hb).1;rw[<- hacc]at e;have hn:(zhN T (w.length/64)).length=acc.length:=by
  have:=congrArg List.length e;rw[zjW,zAA9,zAA9]at this;exact this.symm
 rw[zt6,<- e];exact Frz.wholeM rfl (zAM9 _) rfl (by rw[zAA9,zjW,zAA9]) (by rw[zAA9,zjW,zAA9];exact zAM9 _) (fun v hv=>by obtain⟨x,_,rfl⟩:=zAP9.1 hv;rfl) zrF
theorem f11:ET.funcs.get 11=some T11:=zL Tryz.func11
theorem f4:ET.funcs.get 4=some T4:=zL Tryz.func4
@[reducible] def zjU (n:Nat):PV:=.sl 0 2 0 n (2 * (n + 1)) 1
@[reducible] def zsY (w:List Nat):List zn:=[.row 24 1 2 0 (w.map uv++[uv 77]),.row 24 1 0 0 [uv 77]]
theorem zwX (q:Nat)(w:List Nat)(hw:0<w.length)(hs:w.length<=131072):FO ET 11 [wv q w] [] false fun e H'=>e=.ret (zjU w.length)/\H'=zsY w:=by
 refine zro f11 ?_;(repeat(first|refine za ?_|refine zgo ?_));have h0:¬w.length=0:=by omega
 have h1:w.length*9<=140737488355328:=by omega
 have h2:(w.length+1)*9<=140737488355328:=by omega
 have e1:w.length<=w.length+1:=by omega
 have e4:2*(w.length+1)/2=w.length+1:=by omega
 have e5:¬2*(w.length+1)=0:=by omega
 (repeat(first|refine za ?_|refine zgo ?_ (by simp(disch:=omega)only[go_sem,h0,h1,h2,e1,e4,e5,zAA9,zAN9]<;>rfl)));refine zq ?_;(try simp only[zb,zf,ze,zd,zi,zg,if_true,reduceIte]);refine zj (vs:=[zjU w.length]) ?_ ⟨rfl,rfl⟩;simp[T11,xT,zE,okv,upd]
theorem zvF (w:List Nat):Frz (zsY w) 1 (zjU w.length) (wv 1 w):=by
 refine Frz.sl (l:=w.map uv++[uv 77]) rfl (zAS9 _) (zAM9 _) (by simp) (by omega) (by simp) (fun v hv=>by obtain⟨x,_,rfl⟩:=zAP9.1 hv;rfl) (by simp) fun i x y hx hy=>?_;have e:(List.drop 0 (w.map uv++[uv 77])).take w.length=w.map uv:=by
  rw[zFG9,zDW9 (by simp),zDD9 (by simp)]
 rw[e,hy]at hx;injection hx with hx;subst hx;exact(zif _ (zAK9 hy)).frz
def zfY (w:List Nat)(a:Int):List Nat×Nat:=if zbw w.length a=true then if(zO w a.toNat).2=true then(zhN (zO w a.toNat).1 (w.length/64),0)else([],220)else([],2)
theorem zsC (w:List Nat)(a:Int):zdb w a=.ret (.tuple [.list 0 1 (bfl (zfY w a).1),iv (zfY w a).2]):=by
 unfold zdb zfY
 split
 ·split<;>rfl
 ·rfl
theorem zq0 (w:List Nat)(hs:w.length<=131072)(a:Int):(zfY w a).1.length<=40000:=by
 unfold zfY
 split
 ·split
  ·rename_i ht;have hle:=zf7 w 14 [] [] (w.getD a.toNat 0) (-1);change (zO w a.toNat).1.length<=0+14 at hle;have h1:=zla (zO w a.toNat).1 (w.length/64);have h2:w.length/64*(zO w a.toNat).1.length<=2048*14:=Nat.mul_le_mul (by omega) (by omega);dsimp only;omega
  ·exact zAS9 _
 ·exact zAS9 _
theorem zuY (w:List Nat)(a:Int)(key:Nat):∃(x:Nat) (b:Bool) (n:Nat),zcE w a key=.ret (.tuple [uv x,.bool b,iv n]):=by
 unfold zcE
 split
 ·split
  ·rcases zcu key (zO w a.toNat).1 0 with _|_|p
   ·exact⟨0,false,220,rfl⟩
   ·exact⟨0,false,0,rfl⟩
   ·exact⟨p,true,0,rfl⟩
  ·exact⟨0,false,220,rfl⟩
 ·exact⟨0,false,2,rfl⟩
theorem zv6 {w:List Nat}(hs:w.length<=131072)(hw:WB w)(a:Nat):∀L∈(zO w a).1,∀x∈L.2,zve x:=fun L hL x hx=>by
 have hF:=(zeV hs 14 [] [] (w.getD a 0) (-1) (fun L hL=>by simp at hL)).1 L hL;rw[hF.lv.is]at hx;obtain⟨b,_,rfl⟩:=zAP9.1 hx;have h:=zqx (hw.block b);exact⟨h.left,fun p hp=>(h.pairs p hp).2⟩
set_option maxHeartbeats 4000000 in
theorem zw8 (q1 q2 q3:Nat)(blocks:Int)(zbx:List Nat)(bent:List (Int×Nat))(keys:List Nat)(a0:Int)(hbw:∀x∈bent,LtU x.2):FN ET 4 [iv blocks,.list q1 1 (zc5 zbx),.list q2 2 (wdV bent),.list q3 1 (keys.map uv),iv a0] (.ret (.bool true)):=by
 refine zfn f4 (.bool _) ?_;have hM:=zvh q1 q2 blocks zbx bent hbw;have done:∀(tm:Nat->PV) (H:List zn),tm 10=.bool true->zcT ET T4 (fun e' H=>zay H 0 e' (.ret (.bool true))) .ret ⟨tm,[],H⟩:=fun tm H h=>by
  refine zj (vs:=[.bool true]) ?_ (Frz.bool _);simp[T4,xT,zE,okv,h]
 (repeat(first|refine za ?_|refine zgo ?_));(repeat refine za ?_);refine zrg ?_;refine zvc (caps:=?_) (vs:=?_) ?_ ?_ hM ?_ ?_;rotate_left 2;(first|rfl|(simp only[zab,zap,go_sem,zAH9]<;>rfl));(simp only[go_sem,zAH9]<;>rfl);(repeat(first|exact trivial|refine And.intro ?_ ?_|exact .int _ _|exact .bool _|exact .list _ _ _|exact .elem _|exact .nilsl|exact .nil _ _|exact .str _|refine Frz.aggL ?_|refine Frz.fnL ?_|refine Frz.tupL ?_|refine .iface ?_|exact zbv rfl rfl (by assumption)));rintro e ⟨ws,fr,b,rfl,hfine⟩;refine zfx ?_;refine zh ?_;refine zdk (fun tm=>tm 3=.list q3 1 (keys.map uv)/\tm 4=iv a0/\tm 11=wv 0 ws/\tm 13=.bool b) ⟨by simp[upd,zo],by simp[upd,zo],by simp[upd],by simp[upd]⟩ ?_;rintro tm ⟨h3,h4,h11,h13⟩;have few:b=true/\keys.length<=20\/(b=false\/20<keys.length):=by
  cases b
  ·exact .inr (.inl rfl)
  ·by_cases h:keys.length<=20
   ·exact .inl ⟨rfl,h⟩
   ·exact .inr (.inr (by omega))
 rcases few with⟨rfl,hk⟩|hbad;rotate_left
 ·(repeat refine za ?_);refine zbA (Q:=fun yy s'=>yy=.norm/\s'.tm 44=.bool true/\s'.df=[]/\s'.H=[]) (zr ?_) ?_
  ·cases b
   ·refine zfx ?_ (by simp(disch:=omega)only[go_sem,h3,h13]<;>rfl);refine zy ?_;simp only[zb,zf,ze,zd,zi,zg,if_true,↓reduceIte];exact⟨(by first|exact trivial|rfl),by simp[upd],(by first|exact trivial|rfl),(by first|exact trivial|rfl)⟩
   ·have g:(20:Int)<(keys.length:Nat):=by rcases hbad with h|h;cases h;omega
    refine zfx ?_ (by simp(disch:=omega)only[go_sem,h3,h13,g,zAA9]<;>rfl);refine zy ?_;simp only[zb,zf,ze,zd,zi,zg,if_true,↓reduceIte];exact⟨(by first|exact trivial|rfl),by simp[upd],(by first|exact trivial|rfl),(by first|exact trivial|rfl)⟩
  clear h3 h4 h11 h13;rintro yy ⟨tm,df,H⟩ ⟨rfl,h44,rfl,rfl⟩;dsimp only at h44;simp only[zb,zf,ze,zd,zi,zg,if_true,reduceIte];refine zfc ?_ ?_ (by simp only[go_sem,h44]<;>rfl);rotate_left
  ·intro h;cases h
  intro _;(repeat refine za ?_);refine zrg ?_;refine zca f9 ?_;refine zfx ?_;refine zh ?_;refine zq ?_;(try simp only[zb,zf,ze,zd,zi,zg,if_true,reduceIte]);exact done _ _ (by simp[upd])
 obtain⟨hb1,hb2,hwl,hfl,hwb⟩:=hfine rfl;have hs:za2 ws.length:=by unfold za2;omega
 have g20:¬(20:Int)<(keys.length:Nat):=by omega
 (repeat(first|refine za ?_|refine zgo ?_ (by simp(disch:=omega)only[go_sem,h3,h13,g20,zAA9]<;>rfl)));refine zfc ?_ ?_
 ·intro h;cases h
 intro _;refine zF ?_;show W _ _ _ _ _ _;refine zdk (fun tm=>tm 3=.list q3 1 (keys.map uv)/\tm 4=iv a0/\tm 11=wv 0 ws) ⟨by simp[upd,h3],by simp[upd,h4],by simp[upd,h11]⟩ ?_;clear h3 h4 h11 h13;rintro tm ⟨h3,h4,h11⟩;(repeat refine za ?_);refine zbA (Q:=fun yy s'=>yy=.norm/\(∃c,s'.tm 57=.bool c)/\s'.tm 3=.list q3 1 (keys.map uv)/\s'.tm 4=iv a0/\s'.tm 11=wv 0 ws/\s'.df=[]/\s'.H=[]) (zr ?_) ?_
 ·by_cases c1:a0=5
  ·refine zfx ?_ (by simp(disch:=omega)only[go_sem,h4,h11,c1,zAA9]<;>rfl);refine zy ?_;simp only[zb,zf,ze,zd,zi,zg,if_true,↓reduceIte];exact⟨(by first|exact trivial|rfl),⟨_,by simp[upd]<;>rfl⟩,by simp[upd,h3],by simp[upd,h4,c1],by simp[upd,h11],(by first|exact trivial|rfl),(by first|exact trivial|rfl)⟩
  by_cases c2:a0 < -1
  ·refine zfx ?_ (by simp(disch:=omega)only[go_sem,h4,h11,c1,c2,zAA9]<;>rfl);refine zy ?_;simp only[zb,zf,ze,zd,zi,zg,if_true,↓reduceIte];exact⟨(by first|exact trivial|rfl),⟨_,by simp[upd]<;>rfl⟩,by simp[upd,h3],by simp[upd,h4],by simp[upd,h11],(by first|exact trivial|rfl),(by first|exact trivial|rfl)⟩
  by_cases c3:(ws.length:Int)<a0
  ·refine zfx ?_ (by simp(disch:=omega)only[go_sem,h4,h11,c1,c2,c3,zAA9]<;>rfl);refine zy ?_;simp only[zb,zf,ze,zd,zi,zg,if_true,↓reduceIte];exact⟨(by first|exact trivial|rfl),⟨_,by simp[upd]<;>rfl⟩,by simp[upd,h3],by simp[upd,h4],by simp[upd,h11],(by first|exact trivial|rfl),(by first|exact trivial|rfl)⟩
  ·refine zfx ?_ (by simp(disch:=omega)only[go_sem,h4,h11,c1,c2,c3,zAA9]<;>rfl);refine zy ?_;simp only[zb,zf,ze,zd,zi,zg,if_true,↓reduceIte];exact⟨(by first|exact trivial|rfl),⟨_,by simp[upd]<;>rfl⟩,by simp[upd,h3],by simp[upd,h4],by simp[upd,h11],(by first|exact trivial|rfl),(by first|exact trivial|rfl)⟩
 clear h3 h4 h11;rintro yy ⟨tm,df,H⟩ ⟨rfl,⟨c,h57⟩,h3,h4,h11,rfl,rfl⟩;dsimp only at h57 h3 h4 h11;simp only[zb,zf,ze,zd,zi,zg,if_true,reduceIte];(repeat refine za ?_);refine zbA (Q:=fun yy s'=>yy=.norm/\(∃a,s'.tm 4=iv a)/\s'.tm 3=.list q3 1 (keys.map uv)/\s'.tm 11=wv 0 ws/\s'.df=[]/\s'.H=[]) ?_ ?_
 ·refine zfc ?_ ?_ (by simp only[go_sem,h57]<;>rfl)
  ·intro _;(repeat refine za ?_);refine zrg ?_;refine zy ?_;simp only[zb,zf,ze,zd,zi,zg,if_true,↓reduceIte];exact⟨(by first|exact trivial|rfl),⟨5,by simp[upd]⟩,by simp[upd,h3],by simp[upd,h11],(by first|exact trivial|rfl),(by first|exact trivial|rfl)⟩
  ·intro _;refine zF ?_;(try simp only[zb,zf,ze,zd,zi,zg,if_true,reduceIte]);exact⟨(by first|exact trivial|rfl),⟨a0,h4⟩,h3,h11,(by first|exact trivial|rfl),(by first|exact trivial|rfl)⟩
 clear h57 h3 h4 h11;rintro yy ⟨tm,df,H⟩ ⟨rfl,⟨a,h4⟩,h3,h11,rfl,rfl⟩;dsimp only at h3 h4 h11;simp only[zb,zf,ze,zd,zi,zg,if_true,reduceIte];have hw0:0<ws.length:=by omega
 have hw1:ws.length<=131072:=by omega
 have fz:=zvF ws;(repeat refine za ?_);refine zrg ?_ (by simp(disch:=omega)only[go_sem,h11]<;>rfl);refine zdN (caps:=?_) (vs:=?_) ?_ ?_ (zwX 0 ws hw0 hw1) ?_ ?_ ?_;rotate_left 2;(first|rfl|(simp only[zab,zap,go_sem,h11]<;>rfl));(simp only[go_sem,h11]<;>rfl);rfl;rfl;rintro e H' ⟨rfl,rfl⟩;refine zfx ?_;refine zh ?_;refine zdk (fun tm=>tm 3=.list q3 1 (keys.map uv)/\tm 4=iv a/\tm 11=wv 0 ws/\tm 14=zjU ws.length) ⟨by simp[upd,h3],by simp[upd,h4],by simp[upd,h11],by simp[upd]⟩ ?_;clear h3 h4 h11;rintro tm ⟨h3,h4,h11,h14⟩;have hA:=zxG 1 ws a hs;have hA2:=ztj 0 ws a hs;have hB:=zrd 1 ws a hs;have hB2:=zp9 0 ws a hs;have hC:=zt1 1 ws a hs;have hC2:=zmh 0 ws a hs;have hAl:=zv8 ws a hw1;have hBl:=zq0 ws hw1 a;rw[zrY]at hA hA2;rw[zsC]at hB hB2;generalize zc9 ws a=C at *
 generalize (zkP ws a).2=An at *
 generalize (zkP ws a).1=A at *
 generalize (zfY ws a).2=Bn at *
 generalize (zfY ws a).1=B at *
 have sA:FN ET 20 [psv 0 A,psv 0 A] (.ret (.bool true)):=by
  have:=zpr 0 0 A A (by unfold za2;omega) (by unfold za2;omega)
  rwa [decide_eq_true rfl]at this
 have sB:FN ET 14 [.list 0 1 (bfl B),.list 0 1 (bfl B)] (.ret (.bool true)):=by
  have:=zq2 0 0 (B.map fun b:Nat=>(b:Int)) (B.map fun b:Nat=>(b:Int)) (by unfold za2;rw[zAA9];omega) (by unfold za2;rw[zAA9];omega)
  rwa [decide_eq_true rfl,<- zt6]at this
 have sW:FN ET 25 [wv 1 ws,wv 0 ws] (.ret (.bool true)):=by
  have:=zp2 1 0 ws ws hs hs
  rwa [decide_eq_true rfl]at this
 (repeat refine za ?_);refine zrg ?_ (by simp(disch:=omega)only[go_sem,h4,h14]<;>rfl);refine zcl hA ?_ ?_;(repeat(first|exact trivial|refine And.intro ?_ ?_|exact .int _ _|exact .bool _|exact .list _ _ _|exact .elem _|exact .nilsl|exact .nil _ _|exact .str _|refine Frz.aggL ?_|refine Frz.fnL ?_|refine Frz.tupL ?_|refine .iface ?_|exact zbv rfl rfl (by assumption)))
 ·exact fz
 ·(repeat(first|exact trivial|refine And.intro ?_ ?_|exact .int _ _|exact .bool _|exact .list _ _ _|exact .elem _|exact .nilsl|exact .nil _ _|exact .str _|refine Frz.aggL ?_|refine Frz.fnL ?_|refine Frz.tupL ?_|refine .iface ?_|exact zbv rfl rfl (by assumption)))
 refine zfx ?_;refine zh ?_;(repeat refine za ?_);refine zrg ?_ (by simp(disch:=omega)only[go_sem,h4,h14]<;>rfl);refine zcl hB ?_ ?_;(repeat(first|exact trivial|refine And.intro ?_ ?_|exact .int _ _|exact .bool _|exact .list _ _ _|exact .elem _|exact .nilsl|exact .nil _ _|exact .str _|refine Frz.aggL ?_|refine Frz.fnL ?_|refine Frz.tupL ?_|refine .iface ?_|exact zbv rfl rfl (by assumption)))
 ·exact fz
 ·(repeat(first|exact trivial|refine And.intro ?_ ?_|exact .int _ _|exact .bool _|exact .list _ _ _|exact .elem _|exact .nilsl|exact .nil _ _|exact .str _|refine Frz.aggL ?_|refine Frz.fnL ?_|refine Frz.tupL ?_|refine .iface ?_|exact zbv rfl rfl (by assumption)))
 refine zfx ?_;refine zh ?_;(repeat refine za ?_);refine zrg ?_ (by simp(disch:=omega)only[go_sem,h4,h11]<;>rfl);refine zca hA2 ?_;refine zfx ?_;refine zh ?_;(repeat refine za ?_);refine zrg ?_ (by simp(disch:=omega)only[go_sem,h4,h11]<;>rfl);refine zca hB2 ?_;refine zfx ?_;refine zh ?_;have nA:((An:Int)=An)=True:=eq_self _;(repeat refine za ?_);refine zrg ?_;refine zca sA ?_;refine zfx ?_;refine zca (zlF An) ?_;refine zfx ?_ (by simp(disch:=omega)only[go_sem,ne_eq,not_true_eq_false]<;>rfl);refine zca sB ?_;refine zfx ?_;refine zca (zlF Bn) ?_;refine zfx ?_ (by simp(disch:=omega)only[go_sem,h4,h14,ne_eq,not_true_eq_false]<;>rfl);refine zcl hC ?_ ?_;(repeat(first|exact trivial|refine And.intro ?_ ?_|exact .int _ _|exact .bool _|exact .list _ _ _|exact .elem _|exact .nilsl|exact .nil _ _|exact .str _|refine Frz.aggL ?_|refine Frz.fnL ?_|refine Frz.tupL ?_|refine .iface ?_|exact zbv rfl rfl (by assumption)))
 ·exact fz
 ·(repeat(first|exact trivial|refine And.intro ?_ ?_|exact .int _ _|exact .bool _|exact .list _ _ _|exact .elem _|exact .nilsl|exact .nil _ _|exact .str _|refine Frz.aggL ?_|refine Frz.fnL ?_|refine Frz.tupL ?_|refine .iface ?_|exact zbv rfl rfl (by assumption)))
 refine zfx ?_;refine zca (zlF C) ?_;refine zfx ?_ (by simp(disch:=omega)only[go_sem,h4,h11]<;>rfl);refine zca hC2 ?_;refine zfx ?_ (by simp(disch:=omega)only[go_sem,ne_eq,not_true_eq_false]<;>rfl);refine zh ?_;refine zfc ?_ ?_
 ·intro h;cases h
 intro _;refine zF ?_;show W _ _ _ _ _ _;(repeat(first|refine za ?_|refine zgo ?_));refine zdk (fun tm=>tm 3=.list q3 1 (keys.map uv)/\tm 4=iv a/\tm 11=wv 0 ws/\tm 14=zjU ws.length/\tm 23=iv 0) ⟨by simp[upd,h3],by simp[upd,h4],by simp[upd,h11],by simp[upd,h14],by simp[upd]⟩ ?_;clear h3 h4 h11 h14;rintro tm ⟨h3,h4,h11,h14,h23⟩;refine zD (zas (fun m s=>∃i:Nat,m=keys.length-i/\s.tm 3=.list q3 1 (keys.map uv)/\s.tm 4=iv a/\s.tm 11=wv 0 ws/\s.tm 14=zjU ws.length/\s.tm 23=iv i/\s.df=[]/\s.H=zsY ws) (n:=keys.length) ?_ ?_)
 ·exact⟨0,rfl,h3,h4,h11,h14,h23,rfl,rfl⟩
 clear h3 h4 h11 h14 h23;rintro m ⟨tm,df,H⟩ ⟨i,rfl,h3,h4,h11,h14,h23,rfl,rfl⟩;dsimp only at h3 h4 h11 h14 h23;(try refine zK ?_);refine za (zr ?_);refine zfx ?_ (by simp(disch:=omega)only[go_sem,h3,h23,zAA9]<;>rfl);refine zh ?_;refine zN (by simp only[go_sem]<;>rfl) ?_ ?_
 ·intro hlt;have hlt:i<keys.length:=by have:=of_decide_eq_true hlt;omega
  obtain⟨k,hkk⟩:∃k,keys[i]?=some k:=⟨_,zAB9 hlt⟩
  have hkv:(keys.map uv)[i]?=some (uv k):=by rw[zAG9,hkk];rfl
  have hF:=zuu 1 ws a k hs (zv6 hw1 hwb _);have hF2:=zuS 0 ws a k hs;obtain⟨fx,fb,fn,hE⟩:=zuY ws a k;rw[hE]at hF hF2;(repeat refine za ?_);refine zD ?_;(repeat refine za ?_);refine zrg ?_ (by simp(disch:=omega)only[go_sem,h3,h4,h14,h23,hkv,hlt,zAA9]<;>rfl);refine zcl hF ?_ ?_;(repeat(first|exact trivial|refine And.intro ?_ ?_|exact .int _ _|exact .bool _|exact .list _ _ _|exact .elem _|exact .nilsl|exact .nil _ _|exact .str _|refine Frz.aggL ?_|refine Frz.fnL ?_|refine Frz.tupL ?_|refine .iface ?_|exact zbv rfl rfl (by assumption)))
  ·exact fz
  ·(repeat(first|exact trivial|refine And.intro ?_ ?_|exact .int _ _|exact .bool _|exact .list _ _ _|exact .elem _|exact .nilsl|exact .nil _ _|exact .str _|refine Frz.aggL ?_|refine Frz.fnL ?_|refine Frz.tupL ?_|refine .iface ?_|exact zbv rfl rfl (by assumption)))
  refine zfx ?_;refine zh ?_;(repeat refine za ?_);refine zrg ?_ (by simp(disch:=omega)only[go_sem,h3,h4,h11,h23,hkv,hlt,zAA9]<;>rfl);refine zca hF2 ?_;refine zfx ?_;refine zh ?_;(repeat refine za ?_);refine zrg ?_ (by simp(disch:=omega)only[go_sem,ne_eq,not_true_eq_false,beq_self_eq_true]<;>rfl);refine zca (zlF fn) ?_;refine zfx ?_ (by simp(disch:=omega)only[go_sem,ne_eq,not_true_eq_false]<;>rfl);refine zh ?_;refine zfc ?_ ?_
  ·intro h;cases h
  intro _;refine zF ?_;simp only[zb,zf,ze,zd,zi,zg,if_true,reduceIte];(repeat refine za ?_);refine zrg ?_ (by simp(disch:=omega)only[go_sem,h23]<;>rfl);refine zy ?_;simp only[zb,zf,ze,zd,zi,zg,if_true,↓reduceIte];refine⟨_,?m,i+1,rfl,by simp[upd,h3],by simp[upd,h4],by simp[upd,h11],by simp[upd,h14],by simp[upd,h23],trivial,trivial⟩
  case m=>omega
 intro _;simp only[zb,zf,ze,zd,zi,zg,if_true,reduceIte];have e1:(ws.length:Int)+1=((ws.length+1:Nat):Int):=by omega
 have e2:(ws.map uv++[uv 77])[ws.length]?=some (uv 77):=by rw[zAO9 (by simp)];simp
 have e3:ws.length<ws.length+1:=zBT9 _;have e4:2*(ws.length+1)/2=ws.length+1:=by omega
 have e5:¬2*(ws.length+1)=0:=by omega
 (repeat refine za ?_);refine zrg ?_ (by simp(disch:=omega)only[go_sem,h11,h14]<;>rfl);refine zcl sW ?_ ?_;(repeat(first|exact trivial|refine And.intro ?_ ?_|exact .int _ _|exact .bool _|exact .list _ _ _|exact .elem _|exact .nilsl|exact .nil _ _|exact .str _|refine Frz.aggL ?_|refine Frz.fnL ?_|refine Frz.tupL ?_|refine .iface ?_|exact zbv rfl rfl (by assumption)))
 ·exact fz
 ·(repeat(first|exact trivial|refine And.intro ?_ ?_|exact .int _ _|exact .bool _|exact .list _ _ _|exact .elem _|exact .nilsl|exact .nil _ _|exact .str _|refine Frz.aggL ?_|refine Frz.fnL ?_|refine Frz.tupL ?_|refine .iface ?_|exact zbv rfl rfl (by assumption)))
 refine zfx ?_ (by simp(disch:=omega)only[go_sem,h11,h14,e1,e2,e3,e4,e5,zAA9,zAC9,zAE9,zAH9,zAN9,zAM9]<;>rfl);refine zca f9 ?_;refine zfx ?_;refine zh ?_;refine zq ?_;(try simp only[zb,zf,ze,zd,zi,zg,if_true,reduceIte]);exact done _ _ (by simp[upd])
theorem f5:ET.funcs.get 5=some T5:=zL Tryz.func5
end Fv
end Go.Proofs.YtfomlmhnmheenaaGreat
namespace Go.Proofs.YtfomlmhnmheenaaGreat
open Go.RowKit
variable {Z:Nat}
def Ext (w w':World):Prop:=Below w.heap.size w w'
theorem Ext.refl (w:World):Ext w w:=Below.refl _ w
theorem Ext.trans {w w1 w2:World}(h:Ext w w1)(k:Ext w1 w2):Ext w w2:=Below.trans h (Below.mono k (Below.size h))
theorem Ext.drew {w w1:World}(h:Ext w w1):Ext w w1.drew:=Below.drew h
theorem Ext.alloc {w w1:World}(h:Ext w w1)(o:Obj):Ext w (w1.alloc o):=Below.alloc h (Below.size h) o
theorem Ext.setCell {w w1:World}(h:Ext w w1){p:Addr}(hp:w.heap.size<=p.block)(u:Value):Ext w (w1.setCell p u):=Below.setCell h hp u
theorem Ext.grown {w w1 w2:World}{row:Option Nat}(h:Ext w w1)(hg:w1.grownBy w2 row)(hr:∀k,row=some k->w.heap.size<=k):Ext w w2:=Below.grown h hg (Below.size h) hr
theorem Ext.size {w w1:World}(h:Ext w w1):w.heap.size<=w1.heap.size:=Below.size h
theorem Ext.below {w w1:World}(h:Ext w w1):Below w.heap.size w w1:=h
theorem Ext.of {w w1:World}(h:Below w.heap.size w w1):Ext w w1:=h
theorem Ext.cells {W w1:World}(hb:Ext W w1):(∀b o,b<W.heap.size->w1.cell? ⟨b,o,none⟩=W.cell? ⟨b,o,none⟩)/\(∀b o,b<W.heap.size->w1.frozen? ⟨b,o,none⟩=W.frozen? ⟨b,o,none⟩) :=
 ⟨fun b o h=>Below.cell hb (p:=⟨b,o,none⟩) h,fun b o h=>Below.frozen hb (p:=⟨b,o,none⟩) h⟩
theorem Ext.cell {w w1:World}(h:Ext w w1){p:Addr}{v:Value}(hc:w.cell? p=some v):w1.cell? p=some v:=(Below.cell h (World.block_lt_of_cell? w _ hc)).trans hc
theorem Ext.block {w w1:World}(h:Ext w w1){b:Nat}{o:Obj}(hc:w.heap[b]?=some o):w1.heap[b]?=some o:=(Below.block h b (zBW9.1 hc).1).trans hc
theorem zzn (w:World)(o1:Obj):Ext w (w.alloc o1):=(Ext.refl w).alloc o1
theorem Ext.grownBy {w w1:World}(h:Ext w w1)(row:Option Nat):w.grownBy w1 row:=⟨h.os,h.tape,h.output,h.size,fun k hk _=>Below.block h k hk⟩
theorem ze7 (b o j:Nat):(⟨b,o,none⟩:Addr).add j=⟨b,o+j,none⟩:=by unfold Addr.add;split<;>simp_all
def Typ (w:World)(b:Nat)(t:TypeId):Prop:=∃cs fr,w.heap[b]?=some (.cells cs t fr)
theorem Typ.lt {w:World}{b:Nat}{t:TypeId}(h:Typ w b t):b<w.heap.size:=by obtain⟨_,_,h⟩:=h;exact(zBW9.1 h).1
theorem Typ.ext {w w':World}{b:Nat}{t:TypeId}(h:Typ w b t)(hb:Ext w w'):Typ w' b t:=by obtain⟨cs,fr,h⟩:=h;exact⟨cs,fr,hb.block h⟩
theorem Typ.set {w:World}{b:Nat}{t:TypeId}(h:Typ w b t)(p:Addr)(v:Value):Typ (w.setCell p v) b t:=by
 obtain⟨cs,fr,h⟩:=h
 by_cases e:p.block=b
 ·subst e;exact⟨_,_,by simp[World.setCell,zFO9,h];exact⟨rfl,rfl⟩⟩
 ·exact⟨cs,fr,(Below.heap_setCell w p v b (fun x=>e x.symm)).trans h⟩
theorem Typ.same {w w':World}{b:Nat}{t:TypeId}(h:Typ w b t)(he:w'.heap[b]?=w.heap[b]?):Typ w' b t:=by obtain⟨cs,fr,h⟩:=h;exact⟨cs,fr,he.trans h⟩
theorem Typ.one {w:World}{b:Nat}{t t':TypeId}(h:Typ w b t)(h':Typ w b t'):t=t':=by
 obtain⟨cs,fr,h⟩:=h;obtain⟨cs',fr',h'⟩:=h';rw[h]at h';injection h' with h';injection h' with _ h'
theorem Typ.new (w:World)(cs:Array Value)(t:TypeId):Typ (w.alloc (.cells cs t)) w.heap.size t:=⟨_,_,heap_alloc_new w _⟩
theorem zw6 {w:World}{base:Nat}{e:TypeId}{size n:Nat}{v:Value}{xs:List Value}(h:w.ownsRow base e size v n xs){b:Nat}(hb:v.ownBlock=some b):Typ w b e:=by
 rcases h.2 with⟨rfl,_⟩|⟨g,cap,cur,rfl,_,hg,_⟩
 ·simp[Value.ownBlock]at hb
 ·simp[Value.ownBlock]at hb;subst hb;exact⟨_,_,hg⟩
def zgz (t:TypeId)(Z:Nat)(w:World)(b:Nat):Prop:=b<Z\/Typ w b t
theorem zgz.same {w w':World}{b:Nat}{t:TypeId}(h:zgz t Z w b)(he:w'.heap[b]?=w.heap[b]?):zgz t Z w' b:=h.imp id fun h=>h.same he
theorem zgz.ne {w:World}{b X:Nat}{t t':TypeId}(h:zgz t Z w b)(hX:Z<=X)(ht:Typ w X t')(hne:t'≠t):b≠X:=by
 rintro rfl;rcases h with h|h
 ·omega
 ·exact hne (ht.one h)
def RT (t:TypeId)(Z:Nat)(w:World)(A:Option Addr)(xs:List Value):Prop :=
 xs ≠ []->∃b o,A=some ⟨b,o,none⟩/\zgz t Z w b/\∀(j:Nat) u,xs[j]?=some u->w.cell? ⟨b,o+j,none⟩=some u
variable {t:TypeId}
theorem RT.nil (w:World)(A:Option Addr):RT t Z w A []:=fun h=>(h rfl).elim
theorem RT.move {w w':World}{A xs}(h:RT t Z w A xs)(hb:∀b o,A=some ⟨b,o,none⟩->zgz t Z w b->b<w.heap.size->w'.heap[b]?=w.heap[b]?):RT t Z w' A xs:=fun hl=>by
 obtain⟨b,o,hA,ht,hc⟩:=h hl;have hlt:b<w.heap.size:=by
  obtain⟨u,l,rfl⟩:=List.exists_cons_of_ne_nil hl;exact World.block_lt_of_cell? w _ (hc 0 u rfl)
 have he:=hb b o hA ht hlt;exact⟨b,o,hA,ht.same he,fun j u hj=>(World.cell?_of_block (a:=⟨b,o+j,none⟩) he).trans (hc j u hj)⟩
theorem RT.ext {w w':World}{A xs}(h:RT t Z w A xs)(hb:Ext w w'):RT t Z w' A xs:=h.move fun b _ _ _ hl=>Below.block hb b hl
theorem RT.drew {w:World}{A xs}(h:RT t Z w A xs):RT t Z w.drew A xs:=h.ext (Ext.refl _).drew
theorem RT.alloc {w:World}{A xs}(h:RT t Z w A xs)(o:Obj):RT t Z (w.alloc o) A xs:=h.ext (zzn _ _)
theorem RT.grown {w w':World}{A xs}(h:RT t Z w A xs){base:Nat}{e:TypeId}{size n:Nat}{v:Value}{ys:List Value}(hown:w.ownsRow base e size v n ys)(he:e≠t)(hb:Z<=base)(hg:w.grownBy w' v.ownBlock):RT t Z w' A xs :=
 h.move fun b _ _ ht hl=>hg.block b hl fun e'=>ht.ne (zBN9 hb (hown.lt b e'.symm).1) (zw6 hown e'.symm) he rfl
theorem RT.set {w:World}{A xs}(h:RT t Z w A xs){p:Addr}{e:TypeId}(hp:Z<=p.block)(ht:Typ w p.block e)(he:e≠t)(v:Value):RT t Z (w.setCell p v) A xs :=
 h.move fun b _ _ ho _=>Below.heap_setCell w p v b (ho.ne hp ht he)
theorem RT.lt {w:World}{A xs}(h:RT t Z w A xs){b o:Nat}(hA:A=some ⟨b,o,none⟩)(hl:xs ≠ []):b<w.heap.size:=by
 obtain⟨b',o',hA',_,hc⟩:=h hl;rw[hA]at hA';injection hA' with hA';injection hA' with hA' hA2;subst hA';subst hA2;obtain⟨u,l,rfl⟩:=List.exists_cons_of_ne_nil hl;exact World.block_lt_of_cell? w _ (hc 0 u rfl)
theorem RT.old {w:World}{A xs}(h:RT t Z w A xs){t':TypeId}:RT t' w.heap.size w A xs:=fun hl=>by
 obtain⟨b,o,hA,_,hc⟩:=h hl;exact⟨b,o,hA,.inl (h.lt hA hl),hc⟩
theorem RT.mono {w:World}{A xs}(h:RT t Z w A xs){Z':Nat}(hz:Z<=Z'):RT t Z' w A xs:=fun hl=>by
 obtain⟨b,o,hA,ht,hc⟩:=h hl;exact⟨b,o,hA,ht.imp (fun h=>zBE9 h hz) id,hc⟩
theorem RT.sub {w:World}{b o:Nat}{xs}(h:RT t Z w (some ⟨b,o,none⟩) xs)(k n:Nat):RT t Z w (some ⟨b,o+k,none⟩) ((xs.drop k).take n):=fun hl=>by
 have hne:xs ≠ []:=by rintro rfl;simp at hl
 obtain⟨b',o',hA,ht,hc⟩:=h hne;injection hA with hA;injection hA with h1 h2;subst h1;subst h2;refine⟨b,o+k,rfl,ht,fun j u hj=>?_⟩;rw[zBD9]at hj
 split at hj
 ·rw[zCB9]at hj;have:=hc (k+j) u hj
  rwa [<- zDF9]at this
 ·cases hj
theorem RT.drop {w:World}{b o:Nat}{xs}(h:RT t Z w (some ⟨b,o,none⟩) xs)(k:Nat):RT t Z w (some ⟨b,o+k,none⟩) (xs.drop k):=by
 have:=h.sub k (xs.drop k).length
 rwa [zBK9]at this
theorem RT.take {w:World}{A xs}(h:RT t Z w A xs)(n:Nat):RT t Z w A (xs.take n):=fun hl=>by
 have hne:xs ≠ []:=by rintro rfl;simp at hl
 obtain⟨b,o,hA,ht,hc⟩:=h hne;refine⟨b,o,hA,ht,fun j u hj=>hc j u ?_⟩;rw[zBD9]at hj
 split at hj
 ·exact hj
 ·cases hj
theorem zxN {w:World}{base:Nat}{e:TypeId}{size n:Nat}{v:Value}{xs:List Value}(h:w.ownsRow base e size v n xs) :
  ∃A c,v=.slice A n c/\n<=c/\c<=maxLen/\RT e Z w A xs/\∀b o,A=some ⟨b,o,none⟩->base<=b/\b<w.heap.size/\o=0/\v.ownBlock=some b:=by
 rcases h.2 with⟨rfl,rfl⟩|⟨g,cap,cur,rfl,hb,hg,hc,hm,_⟩
 ·have:xs=[]:=zCG9 (by simpa using h.1);subst this;exact⟨none,0,rfl,zAM9 _,zAS9 _,RT.nil _ _,fun _ _ h=>by cases h⟩
 ·refine⟨_,_,rfl,hc,hm,fun _=>⟨g,0,rfl,.inr ⟨_,_,hg⟩,fun j u hj=>?_⟩,fun b o e=>?_⟩
  ·have:=h.cells (g:=g) rfl j u hj
   rwa [ze7]at this
  ·injection e with e;injection e with e1 e2;subst e1;subst e2;exact⟨hb,(zBW9.1 hg).1,rfl,rfl⟩
theorem zxs {w w':World}{base:Nat}{e:TypeId}{size n:Nat}{v:Value}{xs:List Value}(h:w.ownsRow base e size v n xs)(hx:Ext w w'):w'.ownsRow base e size v n xs:=by
 refine World.ownsRow.kept h (row:=none) (hx.grownBy none) ?_
 cases v.ownBlock<;>simp
theorem Ext.own {w w1 w2:World}{v:Value}(h:Ext w w1)(hg:w1.grownBy w2 v.ownBlock){e size n xs}(hown:w1.ownsRow w.heap.size e size v n xs):Ext w w2 :=
 h.grown hg (fun k hk=>(hown.lt k hk).1)
section
variable {P:Program}(w:World)
end
structure Lay (α:Type) where
 t:TypeId
 size:Nat
 bytes:Nat
 enc:α->List Value
 len:∀a,(enc a).length=size
 one:∀a,∀u∈enc a,u.oneCell'=true
 pos:0<size
 z:Value
 info:(Tryz.prog.info? t).map (fun i=>(i.zero,i.size,i.bytes))=some (some z,size,bytes)
 zs:z.cells.size=size
variable {α:Type}{L:Lay α}
def Lay.all (L:Lay α)(l:List α):List Value:=l.flatMap L.enc
theorem Lay.all_nil (L:Lay α):L.all []=[]:=rfl
theorem Lay.all_cons (L:Lay α)(a:α)(l:List α):L.all (a::l)=L.enc a++L.all l:=rfl
theorem Lay.all_one (L:Lay α)(a:α):L.all [a]=L.enc a:=by simp[Lay.all]
theorem Lay.all_len (L:Lay α)(l:List α):(L.all l).length=l.length*L.size:=by
 induction l with
 | nil=>simp[Lay.all]
 | cons a l ih=>rw[L.all_cons,zAC9,L.len,ih,zAE9,zDA9,zDL9]
theorem Lay.all_oneCell (L:Lay α)(l:List α):∀u∈L.all l,u.oneCell'=true:=by
 intro u hu;obtain⟨a,_,ha⟩:=zBC9.1 hu;exact L.one a u ha
theorem Lay.all_at (L:Lay α):∀(l:List α) (j:Nat) (a:α),l[j]?=some a->∀i u,(L.enc a)[i]?=some u->(L.all l)[j*L.size+i]?=some u
 | [],_,_,h,_,_,_=>by simp at h
 | x::l,0,a,h,i,u,hu=>by
  simp at h;subst h;have hi:i<(L.enc x).length:=(zAD9.1 hu).1;rw[L.all_cons,Nat.zero_mul,zAN9,zAW9 hi];exact hu
 | x::l,j+1,a,h,i,u,hu=>by
  have hi:i<L.size:=by rw[<- L.len a];exact(zAD9.1 hu).1
  rw[L.all_cons,zAO9 (by rw[L.len];rw[zDA9];omega),L.len];have:=L.all_at l j a (by simpa using h) i u hu;rw[show (j+1)*L.size+i-L.size=j*L.size+i by rw[zDA9];omega];exact this
theorem Lay.all_drop (L:Lay α):∀(k:Nat) (l:List α),L.all (l.drop k)=(L.all l).drop (k*L.size)
 | 0,l=>by simp
 | k+1,[]=>by simp[Lay.all]
 | k+1,x::l=>by
  have e:(k+1)*L.size=L.size+k*L.size:=by rw[zDA9,zDL9]
  rw[List.drop_succ_cons,L.all_drop k l,L.all_cons,e,<- zEH9];have e2:List.drop L.size (L.enc x++L.all l)=L.all l:=by
   have:=List.drop_left (l₁:=L.enc x) (l₂:=L.all l)
   rwa [L.len]at this
  rw[e2]
theorem Lay.all_take (L:Lay α):∀(k:Nat) (l:List α),L.all (l.take k)=(L.all l).take (k*L.size)
 | 0,l=>by simp[Lay.all]
 | k+1,[]=>by simp[Lay.all]
 | k+1,x::l=>by
  have e:(k+1)*L.size=(L.enc x).length+k*L.size:=by rw[zDA9,zDL9,L.len]
  rw[zFW9,L.all_cons,L.all_take k l,L.all_cons,e,List.take_length_add_append]
theorem Lay.all_ne (L:Lay α){l:List α}(h:l ≠ []):L.all l ≠ []:=by
 intro e;have:=L.all_len l;rw[e]at this;have h0:=Nat.mul_pos (zBO9.2 h) L.pos;rw[zAH9]at this;omega
def RL (L:Lay α)(Z:Nat)(w:World)(A:Option Addr)(l:List α):Prop:=RT L.t Z w A (L.all l)
theorem RL.nil (w:World)(A:Option Addr):RL L Z w A []:=RT.nil w A
theorem RL.ext {w w':World}{A}{l:List α}(h:RL L Z w A l)(hb:Ext w w'):RL L Z w' A l:=RT.ext h hb
theorem RL.alloc {w:World}{A}{l:List α}(h:RL L Z w A l)(o:Obj):RL L Z (w.alloc o) A l:=RT.alloc h o
theorem RL.drew {w:World}{A}{l:List α}(h:RL L Z w A l):RL L Z w.drew A l:=RT.drew h
theorem RL.old {w:World}{A}{l:List α}(h:RL L Z w A l):RL L w.heap.size w A l:=RT.old h
theorem RL.at {w:World}{A}{l:List α}(h:RL L Z w A l)(hl:l ≠ []):∃b o,A=some ⟨b,o,none⟩/\b<w.heap.size/\zgz L.t Z w b/\∀j a,l[j]?=some a->∀i u,(L.enc a)[i]?=some u->w.cell? ⟨b,o+(j*L.size+i),none⟩=some u:=by
 obtain⟨b,o,hA,ht,hc⟩:=h (L.all_ne hl);exact⟨b,o,hA,RT.lt h hA (L.all_ne hl),ht,fun j a hj i u hu=>hc _ u (L.all_at l j a hj i u hu)⟩
theorem RL.sub {w:World}{b o:Nat}{l:List α}(h:RL L Z w (some ⟨b,o,none⟩) l)(k n:Nat):RL L Z w (some ⟨b,o+k*L.size,none⟩) ((l.drop k).take n):=by
 unfold RL;rw[L.all_take,L.all_drop];exact RT.sub h (k*L.size) (n*L.size)
theorem RL.take {w:World}{A}{l:List α}(h:RL L Z w A l)(n:Nat):RL L Z w A (l.take n):=by
 unfold RL;rw[L.all_take];exact RT.take h _
def OL (L:Lay α)(w:World)(base:Nat)(v:Value)(l:List α):Prop:=w.ownsRow base L.t L.size v l.length (L.all l)
theorem OL.nil (L:Lay α)(w:World)(base:Nat):OL L w base (.slice none 0 0) []:=World.ownsRow_nil w base _ _
theorem OL.rl {w:World}{base v}{l:List α}(h:OL L w base v l):∃A c,v=.slice A l.length c/\l.length<=c/\c<=maxLen/\RL L Z w A l/\∀b o,A=some ⟨b,o,none⟩->base<=b/\b<w.heap.size/\o=0/\v.ownBlock=some b:=zxN h
theorem OL.alloc {w:World}{base v}{l:List α}(h:OL L w base v l)(o:Obj):OL L (w.alloc o) base v l:=World.ownsRow.alloc h o
theorem OL.ext {w w':World}{base v}{l:List α}(h:OL L w base v l)(hx:Ext w w'):OL L w' base v l:=zxs h hx
abbrev Pr:=Nat×Nat
structure zB where
 level:Nat
 sib:Nat
 low:Nat
 left:Nat
 way:Nat
 pairs:List Pr
structure NA where
 n:zB
 A:Option Addr
 c:Nat
def LU:Lay Nat:=⟨24,1,8,fun x=>[.int .u64 x],fun _=>rfl,fun _ u hu=>(by simp only[zAX9,zDG9,or_false]at hu;subst hu;rfl),by decide,.int .u64 0,by kernel_rfl,rfl⟩
def LI:Lay Int:=⟨3,1,8,fun x=>[.int .i64 x],fun _=>rfl,fun _ u hu=>(by simp only[zAX9,zDG9,or_false]at hu;subst hu;rfl),by decide,.int .i64 0,by kernel_rfl,rfl⟩
def LP:Lay Pr:=⟨66,2,16,fun x=>[.int .u64 x.1,.int .u64 x.2],fun _=>rfl,fun _ u hu=>(by simp only[zAX9,zDG9,or_false]at hu;rcases hu with rfl|rfl<;>rfl),by decide,.agg #[.int .u64 0,.int .u64 0],by kernel_rfl,rfl⟩
def LT:Lay (Int×Nat):=⟨83,2,16,fun x=>[.int .i64 x.1,.int .u64 x.2],fun _=>rfl,fun _ u hu=>(by simp only[zAX9,zDG9,or_false]at hu;rcases hu with rfl|rfl<;>rfl),by decide,.agg #[.int .i64 0,.int .u64 0],by kernel_rfl,rfl⟩
def LN:Lay NA:=⟨124,6,64,fun x=>[.int .i64 x.n.level,.int .i64 x.n.sib,.int .u64 x.n.low,.int .u64 x.n.left,.int .i64 x.n.way,.slice x.A x.n.pairs.length x.c],fun _=>rfl,
 fun _ u hu=>(by simp only[zAX9,zDG9,or_false]at hu;rcases hu with rfl|rfl|rfl|rfl|rfl|rfl<;>rfl),by decide,.agg #[.int .i64 0,.int .i64 0,.int .u64 0,.int .u64 0,.int .i64 0,.slice none 0 0],by kernel_rfl,rfl⟩
theorem RL.u64 {w:World}{A}{l:List Nat}(h:RL LU Z w A l)(hl:l ≠ []):∃b o,A=some ⟨b,o,none⟩/\b<w.heap.size/\zgz 24 Z w b/\∀j (hj:j<l.length),w.cell? ⟨b,o+j,none⟩=some (.int .u64 (l[j]:Nat)):=by
 obtain⟨b,o,hA,hb,ht,hc⟩:=h.at hl;refine⟨b,o,hA,hb,ht,fun j hj=>?_⟩;have:=hc j l[j] (zAB9 hj) 0 (.int .u64 (l[j]:Nat)) rfl;simpa[LU]using this
theorem RL.int {w:World}{A}{l:List Int}(h:RL LI Z w A l)(hl:l ≠ []):∃b o,A=some ⟨b,o,none⟩/\b<w.heap.size/\zgz 3 Z w b/\∀j (hj:j<l.length),w.cell? ⟨b,o+j,none⟩=some (.int .i64 l[j]):=by
 obtain⟨b,o,hA,hb,ht,hc⟩:=h.at hl;refine⟨b,o,hA,hb,ht,fun j hj=>?_⟩;have:=hc j l[j] (zAB9 hj) 0 (.int .i64 l[j]) rfl;simpa[LI]using this
theorem RL.put {w:World}{A}{l:List (Int×Nat)}(h:RL LT Z w A l)(hl:l ≠ []):∃b o,A=some ⟨b,o,none⟩/\b<w.heap.size/\zgz 83 Z w b/\∀j (hj:j<l.length),w.cell? ⟨b,o+j*2,none⟩=some (.int .i64 l[j].1)/\w.cell? ⟨b,o+j*2+1,none⟩=some (.int .u64 (l[j].2:Nat)):=by
 obtain⟨b,o,hA,hb,ht,hc⟩:=h.at hl;refine⟨b,o,hA,hb,ht,fun j hj=>⟨?_,?_⟩⟩
 ·have:=hc j l[j] (zAB9 hj) 0 (.int .i64 l[j].1) rfl;simpa[LT]using this
 ·have:=hc j l[j] (zAB9 hj) 1 (.int .u64 (l[j].2:Nat)) rfl;simpa[LT,zDF9]using this
def zmg (w:World)(b o:Nat)(x:NA):Prop :=
 w.cell? ⟨b,o,none⟩=some (.int .i64 x.n.level)/\w.cell? ⟨b,o+1,none⟩=some (.int .i64 x.n.sib)/\w.cell? ⟨b,o+2,none⟩=some (.int .u64 x.n.low)/\w.cell? ⟨b,o+3,none⟩=some (.int .u64 x.n.left) /\
 w.cell? ⟨b,o+4,none⟩=some (.int .i64 x.n.way)/\w.cell? ⟨b,o+5,none⟩=some (.slice x.A x.n.pairs.length x.c)
theorem zmg.ext {w w':World}{b o:Nat}{x:NA}(h:zmg w b o x)(hx:Ext w w'):zmg w' b o x:=⟨hx.cell h.1,hx.cell h.2.1,hx.cell h.2.2.1,hx.cell h.2.2.2.1,hx.cell h.2.2.2.2.1,hx.cell h.2.2.2.2.2⟩
theorem RL.node {w:World}{A}{l:List NA}(h:RL LN Z w A l)(hl:l ≠ []):∃b o,A=some ⟨b,o,none⟩/\b<w.heap.size/\zgz 124 Z w b/\∀j (hj:j<l.length),zmg w b (o+j*6) l[j]:=by
 obtain⟨b,o,hA,hb,ht,hc⟩:=h.at hl;refine⟨b,o,hA,hb,ht,fun j hj=>?_⟩;have hh:=hc j l[j] (zAB9 hj);refine⟨?_,?_,?_,?_,?_,?_⟩
 ·simpa[LN]using hh 0 _ rfl
 ·simpa[LN,zDF9]using hh 1 _ rfl
 ·simpa[LN,zDF9]using hh 2 _ rfl
 ·simpa[LN,zDF9]using hh 3 _ rfl
 ·simpa[LN,zDF9]using hh 4 _ rfl
 ·simpa[LN,zDF9]using hh 5 _ rfl
structure RN (Z:Nat)(w:World)(A:Option Addr)(l:List NA):Prop where
 row:RL LN Z w A l
 sub:∀x∈l,RL LP Z w x.A x.n.pairs
theorem RN.ext {w w':World}{A}{l:List NA}(h:RN Z w A l)(hx:Ext w w'):RN Z w' A l:=⟨h.row.ext hx,fun x hm=>(h.sub x hm).ext hx⟩
theorem Ext.frozen {w w1:World}(h:Ext w w1){b o:Nat}{u:Bool}(hc:w.frozen? ⟨b,o,none⟩=u)(hb:b<w.heap.size):w1.frozen? ⟨b,o,none⟩=u:=(h.cells.2 b o hb).trans hc

end Go.Proofs.YtfomlmhnmheenaaGreat
namespace Go.Proofs.YtfomlmhnmheenaaGreat
open Go.RowKit
def zbu (left n:Nat):Bool:=decide (left≠0)&&decide (n%2=0)&&decide (2<=n/2)&&decide (n/2<=28)
def zbm:List Nat->Nat
 | _::p::l=>if p=0 then 0 else zbm l+1
 | _=>0
def zav:Nat->List Nat->List Pr
 | prev,k::p::l=>if p=0 then[]else if p=prev then zav p l else(k,p)::zav p l
 | _,_=>[]
def zbB (left:Nat)(l:List Nat):List Pr:=if zbu left l.length=true then zav left l else[]
def zbi:List Pr->Bool
 | a::b::l=>decide (a.1<b.1)&&zbi (b::l)
 | _=>true
def zcq:List Nat->List Pr->Bool
 | seen,p::l=>!seen.contains p.2&&zcq (p.2::seen) l
 | _,[]=>true
def zdF:List Nat->Bool
 | _::p::l=>decide (p=0)&&zdF l
 | _=>true
def zcs (left:Nat)(l:List Nat):Bool :=
 zbi (zbB left l)&&zcq [left] (zbB left l)&&decide ((zbB left l).length=zbm l)&&decide ((zbB left l).length<l.length/2)&&zdF (l.drop (2*(zbB left l).length))
def zbz (left:Nat)(l:List Nat):Nat:=if zbu left l.length=true then if zcs left l=true then 0 else 190 else 2
theorem zj8 (l:List Nat)(j:Nat)(h:2*j+1<l.length):l.drop (2*j)=l[2*j]::l[2*j+1]::l.drop (2*(j+1)):=by
 rw[zAU9 (i:=2*j) (by omega),zAU9 (i:=2*j+1) h];rfl
theorem zh7:∀l:List Nat,2*zbm l<=l.length
 | []=>by simp[zbm]
 | [_]=>by simp[zbm]
 | _::p::l=>by
  have:=zh7 l;rw[zbm]
  split<;>simp<;>omega
end Go.Proofs.YtfomlmhnmheenaaGreat
namespace Go.Proofs.YtfomlmhnmheenaaGreat
open Go.RowKit
variable {Z:Nat}
set_option maxRecDepth 100000
@[reducible] def zgx (A:Option Addr) (n c left:Nat):Value:=.agg #[.slice A n c,.int .u64 (left:Nat)]
def zbU (left:Nat)(l:List Nat)(j:Nat):Nat:=if j=0 then left else l.getD (2*(j-1)+1) 0
end Go.Proofs.YtfomlmhnmheenaaGreat
namespace Go.Proofs.YtfomlmhnmheenaaGreat
open Go.RowKit
attribute [local go_sem] Oper.semAt_some
structure zd2 (n0:Nat)(t:TypeId)(A B:World):Prop where
 size:A.heap.size<=B.heap.size
 low:∀b,b<n0->b<A.heap.size->B.heap[b]?=A.heap[b]?
 own:∀b,Typ A b t->B.heap[b]?=A.heap[b]?
theorem zd2.refl (n0:Nat)(t:TypeId)(A:World):zd2 n0 t A A:=⟨zAM9 _,fun _ _ _=>rfl,fun _ _=>rfl⟩
theorem zd2.trans {n0:Nat}{t:TypeId}{A B C:World}(h:zd2 n0 t A B)(k:zd2 n0 t B C):zd2 n0 t A C :=
 ⟨zBN9 h.size k.size,fun b h1 h2=>(k.low b h1 (zBE9 h2 h.size)).trans (h.low b h1 h2),fun b hb=>(k.own b (hb.same (h.own b hb))).trans (h.own b hb)⟩
theorem zd2.ext {n0:Nat}{t:TypeId}{A B:World}(h:Ext A B):zd2 n0 t A B:=⟨h.size,fun b _ hb=>Below.block h b hb,fun b hb=>Below.block h b hb.lt⟩
theorem zd2.cell {n0:Nat}{t:TypeId}{A B:World}(h:zd2 n0 t A B){b o:Nat}{u:Value}(hb:b<n0\/Typ A b t)(hc:A.cell? ⟨b,o,none⟩=some u):B.cell? ⟨b,o,none⟩=some u :=
 (World.cell?_of_block (a:=⟨b,o,none⟩) (hb.elim (fun hb=>h.low b hb (World.block_lt_of_cell? A ⟨b,o,none⟩ hc)) (h.own b))).trans hc
theorem zd2.rl {α:Type}{L:Lay α}{n0:Nat}{t:TypeId}{A B:World}(h:zd2 n0 t A B){S:Option Addr}{l:List α}{Z:Nat}(hr:RL L Z A S l)(hb:∀b o,S=some ⟨b,o,none⟩->l ≠ []->b<n0):RL L Z B S l:=by
 by_cases hl:l=[]
 ·subst hl;exact RL.nil _ _
 ·exact RT.move hr fun b o hA _ hlt=>h.low b (hb b o hA hl) hlt
def zhd (n0:Nat)(t:TypeId)(I:World->Prop)(Ix:Code->World->Prop)(A:World):Exit->Act->World->Prop
 | .normal,_,B=>KeepsOthers A B/\zd2 n0 t A B/\I B
 | .ret,_,B=>KeepsOthers A B/\zd2 n0 t A B/\Ix .ret B
 | .exit id,_,B=>KeepsOthers A B/\zd2 n0 t A B/\Ix (.exit id) B
 | _,_,_=>False
theorem Typ.cells {w:World}{b:Nat}{t:TypeId}(h:Typ w b t):∃o,w.heap[b]?=some o/\o.isCells=true:=by
 obtain⟨cs,fr,h⟩:=h;exact⟨_,h,rfl⟩
theorem RT.putObj {t:TypeId}{Z:Nat}{w:World}{A:Option Addr}{l:List Value}{L:Nat}{o:Obj}(h:RT t Z w A l)(hL:w.heap[L]?=some o)(ho:o.isCells=false)(hZ:Z<=L)(o':Obj):RT t Z (w.putObj L o') A l :=
 h.move fun b _ _ hb _=>World.putObj_heap_other (by
  rintro rfl;rcases hb with hb|⟨cs,fr,hb⟩
  ·omega
  ·rw[hL]at hb;injection hb with hb;subst hb;cases ho)
section
variable {n:Nat}{P:Program}{ops:Array Oper}{Q:Exit->Act->World->Prop}{md:Region.Mode}{S:World->Prop}
end
end Go.Proofs.YtfomlmhnmheenaaGreat
namespace Go.Proofs.YtfomlmhnmheenaaGreat
open Go.RowKit
variable {Z:Nat}
set_option maxRecDepth 100000
attribute [local go_sem] Oper.semAt_some
def zbC:Nat->Nat->List Nat->List (Nat×Pr)
 | j,prev,k::p::l=>if p=0 then[]else if p=prev then zbC (j+1) p l else(j,(k,p))::zbC (j+1) p l
 | _,_,_=>[]
theorem zcp:∀(l:List Nat) (j prev:Nat),(zbC j prev l).map Prod.snd=zav prev l
 | [],_,_=>rfl
 | [_],_,_=>rfl
 | k::p::l,j,prev=>by
  rw[zbC,zav]
  split
  ·rfl
  ·split
   ·exact zcp l _ _
   ·rw[zCH9,zcp l]
def zcF (left:Nat)(l:List Nat):List (Nat×Pr):=if zbu left l.length=true then zbC 0 left l else[]
theorem zf5 (left:Nat)(l:List Nat):(zcF left l).map Prod.snd=zbB left l:=by
 unfold zcF zbB
 split
 ·exact zcp _ _ _
 ·rfl
end Go.Proofs.YtfomlmhnmheenaaGreat
namespace Go.Proofs.YtfomlmhnmheenaaGreat
open Go.RowKit
variable {Z:Nat}{α:Type}
variable {L:Lay α}{th:TypeId}{w:World}{bx base:Nat}{l:List α}
end Go.Proofs.YtfomlmhnmheenaaGreat
namespace Go.Proofs.YtfomlmhnmheenaaGreat
open Go.RowKit
variable {Z:Nat}
set_option maxRecDepth 100000
attribute [local go_sem] Oper.semAt_some
theorem zd6:∀(l:List Nat) (j p:Nat),2*(zbC j p l).length<=l.length
 | [],_,_=>by simp[zbC]
 | [_],_,_=>by simp[zbC]
 | k::q::l,j,p=>by
  rw[zbC];have h1:=zd6 l (j+1) q
  split
  ·simp
  ·split<;>simp<;>omega
theorem zuO (left:Nat)(l:List Nat):(zcF left l).length<=28:=by
 unfold zcF
 split
 ·rename_i h;simp only[zbu,zAR9,decide_eq_true_eq]at h;have:=zd6 l 0 left;omega
 ·simp
theorem zdM (left:Nat)(l:List Nat):(zbB left l).length<=28:=by
 rw[<- zf5,zAA9];exact zuO _ _

end Go.Proofs.YtfomlmhnmheenaaGreat
namespace Go.Proofs.YtfomlmhnmheenaaGreat
open Go.RowKit Go.Maps
variable {Z:Nat}
structure zyM where
 t:TypeId
 k:TypeId
 q:IntKind
 hk:Tryz.prog.underlying k=some (.int q)
 ht:Tryz.prog.underlying t=some (.map k 3)
variable {M:zyM}{B:Nat}{S:List Int}
theorem RT.map {t:TypeId}{w w':World}{A xs}(h:RT t Z w A xs){o:Obj}(ho:w.heap[B]?=some o)(hc:o.isCells=false)(hB:Z<=B)(hg:w.grownBy w' (some B)):RT t Z w' A xs :=
 h.move fun b _ _ ht hl=>hg.block b hl fun e=>by
  injection e with e;subst e;rcases ht with ht|⟨cs,fr,ht⟩
  ·omega
  ·rw[ho]at ht;injection ht with ht;subst ht;cases hc
end Go.Proofs.YtfomlmhnmheenaaGreat
namespace Go.Proofs.YtfomlmhnmheenaaGreat
open Go.RowKit
variable {Z:Nat}
set_option maxRecDepth 100000
def zsq (l:List Nat):List Int:=l.map fun(x:Nat)=>(x:Int)
theorem OL.read {α:Type}{L:Lay α}{w:World}{base n c:Nat}{A:Option Addr}{l:List α}(h:OL L w base (.slice A n c) l):n=l.length/\RL L Z w A l/\∀b o,A=some ⟨b,o,none⟩->base<=b/\b<w.heap.size:=by
 obtain⟨A',c',hv,_,_,hr,hb⟩:=OL.rl (Z:=Z) h;injection hv with h1 h2 h3;subst h1;subst h2;subst h3;exact⟨rfl,hr,fun b o e=>⟨(hb b o e).1,(hb b o e).2.1⟩⟩
theorem zuf {P:Program}(w:World)(dT sT ty elem:TypeId)(size g o dLen dCap:Nat)(a:Addr)(sLen sCap:Nat)(cur:List Value)(t:TypeId)(cs:List Value)
  (hu:P.underlying dT=some (.slice elem)) (hs:(P.info? elem).map (·.size)=some size)
  (hg:w.heap[g]?=some (.cells cur.toArray t (0,0))) (hn:cs.length=Nat.min sLen dLen*size)
  (hsrc:∀j v,cs[j]?=some v->w.cell? (a.add j)=some v) (hfit:o+cs.length<=cur.length) (h1:∀v∈cs,v.oneCell'=true) :
  (Builtin.copy_ #[dT,sT] ty #[.slice (some ⟨g,o,none⟩) dLen dCap,.slice (some a) sLen sCap]).run P w =
   .ok (goInt (Nat.min sLen dLen:Nat)) (w.setRow g (splice cur o cs).toArray):=by
 have hl:=run_loadCells_list (P:=P) w a cs hsrc;have hst:=run_storeCells_at P g o t cs 0 cur.toArray w hg (by simpa using hfit) h1
 cases hq:P.info? elem with
 | none=>simp[hq]at hs
 | some i =>
  have hi:i.size=size:=by simpa[hq]using hs
  simp only[zDH9,zAF9]at hst;simp[Builtin.copy_,run_underlying hu,Builtin.lenOf,Builtin.firstCells,sizeOf,typeInfo,hq,hi,<- hn,hl,hst,splice]
theorem zq9 {α:Type}(R X S:List α)(hX:X.length=2):splice (splice R 0 X) 2 S=X++(S++R.drop (2+S.length)):=by
 have e1:splice R 0 X=X++R.drop 2:=by unfold splice;simp[hX]
 rw[e1];unfold splice;rw[zDW9 (by omega),zDD9 (by omega),List.drop_append,zEQ9 (by omega),zEH9,zAL9]
 congr 3;omega
theorem zqp {α:Type}(C X S:List α)(hX:X.length=2)(hC:2<=C.length):splice (splice C 2 S) 0 X=X++(S++C.drop (2+S.length)):=by
 unfold splice;rw[zFX9,zAL9,zAN9,hX,List.drop_append,zEQ9 (by rw[zBB9];omega),zBB9,zAL9,show 2-min 2 C.length=0 by omega,zFG9]
theorem zjo (w:World)(g:Nat)(cs:Array Value):w.grownBy (w.setRow g cs) (some g) :=
 ⟨rfl,rfl,rfl,by simp[World.setRow],fun k _ hk=>setRow_other w g k cs (fun e=>hk (by rw[e]))⟩
theorem zcQ {w:World}{ops:Array Oper}{rest:List Oper}{o:Oper}{a:Act}{Q:Exit->Act->World->Prop}(hgd:o.guard=none)(d s:Operand)(dT sT:TypeId)
  (ho:o.op=.call { callee:=.builtin .copy,args:=#[d,s],argTypes:=#[dT,sT] }) (elem:TypeId) (hu:Tryz.prog.underlying dT=some (.slice elem)) (size:Nat) (hsz:(Tryz.prog.info? elem).map (·.size)=some size)
  (g off dLen dCap:Nat) (ad:Addr) (sLen sCap:Nat) (hd:a.eval d=.slice (some ⟨g,off,none⟩) dLen dCap) (hs:a.eval s=.slice (some ad) sLen sCap)
  (cur:List Value) (t:TypeId) (hg:w.heap[g]?=some (.cells cur.toArray t (0,0))) (cs:List Value) (hn:cs.length=Nat.min sLen dLen*size)
  (hsrc:∀j v,cs[j]?=some v->w.cell? (ad.add j)=some v) (hfit:off+cs.length<=cur.length) (h1:∀v∈cs,v.oneCell'=true)
  (h:∀w',Hid (w'.heap[g]?=some (.cells (splice cur off cs).toArray t (0,0)))->Hid (w.grownBy w' (some g))->wpList Tryz.prog ops Q rest (a.put o.dst (goInt (Nat.min sLen dLen:Nat))) w'):wpList Tryz.prog ops Q (o::rest) a w:=by
 refine wpList_plain hgd fun K hK=>?_;have hrun:=zuf (P:=Tryz.prog) w dT sT o.type elem size g off dLen dCap ad sLen sCap cur t cs hu hsz hg hn hsrc hfit h1;unfold Oper.wp;simp[execOp,ho,resolve,invoke,builtin,hd,hs,hrun,Result.andThen];exact hK _ _ (h _ (Lib.hid (setRow_heap w g _ _ t _ hg)) (Lib.hid (zjo _ _ _)))
theorem zrN {w:World}{ops:Array Oper}{o:Oper}{a:Act}{K:Act->World->Prop}{Q:Exit->Act->World->Prop}{E:Prop}(hgd:o.guard=none)(d s:Operand)(dT sT:TypeId)
  (ho:o.op=.call { callee:=.builtin .copy,args:=#[d,s],argTypes:=#[dT,sT] }) (elem:TypeId) (hu:Tryz.prog.underlying dT=some (.slice elem)) (size:Nat) (hsz:(Tryz.prog.info? elem).map (·.size)=some size)
  (g off dLen dCap:Nat) (ad:Addr) (sLen sCap:Nat) (hd:a.eval d=.slice (some ⟨g,off,none⟩) dLen dCap) (hs:a.eval s=.slice (some ad) sLen sCap)
  (cur:List Value) (t:TypeId) (hg:w.heap[g]?=some (.cells cur.toArray t (0,0))) (cs:List Value) (hn:cs.length=Nat.min sLen dLen*size)
  (hsrc:∀j v,cs[j]?=some v->w.cell? (ad.add j)=some v) (hfit:off+cs.length<=cur.length) (h1:∀v∈cs,v.oneCell'=true)
  (h:∀w',Hid (w'.heap[g]?=some (.cells (splice cur off cs).toArray t (0,0)))->Hid (w.grownBy w' (some g))->K (a.put o.dst (goInt (Nat.min sLen dLen:Nat))) w') :
  if Region.wanted o (yielded ops a.tmps)=true then Oper.wp Tryz.prog o a w K Q else E:=by
 have hw:Region.wanted o (yielded ops a.tmps)=true:=by simp[Region.wanted,hgd]
 rw[if_pos hw];have hrun:=zuf (P:=Tryz.prog) w dT sT o.type elem size g off dLen dCap ad sLen sCap cur t cs hu hsz hg hn hsrc hfit h1;unfold Oper.wp;simp[execOp,ho,resolve,invoke,builtin,hd,hs,hrun,Result.andThen];exact h _ (Lib.hid (setRow_heap w g _ _ t _ hg)) (Lib.hid (zjo _ _ _))
theorem zbO:(Tryz.prog.info? 83).map (·.size)=some 2:=by
 obtain⟨i0,hi0,hz0,hz1,hz2⟩:=info_parts LT.info;rw[show 83=LT.t from rfl,hi0];simp[hz1,LT]
set_option maxHeartbeats 4000000 in
theorem ztZ (l:List (Int×Nat))(x:Int×Nat)(base g c vb vc:Nat)(w:World)(hl:l ≠ [])(hn:l.length<=100000)(hroom:¬l.length+1<=c)
  (h:OL LT w base (.slice (some ⟨g,0,none⟩) l.length c) l) (hv:RL LT Z w (some ⟨vb,0,none⟩) [x]) (hb:base<=w.heap.size) :
  Calls Tryz.prog 127 #[.slice (some ⟨g,0,none⟩) l.length c,.int .i64 0,.slice (some ⟨vb,0,none⟩) 1 vc] w fun e w'=>∃v,e=.returned v/\OL LT w' base v (x::l)/\Below base w w'/\(∃g' c',v=.slice (some ⟨g',0,none⟩) (l.length+1) c'/\(g'=g\/w.heap.size<=g'))/\∀k,k≠g->k<w.heap.size->w'.heap[k]?=w.heap[k]?:=by
 obtain⟨A,c',hv',hlc,hcm,hrl,hbd⟩:=OL.rl (Z:=0) h;injection hv' with e1 e2 e3;subst e1;subst e3;have hgb:=hbd g 0 rfl;have hpos:0<l.length:=zBO9.2 hl;obtain rfl:c=l.length:=by omega
 obtain⟨bb,oo,hbo,hvw,_,hvc⟩:=RL.at hv (by simp);injection hbo with hbo;injection hbo with hbo1 hbo2;subst hbo1;subst hbo2;obtain⟨i0,hi0,hz0,hzs,hzb⟩:=info_parts LT.info;have hxl:(LT.all l).length=l.length*2:=LT.all_len l;have hxv:∀j u,(LT.all [x])[j]?=some u->w.cell? ((⟨vb,0,none⟩:Addr).add j)=some u:=fun j u hj=>by
  rw[ze7];have:=hvc 0 x rfl j u (by rwa [LT.all_one]at hj);simpa using this
 have hxs:∀j u,(LT.all l)[j]?=some u->w.cell? ((⟨g,0,none⟩:Addr).add j)=some u:=World.ownsRow.cells h rfl;have h1s:∀u∈LT.all l,u.oneCell'=true:=LT.all_oneCell l;have h1x:∀u∈LT.all [x],u.oneCell'=true:=LT.all_oneCell [x];have hxl1:(LT.all [x]).length=2:=LT.all_len [x];have hold:(Builtin.firstCells i0.size 0 (.slice (some ⟨g,0,none⟩) 0 l.length)).run Tryz.prog w.drew=.ok ([]:List Value).toArray w.drew :=
  run_firstCells_some w.drew _ 0 ⟨g,0,none⟩ 0 l.length [] (by simp) (fun j v hj=>by simp at hj)
 have hrz:∀ty,(Builtin.append_ #[30,3] ty #[.slice (some ⟨g,0,none⟩) 0 l.length,.int .i64 ((l.length:Int)+1)]).run Tryz.prog w =
   .ok (.slice (some ⟨w.heap.size,0,none⟩) (l.length+1) (grownCap w (l.length+1) l.length 83)) (w.drew.alloc (.cells (([]:List Value).toArray++Builtin.zeroCells LT.z.cells (l.length+1)++Builtin.zeroCells LT.z.cells (grownCap w (l.length+1) l.length 83-(l.length+1))) 83)):=fun ty=>by
  have h:=Lib.run_append_grow_zeros w 30 3 ty 83 i0 _ .i64 .i64 Tryz.underlying30 Tryz.underlying3 hi0 hz0 (some ⟨g,0,none⟩) 0 l.length [] hold (l.length+1) (by omega) (by rw[hzs];exact LT.pos) (by omega) (by omega) (by rw[hzb];simp only[LT];omega) (by rw[hzb];exact growslice_fits (by omega) (by simp only[LT];omega));simp only[zAN9]at h;exact h
 have hGn:=grownCap_ge w (l.length+1) l.length 83;have hGm:=grownCap_le_maxLen w (l.length+1) l.length 83 (by simp only[maxLen];omega);obtain⟨G,hG⟩:∃G,G=grownCap w (l.length+1) l.length 83:=⟨_,rfl⟩
 rw[<- hG]at hrz hGn hGm;obtain⟨ROW,hROW⟩:∃ROW:List Value,ROW.toArray=([]:List Value).toArray++Builtin.zeroCells LT.z.cells (l.length+1)++Builtin.zeroCells LT.z.cells (G-(l.length+1)):=⟨_,Array.toArray_toList⟩
 rw[<- hROW]at hrz;have hRl:ROW.length=G*2:=by
  have:=congrArg Array.size hROW;simp only[zDV9,zFJ9,size_zeroCells,zAH9]at this;rw[show LT.z.cells.size=2 from rfl]at this;omega
 have hg1:(w.drew.alloc (.cells ROW.toArray 83)).heap[w.heap.size]?=some (.cells ROW.toArray 83 (0,0)):=heap_alloc_new w.drew _;have hx1:Ext w (w.drew.alloc (.cells ROW.toArray 83)):=((Ext.refl w).drew).alloc _;obtain⟨W1,hW1⟩:∃W1,W1=w.drew.alloc (.cells ROW.toArray 83):=⟨_,rfl⟩
 rw[<- hW1]at hrz hg1 hx1;clear hW1 hROW hG hold;have hsz1:w.heap.size+1<=W1.heap.size:=(zBW9.1 hg1).1;have hg63:G<=9223372036854775807:=by simp only[maxLen]at hGm;omega
 have k1:¬((l.length:Int)=0):=by omega
 have k1':¬((0:Int)=(l.length:Int)):=by omega
 have k2:¬G=0:=by omega
 have k3:¬G=1:=by omega
 have k4:¬l.length=0:=by omega
 have k5:(l.length:Int)<(l.length:Int)+1:=by omega
 have k6:(0:Int)<=(l.length:Int):=by omega
 have mixed:Tryz.prog.follows Departure.mixedOrders=true:=by kernel_rfl
 have k7:IntKind.i64.wrap 1=1:=by rw[IntKind.wrap_i64];omega
 have k8:(1:Int)<=(l.length:Int)+1:=by omega
 have k9:(1:Int).toNat=1:=rfl;have HG1:=Lib.hid hg1;have HXV:=Lib.hid hxv;have HXS:=Lib.hid hxs;have H1S:=Lib.hid h1s;have H1X:=Lib.hid h1x;have HL:=Lib.hid hxl;have HL1:=Lib.hid hxl1;have HRL:=Lib.hid hRl;have HX1:=Lib.hid hx1;have HO:=Lib.hid h;have HGB:=Lib.hid (And.intro hgb.1 hgb.2.1);clear hg1 hxv hxs h1s h1x hxl hxl1 hRl hx1 hrl hbd hgb hvc e2 hlc hcm h hv hi0 hz0 hzs hzb
 go_enter Tryz.func127,Tryz.ntmps127
 iterate 137 go_step
 refine Lib.wpList_append_run _ rfl _ _ _ _ rfl _ _ rfl rfl _ _ (hrz _) ?_
 iterate 20 go_step
 refine zcQ rfl _ _ 30 30 rfl 83 Tryz.underlying30 2 zbO w.heap.size 0 _ _ ⟨vb,0,none⟩ 1 _ rfl rfl ROW 83 HG1.out (LT.all [x]) (by show _=min _ _*2;rw[HL1.out];omega) (fun j u hj=>HX1.out.cell (HXV.out j u hj)) (by rw[HL1.out,HRL.out];omega) H1X.out ?_;intro w2 hg2 hy2
 iterate 4 go_step
 have hc2:∀j u,(LT.all l)[j]?=some u->(w2.drew).cell? ((⟨g,0,none⟩:Addr).add j)=some u:=fun j u hj=>by
  have h1:=HX1.out.cell (HXS.out j u hj);rw[ze7]at h1⊢;exact hy2.out.cell h1 (fun e=>by injection e with e;have:=HGB.out.2;dsimp only at e;omega)
 have hl2:(splice ROW 0 (LT.all [x])).length=G*2:=by rw[length_splice _ _ _ (by rw[HL1.out,HRL.out];omega)];exact HRL.out
 have HC2:=Lib.hid hc2;have HL2:=Lib.hid hl2;clear hc2 hl2
 go_region_law_o (refine zrN rfl _ _ 30 30 rfl 83 Tryz.underlying30 2 zbO w.heap.size 2 l.length (G-1) ⟨g,0,none⟩ l.length l.length (by simp[Act.eval,Act.put]) (by simp[Act.eval,Act.put]) (splice ROW 0 (LT.all [x])) 83 hg2.out (LT.all l) (by show _=min _ _*2;rw[HL.out];omega) HC2.out (by rw[HL.out,HL2.out];omega) H1S.out ?_;intro w4 hg4 hy4)
 go_wp2
 go_ret
 refine⟨_,rfl,⟨?_,.inr ⟨w.heap.size,G,_,rfl,by omega,hg4.out,hGn,hGm,?_,?_⟩⟩,?_,?_,?_⟩
 ·rw[LT.all_len]
 ·rw[zDV9,length_splice _ _ _ (by rw[HL.out,HL2.out];omega),HL2.out];rfl
 ·have e1:splice (splice ROW 0 (LT.all [x])) 2 (LT.all l)=LT.all (x::l)++ROW.drop (2+(LT.all l).length):=by
   rw[zq9 _ _ _ HL1.out,LT.all_cons x l,<- LT.all_one x,zAF9]
  rw[show (splice (splice ROW 0 (LT.all [x])) 2 (LT.all l)).toArray.toList=splice (splice ROW 0 (LT.all [x])) 2 (LT.all l)from rfl,e1];rw[zDW9 (by rw[LT.all_len];simp[LT]),zDD9 (by rw[LT.all_len];simp[LT])]
 ·have b1:Below base w W1:=HX1.out.below.mono hb;have b2:=(b1.grown hy2.out (by have:=HX1.out.size;omega) (fun k e=>by injection e with e;omega)).drew;exact b2.grown hy4.out (by have:=hy2.out.size;have:=HX1.out.size;show base<=w2.heap.size;omega) (fun k e=>by injection e with e;omega)
 ·have hle:=zAM9 w.heap.size
  first|exact⟨_,_,rfl,.inr hle⟩|exact⟨_,⟨_,rfl⟩,.inr hle⟩
 ·have b1:Below w.heap.size w W1:=HX1.out.below;have b2:=(b1.grown hy2.out (by have:=HX1.out.size;omega) (fun k e=>by injection e with e;omega)).drew;have b3:=b2.grown hy4.out (by have:=hy2.out.size;have:=HX1.out.size;show w.heap.size<=w2.heap.size;omega) (fun k e=>by injection e with e;omega);exact fun k _ hk=>b3.block k hk
set_option maxHeartbeats 4000000 in
theorem zs0 (l:List (Int×Nat))(x:Int×Nat)(base g c vb vc:Nat)(w:World)(hl:l ≠ [])(hn:l.length<=100000)(hroom:l.length+1<=c)
  (h:OL LT w base (.slice (some ⟨g,0,none⟩) l.length c) l) (hv:RL LT Z w (some ⟨vb,0,none⟩) [x]) (hvg:vb≠g) (tA:TypeId) (kA:Nat) (hsa:w.shape? vb=some (tA,kA)) (hfa:w.frozen? ⟨vb,0,none⟩=false) (hfe:w.frozen? ⟨vb,kA,none⟩=false) (hb:base<=w.heap.size) :
  Calls Tryz.prog 127 #[.slice (some ⟨g,0,none⟩) l.length c,.int .i64 0,.slice (some ⟨vb,0,none⟩) 1 vc] w fun e w'=>∃v,e=.returned v/\OL LT w' base v (x::l)/\Below base w w'/\(∃g' c',v=.slice (some ⟨g',0,none⟩) (l.length+1) c'/\(g'=g\/w.heap.size<=g'))/\∀k,k≠g->k<w.heap.size->w'.heap[k]?=w.heap[k]?:=by
 rcases h with⟨hxl,⟨h1,_⟩|⟨g',cap,cur,h1,hbg,hg,hnc,hcm,hcs,htk⟩⟩
 ·cases h1
 injection h1 with e1 _ e3;injection e1 with e1;injection e1 with e1;subst e1;subst e3;have hpos:0<l.length:=zBO9.2 hl;obtain⟨bb,oo,hbo,hvw,_,hvc⟩:=RL.at hv (by simp);injection hbo with hbo;injection hbo with hbo1 hbo2;subst hbo1;subst hbo2;have hxl:(LT.all l).length=l.length*2:=LT.all_len l;have hxv:∀j u,(LT.all [x])[j]?=some u->w.cell? ((⟨vb,0,none⟩:Addr).add j)=some u:=fun j u hj=>by
  rw[ze7];have:=hvc 0 x rfl j u (by rwa [LT.all_one]at hj);simpa using this
 have hcl:cur.toList.length=c*2:=by rw[zFV9];exact hcs
 have hxs:∀j u,(LT.all l)[j]?=some u->w.cell? ((⟨g,0,none⟩:Addr).add j)=some u:=fun j u hj=>by
  rw[ze7,zAN9];rw[<- htk,zBD9]at hj
  split at hj
  ·simp only[World.cell?,hg];rw[<- zBR9];exact hj
  ·cases hj
 have h1s:∀u∈LT.all l,u.oneCell'=true:=LT.all_oneCell l;have h1x:∀u∈LT.all [x],u.oneCell'=true:=LT.all_oneCell [x];have hxl1:(LT.all [x]).length=2:=LT.all_len [x];have hsb:w.shape? g=some (83,cur.size):=by show _=some (LT.t,_);simp[World.shape?,hg]
 have hov:∀lb cb,(callFunc 179 #[.slice (some ⟨vb,0,none⟩) 1 vc,.slice (some ⟨g,2,none⟩) lb cb]).run Tryz.prog w=.ok (.value (.bool false)) w:=fun lb cb=>by
  obtain⟨i0,hi0,hz0,hzs,hzb⟩:=info_parts LT.info;rw[run_callFunc_extern Tryz.func179 (by kernel_rfl) (by kernel_rfl) (by kernel_rfl) (e:=Extern.SlicesOverlaps.overlaps #[30,30] #[4]) (by kernel_rfl),
   Lib.run_overlaps_apart w 30 4 83 Tryz.underlying30 2 (fun w=>by kernel_rfl) ⟨vb,0,none⟩ ⟨g,2,none⟩ 1 vc lb cb hvg tA 83 kA cur.size hsa hsb (by rw[hcs];simp only[LT];omega) hfa hfe]
  rfl
 have mixed:Tryz.prog.follows Departure.mixedOrders=true:=by kernel_rfl
 have hc63:c<=9223372036854775807:=by simp only[maxLen]at hcm;omega
 have k1:¬((l.length:Int)=0):=by omega
 have k1':¬((0:Int)=(l.length:Int)):=by omega
 have k2:¬c=0:=by omega
 have k3:¬c=1:=by omega
 have k5:¬(c:Int)<(l.length:Int)+1:=by omega
 have k6:(0:Int)<=(l.length:Int):=by omega
 have k7:IntKind.i64.wrap 1=1:=by rw[IntKind.wrap_i64];omega
 have k8:(1:Int)<=(l.length:Int)+1:=by omega
 have k9:(1:Int).toNat=1:=rfl;have k10:(0:Int)<=(l.length:Int)+1:=by omega
 have HG1:Hid (w.drew.heap[g]?=some (.cells cur.toList.toArray 83 (0,0))):=Lib.hid hg;have HXV:=Lib.hid hxv;have HXS:Hid (∀j u,(LT.all l)[j]?=some u->w.drew.cell? ((⟨g,0,none⟩:Addr).add j)=some u):=Lib.hid hxs;have H1S:=Lib.hid h1s;have H1X:=Lib.hid h1x;have HL:=Lib.hid hxl;have HL1:=Lib.hid hxl1;have HCL:=Lib.hid hcl;have HBG:=Lib.hid hbg;have HCM:=Lib.hid hcm;clear hxv hxs h1s h1x hxl hxl1 hcl hbg hcm hv hvc hg hcs htk hsb hsa hfa hfe hnc;generalize cur.toList=CUR at *
 go_enter Tryz.func127,Tryz.ntmps127
 go_wp2_with (simp only[hov])
 go_region_law_o (refine zrN rfl _ _ 30 30 rfl 83 Tryz.underlying30 2 zbO g 2 l.length (c-1) ⟨g,0,none⟩ (l.length+1) c (by simp[Act.eval,Act.put]) (by simp[Act.eval,Act.put]) CUR 83 HG1.out (LT.all l) (by show _=min _ _*2;rw[HL.out];omega) HXS.out (by rw[HL.out,HCL.out];omega) H1S.out ?_;intro w4 hg4 hy4)
 have hc4:∀j u,(LT.all [x])[j]?=some u->w4.cell? ((⟨vb,0,none⟩:Addr).add j)=some u:=fun j u hj=>by
  have h1:=HXV.out j u hj;rw[ze7]at h1⊢;exact hy4.out.cell h1 (fun e=>by injection e with e;exact hvg e)
 have hl4:(splice CUR 2 (LT.all l)).length=c*2:=by rw[length_splice _ _ _ (by rw[HL.out,HCL.out];omega)];exact HCL.out
 have HC4:=Lib.hid hc4;have HL4:=Lib.hid hl4;clear hc4 hl4
 first
 | ((iterate 10 (go_step));refine zcQ rfl _ _ 30 30 rfl 83 Tryz.underlying30 2 zbO g 0 _ _ ⟨vb,0,none⟩ 1 _ rfl rfl (splice CUR 2 (LT.all l)) 83 hg4.out (LT.all [x]) (by show _=min _ _*2;rw[HL1.out];omega) HC4.out (by rw[HL1.out,HL4.out];omega) H1X.out ?_)
 | ((iterate 11 (go_step));refine zcQ rfl _ _ 30 30 rfl 83 Tryz.underlying30 2 zbO g 0 _ _ ⟨vb,0,none⟩ 1 _ rfl rfl (splice CUR 2 (LT.all l)) 83 hg4.out (LT.all [x]) (by show _=min _ _*2;rw[HL1.out];omega) HC4.out (by rw[HL1.out,HL4.out];omega) H1X.out ?_)
 | ((iterate 12 (go_step));refine zcQ rfl _ _ 30 30 rfl 83 Tryz.underlying30 2 zbO g 0 _ _ ⟨vb,0,none⟩ 1 _ rfl rfl (splice CUR 2 (LT.all l)) 83 hg4.out (LT.all [x]) (by show _=min _ _*2;rw[HL1.out];omega) HC4.out (by rw[HL1.out,HL4.out];omega) H1X.out ?_)
 | ((iterate 13 (go_step));refine zcQ rfl _ _ 30 30 rfl 83 Tryz.underlying30 2 zbO g 0 _ _ ⟨vb,0,none⟩ 1 _ rfl rfl (splice CUR 2 (LT.all l)) 83 hg4.out (LT.all [x]) (by show _=min _ _*2;rw[HL1.out];omega) HC4.out (by rw[HL1.out,HL4.out];omega) H1X.out ?_)
 | ((iterate 14 (go_step));refine zcQ rfl _ _ 30 30 rfl 83 Tryz.underlying30 2 zbO g 0 _ _ ⟨vb,0,none⟩ 1 _ rfl rfl (splice CUR 2 (LT.all l)) 83 hg4.out (LT.all [x]) (by show _=min _ _*2;rw[HL1.out];omega) HC4.out (by rw[HL1.out,HL4.out];omega) H1X.out ?_)
 | ((iterate 15 (go_step));refine zcQ rfl _ _ 30 30 rfl 83 Tryz.underlying30 2 zbO g 0 _ _ ⟨vb,0,none⟩ 1 _ rfl rfl (splice CUR 2 (LT.all l)) 83 hg4.out (LT.all [x]) (by show _=min _ _*2;rw[HL1.out];omega) HC4.out (by rw[HL1.out,HL4.out];omega) H1X.out ?_)
 | ((iterate 16 (go_step));refine zcQ rfl _ _ 30 30 rfl 83 Tryz.underlying30 2 zbO g 0 _ _ ⟨vb,0,none⟩ 1 _ rfl rfl (splice CUR 2 (LT.all l)) 83 hg4.out (LT.all [x]) (by show _=min _ _*2;rw[HL1.out];omega) HC4.out (by rw[HL1.out,HL4.out];omega) H1X.out ?_)
 | ((iterate 17 (go_step));refine zcQ rfl _ _ 30 30 rfl 83 Tryz.underlying30 2 zbO g 0 _ _ ⟨vb,0,none⟩ 1 _ rfl rfl (splice CUR 2 (LT.all l)) 83 hg4.out (LT.all [x]) (by show _=min _ _*2;rw[HL1.out];omega) HC4.out (by rw[HL1.out,HL4.out];omega) H1X.out ?_)
 | ((iterate 18 (go_step));refine zcQ rfl _ _ 30 30 rfl 83 Tryz.underlying30 2 zbO g 0 _ _ ⟨vb,0,none⟩ 1 _ rfl rfl (splice CUR 2 (LT.all l)) 83 hg4.out (LT.all [x]) (by show _=min _ _*2;rw[HL1.out];omega) HC4.out (by rw[HL1.out,HL4.out];omega) H1X.out ?_)
 | ((iterate 19 (go_step));refine zcQ rfl _ _ 30 30 rfl 83 Tryz.underlying30 2 zbO g 0 _ _ ⟨vb,0,none⟩ 1 _ rfl rfl (splice CUR 2 (LT.all l)) 83 hg4.out (LT.all [x]) (by show _=min _ _*2;rw[HL1.out];omega) HC4.out (by rw[HL1.out,HL4.out];omega) H1X.out ?_)
 | ((iterate 20 (go_step));refine zcQ rfl _ _ 30 30 rfl 83 Tryz.underlying30 2 zbO g 0 _ _ ⟨vb,0,none⟩ 1 _ rfl rfl (splice CUR 2 (LT.all l)) 83 hg4.out (LT.all [x]) (by show _=min _ _*2;rw[HL1.out];omega) HC4.out (by rw[HL1.out,HL4.out];omega) H1X.out ?_)
 | ((iterate 21 (go_step));refine zcQ rfl _ _ 30 30 rfl 83 Tryz.underlying30 2 zbO g 0 _ _ ⟨vb,0,none⟩ 1 _ rfl rfl (splice CUR 2 (LT.all l)) 83 hg4.out (LT.all [x]) (by show _=min _ _*2;rw[HL1.out];omega) HC4.out (by rw[HL1.out,HL4.out];omega) H1X.out ?_)
 | ((iterate 22 (go_step));refine zcQ rfl _ _ 30 30 rfl 83 Tryz.underlying30 2 zbO g 0 _ _ ⟨vb,0,none⟩ 1 _ rfl rfl (splice CUR 2 (LT.all l)) 83 hg4.out (LT.all [x]) (by show _=min _ _*2;rw[HL1.out];omega) HC4.out (by rw[HL1.out,HL4.out];omega) H1X.out ?_)
 | ((iterate 23 (go_step));refine zcQ rfl _ _ 30 30 rfl 83 Tryz.underlying30 2 zbO g 0 _ _ ⟨vb,0,none⟩ 1 _ rfl rfl (splice CUR 2 (LT.all l)) 83 hg4.out (LT.all [x]) (by show _=min _ _*2;rw[HL1.out];omega) HC4.out (by rw[HL1.out,HL4.out];omega) H1X.out ?_)
 | ((iterate 24 (go_step));refine zcQ rfl _ _ 30 30 rfl 83 Tryz.underlying30 2 zbO g 0 _ _ ⟨vb,0,none⟩ 1 _ rfl rfl (splice CUR 2 (LT.all l)) 83 hg4.out (LT.all [x]) (by show _=min _ _*2;rw[HL1.out];omega) HC4.out (by rw[HL1.out,HL4.out];omega) H1X.out ?_)
 | ((iterate 25 (go_step));refine zcQ rfl _ _ 30 30 rfl 83 Tryz.underlying30 2 zbO g 0 _ _ ⟨vb,0,none⟩ 1 _ rfl rfl (splice CUR 2 (LT.all l)) 83 hg4.out (LT.all [x]) (by show _=min _ _*2;rw[HL1.out];omega) HC4.out (by rw[HL1.out,HL4.out];omega) H1X.out ?_)
 intro w5 hg5 hy5
 go_wp2
 go_ret
 refine⟨_,rfl,⟨?_,.inr ⟨g,c,_,rfl,HBG.out,hg5.out,hroom,HCM.out,?_,?_⟩⟩,?_,⟨_,_,rfl,.inl rfl⟩,?_⟩
 ·rw[LT.all_len]
 ·rw[zDV9,length_splice _ _ _ (by rw[HL1.out,HL4.out];omega),HL4.out];rfl
 ·have e1:splice (splice CUR 2 (LT.all l)) 0 (LT.all [x])=LT.all (x::l)++CUR.drop (2+(LT.all l).length):=by
   rw[zqp _ _ _ HL1.out (by rw[HCL.out];omega),LT.all_cons x l,<- LT.all_one x,zAF9]
  rw[show (splice (splice CUR 2 (LT.all l)) 0 (LT.all [x])).toArray.toList=splice (splice CUR 2 (LT.all l)) 0 (LT.all [x])from rfl,e1];rw[zDW9 (by rw[LT.all_len];simp[LT]),zDD9 (by rw[LT.all_len];simp[LT])]
 ·have b2:=(Below.refl base w).drew.grown hy4.out hb (fun k e=>by injection e with e;have:=HBG.out;omega);exact b2.grown hy5.out (by have:=hy4.out.size;exact zBN9 hb this) (fun k e=>by injection e with e;have:=HBG.out;omega)
 ·intro k hk hlt;obtain⟨_,_,_,s4,f4⟩:=hy4.out;obtain⟨_,_,_,s5,f5⟩:=hy5.out;exact(f5 k (zBE9 hlt s4) (fun e=>hk (by injection e))).trans (f4 k hlt (fun e=>hk (by injection e)))
end Go.Proofs.YtfomlmhnmheenaaGreat
namespace Go.Proofs.YtfomlmhnmheenaaGreat
open Go.RowKit
namespace Tw
variable {ρ ρ':Rho}{Z:Nat}{h h':TH}{w:World}
set_option maxRecDepth 100000
theorem zjg:∀(n:Nat) (l:List TV) (r:List (Int×Nat)) (cs:List Value),l.length<=n->zgs l=some r->VL ρ l cs->cs=LT.all r/\l.length=r.length*2
 | n,[],r,cs,_,h,hv=>by
  simp only[zgs]at h;injection h with h;subst h;exact⟨by rw[hv.of_nil];rfl,rfl⟩
 | 0,_::_,r,cs,hn,h,hv=>by simp at hn
 | n+1,x::l0,r,cs,hn,h,hv=>by
  unfold zgs at h
  split at h
  ·rename_i e;cases e
  ·rename_i a b l e;injection e with e1 e2;subst e1;subst e2
   split at h
   ·rename_i r' hr;injection h with h;subst h;obtain⟨y,c1,rfl,v1,hvA⟩:=hv.of_cons;obtain⟨z,c2,rfl,v2,hvB⟩:=hvA.of_cons
    cases v1;cases v2
    obtain⟨h1,h2⟩:=zjg n l r' c2 (by simp at hn;omega) hr hvB;exact⟨by rw[h1,LT.all_cons];rfl,by simp[h2];omega⟩
   ·cases h
  ·cases h
theorem zlP:∀(n:Nat) (l:List TV) (r:List (Int×Nat)),l.length<=n->zgs l=some r->∀x∈l,x.one=true
 | n,[],r,_,h=>by simp
 | 0,_::_,r,hn,h=>by simp at hn
 | n+1,x::l0,r,hn,h=>by
  unfold zgs at h
  split at h
  ·rename_i e;cases e
  ·rename_i a b l e;injection e with e1 e2;subst e1;subst e2
   split at h
   ·rename_i r' hr;intro y hy;rcases zAX9.1 hy with rfl|hy
    ·rfl
    ·rcases zAX9.1 hy with rfl|hy
     ·rfl
     ·exact zlP n l r' (by simp at hn;omega) hr y hy
   ·cases h
  ·cases h
theorem zrA (k:WR Tryz.prog Z ρ h w){b g n:Nat}{loc:Loc}(hl:ρ b g=some loc){M len:Nat}{cells:Tr TV}(hro:h.get b=some (.row 83 g M len cells)){news old:List TV}{x:Int×Nat}{l:List (Int×Nat)}(hn:l.length=n)(hv:VL ρ (news++old) (LT.all (x::l)))(h1:∀y∈news++old,y.one=true)
  {v:Value} {w':World} (hO:OL LT w' Z v (x::l)) (hb:Below Z w w') {g' c':Nat} (hvv:v=.slice (some ⟨g',0,none⟩) (l.length+1) c') (hg:g'=loc.r\/w.heap.size<=g') (hfr:∀k,k≠loc.r->k<w.heap.size->w'.heap[k]?=w.heap[k]?) :
  zhS Tryz.prog Z ρ h (h.set b (.row 83 (g+1) (g+1) ((n+1)*2) (Tr.putL .nil 0 (news++old)))) w (.ret (.sl b (g+1) 0 (n+1) (2*(n+1)) 2)) (.returned v) w':=by
 subst hn;obtain⟨ob,hob,hor⟩:=k.obj _ _ _ hl;rw[hro]at hob;injection hob with hob;subst hob;have hZo:∀g loc,ρ b g=some loc->Z<=loc.r:=fun g loc hl=>(k.dom b g loc hl).2.1.resolve_right fun⟨cs,h1⟩=>by rw[hro]at h1;cases h1
 have hnone:ρ b (g+1)=none:=by
  cases hh:ρ b (g+1)with
  | none=>rfl
  | some l2=>have:=hor.2.1 _ _ hh;omega
 rcases hO with⟨hlen,⟨e1,_⟩|⟨g2,cap,cur,e1,hb2,hg2,hn2,hm2,hs2,ht2⟩⟩
 ·rw[hvv]at e1;cases e1
 ·have e2:=hvv.symm.trans e1;injection e2 with e2 e3 e4;injection e2 with e2;injection e2 with e2;subst e2;subst e4;have hm:=Rho.add_more (loc:=⟨g',(l.length+1)*2,c'*2⟩) hnone;have hdm:=k.dom _ _ _ hl;have hcc:l.length+1<=c':=by simpa using hn2
  have hsz:g'<w'.heap.size:=(zBW9.1 hg2).1;have hall:(LT.all (x::l)).length=(l.length+1)*2:=by rw[LT.all_len];simp[LT]
  have hcs:cur.size=c'*2:=hs2;have k2:=k.change (b:=b) (ρ':=ρ.add b (g+1) ⟨g',(l.length+1)*2,c'*2⟩) (x':=.row 83 (g+1) (g+1) ((l.length+1)*2) (Tr.putL .nil 0 (news++old))) hm (fun c hc g0=>Rho.add_ne hc g0) hl (w':=w') hb.size (fun c g0 l0 hc hl0=>hfr _ (fun e=>hc (k.sep _ _ _ _ _ _ hl0 hl e (by rw[e];exact hZo _ _ hl))) (k.dom _ _ _ hl0).2.2)
   ⟨zAM9 _,fun g0 l0 h0=>by
    rcases Rho.add_inv h0 with⟨_,e,_⟩|h0
    ·omega
    ·have:=hor.2.1 _ _ h0;omega,fun g0 ha hb0=>by
    have:g0=g+1:=by omega
    subst this;refine⟨_,cur,Rho.add_same _ _ _ _,hg2,fun _=>hcs,zAM9 _,by rw[hcs];dsimp only;omega,fun _=>rfl,fun i hi=>?_⟩;dsimp only at hi;have hi2:i<(news++old).length:=by rw[hv.1,hall];exact hi
    have hx0:(news++old)[i]?=some (news++old)[i]:=zAB9 hi2;obtain⟨y,y1,y2⟩:=hv.at hx0;refine⟨_,y,?_,?_,h1 _ (zBP9 hi2),y2.mono hm⟩
    ·rw[Tr.get_putL,if_pos (by omega)];simp
    ·have e5:cur.toList.take ((l.length+1)*2)=LT.all (x::l):=by simpa[LT]using ht2
     rw[<- e5,zBD9,if_pos hi]at y1;simpa using y1⟩
   (fun g0 l0 h0=>by
    rcases Rho.add_inv h0 with⟨_,_,e⟩|h0
    ·subst e;exact⟨hb2,hsz⟩
    ·have:=k.dom _ _ _ h0;exact⟨hZo _ _ h0,zBE9 this.2.2 hb.size⟩)
   (fun g0 l0 h0 c g1 l1 hc h1' e=>by
    rcases Rho.add_inv h0 with⟨_,_,e6⟩|h0
    ·subst e6;rcases hg with hg|hg
     ·exact hc (k.sep _ _ _ _ _ _ h1' hl (by dsimp only at e;omega) (by have:=hZo _ _ hl;dsimp only at e;omega))
     ·have:=(k.dom _ _ _ h1').2.2;dsimp only at e;omega
    ·exact hc (k.sep _ _ _ _ _ _ h1' h0 e.symm (by have:=hZo _ _ h0;omega)))
  refine⟨_,⟨hm,fun c hc hn g0=>?_⟩,k2,hb,zAM9 _,_,rfl,?_⟩
  ·have hcb:c≠b:=fun e=>by rw[e,]at hn;rw[hn g]at hl;cases hl
   rw[Rho.add_ne hcb];exact hn g0
  ·rw[hvv];exact .sl (Rho.add_same _ _ _ _) (by omega) (by omega) (by dsimp only;omega) (.inl rfl) (fun _=>by dsimp only;omega) hm2
theorem zqy (k:WR Tryz.prog Z ρ h w)(hZ:Z<=w.heap.size){args:List TV}{args':List Value}(hv:VL ρ args args'){r:TE}(hr:znk 83 args h=some (r,h')) :
  CallsIn (Fr none) 0 Tryz.prog 127 args'.toArray w (zhS Tryz.prog Z ρ h h' w r):=by
 unfold znk at hr
 split at hr
 ·rename_i b g n q z bx gx qx zx;unfold zwn at hr
  split at hr
  ·rename_i rx ro news hrx hro hnews;obtain⟨c1,hr1⟩:=zI hr;obtain⟨c2,hr2⟩:=zI hr1;obtain⟨c3,hr3⟩:=zI hr2;obtain⟨c4,hr4⟩:=zI hr3;obtain⟨c5,hr5⟩:=zI hr4;obtain⟨c6,hr6⟩:=zI hr5;have c2:=zAJ9 c2;have c3:=zAJ9 c3;have c4:=zAJ9 c4;have c5:=zBA9 c5;have c6:=zBA9 c6;subst c2;subst c3
   cases hbb:Nat.beq b bx with
   | true=>rw[hbb]at hr6;cases hr6
   | false =>
    have hbne:b≠bx:=fun e=>by rw[e,Nat.beq_refl]at hbb;cases hbb
    rw[hbb]at hr6;simp only[cond_false]at hr6
    cases ro with
    | map=>cases hr6
    | dfr=>cases hr6
    | loop=>cases hr6
    | ro=>cases hr6
    | row e G M len cells =>
     simp only[zwC]at hr6;obtain⟨d1,hr7⟩:=zI hr6;obtain⟨d2,hr8⟩:=zI hr7;obtain⟨d3,hr9⟩:=zI hr8;have d1:=zAJ9 d1;have d2:=zAJ9 d2;have d3:=zAJ9 d3;subst d1;subst d2;subst d3
     cases hold:cells.getL 0 (n*2)with
     | none=>rw[hold]at hr9;cases hr9
     | some old =>
      rw[hold]at hr9;simp only[zwz]at hr9
      split at hr9
      ·rename_i pn po hpn hpo;injection hr9 with hr9;injection hr9 with hr9 hr10;subst hr9;subst hr10;obtain⟨s',t1,rfl,v1,hv⟩:=hv.of_cons;obtain⟨i',t2,rfl,v2,hv⟩:=hv.of_cons;obtain⟨x',t3,rfl,v3,hv⟩:=hv.of_cons;obtain rfl:=hv.of_nil
       cases v2
       obtain⟨loc,o',c,rfl,hl,hn,hq,hc,ho,hs,hm⟩:=v1.sl_inv;have ho:o'=0:=by omega
       subst ho;obtain⟨A,mx,cx0,csx,ex,_,vnews,lnews,onews,cnews⟩:=zhP (n:=1) (esz:=2) k v3 (l:=news) (by simp only[zep,Nat.beq_refl,cond_true];exact hnews) (zAM9 _);obtain⟨locx,ox',cx,rfl,hlx,hnx,hqx,hcx,hox,hsx,hmx⟩:=v3.sl_inv;have hox:ox'=0:=by omega
       subst hox;injection ex with ex1 ex2 ex3;subst ex1;obtain⟨ob,hob,hor⟩:=k.obj _ _ _ hl;rw[hro]at hob;injection hob with hob;subst hob;obtain⟨loc1,cur,q1,q2,q3,q4,q5,q6,q7⟩:=hor.2.2 g hor.1 (zAM9 _);rw[hl]at q1;injection q1 with q1;subst q1;have hS:=hs c4;have hL:=q6 rfl;have hcurS:=q3 rfl;obtain⟨lo1,lo2⟩:=Tr.getL_some hold;have htl:(cur.toList.take (n*2)).length=n*2:=by rw[zBB9,zFV9,hcurS];omega
       have vold:VL ρ old (cur.toList.take (n*2)):=⟨by rw[lo1,htl],fun i x y hx hy=>by
        have hi:i<n*2:=by have:=(zAD9.1 hx).1;omega
        obtain⟨x0,v0,z1,z2,_,z4⟩:=q7 i (by omega);rw[lo2 i hi,zAN9,z1]at hx;rw[zBD9,if_pos hi,zBR9,z2]at hy;injection hx with hx;injection hy with hy;subst hx;subst hy;exact z4⟩
       obtain⟨po1,po2⟩:=zjg _ _ _ _ (zAM9 _) hpo vold;obtain⟨pn1,pn2⟩:=zjg _ _ _ _ (zAM9 _) hpn vnews;have hpol:po.length=n:=by omega
       have hln:news.length=2:=by rw[vnews.1,lnews]
       have hpnl:pn.length=1:=by omega
       obtain⟨p,rfl⟩:∃p,pn=[p]:=zEP9.1 hpnl;obtain⟨a,ea,hcell⟩:=cnews (by omega);injection ea with ea;subst ea;have hdm:=k.dom _ _ _ hl;have hdZ:Z<=loc.r:=hdm.2.1.resolve_right fun⟨cs,h1⟩=>by rw[hro]at h1;cases h1
       have hO:OL LT w Z (.slice (some ⟨loc.r,0,none⟩) po.length c) po:=⟨by rw[LT.all_len],.inr ⟨loc.r,c,cur,rfl,hdZ,q2,by omega,hm,by rw[hcurS,<- hS];simp[LT],by rw[hpol,<- po1];rfl⟩⟩
       have hRL:RL LT (locx.r+1) w (some ⟨locx.r,0,none⟩) [p]:=fun _=>⟨locx.r,0,rfl,.inl (zBT9 _),fun j u hu=>by
        have:=hcell j u (by rw[pn1];exact hu);simpa[zdD]using this⟩
       have hpne:po ≠ []:=fun e=>by subst e;simp at hpol;omega
       have hvall:VL ρ (news++old) (LT.all (p::po)):=by
        have:=vnews.app vold;rw[pn1,po1]at this;rw[LT.all_cons,<- LT.all_one];exact this
       have hone:∀y∈news++old,y.one=true:=fun y hy=>by
        rcases zBF9.1 hy with hy|hy
        ·exact onews y hy
        ·exact zlP _ _ _ (zAM9 _) hpo y hy
       have hargs:([.slice (some ⟨loc.r,0,none⟩) n c,.int .i64 (.ofNat 0),.slice (some ⟨locx.r,0,none⟩) 1 cx]:List Value).toArray=#[.slice (some ⟨loc.r,0,none⟩) po.length c,.int .i64 0,.slice (some ⟨locx.r,0,none⟩) 1 cx]:=by rw[hpol];rfl
       rw[hargs];refine callsIn_wide.2 ?_;have hne:locx.r≠loc.r:=fun e=>hbne (k.sep _ _ _ _ _ _ hlx hl e (by rw[e];exact hdZ)).symm
       by_cases hroom:po.length+1<=c
       ·obtain⟨obx,hobx,horx⟩:=k.obj _ _ _ hlx;rw[hrx]at hobx;injection hobx with hobx;subst hobx
        cases rx with
        | map=>cases c1
        | dfr=>cases c1
        | loop=>cases c1
        | ro=>cases c1
        | row e2 G2 M2 len2 cells2 =>
         have hnews2:=hnews;simp only[zbs,hrx,zgg]at hnews2;obtain⟨m1,hnews3⟩:=zI hnews2;obtain⟨m2,_⟩:=zI hnews3;obtain⟨locy,cury,y1,y2,_⟩:=horx.2.2 gx (zBA9 m1) (zBA9 m2);rw[hlx]at y1;injection y1 with y1;subst y1;refine(zs0 po p Z loc.r c locx.r cx w hpne (by omega) hroom hO hRL hne e2 cury.size (by simp[World.shape?,y2]) (frozen_of_row w _ _ _ _ y2) (frozen_of_row w _ _ _ _ y2) hZ).mono ?_;rintro e w' ⟨v,rfl,o1,o2,⟨g',c',o3,o4⟩,o5⟩;exact zrA k hl hro hpol hvall hone o1 o2 o3 o4 o5
       ·refine(ztZ po p Z loc.r c locx.r cx w hpne (by omega) hroom hO hRL hZ).mono ?_;rintro e w' ⟨v,rfl,o1,o2,⟨g',c',o3,o4⟩,o5⟩;exact zrA k hl hro hpol hvall hone o1 o2 o3 o4 o5
      ·cases hr9
  ·cases hr
 ·cases hr
end Tw
end Go.Proofs.YtfomlmhnmheenaaGreat
namespace Go.Proofs.YtfomlmhnmheenaaGreat
open Go.RowKit
namespace Tw
set_option maxRecDepth 100000
theorem zkB (v:Value)(t:TypeId)(w:World):(Instr.typeAssert (.iface 31 v) t 31 true).run Tryz.prog w=.ok (.tuple #[v,.bool true]) w:=by
 simp[Instr.typeAssert,run_underlying Tryz.underlying31,Result.andThen]
set_option maxHeartbeats 1000000 in
theorem zxZ (n:Int)(eb g:Nat)(cap:Array Value)(w:World)(R:World->Prop)(hent:∀w,(callFunc g cap).run Tryz.prog w=.ok (.enter g cap) w)(hg:Calls Tryz.prog g cap w fun e w'=>e=.returned (.tuple #[])/\R w')(hR:∀w',R w'->(∃v,w'.cell? ⟨eb,0,none⟩=some v)/\w'.frozen? ⟨eb,0,none⟩=false) :
  CallsDIn Fence.wide 0 Tryz.prog 35 #[.pointer (some ⟨eb,0,none⟩),.func (.func g) #[] cap] (.panicking [{ v:=.iface 31 (.int .i64 n),recovered:=false }]) w fun e u' w'=>(∃v,e=.returned v)/\u'=.panicking [{ v:=.iface 31 (.int .i64 n),recovered:=true }]/\∃w1,R w1/\w'=w1.setCell ⟨eb,0,none⟩ (.int .i64 n):=by
 refine callsDIn_of_wpSIn Tryz.func35 rfl trivial fun c₀ cs hu=>?_
 apply wpSIn_seq
 apply wpSIn_region
 generalize hQ:Exit.thenS _ _=QQ;simp[wpOpsSIn,go_sem,recoverD,hu,Tryz.ntmps35,Fence.wide];subst hQ;simp only[Exit.thenS];refine wpSIn_of_wpIn rfl (wpIn_wide.2 ?_);have HN:=Lib.hid hg;have HU:=Lib.hid hu;have HRR:=Lib.hid hR;clear hu hg hR;generalize hR:(fun e a' w'=>bodyPostS Tryz.prog Tryz.f35 c₀ cs _ e a' _ w')=RR;have HR:=Lib.hid hR;clear hR;have hta:=zkB;have hen:=hent;simp only[Array.replicate,List.replicate]
 go_wp2_with (first|((with_reducible refine HN.out.mono ?_);rintro e w1 ⟨rfl,hr1⟩;obtain⟨⟨v1,e1⟩,ef⟩:=HRR.out _ hr1))
 rw[<- HR.out];exact⟨rfl,_,rfl,.tuple #[],by simp[results,Tryz.results35,go_sem],⟨_,rfl⟩,rfl,_,hr1,rfl⟩
set_option maxHeartbeats 1000000 in
theorem zxA (p' c':Value)(w:World) :
  CallsDIn Fence.wide 0 Tryz.prog 35 #[p',c'] .returning w fun e u' w'=>(∃v,e=.returned v)/\u'=.returning/\w'=w:=by
 refine callsDIn_of_wpSIn Tryz.func35 rfl trivial fun c₀ cs hu=>?_
 apply wpSIn_seq
 apply wpSIn_region
 generalize hQ:Exit.thenS _ _=QQ;simp[wpOpsSIn,go_sem,recoverD,hu,Tryz.ntmps35,Fence.wide];subst hQ;simp only[Exit.thenS];refine wpSIn_of_wpIn rfl (wpIn_wide.2 ?_);generalize hR:(fun e a' w'=>bodyPostS Tryz.prog Tryz.f35 c₀ cs _ e a' _ w')=RR;have HR:=Lib.hid hR;have HU:=Lib.hid hu;clear hR hu;simp only[Array.replicate,List.replicate]
 go_wp2
 rw[<- HR.out]
 cases c₀
 exact⟨rfl,_,by have:=HU.out;subst this;rfl,.tuple #[],by simp[results,Tryz.results35,go_sem],⟨_,rfl⟩,rfl,rfl⟩
theorem zop:ziS Tryz.prog 31 35:=⟨enters_of Tryz.func35 (by kernel_rfl) rfl,fun p' c' w=>zxA p' c' w,fun n eb gid cap w R hent hg hR=>zxZ n eb gid cap w R hent (callsIn_wide.1 hg) hR⟩
set_option maxHeartbeats 1000000 in
theorem zw7 (n:Int)(eb g:Nat)(cap:Array Value)(w:World)(R:World->Prop)(hent:∀w,(callFunc g cap).run Tryz.prog w=.ok (.enter g cap) w)(hg:Calls Tryz.prog g cap w fun e w'=>e=.returned (.tuple #[])/\R w')(hR:∀w',R w'->(∃v,w'.cell? ⟨eb,0,none⟩=some v)/\w'.frozen? ⟨eb,0,none⟩=false) :
  CallsDIn Fence.wide 0 Tryz.prog 128 #[.pointer (some ⟨eb,0,none⟩),.func (.func g) #[] cap] (.panicking [{ v:=.iface 31 (.int .i64 n),recovered:=false }]) w fun e u' w'=>(∃v,e=.returned v)/\u'=.panicking [{ v:=.iface 31 (.int .i64 n),recovered:=true }]/\∃w1,R w1/\w'=w1.setCell ⟨eb,0,none⟩ (.int .i64 n):=by
 refine callsDIn_of_wpSIn Tryz.func128 rfl trivial fun c₀ cs hu=>?_
 apply wpSIn_seq
 apply wpSIn_region
 generalize hQ:Exit.thenS _ _=QQ;simp[wpOpsSIn,go_sem,recoverD,hu,Tryz.ntmps128,Fence.wide];subst hQ;simp only[Exit.thenS];refine wpSIn_of_wpIn rfl (wpIn_wide.2 ?_);have HN:=Lib.hid hg;have HU:=Lib.hid hu;have HRR:=Lib.hid hR;clear hu hg hR;generalize hR:(fun e a' w'=>bodyPostS Tryz.prog Tryz.f128 c₀ cs _ e a' _ w')=RR;have HR:=Lib.hid hR;clear hR;have hta:=zkB;have hen:=hent;simp only[Array.replicate,List.replicate]
 go_wp2_with (first|((with_reducible refine HN.out.mono ?_);rintro e w1 ⟨rfl,hr1⟩;obtain⟨⟨v1,e1⟩,ef⟩:=HRR.out _ hr1))
 rw[<- HR.out];exact⟨rfl,_,rfl,.tuple #[],by simp[results,Tryz.results128,go_sem],⟨_,rfl⟩,rfl,_,hr1,rfl⟩
set_option maxHeartbeats 1000000 in
theorem zwf (p' c':Value)(w:World) :
  CallsDIn Fence.wide 0 Tryz.prog 128 #[p',c'] .returning w fun e u' w'=>(∃v,e=.returned v)/\u'=.returning/\w'=w:=by
 refine callsDIn_of_wpSIn Tryz.func128 rfl trivial fun c₀ cs hu=>?_
 apply wpSIn_seq
 apply wpSIn_region
 generalize hQ:Exit.thenS _ _=QQ;simp[wpOpsSIn,go_sem,recoverD,hu,Tryz.ntmps128,Fence.wide];subst hQ;simp only[Exit.thenS];refine wpSIn_of_wpIn rfl (wpIn_wide.2 ?_);generalize hR:(fun e a' w'=>bodyPostS Tryz.prog Tryz.f128 c₀ cs _ e a' _ w')=RR;have HR:=Lib.hid hR;have HU:=Lib.hid hu;clear hR hu;simp only[Array.replicate,List.replicate]
 go_wp2
 rw[<- HR.out]
 cases c₀
 exact⟨rfl,_,by have:=HU.out;subst this;rfl,.tuple #[],by simp[results,Tryz.results128,go_sem],⟨_,rfl⟩,rfl,rfl⟩
theorem zli:ziS Tryz.prog 31 128:=⟨enters_of Tryz.func128 (by kernel_rfl) rfl,fun p' c' w=>zwf p' c' w,fun n eb gid cap w R hent hg hR=>zw7 n eb gid cap w R hent (callsIn_wide.1 hg) hR⟩
theorem zjq:zgq=((Tr.nil:Tr Unit).set 35 (some ())).set 128 (some ()):=by kernel_rfl
theorem zxS:zfq Tryz.prog E12:=by
 refine⟨by kernel_rfl,fun f F h=>zkp f F (zzz h),fun f g hg Z ρ w args args' h r h' hr k hZ hv=>?_,fun f hf=>?_⟩
 ·have hg:(bif Nat.beq f 127 then some (znk 83)else none)=some g:=hg;obtain⟨h1,hg2⟩:=zI hg;have h1:=zAJ9 h1;subst h1;injection hg2 with hg2;subst hg2;exact⟨fun w=>enters_of Tryz.func127 (by kernel_rfl) rfl _ w,zqy k hZ hv hr⟩
 ·have hf:zgq.get f=some ():=hf;rw[zjq,Tr.get_set,Tr.get_set]at hf
  split at hf
  ·rename_i e;subst e;exact zli
  ·split at hf
   ·rename_i e;subst e;exact zop
   ·cases hf
theorem ztK {x:Option (TE×TH)}(h:zpx x=true):∃h',x=some (.ret (.bool true),h'):=by
 unfold zpx at h
 split at h
 ·exact⟨_,rfl⟩
 ·cases h
end Tw
theorem zuF (w:World):Calls Tryz.prog 9 #[] w fun e w'=>e=.returned (.bool true)/\Below w.heap.size w w':=by
 obtain⟨h',hr⟩:=Tw.ztK Tw.w12;obtain⟨_,h2⟩:=Tw.zuw Tw.zxS hr w;refine(callsIn_wide.1 h2).mono ?_;rintro e w' ⟨hb,ρ,v',rfl,hv⟩
 cases hv
 exact⟨rfl,hb⟩
end Go.Proofs.YtfomlmhnmheenaaGreat
namespace Go.Proofs.YtfomlmhnmheenaaGreat
set_option maxRecDepth 100000
def ztL:Go.Shelf.Ren:=⟨fun|5=>56|8=>101|7=>100|19=>154|20=>155|10=>145|11=>146|12=>147|13=>148|14=>149|15=>150|16=>151|17=>152|18=>153|30=>189|31=>190|32=>191|33=>192|34=>193|35=>194|40=>222|n=>n,fun|23=>25|25=>3|3=>3|32=>176|22=>25|0=>0|44=>233|46=>24|4=>4|36=>226|35=>225|41=>211|5=>5|9=>9|53=>267|57=>271|63=>282|64=>164|n=>n,fun|n=>n⟩
theorem zym:Go.Proofs.SlLaysM.n5 Tryz.prog ztL where
 mixed:=by kernel_rfl
 f5 := ⟨"slices.Sort[[]int,int]", by decide, Tryz.func56.trans (congrArg some (by kernel_rfl))⟩
 f7 := ⟨"slices.pdqsortOrdered[int]", by decide, Tryz.func100.trans (congrArg some (by kernel_rfl))⟩
 f8:=Tryz.func101.trans (congrArg some (by kernel_rfl))
 f10 := ⟨"slices.insertionSortOrdered[int]", by decide, Tryz.func145.trans (congrArg some (by kernel_rfl))⟩
 f11 := ⟨"slices.heapSortOrdered[int]", by decide, Tryz.func146.trans (congrArg some (by kernel_rfl))⟩
 f12 := ⟨"slices.breakPatternsOrdered[int]", by decide, Tryz.func147.trans (congrArg some (by kernel_rfl))⟩
 f13 := ⟨"slices.choosePivotOrdered[int]", by decide, Tryz.func148.trans (congrArg some (by kernel_rfl))⟩
 f14 := ⟨"slices.reverseRangeOrdered[int]", by decide, Tryz.func149.trans (congrArg some (by kernel_rfl))⟩
 f15 := ⟨"slices.partialInsertionSortOrdered[int]", by decide, Tryz.func150.trans (congrArg some (by kernel_rfl))⟩
 f16 := ⟨"cmp.Less[int]", by decide, Tryz.func151.trans (congrArg some (by kernel_rfl))⟩
 f17 := ⟨"slices.partitionEqualOrdered[int]", by decide, Tryz.func152.trans (congrArg some (by kernel_rfl))⟩
 f18 := ⟨"slices.partitionOrdered[int]", by decide, Tryz.func153.trans (congrArg some (by kernel_rfl))⟩
 f19:=Tryz.func154.trans (congrArg some (by kernel_rfl))
 f20:=Tryz.func155.trans (congrArg some (by kernel_rfl))
 f30 := ⟨"slices.siftDownOrdered[int]", by decide, Tryz.func189.trans (congrArg some (by kernel_rfl))⟩
 f31:=Tryz.func190.trans (congrArg some (by kernel_rfl))
 f32:=Tryz.func191.trans (congrArg some (by kernel_rfl))
 f33 := ⟨"slices.medianAdjacentOrdered[int]", by decide, Tryz.func192.trans (congrArg some (by kernel_rfl))⟩
 f34 := ⟨"slices.medianOrdered[int]", by decide, Tryz.func193.trans (congrArg some (by kernel_rfl))⟩
 f35 := ⟨"cmp.isNaN[int]", by decide, Tryz.func194.trans (congrArg some (by kernel_rfl))⟩
 f40 := ⟨"slices.order2Ordered[int]", by decide, Tryz.func222.trans (congrArg some (by kernel_rfl))⟩
 t0:=Tryz.underlying0
 a0:=Tryz.isAgg0
 z0:=Tryz.sizeOf0
 v0:=Tryz.zeroValue0
 t3:=Tryz.underlying3
 a3:=Tryz.isAgg3
 z3:=Tryz.sizeOf3
 v3:=Tryz.zeroValue3
 t4:=Tryz.underlying4
 a4:=Tryz.isAgg4
 z4:=Tryz.sizeOf4
 v4:=Tryz.zeroValue4
 t5:=Tryz.underlying5
 a5:=Tryz.isAgg5
 z5:=Tryz.sizeOf5
 v5:=Tryz.zeroValue5
 t9:=Tryz.underlying9
 a9:=Tryz.isAgg9
 z9:=Tryz.sizeOf9
 v9:=Tryz.zeroValue9
 t22:=Tryz.underlying25
 a22:=Tryz.isAgg25
 z22:=Tryz.sizeOf25
 v22:=Tryz.zeroValue25
 t23:=Tryz.underlying25
 a23:=Tryz.isAgg25
 z23:=Tryz.sizeOf25
 v23:=Tryz.zeroValue25
 t25:=Tryz.underlying3
 a25:=Tryz.isAgg3
 z25:=Tryz.sizeOf3
 v25:=Tryz.zeroValue3
 t32:=Tryz.underlying176
 a32:=Tryz.isAgg176
 z32:=Tryz.sizeOf176
 v32:=Tryz.zeroValue176
 t35:=Tryz.underlying225
 a35:=Tryz.isAgg225
 z35:=Tryz.sizeOf225
 v35:=Tryz.zeroValue225
 t36:=Tryz.underlying226
 a36:=Tryz.isAgg226
 z36:=Tryz.sizeOf226
 v36:=Tryz.zeroValue226
 t41:=Tryz.underlying211
 a41:=Tryz.isAgg211
 z41:=Tryz.sizeOf211
 v41:=Tryz.zeroValue211
 t44:=Tryz.underlying233
 a44:=Tryz.isAgg233
 z44:=Tryz.sizeOf233
 v44:=Tryz.zeroValue233
 t46:=Tryz.underlying24
 a46:=Tryz.isAgg24
 z46:=Tryz.sizeOf24
 v46:=Tryz.zeroValue24
 t53:=Tryz.underlying267
 a53:=Tryz.isAgg267
 z53:=Tryz.sizeOf267
 v53:=Tryz.zeroValue267
 t57:=Tryz.underlying271
 a57:=Tryz.isAgg271
 z57:=Tryz.sizeOf271
 v57:=Tryz.zeroValue271
 t63:=Tryz.underlying282
 a63:=Tryz.isAgg282
 z63:=Tryz.sizeOf282
 v63:=Tryz.zeroValue282
 t64:=Tryz.underlying164
 a64:=Tryz.isAgg164
 z64:=Tryz.sizeOf164
 v64:=Tryz.zeroValue164
end Go.Proofs.YtfomlmhnmheenaaGreat
namespace Go.Proofs.YtfomlmhnmheenaaGreat
open Go.Sort Go.RowKit
namespace Tw
variable {ρ ρ':Rho}{Z:Nat}{h h':TH}{w:World}
set_option maxRecDepth 100000
theorem ztG (k:WR Tryz.prog Z ρ h w)(hZ:Z<=w.heap.size){args:List TV}{args':List Value}(hv:VL ρ args args'){r:TE}(hr:zhA 3 args h=some (r,h')) :
  CallsIn (Fr none) 0 Tryz.prog 56 args'.toArray w (zhS Tryz.prog Z ρ h h' w r):=by
 unfold zhA at hr
 split at hr
 ·rename_i b g n q
  split at hr
  ·rename_i o ho;unfold zl2 at hr
   split at hr
   ·rename_i e G M len cells;obtain⟨c1,hr⟩:=zI hr;obtain⟨c2,hr⟩:=zI hr;obtain⟨c3,hr⟩:=zI hr;obtain⟨c4,hr⟩:=zI hr;obtain⟨c5,hr⟩:=zI hr;have c1:=zAJ9 c1;have c2:=zAJ9 c2;have c3:=zAJ9 c3;have c4:=zBA9 c4;have c5:=zBA9 c5;subst c1;subst c2;subst c3
    split at hr
    ·rename_i l hl
     split at hr
     ·rename_i xs hxs;injection hr with hr;injection hr with hr hr2;subst hr;subst hr2;obtain⟨v,t1,rfl,v1,hv⟩:=hv.of_cons;obtain rfl:=hv.of_nil;have hinv:∃loc c,v=.slice (some ⟨loc.r,0,none⟩) n c/\ρ b g=some loc/\n<=c/\c<=maxLen:=by
       obtain⟨loc,o',c,e,a1,a2,a3,a4,a5,a6,a7⟩:=v1.sl_inv;refine⟨loc,c,?_,a1,by omega,a7⟩;rcases a5 with rfl|⟨_,_,a8⟩
       ·exact e
       ·exact absurd rfl a8
      obtain⟨loc,c,rfl,hρ,hnc,hcm⟩:=hinv;obtain⟨ob,hob,hor⟩:=k.obj _ _ _ hρ;rw[ho]at hob;injection hob with hob;subst hob;obtain⟨loc1,cur,q1,q2,q3,q4,q5,q6,q7⟩:=hor.2.2 g hor.1 (zAM9 _);rw[hρ]at q1;injection q1 with q1;subst q1;have hL:=q6 rfl;obtain rfl:=zoh hxs;obtain⟨lo1,lo2⟩:=Tr.getL_some hl;have hxl:xs.length=n:=by rw[<- lo1];unfold ivT;simp
      have hget:∀i,i<n->cur[i]?=(xs.map (Value.int .i64))[i]?:=fun i hi=>by
       obtain⟨x,v,z1,z2,_,z4⟩:=q7 i (by omega);have h1:=lo2 i hi;rw[zAN9,z1]at h1;rw[z2,zAG9];unfold ivT at h1;rw[zAG9]at h1
       cases hx:xs[i]? with
       | none=>rw[hx]at h1;cases h1
       | some a=>rw[hx]at h1;injection h1 with h1;subst h1;cases z4;rfl
      have hcn:n<=cur.size:=by omega
      have ht:cur.toList.take xs.length=xs.map (Value.int .i64):=zES9 fun i=>by
       rw[zBD9,hxl]
       split
       ·rename_i hi;rw[zBR9];exact hget i hi
       ·rw[zBQ9 (by simp;omega)]
      have hZo:=k.own hρ ho (fun cs e=>by cases e);have hlt:=(k.dom _ _ _ hρ).2.2;have hmain:=AnyM.slices_Sort_int zym loc.r 0 c xs w (holds_of_blockI q2 ht) hlt (by omega);rw[hxl]at hmain;refine callsIn_wide.2 (Calls.mono hmain ?_);rintro e w' ⟨rfl,m,os,rfl⟩;have hts:(srt xs).length=n:=by rw[zjW,hxl]
      have hh:=heap_sortedI (n:=m) (os:=os) (srt xs).toArray q2;have hg:=grownBy_sortedI (w:=w) (g:=loc.r) (n:=m) (os:=os) (srt xs).toArray;have hbel:Below Z w _:=(Below.refl Z w).grown hg hZ fun k e=>by injection e with e;subst e;exact hZo
      change w.grownBy (grow (putRow (Value.int .i64) (Sort.ahead w m) loc.r 0 (xs.mergeSort fun x y=>decide (x<=y)).toArray) os) _ at hg;change (grow (putRow (Value.int .i64) (Sort.ahead w m) loc.r 0 (xs.mergeSort fun x y=>decide (x<=y)).toArray) os).heap[loc.r]?=_ at hh;change Below Z w (grow (putRow (Value.int .i64) (Sort.ahead w m) loc.r 0 (xs.mergeSort fun x y=>decide (x<=y)).toArray) os)at hbel;generalize grow (putRow (Value.int .i64) (Sort.ahead w m) loc.r 0 (xs.mergeSort fun x y=>decide (x<=y)).toArray) os=w' at hg hh hbel⊢;have htk:=take_putCellsI cur (srt xs) (by omega);have hsz:(putCells (Value.int .i64) 0 (srt xs).toArray cur).size=cur.size:=by simp[putCells]
      generalize putCells (Value.int .i64) 0 (srt xs).toArray cur=cur2 at hh htk hsz;have k2:=k.change (b:=b) (ρ':=ρ) (x':=.row 3 g g n (Tr.putL .nil 0 (ivT (srt xs)))) (fun _ _ _ h=>h) (fun _ _ _=>rfl) hρ (w':=w') hbel.size
       (fun c g0 l0 hc hl0=>hg.block _ (k.dom _ _ _ hl0).2.2 fun e=>hc (k.sep _ _ _ _ _ _ hl0 hρ (by injection e with e) (by injection e with e;rw[e];exact hZo)))
       ⟨zAM9 _,hor.2.1,fun g0 ha hb0=>by
        have:g0=g:=by omega
        subst this;refine⟨loc,cur2,hρ,hh,fun e=>by rw[hsz];exact q3 e,q4,by rw[hsz];exact q5,q6,fun i hi=>?_⟩;have hi2:i<(srt xs).length:=by omega
        have hi3:i<(ivT (srt xs)).length:=by unfold ivT;rw[zAA9];exact hi2
        refine⟨.int .i64 ((srt xs)[i]),.int .i64 ((srt xs)[i]),?_,?_,rfl,.int _ _⟩
        ·rw[Tr.get_putL,if_pos (by omega)];unfold ivT;simp
        ·have:(cur2.toList.take (srt xs).length)[i]?=((srt xs).map (Value.int .i64))[i]?:=by rw[htk]
         rw[zBD9,if_pos hi2,zBR9]at this;rw[this];simp[hi2]⟩
       (fun g0 l0 h0=>⟨k.own h0 ho (fun cs e=>by cases e),zBE9 (k.dom _ _ _ h0).2.2 hbel.size⟩)
       (fun g0 l0 h0 c g1 l1 hc h1' e=>hc (k.sep _ _ _ _ _ _ h1' h0 e.symm (by rw[<- e];exact k.own h0 ho (fun cs e=>by cases e))))
      exact⟨ρ,Rho.le.refl _ _,k2,hbel,zAM9 _,_,rfl,VR.tupL (VL.nil ρ)⟩
     ·cases hr
    ·cases hr
   ·cases hr
  ·cases hr
 ·cases hr
end Tw
end Go.Proofs.YtfomlmhnmheenaaGreat
namespace Go.Proofs.YtfomlmhnmheenaaGreat
open Go.RowKit Go.WideShapes Go.ChangeShapes
namespace Fv
open Tw
set_option maxRecDepth 100000
theorem zyi:zfq Tryz.prog ET:=by
 refine⟨by kernel_rfl,fun f F h=>?_,fun f g hg Z ρ w args args' h r h' hr k hZ hv=>?_,fun f hf=>?_⟩
 ·have h:((zeu.set 9 none).set 56 none).get f=some F:=h;rw[Tr.get_set]at h
  split at h
  ·cases h
  rw[Tr.get_set]at h
  split at h
  ·cases h
  ·exact zkp f F h
 ·have hg:(bif Nat.beq f 127 then some (znk 83)else bif Nat.beq f 9 then some zlt else bif Nat.beq f 56 then some (zhA 3)else none)=some g:=hg
  cases h1:Nat.beq f 127 with
  | true =>
   rw[h1]at hg;have h1:=zAJ9 h1;subst h1;injection hg with hg2;subst hg2;exact⟨fun w=>enters_of Tryz.func127 (by kernel_rfl) rfl _ w,zqy k hZ hv hr⟩
  | false =>
   rw[h1]at hg
   cases h2:Nat.beq f 9 with
   | true =>
    rw[h2]at hg;have h2:=zAJ9 h2;subst h2;injection hg with hg2;subst hg2;exact zxv (fun w=>enters_of Tryz.func9 (by kernel_rfl) rfl _ w) (fun w=>callsIn_wide.2 (zuF w)) Z ρ w args args' h r h' hr k hZ hv
   | false =>
    rw[h2]at hg;obtain⟨h3,hg2⟩:=zI hg;have h3:=zAJ9 h3;subst h3;injection hg2 with hg2;subst hg2;exact⟨fun w=>enters_of Tryz.func56 (by kernel_rfl) rfl _ w,ztG k hZ hv hr⟩
 ·have hf:zgq.get f=some ():=hf;rw[zjq,Tr.get_set,Tr.get_set]at hf
  split at hf
  ·rename_i e;subst e;exact zli
  ·split at hf
   ·rename_i e;subst e;exact zop
   ·cases hf
theorem zjN {P:Program}{w:World}{r:Reach}{base:Nat}{t e:TypeId}{a:Addr}{len cap:Nat}(ht:P.underlying t=some (.slice e))(h:Value.okWide P w r base t (.slice (some a) len cap)):a.block<w.heap.size/\a.spot=none:=by
 simp only[Value.okWide,ht,Cell.okWide,Cell.ok,World.has]at h;obtain⟨_,_,_,h2,row,cells,h3,_⟩:=h;refine⟨?_,h2⟩;unfold World.shape? at h3;rcases zCP9 a.block w.heap.size with hl|hl
 ·exact hl
 ·rw[Array.getElem?_eq_none hl]at h3;cases h3
end Fv
end Go.Proofs.YtfomlmhnmheenaaGreat
namespace Go.Proofs.YtfomlmhnmheenaaGreat
open Go.ChangeShapes Go.WideShapes Go.ChangeAt Go.RowKit
set_option maxRecDepth 100000
theorem zj2 (b o j:Nat):(⟨b,o,none⟩:Addr).add j=⟨b,o+j,none⟩:=by unfold Addr.add;split<;>simp_all
theorem zzl:ownKnob Tryz.prog.godebug=none:=by kernel_rfl
theorem znd:laidOutB Tryz.prog=true:=by kernel_rfl
namespace Fv
theorem zhx:∀l:List Nat,(zc5 l).flatMap PV.cells=zc5 l
 | []=>rfl
 | x::l=>by have:=zhx l;unfold zc5 at this⊢;rw[zCH9,zBS9,this];rfl
theorem zuT {w:World}{p:Nat}{l:List Nat}{b o c:Nat}(hb:b<w.heap.size)(hlc:l.length<=c)(hcm:c<=maxLen)(hcell:∀(i:Nat) (x:Nat),l[i]?=some x->w.cell? ⟨b,o+i,none⟩=some (.int .u8 x)):CI w (.list p 1 (zc5 l)) (.slice (some ⟨b,o,none⟩) l.length c):=by
 have e:l.length=(zc5 l).length:=(zAA9 ..).symm;rw[e];refine CI.list (cs:=l.map fun n:Nat=>Value.int .u8 (n:Int)) hb (by rw[zAA9];exact hlc) hcm (fun v hv=>by obtain⟨x,_,rfl⟩:=zAP9.1 hv;rfl) (by rw[zhx];simp) (fun i x y hx hy=>?_) (fun j v hv=>?_) (fun x hx=>?_)
 ·rw[zhx,zAG9]at hx;rw[zAG9]at hy
  cases hn:l[i]? with
  | none=>rw[hn]at hx;cases hx
  | some n=>rw[hn]at hx hy;injection hx with hx;injection hy with hy;subst hx hy;exact .int _ _
 ·rw[zAG9]at hv
  cases hx:l[j]? with
  | none=>rw[hx]at hv;cases hv
  | some x=>rw[hx]at hv;injection hv with hv;subst hv;exact hcell j x hx
 ·rw[zhx]at hx;obtain⟨n,_,rfl⟩:=zAP9.1 hx;rfl
theorem ziG:∀l:List Nat,(l.map uv).flatMap PV.cells=l.map uv
 | []=>rfl
 | x::l=>by rw[zCH9,zBS9,ziG l];rfl
theorem zxt {w:World}{p:Nat}{l:List Nat}{b o c:Nat}(hb:b<w.heap.size)(hlc:l.length<=c)(hcm:c<=maxLen)(hcell:∀(i:Nat) (x:Nat),l[i]?=some x->w.cell? ⟨b,o+i,none⟩=some (.int .u64 x)):CI w (.list p 1 (l.map uv)) (.slice (some ⟨b,o,none⟩) l.length c):=by
 have e:l.length=(l.map uv).length:=(zAA9 ..).symm;rw[e];refine CI.list (cs:=l.map fun n:Nat=>Value.int .u64 (n:Int)) hb (by rw[zAA9];exact hlc) hcm (fun v hv=>by obtain⟨x,_,rfl⟩:=zAP9.1 hv;rfl) (by rw[ziG];simp) (fun i x y hx hy=>?_) (fun j v hv=>?_) (fun x hx=>?_)
 ·rw[ziG,zAG9]at hx;rw[zAG9]at hy
  cases hn:l[i]? with
  | none=>rw[hn]at hx;cases hx
  | some n=>rw[hn]at hx hy;injection hx with hx;injection hy with hy;subst hx hy;exact .int _ _
 ·rw[zAG9]at hv
  cases hx:l[j]? with
  | none=>rw[hx]at hv;cases hv
  | some x=>rw[hx]at hv;injection hv with hv;subst hv;exact hcell j x hx
 ·rw[ziG]at hx;obtain⟨n,_,rfl⟩:=zAP9.1 hx;rfl
def zgf (l:List (Int×Nat)):List PV:=l.flatMap fun x=>[iv x.1,uv x.2]
def zd8 (l:List (Int×Nat)):List Value:=l.flatMap fun x=>[.int .i64 x.1,.int .u64 (x.2:Int)]
theorem ziC:∀l:List (Int×Nat),(wdV l).flatMap PV.cells=zgf l
 | []=>rfl
 | x::l=>by have:=ziC l;unfold wdV zgf at this⊢;rw[zCH9,zBS9,this];rfl
theorem zoa:∀(l:List (Int×Nat)) (i:Nat) (x:PV) (y:Value),(zgf l)[i]?=some x->(zd8 l)[i]?=some y->(∃k n,x=.int k n/\y=.int k n)
 | [],i,x,y,hx,_=>by simp[zgf]at hx
 | a::l,0,x,y,hx,hy=>by simp[zgf]at hx;simp[zd8]at hy;subst hx hy;exact⟨_,_,rfl,rfl⟩
 | a::l,1,x,y,hx,hy=>by simp[zgf]at hx;simp[zd8]at hy;subst hx hy;exact⟨_,_,rfl,rfl⟩
 | a::l,i+2,x,y,hx,hy=>zoa l i x y (by simpa[zgf]using hx) (by simpa[zd8]using hy)
theorem zkx {w:World}{b:Nat}:∀(l:List (Int×Nat)) (o:Nat),(∀(i:Nat) (x:Int×Nat),l[i]?=some x->w.cell? ⟨b,o+i*2,none⟩=some (.int .i64 x.1)/\w.cell? ⟨b,o+(i*2+1),none⟩=some (.int .u64 x.2))->∀(j:Nat) (v:Value),(zd8 l)[j]?=some v->w.cell? ⟨b,o+j,none⟩=some v
 | [],_,_,j,v,hv=>by simp[zd8]at hv
 | a::l,o,h,0,v,hv=>by simp[zd8]at hv;subst hv;exact(h 0 a rfl).1
 | a::l,o,h,1,v,hv=>by simp[zd8]at hv;subst hv;exact(h 0 a rfl).2
 | a::l,o,h,j+2,v,hv=>by
  have:=zkx l (o+2) (fun i x hx=>by
   have:=h (i+1) x (by simpa using hx);rw[show o+2+i*2=o+(i+1)*2 by omega,show o+2+(i*2+1)=o+((i+1)*2+1) by omega];exact this) j v (by simpa[zd8]using hv)
  rw[show o+(j+2)=o+2+j by omega];exact this
theorem zvs {w:World}{p:Nat}{l:List (Int×Nat)}{b o c:Nat}(hb:b<w.heap.size)(hlc:l.length<=c)(hcm:c<=maxLen)(hcell:∀(i:Nat) (x:Int×Nat),l[i]?=some x->w.cell? ⟨b,o+i*2,none⟩=some (.int .i64 x.1)/\w.cell? ⟨b,o+(i*2+1),none⟩=some (.int .u64 x.2)):CI w (.list p 2 (wdV l)) (.slice (some ⟨b,o,none⟩) l.length c):=by
 have e:l.length=(wdV l).length:=(zAA9 ..).symm;rw[e];have hlen:∀l:List (Int×Nat),(zgf l).length=(zd8 l).length:=fun l=>by
  induction l with
  | nil=>rfl
  | cons a l ih=>simp[zgf,zd8]at ih⊢
 refine CI.list (cs:=zd8 l) hb (by rw[zAA9];exact hlc) hcm (fun v hv=>by obtain⟨x,_,rfl⟩:=zAP9.1 hv;rfl) (by rw[ziC];exact hlen l) (fun i x y hx hy=>?_) (zkx l o hcell) (fun x hx=>?_)
 ·rw[ziC]at hx;obtain⟨k,n,rfl,rfl⟩:=zoa l i x y hx hy;exact .int _ _
 ·rw[ziC]at hx;unfold zgf at hx;obtain⟨y,_,hx⟩:=zBC9.1 hx;simp at hx;rcases hx with rfl|rfl<;>rfl
end Fv
section
variable {H:Type}{enc:TypeId×Value->H}{w:World}{base:Nat}{spare:Nat->Bool}{held:Bool}{r:Reach}{b0:Nat}
theorem zua {fuel:Nat}{v:Value}{x:DataW H×List MemPlace}(hv:Value.okWide Tryz.prog w r b0 22 v)(h:DataW.trod enc Tryz.prog w base spare held fuel 22 [v]=some x):∃(l:List Nat),Fv.CI w (.list 0 1 (Fv.zc5 l)) v:=by
 rcases open_ints Tryz.underlying22 Tryz.underlying5 (by kernel_rfl) h with⟨hcs,_⟩|⟨a,len,cap,zs,hcs,_,hl,hm,hz,_,hcell,hwf⟩
 ·injection hcs with hcs;subst hcs;exact⟨[],.nilsl _ _⟩
 ·injection hcs with hcs;subst hcs;have hzl:len<=zs.length:=by
   rw[hz];split
   ·exact hl
   ·exact zAM9 _
  obtain⟨hblk,hspot⟩:=Fv.zjN Tryz.underlying22 hv;obtain⟨b,off,spot⟩:=a;dsimp only at hblk hspot;subst hspot;have hlen:((zs.take len).map Int.toNat).length=len:=by rw[zAA9,zBB9,zDI9 hzl]
  refine⟨(zs.take len).map Int.toNat,?_⟩;have:=Fv.zuT (w:=w) (p:=0) (l:=(zs.take len).map Int.toNat) (b:=b) (o:=off) (c:=cap) hblk (by rw[hlen];exact hl) hm (fun i x hi=>by
   have hil:i<len:=by have:=(zAD9.1 hi).1;rwa [hlen]at this
   rw[zAG9,zBD9,if_pos hil]at hi
   cases hz2:zs[i]? with
   | none=>rw[hz2]at hi;cases hi
   | some z =>
    rw[hz2]at hi;injection hi with hi;subst hi;have:=hcell i (by omega);rw[zAQ9,hz2,zj2]at this;have q:=bounds_u8 (hwf z (zAK9 hz2));rw[zEX9 q.1];exact this)
  rwa [hlen]at this
theorem zul {fuel:Nat}{v:Value}{x:DataW H×List MemPlace}(hv:Value.okWide Tryz.prog w r b0 26 v)(h:DataW.trod enc Tryz.prog w base spare held fuel 26 [v]=some x):∃(l:List Nat),Fv.CI w (.list 0 1 (l.map Fv.uv)) v:=by
 rcases open_ints Tryz.underlying26 Tryz.underlying24 (by kernel_rfl) h with⟨hcs,_⟩|⟨a,len,cap,zs,hcs,_,hl,hm,hz,_,hcell,hwf⟩
 ·injection hcs with hcs;subst hcs;exact⟨[],.nilsl _ _⟩
 ·injection hcs with hcs;subst hcs;have hzl:len<=zs.length:=by
   rw[hz];split
   ·exact hl
   ·exact zAM9 _
  obtain⟨hblk,hspot⟩:=Fv.zjN Tryz.underlying26 hv;obtain⟨b,off,spot⟩:=a;dsimp only at hblk hspot;subst hspot;have hlen:((zs.take len).map Int.toNat).length=len:=by rw[zAA9,zBB9,zDI9 hzl]
  refine⟨(zs.take len).map Int.toNat,?_⟩;have:=Fv.zxt (w:=w) (p:=0) (l:=(zs.take len).map Int.toNat) (b:=b) (o:=off) (c:=cap) hblk (by rw[hlen];exact hl) hm (fun i x hi=>by
   have hil:i<len:=by have:=(zAD9.1 hi).1;rwa [hlen]at this
   rw[zAG9,zBD9,if_pos hil]at hi
   cases hz2:zs[i]? with
   | none=>rw[hz2]at hi;cases hi
   | some z =>
    rw[hz2]at hi;injection hi with hi;subst hi;have:=hcell i (by omega);rw[zAQ9,hz2,zj2]at this;have q:=bounds_u64 (hwf z (zAK9 hz2));rw[zEX9 q.1];exact this)
  rwa [hlen]at this
theorem zsA {fuel:Nat}{v:Value}{x:DataW H×List MemPlace}(hv:Value.okWide Tryz.prog w r b0 23 v)(h:DataW.trod enc Tryz.prog w base spare held fuel 23 [v]=some x):∃(l:List (Int×Nat)),(∀x∈l,Fv.LtU x.2)/\Fv.CI w (.list 0 2 (Fv.wdV l)) v:=by
 rcases Go.Deep.open_slice_pairs Tryz.underlying23 Tryz.underlying81 (by kernel_rfl) rfl rfl (by kernel_rfl) (by kernel_rfl) h with⟨hcs,_⟩|⟨a,len,cap,m,n,V0,V1,D0,D1,P0,P1,hcs,_,hl,hm,hmm,_,hx⟩
 ·injection hcs with hcs;subst hcs;exact⟨[],fun x hx=>by simp at hx,.nilsl _ _⟩
 ·injection hcs with hcs;subst hcs;have hml:len<=m:=by
   rw[hmm];split
   ·exact hl
   ·exact zAM9 _
  obtain⟨hblk,hspot⟩:=Fv.zjN Tryz.underlying23 hv;obtain⟨b,off,spot⟩:=a;dsimp only at hblk hspot;subst hspot;have hall:∀i,i<len->∃y:Int×Nat,Fv.LtU y.2/\w.cell? ⟨b,off+i*2,none⟩=some (.int .i64 y.1)/\w.cell? ⟨b,off+(i*2+1),none⟩=some (.int .u64 y.2):=fun i hi=>by
   obtain⟨c0,c1,t0,t1⟩:=hx i (by omega);obtain⟨n0,e0,_,w0⟩:=DataW.trod_int Tryz.underlying3 t0;obtain⟨n1,e1,_,w1⟩:=DataW.trod_int Tryz.underlying24 t1;injection e0 with e0;injection e1 with e1;have q1:=bounds_u64 w1;refine⟨(n0,n1.toNat),show n1.toNat<_ by omega,?_,?_⟩
   ·rw[e0]at c0;rwa [zj2]at c0
   ·rw[e1]at c1;show _=some (Value.int .u64 ((n1.toNat:Nat):Int));rw[zEX9 q1.1];rwa [zj2]at c1
  haveI:Inhabited (Int×Nat):=⟨(0,0)⟩
  obtain⟨f,hf⟩:=Go.Deep.choose_lt (p:=fun i (y:Int×Nat)=>Fv.LtU y.2/\w.cell? ⟨b,off+i*2,none⟩=some (.int .i64 y.1)/\w.cell? ⟨b,off+(i*2+1),none⟩=some (.int .u64 y.2)) hall;refine⟨(List.range len).map f,fun x hx=>by
   obtain⟨i,hi,rfl⟩:=zAP9.1 hx;exact(hf i (zDC9.1 hi)).1,?_⟩
  have hlen:((List.range len).map f).length=len:=by simp
  have:=Fv.zvs (w:=w) (p:=0) (l:=(List.range len).map f) (b:=b) (o:=off) (c:=cap) hblk (by rw[hlen];exact hl) hm (fun i x hi=>by
   have hil:i<len:=by have:=(zAD9.1 hi).1;rwa [hlen]at this
   rw[zAG9,zEL9 hil]at hi;injection hi with hi;subst hi;exact(hf i hil).2)
  rwa [hlen]at this
end
set_option maxHeartbeats 1000000 in
theorem zpq (os:Os)(started:os.Started)(H:Type)(enc:TypeId×Value->H) :
  ReturnsInHanded {} Tryz.checked os 4 .any (Rows.treeReadsSpec.pre6 enc Tryz.prog Tryz.f4 Rows.treeReadsRow.domain false) (Rows.treeReadsSpec.post enc Tryz.prog Tryz.f4 false true false false):=by
 refine returnsInHanded_of_change (C:=Tryz.checked) zzl started (by kernel_rfl) Tryz.func4
  (ChangeSpec.witness6 (enc:=enc) (C:=Tryz.checked) false ⟨#[],#[.int .i64 0,.slice none 0 0,.slice none 0 0,.slice none 0 0,.int .i64 0],[]⟩ 8 (by kernel_rfl) (by kernel_rfl) (by kernel_rfl) (by kernel_rfl)) ?_
 intro W base args ds gs before hval0 hW hcnd _;have hval:∀(j:Nat) t v,Tryz.f4.params[j]?=some t->args[j]?=some v->Value.okWide Tryz.prog W .any base t v:=hval0;have hW':=hW;obtain⟨p,q,hA0,hV,rfl,hfz,hnd⟩:=hW;have hA:DataW.TrodAll enc Tryz.prog W 0 (fun _=>true) true Tryz.f4.params.toList args.toList ds p:=hA0;rw[Tryz.params4]at hA hval;obtain⟨v0,vs0,d0,ds0,p0,q0,hargs,rfl,rfl,h0,r0⟩:=trodAll_cons hA;obtain⟨v1,vs1,d1,ds1,p1,q1,rfl,rfl,rfl,h1,r1⟩:=trodAll_cons r0;obtain⟨v2,vs2,d2,ds2,p2,q2,rfl,rfl,rfl,h2,r2⟩:=trodAll_cons r1;obtain⟨v3,vs3,d3,ds3,p3,q3,rfl,rfl,rfl,h3,r3⟩:=trodAll_cons r2;obtain⟨v4,vs4,d4,ds4,p4,q4,rfl,rfl,rfl,h4,r4⟩:=trodAll_cons r3;obtain⟨rfl,rfl,rfl⟩:=trodAll_nil r4;obtain rfl:args=#[v0,v1,v2,v3,v4]:=by cases args;simp_all
 obtain⟨rfl,rfl⟩:=trodVars_none hV;have w1:=hval 1 22 v1 rfl rfl;have w2:=hval 2 23 v2 rfl rfl;have w3:=hval 3 26 v3 rfl rfl;obtain⟨a1,len1,cap1,rfl⟩:=okWide_slice Tryz.underlying22 w1;obtain⟨a2,len2,cap2,rfl⟩:=okWide_slice Tryz.underlying23 w2;obtain⟨a3,len3,cap3,rfl⟩:=okWide_slice Tryz.underlying26 w3;have k1:=h1;have k2:=h2;have k3:=h3;have lt1:∀x∈p1,x.block<W.heap.size:=by obtain⟨m,hm⟩:=k1;exact DataW.trod_lt m _ _ _ hm
 have lt2:∀x∈p2,x.block<W.heap.size:=by obtain⟨m,hm⟩:=k2;exact DataW.trod_lt m _ _ _ hm
 have lt3:∀x∈p3,x.block<W.heap.size:=by obtain⟨m,hm⟩:=k3;exact DataW.trod_lt m _ _ _ hm
 obtain⟨n0,rfl,rfl,rfl,g0⟩:=open_int Tryz.underlying3 (hval 0 3 v0 rfl rfl) h0;obtain⟨n4,rfl,rfl,rfl,g4⟩:=open_int Tryz.underlying3 (hval 4 3 v4 rfl rfl) h4;obtain⟨zbx,hc1⟩:∃l:List Nat,Fv.CI W (.list 0 1 (Fv.zc5 l)) (.slice a1 len1 cap1):=by
  obtain⟨fuel,hf⟩:=h1;exact zua w1 (by simpa[Value.cells]using hf)
 obtain⟨bent,hbw,hc2⟩:∃l:List (Int×Nat),(∀x∈l,Fv.LtU x.2)/\Fv.CI W (.list 0 2 (Fv.wdV l)) (.slice a2 len2 cap2):=by
  obtain⟨fuel,hf⟩:=h2;exact zsA w2 (by simpa[Value.cells]using hf)
 obtain⟨keys,hc3⟩:∃l:List Nat,Fv.CI W (.list 0 1 (l.map Fv.uv)) (.slice a3 len3 cap3):=by
  obtain⟨fuel,hf⟩:=h3;exact zul w3 (by simpa[Value.cells]using hf)
 clear hA0 hval0;refine(Fv.FP.calls (w:=W) Fv.zyi (Fv.FN.FP (Fv.zw8 0 0 0 n0 zbx bent keys n4 hbw)) (args':=[.int .i64 n0,.slice a1 len1 cap1,.slice a2 len2 cap2,.slice a3 len3 cap3,.int .i64 n4]) rfl (fun i x y hx hy=>?_)).mono fun e W' ⟨he,hx⟩=>?_
 ·match i with
  | 0=>injection hx with hx;injection hy with hy;subst hx hy;exact .int _ _
  | 1=>injection hx with hx;injection hy with hy;subst hx hy;exact hc1
  | 2=>injection hx with hx;injection hy with hy;subst hx hy;exact hc2
  | 3=>injection hx with hx;injection hy with hy;subst hx hy;exact hc3
  | 4=>injection hx with hx;injection hy with hy;subst hx hy;exact .int _ _
  | i+5=>simp at hx
 have bel:Below W.heap.size W W':=hx;subst he;exact⟨_,rfl,_,_,_,[],_,[],hW',trodAll_mk1 (shut_bool Tryz.underlying4 _),(trodAll_cons_mk (shut_int Tryz.underlying3 g0) (trodAll_cons_mk (Below.trod znd (by kernel_rfl) (of_decide_eq_true (by kernel_rfl)) k1 bel lt1) (trodAll_cons_mk (Below.trod znd (by kernel_rfl) (of_decide_eq_true (by kernel_rfl)) k2 bel lt2) (trodAll_cons_mk (Below.trod znd (by kernel_rfl) (of_decide_eq_true (by kernel_rfl)) k3 bel lt3) (trodAll_cons_mk (shut_int Tryz.underlying3 g4) trodAll_mk0))))),rfl,bel.frame _,fun h=>by cases h⟩
theorem zsE:Rows.treeReadsRow.holds Tryz.pinned (OpenSpec.ofChange Rows.treeReadsSpec) :=
 OpenClaim.holds_of_wide 4 Tryz.f4 rfl rfl rfl rfl rfl rfl rfl ⟨rfl,rfl,rfl,rfl,rfl⟩ rfl rfl rfl rfl rfl (by kernel_rfl) Tryz.func4 (by kernel_rfl)
  (of_decide_eq_true (by kernel_rfl)) (by unfold Func.isWrapper;first|(rw[if_pos (by decide +kernel)];kernel_rfl)|(rw[if_neg (by decide +kernel)];exact⟨rfl,rfl⟩))
  (fun os started H enc _=>zpq os started H enc)
theorem tree_reads:Rows.TreeReadsSaid:=zsE
#print axioms tree_reads
end Go.Proofs.YtfomlmhnmheenaaGreat
